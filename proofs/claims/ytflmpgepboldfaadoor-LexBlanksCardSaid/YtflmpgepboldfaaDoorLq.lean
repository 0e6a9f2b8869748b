/-
  The plain law of Quote: what the program's and the reference's Lean functions compute, for a string of at most 1048576 bytes, by one clean encoding over lists of bytes. No program in sight.
-/
import Derived.Test.YtflmpgepboldfaaDoorG9
import Derived.Test.YtflmpgepboldfaaDoorLt
namespace Go.Proofs.YtflmpgepboldfaaDoor.Lx
open Go.RowKit Go.Proofs.YtflmpgepboldfaaDoor.G Go.Proofs.YtflmpgepboldfaaDoorW.PrintWords Go.Proofs.YtflmpgepboldfaaDoorW.PrintLast

/-- one byte's letters in a literal -/
def qe (c : UInt8) : List UInt8 := if c = 10 then [92, 110] else if c = 34 ∨ c = 92 then [92, c] else [c]
/-- a byte that a literal can hold -/
def okc (c : UInt8) : Bool := c == 10 || (decide (32 ≤ c.toNat) && decide (c.toNat ≤ 126))
def quoR (n : Nat) (acc l : List UInt8) : ByteArray × Int := if l.all okc = true then (if n > 256 then (⟨#[]⟩, 3) else (B (acc ++ l.flatMap qe ++ [34]), 0)) else (⟨#[]⟩, 4)
def quoS (l : List UInt8) : ByteArray × Int := quoR l.length [34] l

theorem qe_len (c : UInt8) : (qe c).length ≤ 2 := by unfold qe; split; simp; split <;> simp
theorem quoR_cons (n : Nat) (acc : List UInt8) (c : UInt8) (l : List UInt8) (h : okc c = true) : quoR n acc (c :: l) = quoR n (acc ++ qe c) l := by
  unfold quoR
  rw [List.all_cons, h, Bool.true_and, List.flatMap_cons, List.append_assoc, List.append_assoc, List.append_assoc, List.append_assoc]
theorem quoR_bad (n : Nat) (acc : List UInt8) (c : UInt8) (l : List UInt8) (h : okc c = false) : quoR n acc (c :: l) = (⟨#[]⟩, 4) := by
  unfold quoR
  rw [List.all_cons, h, Bool.false_and, if_neg (by simp)]
theorem nums_app (a b : List UInt8) : nums a ++ nums b = nums (a ++ b) := by simp [nums]
theorem u8n {c : UInt8} {n : Nat} (hn : n < 256) : (c.toNat : Int) = n ↔ c = UInt8.ofNat n := (u8_eq hn).symm
theorem i10 {c : UInt8} (h : ¬ c = 10) : ¬ (c.toNat : Int) = 10 := fun e => h ((u8n (n := 10) (by omega)).1 e)
theorem i34 {c : UInt8} (h : ¬ c = 34) : ¬ (c.toNat : Int) = 34 := fun e => h ((u8n (n := 34) (by omega)).1 e)
theorem i92 {c : UInt8} (h : ¬ c = 92) : ¬ (c.toNat : Int) = 92 := fun e => h ((u8n (n := 92) (by omega)).1 e)

theorem lex_Quote_at (s : ByteArray) (hs : s.size ≤ 1048576) : ∀ (l : List UInt8) (i : Int) (acc : List UInt8), AtL s i l → (acc.length : Int) ≤ 2 * i + 1 →
    Ev (fun k => lex_Quote.l0 k s (nums acc) (s.size : Int) i) (quoR s.size acc l) := by
  intro l
  induction l with
  | nil =>
    intro i acc h ha
    have e := h.fin
    refine Ev.step (fun k => ?_) (Ev.now _)
    rw [lex_Quote.l0, if_neg (by omega)]
    unfold quoR
    rw [List.all_nil, if_pos rfl]
    by_cases hb : s.size > 256
    · rw [if_pos (by omega), if_pos hb]
    · rw [if_neg (by omega), if_neg hb, if_pos (by rw [nums_len]; omega), List.flatMap_nil, List.append_nil]
      have e1 : nums acc ++ [(34 : Int)] = nums (acc ++ [34]) := (nums_snoc acc 34).symm
      rw [e1, strOfNums_nums]; rfl
  | cons c cs ih =>
    intro i acc h ha
    have hlt := h.lt
    have h0 := h.1
    have hc := u8_lt c
    have hw : wrap64 (i + 1) = i + 1 := Lx.wrap_small (by omega) (by omega)
    have next : okc c = true → Ev (fun k => lex_Quote.l0 k s (nums (acc ++ qe c)) (s.size : Int) (i + 1)) (quoR s.size acc (c :: cs)) := fun ho => by
      rw [quoR_cons _ _ _ _ ho]
      exact ih (i + 1) (acc ++ qe c) h.tail (by rw [List.length_append]; have := qe_len c; omega)
    by_cases c10 : c = 10
    · refine Ev.step (fun k => ?_) (next (by subst c10; rfl))
      rw [lex_Quote.l0, if_pos hlt, if_pos h0, if_pos hlt, h.byte, if_pos (by subst c10; rfl), Option.bind_some, if_pos (by rw [nums_len]; simp; omega), hw]
      have e1 : nums acc ++ ([92, 110] : List Int) = nums (acc ++ qe c) := by subst c10; exact nums_app acc [92, 110]
      rw [e1]
    · have n10 : ¬ (c.toNat : Int) = 10 := fun e => c10 ((u8n (n := 10) (by omega)).1 e)
      by_cases hok : okc c = true
      · have hr : 32 ≤ c.toNat ∧ c.toNat ≤ 126 := by
          unfold okc at hok; simp [c10] at hok; exact hok
        have hj : Ev (fun k => lex_Quote.j1 k s (nums acc) (c.toNat : Int) (s.size : Int) i false) (quoR s.size acc (c :: cs)) := by
          refine Ev.step (fun k => ?_) (next hok)
          rw [lex_Quote.j1, if_neg (by simp)]
          by_cases c34 : c = 34
          · have e1 : nums acc ++ ([92, (c.toNat : Int)] : List Int) = nums (acc ++ qe c) := by subst c34; exact nums_app acc [92, 34]
            rw [if_pos (by subst c34; rfl), Option.bind_some, if_pos (by rw [nums_len]; simp; omega), hw, e1]
          · rw [if_neg (i34 c34)]
            by_cases c92 : c = 92
            · have e1 : nums acc ++ ([92, (c.toNat : Int)] : List Int) = nums (acc ++ qe c) := by subst c92; exact nums_app acc [92, 92]
              rw [if_pos (by subst c92; rfl), Option.bind_some, if_pos (by rw [nums_len]; simp; omega), hw, e1]
            · have e1 : nums acc ++ [(c.toNat : Int)] = nums (acc ++ qe c) := by
                have : qe c = [c] := by unfold qe; rw [if_neg c10, if_neg (by simp [c34, c92])]
                rw [this]; exact (nums_snoc acc c).symm
              rw [if_neg (i92 c92), if_pos (by rw [nums_len]; omega), hw, e1]
        refine Ev.step (fun k => ?_) hj
        rw [lex_Quote.l0, if_pos hlt, if_pos h0, if_pos hlt, h.byte, if_neg n10, if_neg (by omega)]
        have : decide ((c.toNat : Int) > 126) = false := decide_eq_false (by omega)
        rw [this]
      · have hb : okc c = false := by simpa using hok
        rw [quoR_bad _ _ _ _ hb]
        have hj : Ev (fun k => lex_Quote.j1 k s (nums acc) (c.toNat : Int) (s.size : Int) i true) ((⟨#[]⟩ : ByteArray), (4 : Int)) := by
          refine Ev.step (fun k => ?_) (Ev.now _)
          rw [lex_Quote.j1, if_pos rfl]
        have hr : c.toNat < 32 ∨ 126 < c.toNat := by
          unfold okc at hb; simp [c10] at hb; omega
        refine Ev.step (fun k => ?_) hj
        rw [lex_Quote.l0, if_pos hlt, if_pos h0, if_pos hlt, h.byte, if_neg n10]
        by_cases lo : (c.toNat : Int) < 32
        · rw [if_pos lo]
        · rw [if_neg lo]
          have : decide ((c.toNat : Int) > 126) = true := decide_eq_true (by omega)
          rw [this]

theorem B_app (a b : List UInt8) : B a ++ B b = B (a ++ b) := ba_ext (by simp [B])
theorem lex_Quote_ev (s : ByteArray) (hs : s.size ≤ 1048576) : Ev (fun k => lex_Quote.f k s) (quoS s.data.toList) := by
  unfold quoS
  rw [← size_data]
  exact Ev.congr (fun k => rfl) (lex_Quote_at s hs s.data.toList 0 [34] (AtL.start s) (by simp))
theorem qtx_end (r b : List UInt8) : qtx (34 :: r) b = some (b, r) := by
  cases r with
  | nil => rw [qtx, if_pos rfl]
  | cons d ds => rw [qtx, if_pos rfl]
theorem okc_range {c : UInt8} (h : okc c = true) (c10 : ¬ c = 10) : 32 ≤ c.toNat ∧ c.toNat ≤ 126 := by
  unfold okc at h; simp [c10] at h; exact h
/-- a literal's letters are read as its string -/
theorem qtx_qe (r : List UInt8) : ∀ (l b : List UInt8), l.all okc = true → qtx (l.flatMap qe ++ 34 :: r) b = some (b ++ l, r) := by
  intro l
  induction l with
  | nil => intro b _; rw [List.flatMap_nil, List.nil_append, qtx_end, List.append_nil]
  | cons c cs ih =>
    intro b h
    rw [List.all_cons, Bool.and_eq_true] at h
    rw [List.flatMap_cons, List.append_assoc]
    have e : (b ++ [c]) ++ cs = b ++ c :: cs := by simp
    by_cases c10 : c = 10
    · subst c10
      show qtx (92 :: 110 :: (cs.flatMap qe ++ 34 :: r)) b = _
      rw [qtx, if_neg (by decide), if_neg (by decide), if_pos rfl, if_neg (by decide), if_pos rfl, ih _ h.2, e]
    · by_cases c2 : c = 34 ∨ c = 92
      · have hq : qe c = [92, c] := by unfold qe; rw [if_neg c10, if_pos c2]
        rw [hq]
        show qtx (92 :: c :: (cs.flatMap qe ++ 34 :: r)) b = _
        rw [qtx, if_neg (by decide), if_neg (by decide), if_pos rfl, if_pos c2.symm, ih _ h.2, e]
      · have hq : qe c = [c] := by unfold qe; rw [if_neg c10, if_neg c2]
        rw [hq]
        obtain ⟨d, ds, hd⟩ : ∃ d ds, cs.flatMap qe ++ 34 :: r = d :: ds := by
          cases hx : cs.flatMap qe ++ 34 :: r with
          | nil => simp at hx
          | cons d ds => exact ⟨d, ds, rfl⟩
        have hi := ih (b ++ [c]) h.2
        have hr := okc_range h.1 c10
        show qtx (c :: (cs.flatMap qe ++ 34 :: r)) b = _
        rw [hd] at hi ⊢
        rw [qtx, if_neg (fun x => c2 (.inl x)), if_neg (by omega), if_neg (fun x => c2 (.inr x)), hi, e]
theorem flat_len : ∀ (l : List UInt8), (l.flatMap qe).length ≤ 2 * l.length
  | [] => by simp
  | c :: cs => by
    have := flat_len cs
    have := qe_len c
    rw [List.flatMap_cons, List.length_append, List.length_cons]; omega
theorem B_list (l : List UInt8) : (B l).data.toList = l := by simp [B]
theorem B_back (s : ByteArray) : B s.data.toList = s := ba_ext (B_list _)
theorem tokL_quote (l r : List UInt8) (h : l.all okc = true) (hn : l.length ≤ 256) : tokL (34 :: (l.flatMap qe ++ 34 :: r)) = (0, 2, l, r) := by
  rw [tokL, if_neg (by decide), if_neg (by decide), if_pos rfl, qtx_qe _ _ _ h]
  have : strErr l = 0 := by unfold strErr; rw [if_neg (by omega)]
  simp [this]
theorem lexS_quote (l : List UInt8) (h : l.all okc = true) (hn : l.length ≤ 256) :
    lexS ([34] ++ l.flatMap qe ++ [34]) = ([tkS 2 l 0, tkS 0 [] (([34] ++ l.flatMap qe ++ [34]).length : Nat)], 0, 0) := by
  have hl := flat_len l
  have hq : ([34] ++ l.flatMap qe ++ [34] : List UInt8) = 34 :: (l.flatMap qe ++ 34 :: []) := by simp
  have hs : ([34] ++ l.flatMap qe ++ [34] : List UInt8).length = (l.flatMap qe).length + 2 := by simp
  unfold lexS
  rw [hs, if_neg (by omega), hq]
  have hk : skp false (34 :: (l.flatMap qe ++ 34 :: [])) = 34 :: (l.flatMap qe ++ 34 :: []) := by rw [skp]; simp [isBl]
  have hk0 : skp false [] = [] := by simp [skp]
  rw [toksL, if_neg (by simp), hk]
  dsimp only
  rw [tokL_quote l [] h hn, if_pos rfl, toksL, if_neg (by simp), hk0]
  dsimp only
  have e : (((l.flatMap qe).length + 2 : Nat) : Int) - ((34 :: (l.flatMap qe ++ 34 :: []) : List UInt8).length : Nat) = 0 := by rw [← hq, hs]; omega
  rw [e]; rfl
end Go.Proofs.YtflmpgepboldfaaDoor.Lx
