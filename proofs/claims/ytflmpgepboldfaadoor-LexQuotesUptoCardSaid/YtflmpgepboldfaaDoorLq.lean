/-
  The plain law of Quote: what the program's and the reference's Lean functions compute, for a string of at most 1048576 bytes, by one clean encoding over lists of bytes. No program in sight.
-/
import Derived.Test.YtflmpgepboldfaaDoorG9
import Derived.Test.YtflmpgepboldfaaDoorLt
namespace Go.Proofs.YtflmpgepboldfaaDoor.Lx
open Go.RowKit Go.Proofs.YtflmpgepboldfaaDoor.G Go.Proofs.YtflmpgepboldfaaDoorW.PrintWords Go.Proofs.YtflmpgepboldfaaDoorW.PrintLast

/-- one byte's letters in a literal -/
def qe (c : UInt8) : List UInt8 := if c = 10 then [92, 110] else if c = 34 ∨ c = 92 then [92, c] else [c]
/-- a byte that a literal can hold -/
def okc (c : UInt8) : Bool := c == 10 || (decide (32 ≤ c.toNat) && decide (c.toNat ≤ 126))
def quoR (n : Nat) (acc l : List UInt8) : ByteArray × Int := if l.all okc = true then (if n > 256 then (⟨#[]⟩, 3) else (B (acc ++ l.flatMap qe ++ [34]), 0)) else (⟨#[]⟩, 4)
def quoS (l : List UInt8) : ByteArray × Int := quoR l.length [34] l

theorem qe_len (c : UInt8) : (qe c).length ≤ 2 := by unfold qe; split; simp; split <;> simp
theorem quoR_cons (n : Nat) (acc : List UInt8) (c : UInt8) (l : List UInt8) (h : okc c = true) : quoR n acc (c :: l) = quoR n (acc ++ qe c) l := by
  unfold quoR
  rw [List.all_cons, h, Bool.true_and, List.flatMap_cons, List.append_assoc, List.append_assoc, List.append_assoc, List.append_assoc]
theorem quoR_bad (n : Nat) (acc : List UInt8) (c : UInt8) (l : List UInt8) (h : okc c = false) : quoR n acc (c :: l) = (⟨#[]⟩, 4) := by
  unfold quoR
  rw [List.all_cons, h, Bool.false_and, if_neg (by simp)]
theorem nums_app (a b : List UInt8) : nums a ++ nums b = nums (a ++ b) := by simp [nums]
theorem u8n {c : UInt8} {n : Nat} (hn : n < 256) : (c.toNat : Int) = n ↔ c = UInt8.ofNat n := (u8_eq hn).symm
theorem i10 {c : UInt8} (h : ¬ c = 10) : ¬ (c.toNat : Int) = 10 := fun e => h ((u8n (n := 10) (by omega)).1 e)
theorem i34 {c : UInt8} (h : ¬ c = 34) : ¬ (c.toNat : Int) = 34 := fun e => h ((u8n (n := 34) (by omega)).1 e)
theorem i92 {c : UInt8} (h : ¬ c = 92) : ¬ (c.toNat : Int) = 92 := fun e => h ((u8n (n := 92) (by omega)).1 e)

theorem lex_Quote_at (s : ByteArray) (hs : s.size ≤ 1048576) : ∀ (l : List UInt8) (i : Int) (acc : List UInt8), AtL s i l → (acc.length : Int) ≤ 2 * i + 1 →
    Ev (fun k => lex_Quote.l0 k s (nums acc) (s.size : Int) i) (quoR s.size acc l) := by
  intro l
  induction l with
  | nil =>
    intro i acc h ha
    have e := h.fin
    refine Ev.step (fun k => ?_) (Ev.now _)
    rw [lex_Quote.l0, if_neg (by omega)]
    unfold quoR
    rw [List.all_nil, if_pos rfl]
    by_cases hb : s.size > 256
    · rw [if_pos (by omega), if_pos hb]
    · rw [if_neg (by omega), if_neg hb, if_pos (by rw [nums_len]; omega), List.flatMap_nil, List.append_nil]
      have e1 : nums acc ++ [(34 : Int)] = nums (acc ++ [34]) := (nums_snoc acc 34).symm
      rw [e1, strOfNums_nums]; rfl
  | cons c cs ih =>
    intro i acc h ha
    have hlt := h.lt
    have h0 := h.1
    have hc := u8_lt c
    have hw : wrap64 (i + 1) = i + 1 := Lx.wrap_small (by omega) (by omega)
    have next : okc c = true → Ev (fun k => lex_Quote.l0 k s (nums (acc ++ qe c)) (s.size : Int) (i + 1)) (quoR s.size acc (c :: cs)) := fun ho => by
      rw [quoR_cons _ _ _ _ ho]
      exact ih (i + 1) (acc ++ qe c) h.tail (by rw [List.length_append]; have := qe_len c; omega)
    by_cases c10 : c = 10
    · refine Ev.step (fun k => ?_) (next (by subst c10; rfl))
      rw [lex_Quote.l0, if_pos hlt, if_pos h0, if_pos hlt, h.byte, if_pos (by subst c10; rfl), Option.bind_some, if_pos (by rw [nums_len]; simp; omega), hw]
      have e1 : nums acc ++ ([92, 110] : List Int) = nums (acc ++ qe c) := by subst c10; exact nums_app acc [92, 110]
      rw [e1]
    · have n10 : ¬ (c.toNat : Int) = 10 := fun e => c10 ((u8n (n := 10) (by omega)).1 e)
      by_cases hok : okc c = true
      · have hr : 32 ≤ c.toNat ∧ c.toNat ≤ 126 := by
          unfold okc at hok; simp [c10] at hok; exact hok
        have hj : Ev (fun k => lex_Quote.j1 k s (nums acc) (c.toNat : Int) (s.size : Int) i false) (quoR s.size acc (c :: cs)) := by
          refine Ev.step (fun k => ?_) (next hok)
          rw [lex_Quote.j1, if_neg (by simp)]
          by_cases c34 : c = 34
          · have e1 : nums acc ++ ([92, (c.toNat : Int)] : List Int) = nums (acc ++ qe c) := by subst c34; exact nums_app acc [92, 34]
            rw [if_pos (by subst c34; rfl), Option.bind_some, if_pos (by rw [nums_len]; simp; omega), hw, e1]
          · rw [if_neg (i34 c34)]
            by_cases c92 : c = 92
            · have e1 : nums acc ++ ([92, (c.toNat : Int)] : List Int) = nums (acc ++ qe c) := by subst c92; exact nums_app acc [92, 92]
              rw [if_pos (by subst c92; rfl), Option.bind_some, if_pos (by rw [nums_len]; simp; omega), hw, e1]
            · have e1 : nums acc ++ [(c.toNat : Int)] = nums (acc ++ qe c) := by
                have : qe c = [c] := by unfold qe; rw [if_neg c10, if_neg (by simp [c34, c92])]
                rw [this]; exact (nums_snoc acc c).symm
              rw [if_neg (i92 c92), if_pos (by rw [nums_len]; omega), hw, e1]
        refine Ev.step (fun k => ?_) hj
        rw [lex_Quote.l0, if_pos hlt, if_pos h0, if_pos hlt, h.byte, if_neg n10, if_neg (by omega)]
        have : decide ((c.toNat : Int) > 126) = false := decide_eq_false (by omega)
        rw [this]
      · have hb : okc c = false := by simpa using hok
        rw [quoR_bad _ _ _ _ hb]
        have hj : Ev (fun k => lex_Quote.j1 k s (nums acc) (c.toNat : Int) (s.size : Int) i true) ((⟨#[]⟩ : ByteArray), (4 : Int)) := by
          refine Ev.step (fun k => ?_) (Ev.now _)
          rw [lex_Quote.j1, if_pos rfl]
        have hr : c.toNat < 32 ∨ 126 < c.toNat := by
          unfold okc at hb; simp [c10] at hb; omega
        refine Ev.step (fun k => ?_) hj
        rw [lex_Quote.l0, if_pos hlt, if_pos h0, if_pos hlt, h.byte, if_neg n10]
        by_cases lo : (c.toNat : Int) < 32
        · rw [if_pos lo]
        · rw [if_neg lo]
          have : decide ((c.toNat : Int) > 126) = true := decide_eq_true (by omega)
          rw [this]

theorem B_app (a b : List UInt8) : B a ++ B b = B (a ++ b) := ba_ext (by simp [B])
theorem ref_Quote_at1 (s : ByteArray) (hs : s.size ≤ 1048576) (hn : ¬ s.size > 256) : ∀ (l : List UInt8) (i : Int) (acc : List UInt8), AtL s i l → (acc.length : Int) ≤ 2 * i + 1 → l.all okc = true →
    Ev (fun k => imageeditorref53_Quote.l1 k s (B acc) i) (quoR s.size acc l) := by
  intro l
  induction l with
  | nil =>
    intro i acc h ha _
    have e := h.fin
    refine Ev.step (fun k => ?_) (Ev.now _)
    rw [imageeditorref53_Quote.l1, if_neg (by omega), if_pos (by rw [B_size]; omega)]
    unfold quoR
    rw [List.all_nil, if_pos rfl, if_neg hn, List.flatMap_nil, List.append_nil]
    have e1 : B acc ++ (⟨#[34]⟩ : ByteArray) = B (acc ++ [34]) := B_app acc [34]
    rw [e1]
  | cons c cs ih =>
    intro i acc h ha hall
    have hlt := h.lt
    have h0 := h.1
    rw [List.all_cons, Bool.and_eq_true] at hall
    have hw : wrap64 (i + 1) = i + 1 := Lx.wrap_small (by omega) (by omega)
    have next : Ev (fun k => imageeditorref53_Quote.l1 k s (B (acc ++ qe c)) (i + 1)) (quoR s.size acc (c :: cs)) := by
      rw [quoR_cons _ _ _ _ hall.1]
      exact ih (i + 1) (acc ++ qe c) h.tail (by rw [List.length_append]; have := qe_len c; omega) hall.2
    have ht : s.extract i.toNat (i + 1).toNat = B [c] := by
      have := h.text 1 (by simp)
      rw [List.take_succ_cons, List.take_zero] at this
      exact this
    refine Ev.step (fun k => ?_) next
    rw [imageeditorref53_Quote.l1, if_pos hlt, if_pos h0, h.byte, hw]
    by_cases c10 : c = 10
    · have e1 : B acc ++ (⟨#[92, 110]⟩ : ByteArray) = B (acc ++ qe c) := by subst c10; exact B_app acc [92, 110]
      rw [if_pos (by subst c10; rfl), if_pos (by rw [B_size]; omega), e1]
    · rw [if_neg (i10 c10)]
      have e0 : B acc ++ (⟨#[92]⟩ : ByteArray) = B (acc ++ [92]) := B_app acc [92]
      by_cases c92 : c = 92
      · have e1 : B (acc ++ [92]) ++ B [c] = B (acc ++ qe c) := by subst c92; rw [B_app, List.append_assoc]; rfl
        rw [if_pos (by subst c92; rfl), if_pos (by rw [B_size]; omega), if_pos (by omega), if_pos (by omega), e0, ht, if_pos (by rw [B_size, B_size]; simp; omega), e1]
      · rw [if_neg (i92 c92)]
        by_cases c34 : c = 34
        · have e1 : B (acc ++ [92]) ++ B [c] = B (acc ++ qe c) := by subst c34; rw [B_app, List.append_assoc]; rfl
          rw [if_pos (by subst c34; rfl), if_pos (by rw [B_size]; omega), if_pos (by omega), if_pos (by omega), e0, ht, if_pos (by rw [B_size, B_size]; simp; omega), e1]
        · have e1 : B acc ++ B [c] = B (acc ++ qe c) := by
            have : qe c = [c] := by unfold qe; rw [if_neg c10, if_neg (by simp [c34, c92])]
            rw [this]; exact B_app acc [c]
          rw [if_neg (i34 c34), if_pos (by omega), if_pos (by omega), ht, if_pos (by rw [B_size, B_size]; simp; omega), e1]

theorem ref_Quote_at0 (s : ByteArray) (hs : s.size ≤ 1048576) (R : ByteArray × Int) (hR : s.size ≤ 256 → s.data.toList.all okc = true → Ev (fun k => imageeditorref53_Quote.l1 k s (⟨#[34]⟩ : ByteArray) 0) R) : ∀ (l : List UInt8) (i : Int), AtL s i l → (l.all okc = true → s.data.toList.all okc = true) →
    Ev (fun k => imageeditorref53_Quote.l0 k s i) (if l.all okc = true then (if s.size > 256 then (⟨#[]⟩, 3) else R) else (⟨#[]⟩, 4)) := by
  intro l
  induction l with
  | nil =>
    intro i h hall
    have e := h.fin
    rw [List.all_nil, if_pos rfl]
    by_cases hb : s.size > 256
    · rw [if_pos hb]
      refine Ev.step (fun k => ?_) (Ev.now _)
      rw [imageeditorref53_Quote.l0, if_neg (by omega), if_pos (by omega)]
    · rw [if_neg hb]
      refine Ev.step (fun k => ?_) (hR (by omega) (hall rfl))
      rw [imageeditorref53_Quote.l0, if_neg (by omega), if_neg (by omega)]
  | cons c cs ih =>
    intro i h hall
    have hlt := h.lt
    have h0 := h.1
    have hw : wrap64 (i + 1) = i + 1 := Lx.wrap_small (by omega) (by omega)
    by_cases hok : okc c = true
    · rw [List.all_cons, hok, Bool.true_and] at hall ⊢
      refine Ev.step (fun k => ?_) (ih (i + 1) h.tail hall)
      rw [imageeditorref53_Quote.l0, if_pos hlt, if_pos h0, h.byte, hw]
      by_cases c10 : c = 10
      · rw [if_pos (by subst c10; rfl)]
      · have hr : 32 ≤ c.toNat ∧ c.toNat ≤ 126 := by
          unfold okc at hok; simp [c10] at hok; exact hok
        rw [if_neg (i10 c10), if_neg (by omega), if_neg (by omega)]
    · have hb : okc c = false := by simpa using hok
      rw [List.all_cons, hb, Bool.false_and, if_neg (by simp)]
      have c10 : ¬ c = 10 := fun e => by subst e; simp [okc] at hb
      have hr : c.toNat < 32 ∨ 126 < c.toNat := by
        unfold okc at hb; simp [c10] at hb; omega
      refine Ev.step (fun k => ?_) (Ev.now _)
      rw [imageeditorref53_Quote.l0, if_pos hlt, if_pos h0, h.byte, if_neg (i10 c10)]
      by_cases lo : (c.toNat : Int) < 32
      · rw [if_pos lo]
      · rw [if_neg lo, if_pos (by omega)]

theorem Quote_ev (s : ByteArray) (hs : s.size ≤ 1048576) : Ev (fun k => lex_Quote.f k s) (quoS s.data.toList) ∧ Ev (fun k => imageeditorref53_Quote.f k s) (quoS s.data.toList) := by
  unfold quoS
  rw [← size_data]
  refine ⟨?_, ?_⟩
  · exact Ev.congr (fun k => rfl) (lex_Quote_at s hs s.data.toList 0 [34] (AtL.start s) (by simp))
  · have h0 := ref_Quote_at0 s hs (B ([34] ++ s.data.toList.flatMap qe ++ [34]), 0) (fun h1 h2 => by
      have := ref_Quote_at1 s hs (by omega) s.data.toList 0 [34] (AtL.start s) (by simp) h2
      unfold quoR at this
      rw [if_pos h2, if_neg (by omega)] at this
      exact this) s.data.toList 0 (AtL.start s) (fun h => h)
    exact Ev.congr (fun k => rfl) h0
end Go.Proofs.YtflmpgepboldfaaDoor.Lx
