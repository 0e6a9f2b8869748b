/-
  The plain law of blanks: what stands behind a blank is no part of a token; the tokens of a text with blanks and comments about it, and of its tokens written anew, are alike. No program in sight.
-/
import Derived.Test.YtflmpgepboldfaaDoorLp
import Derived.Test.YtflmpgepboldfaaDoorLq
namespace Go.Proofs.YtflmpgepboldfaaDoor.Lx
open Go.RowKit Go.Proofs.YtflmpgepboldfaaDoor.G Go.Proofs.YtflmpgepboldfaaDoorW.PrintWords Go.Proofs.YtflmpgepboldfaaDoorW.PrintLast

def sfx : List UInt8 := [10, 32, 35, 32, 99]
def pfx : List UInt8 := [32, 9, 35, 32, 97, 32, 34, 32, 98, 10]
theorem skp_pfx (l : List UInt8) : skp false (pfx ++ l) = skp false l := by simp [pfx, skp, isBl]
theorem skp_sfx : ∀ (l : List UInt8) (b : Bool), skp b (l ++ sfx) = if skp b l = [] then [] else skp b l ++ sfx
  | [], b => by cases b <;> simp [sfx, skp, isBl]
  | c :: cs, true => by
    rw [List.cons_append, skp, skp]
    split
    · exact skp_sfx cs false
    · exact skp_sfx cs true
  | c :: cs, false => by
    rw [List.cons_append, skp, skp]
    split
    · exact skp_sfx cs false
    split
    · exact skp_sfx cs true
    · rw [if_neg (by simp)]; rfl

/-! ### a byte that ends every token -/
theorem tw_app (p : UInt8 → Bool) (x : UInt8) (r : List UInt8) (hx : p x = false) : ∀ (l : List UInt8), (l ++ x :: r).takeWhile p = l.takeWhile p ∧ (l ++ x :: r).dropWhile p = l.dropWhile p ++ x :: r
  | [] => by simp [hx]
  | c :: cs => by
    have ih := tw_app p x r hx cs
    rw [List.cons_append, List.takeWhile_cons, List.takeWhile_cons, List.dropWhile_cons, List.dropWhile_cons]
    cases h : p c with
    | true => exact ⟨by simp [ih.1], by simp [ih.2]⟩
    | false => exact ⟨by simp, by simp⟩
theorem tw_self (p : UInt8 → Bool) : ∀ (l : List UInt8), (∀ c ∈ l, p c = true) → l.takeWhile p = l ∧ l.dropWhile p = []
  | [], _ => by simp
  | c :: cs, h => by
    have ih := tw_self p cs (fun d hd => h d (List.mem_cons_of_mem _ hd))
    have hc := h c (List.mem_cons_self ..)
    rw [List.takeWhile_cons, List.dropWhile_cons, hc]
    exact ⟨by simp [ih.1], by simp [ih.2]⟩
theorem stop_D {x : UInt8} (hx : x = 10 ∨ x = 32) : isD x = false := by rcases hx with rfl | rfl <;> decide
theorem stop_L {x : UInt8} (hx : x = 10 ∨ x = 32) : isL x = false := by rcases hx with rfl | rfl <;> decide
theorem stop_N {x : UInt8} (hx : x = 10 ∨ x = 32) : isN x = false := by rcases hx with rfl | rfl <;> decide
theorem numErr_app (v : Nat) (l : List UInt8) {x : UInt8} (hx : x = 10 ∨ x = 32) (r : List UInt8) : numErr v (l ++ x :: r) = numErr v l := by
  unfold numErr
  split
  · rfl
  · cases l with
    | nil => simp [stop_L hx]
    | cons d ds => rfl
theorem qtx_app (y : List UInt8) : ∀ (n : Nat) (l b v r : List UInt8), l.length < n → qtx l b = some (v, r) → qtx (l ++ y) b = some (v, r ++ y) := by
  intro n
  induction n with
  | zero => intro l b v r h; omega
  | succ n ih =>
    intro l b v r hl h
    match l, h, hl with
    | [], h, _ => simp [qtx] at h
    | [c], h, _ =>
      rw [qtx] at h
      split at h
      · rename_i hc; subst hc; cases h
        rw [List.singleton_append, qtx_end, List.nil_append]
      · cases h
    | c :: d :: ds, h, hl =>
      simp only [List.length_cons] at hl
      rw [qtx] at h
      rw [List.cons_append, List.cons_append, qtx]
      split at h
      · rename_i hc; rw [if_pos hc]; cases h; rfl
      · rename_i hc
        rw [if_neg hc]
        split at h
        · cases h
        · rename_i h1
          rw [if_neg h1]
          split at h
          · rename_i h2
            rw [if_pos h2]
            split at h
            · rename_i h3; rw [if_pos h3]; exact ih _ _ _ _ (by omega) h
            · rename_i h3
              rw [if_neg h3]
              split at h
              · rename_i h4; rw [if_pos h4]; exact ih _ _ _ _ (by omega) h
              · cases h
          · rename_i h2
            rw [if_neg h2]
            exact ih (d :: ds) _ _ _ (by simp only [List.length_cons]; omega) h
theorem opL_app (c : UInt8) (cs : List UInt8) {x : UInt8} (hx : x = 10 ∨ x = 32) (r : List UInt8) : opL (c :: cs ++ x :: r) = opL (c :: cs) := by
  unfold opL
  cases cs with
  | nil => rcases hx with rfl | rfl <;> simp [twos, List.isPrefixOf]
  | cons d ds => simp [twos, List.find?_cons, List.isPrefixOf]
theorem tokL_app (c : UInt8) (cs : List UInt8) {x : UInt8} (hx : x = 10 ∨ x = 32) (r : List UInt8) (h : (tokL (c :: cs)).1 = 0) :
    tokL (c :: cs ++ x :: r) = (0, (tokL (c :: cs)).2.1, (tokL (c :: cs)).2.2.1, (tokL (c :: cs)).2.2.2 ++ x :: r) := by
  rw [List.cons_append]
  rw [tokL] at h ⊢
  rw [← List.cons_append, (tw_app isD x r (stop_D hx) (c :: cs)).1, (tw_app isD x r (stop_D hx) (c :: cs)).2, (tw_app isN x r (stop_N hx) (c :: cs)).1, (tw_app isN x r (stop_N hx) (c :: cs)).2, numErr_app _ _ hx, opL_app c cs hx r]
  rw [tokL]
  by_cases h1 : isD c = true
  · rw [if_pos h1] at h ⊢
    rw [if_pos h1]
    dsimp only at h ⊢
    rw [h]
  · rw [if_neg h1] at h ⊢
    rw [if_neg h1]
    by_cases h2 : isL c = true
    · rw [if_pos h2] at h ⊢
      rw [if_pos h2]
      dsimp only at h ⊢
      rw [h]
    · rw [if_neg h2] at h ⊢
      rw [if_neg h2]
      by_cases h3 : c = 34
      · rw [if_pos h3] at h ⊢
        rw [if_pos h3]
        cases hq : qtx cs [] with
        | none => rw [hq] at h; simp at h
        | some vr =>
          obtain ⟨v, r'⟩ := vr
          rw [hq] at h
          rw [qtx_app (x :: r) (cs.length + 1) cs [] v r' (by omega) hq]
          dsimp only at h ⊢
          rw [h]
      · rw [if_neg h3] at h ⊢
        rw [if_neg h3]
        by_cases h4 : opL (c :: cs) = []
        · rw [if_pos h4] at h; simp at h
        · rw [if_neg h4, if_neg h4, List.drop_append_of_le_length (opL_len _)]

/-! ### a token written anew -/
/-- a token's letters, written anew -/
def wp (k : Int) (v : List UInt8) : List UInt8 := if k = 2 then [34] ++ v.flatMap qe ++ [34] else v
/-- a token that is no end: written anew and a blank behind it, it is read again -/
def Rt (k : Int) (v : List UInt8) : Prop :=
  (∀ r, ∃ c cs, wp k v = c :: cs ∧ isBl c = false ∧ c ≠ 35 ∧ tokL (c :: cs ++ 32 :: r) = (0, k, v, 32 :: r)) ∧ v.length ≤ 16384 ∧ (k = 2 → v.all okc = true ∧ v.length ≤ 256)
theorem qtx_okc : ∀ (n : Nat) (l b v r : List UInt8), l.length < n → b.all okc = true → qtx l b = some (v, r) → v.all okc = true := by
  intro n
  induction n with
  | zero => intro l b v r h; omega
  | succ n ih =>
    intro l b v r hl hb h
    match l, h, hl with
    | [], h, _ => simp [qtx] at h
    | [c], h, _ =>
      rw [qtx] at h
      split at h
      · cases h; exact hb
      · cases h
    | c :: d :: ds, h, hl =>
      simp only [List.length_cons] at hl
      rw [qtx] at h
      split at h
      · cases h; exact hb
      split at h
      · cases h
      split at h
      · split at h
        · rename_i h3
          exact ih _ _ _ _ (by omega) (by rw [List.all_append, hb]; rcases h3 with rfl | rfl <;> decide) h
        split at h
        · exact ih _ _ _ _ (by omega) (by rw [List.all_append, hb]; decide) h
        · cases h
      · rename_i h1 _
        exact ih (d :: ds) _ _ _ (by simp only [List.length_cons]; omega) (by
          rw [List.all_append, hb]
          have : okc c = true := by unfold okc; simp; omega
          simp [this]) h
theorem opL_self (c : UInt8) (cs : List UInt8) (h : opL (c :: cs) ≠ []) : opL (opL (c :: cs)) = opL (c :: cs) := by
  have h1 : ∀ o ∈ twos, opL o = o := by decide
  have h2 : ∀ o ∈ ones, opL [o] = [o] := by decide
  unfold opL at h
  generalize ho : opL (c :: cs) = o
  unfold opL at ho
  cases hf : twos.find? (fun o => o.isPrefixOf (c :: cs)) with
  | some q => rw [hf] at ho; subst ho; exact h1 _ (List.mem_of_find?_eq_some hf)
  | none =>
    rw [hf] at ho h
    dsimp only at ho h
    by_cases hc : c ∈ ones
    · rw [if_pos hc] at ho; subst ho; exact h2 c hc
    · rw [if_neg hc] at h; exact absurd rfl h
theorem opL_head (c : UInt8) (cs : List UInt8) (h : opL (c :: cs) ≠ []) : ∃ t, opL (c :: cs) = c :: t := by
  have hp := opL_prefix (c :: cs)
  cases ho : opL (c :: cs) with
  | nil => exact absurd ho h
  | cons a t =>
    rw [ho, List.isPrefixOf, Bool.and_eq_true] at hp
    exact ⟨t, by rw [eq_of_beq hp.1]⟩
theorem tokL_again (c : UInt8) (cs : List UInt8) (hbl : isBl c = false) (h35 : c ≠ 35) (hlen : (c :: cs).length ≤ 16384) (h : (tokL (c :: cs)).1 = 0) : Rt (tokL (c :: cs)).2.1 (tokL (c :: cs)).2.2.1 := by
  have hx : (32 : UInt8) = 10 ∨ (32 : UInt8) = 32 := .inr rfl
  rw [tokL] at h ⊢
  by_cases h1 : isD c = true
  · rw [if_pos h1] at h ⊢
    dsimp only at h ⊢
    have hall := takeWhile_all isD (c :: cs)
    have hle := takeWhile_le isD (c :: cs)
    rw [List.takeWhile_cons, if_pos h1] at h hall hle ⊢
    obtain ⟨e1, e2⟩ := tw_self isD _ hall
    refine ⟨fun r => ⟨c, cs.takeWhile isD, rfl, hbl, h35, ?_⟩, by omega, fun e => by simp at e⟩
    rw [List.cons_append, tokL, if_pos h1, ← List.cons_append, (tw_app isD 32 r (stop_D hx) _).1, (tw_app isD 32 r (stop_D hx) _).2, e1, e2, numErr_app _ _ hx]
    have : numErr (dfrom 0 (c :: cs.takeWhile isD)) [] = 0 := by
      unfold numErr at h ⊢
      split
      · rename_i hv; rw [if_pos hv] at h; simp at h
      · rfl
    rw [this]; rfl
  · rw [if_neg h1] at h ⊢
    by_cases h2 : isL c = true
    · rw [if_pos h2] at h ⊢
      dsimp only at h ⊢
      have hall := takeWhile_all isN (c :: cs)
      have hle := takeWhile_le isN (c :: cs)
      rw [List.takeWhile_cons, if_pos (isL_isN c h2)] at h hall hle ⊢
      obtain ⟨e1, e2⟩ := tw_self isN _ hall
      have hk : nameKind (c :: cs.takeWhile isN) ≠ 2 := by unfold nameKind; split <;> simp
      refine ⟨fun r => ⟨c, cs.takeWhile isN, by unfold wp; rw [if_neg hk], hbl, h35, ?_⟩, by omega, fun e => absurd e hk⟩
      rw [List.cons_append, tokL, if_neg h1, if_pos h2, ← List.cons_append, (tw_app isN 32 r (stop_N hx) _).1, (tw_app isN 32 r (stop_N hx) _).2, e1, e2, h]; rfl
    · rw [if_neg h2] at h ⊢
      by_cases h3 : c = 34
      · rw [if_pos h3] at h ⊢
        cases hq : qtx cs [] with
        | none => rw [hq] at h; simp at h
        | some vr =>
          obtain ⟨v, r'⟩ := vr
          rw [hq] at h
          dsimp only at h ⊢
          have hn : v.length ≤ 256 := by
            unfold strErr at h
            split at h
            · simp at h
            · omega
          have hok := qtx_okc (cs.length + 1) cs [] v r' (by omega) rfl hq
          refine ⟨fun r => ⟨34, v.flatMap qe ++ [34], by unfold wp; rw [if_pos rfl]; rfl, by decide, by decide, ?_⟩, by omega, fun _ => ⟨hok, hn⟩⟩
          have := tokL_quote v (32 :: r) hok hn
          rw [← this]
          simp
      · rw [if_neg h3] at h ⊢
        by_cases h4 : opL (c :: cs) = []
        · rw [if_pos h4] at h; simp at h
        · rw [if_neg h4]
          dsimp only
          obtain ⟨t, ht⟩ := opL_head c cs h4
          have hs := opL_self c cs h4
          have hle := opL_len (c :: cs)
          rw [ht] at hs hle ⊢
          refine ⟨fun r => ⟨c, t, by unfold wp; rw [if_neg (by decide)], hbl, h35, ?_⟩, by omega, fun e => by simp at e⟩
          have ho : opL (c :: (t ++ 32 :: r)) = c :: t := by rw [← List.cons_append, opL_app c t hx r, hs]
          rw [List.cons_append, tokL, if_neg h1, if_neg h2, if_neg h3, ho, if_neg (by simp), ← List.cons_append, List.drop_left]

/-! ### all tokens -/
theorem skp_head : ∀ (l : List UInt8) (b : Bool) (c : UInt8) (cs : List UInt8), skp b l = c :: cs → isBl c = false ∧ c ≠ 35
  | [], b, c, cs, h => by cases b <;> simp [skp] at h
  | a :: l, true, c, cs, h => by
    rw [skp] at h
    split at h
    · exact skp_head l false c cs h
    · exact skp_head l true c cs h
  | a :: l, false, c, cs, h => by
    rw [skp] at h
    split at h
    · exact skp_head l false c cs h
    · rename_i h1
      split at h
      · exact skp_head l true c cs h
      · rename_i h2; cases h; exact ⟨by simpa using h1, h2⟩
/-- the same kinds and letters -/
def Al (a b : List S30) : Prop := a.map (fun t => (t.f0, t.f1)) = b.map (fun t => (t.f0, t.f1))
def Vs : List S30 → Prop
  | [] => False
  | [t] => t.f0 = 0 ∧ t.f1 = B []
  | t :: u :: r => Rt t.f0 t.f1.data.toList ∧ Vs (u :: r)
theorem toks_ok : ∀ (n : Nat) (N : Int) (l : List UInt8) (acc : List S30), l.length < n → l.length ≤ 16384 → (toksL n N l acc).2.2 = 0 →
    ∃ ts, toksL n N l acc = (acc ++ ts, 0, 0) ∧ Vs ts ∧ acc.length + ts.length ≤ 4096 ∧
      ∀ n' N' (acc' : List S30), acc'.length = acc.length → l.length + 5 < n' → ∃ ts', toksL n' N' (l ++ sfx) acc' = (acc' ++ ts', 0, 0) ∧ Al ts ts' := by
  intro n
  induction n with
  | zero => intro N l acc h; omega
  | succ n ih =>
    intro N l acc hl hl2 he
    have hle := skp_le l false
    rw [toksL] at he ⊢
    by_cases ha : acc.length ≥ 4096
    · rw [if_pos ha] at he; simp at he
    · rw [if_neg ha] at he ⊢
      have hsf := skp_sfx l false
      cases hsk : skp false l with
      | nil =>
        rw [hsk, if_pos rfl] at hsf
        refine ⟨[tkS 0 [] N], rfl, ⟨rfl, rfl⟩, by simp; omega, fun n' N' acc' h1 h2 => ?_⟩
        obtain ⟨m, rfl⟩ : ∃ m, n' = m + 1 := ⟨n' - 1, by omega⟩
        refine ⟨[tkS 0 [] N'], ?_, rfl⟩
        rw [toksL, if_neg (by omega), hsf]
      | cons c cs =>
        rw [hsk] at he hle
        rw [hsk, if_neg (by simp)] at hsf
        obtain ⟨g1, g2⟩ := skp_head l false c cs hsk
        dsimp only at he ⊢
        by_cases hz : (tokL (c :: cs)).1 = 0
        · rw [if_pos hz] at he ⊢
          have hsh := tokL_shorter c cs hz
          obtain ⟨ts, e1, e2, e3, e4⟩ := ih N _ _ (by omega) (by omega) he
          refine ⟨tkS (tokL (c :: cs)).2.1 (tokL (c :: cs)).2.2.1 (N - (c :: cs).length) :: ts, by rw [e1, List.append_assoc]; rfl, ?_, by rw [List.length_append] at e3; simp only [List.length_cons, List.length_nil] at e3 ⊢; omega, fun n' N' acc' h1 h2 => ?_⟩
          · match ts, e2 with
            | u :: r, e2 =>
              refine ⟨?_, e2⟩
              show Rt _ (B _).data.toList
              rw [B_list]
              exact tokL_again c cs g1 g2 (by omega) hz
          · obtain ⟨m, rfl⟩ : ∃ m, n' = m + 1 := ⟨n' - 1, by omega⟩
            rw [toksL, if_neg (by omega), hsf]
            have ht := tokL_app c cs (x := 10) (.inl rfl) [32, 35, 32, 99] hz
            have hc : (c :: cs ++ sfx) = c :: (cs ++ sfx) := rfl
            have hsx : sfx = 10 :: [32, 35, 32, 99] := rfl
            rw [hc]
            dsimp only
            rw [← hc, hsx, ht, if_pos rfl]
            dsimp only
            obtain ⟨ts', f1, f2⟩ := e4 m N' (acc' ++ [tkS (tokL (c :: cs)).2.1 (tokL (c :: cs)).2.2.1 (N' - (c :: cs ++ 10 :: [32, 35, 32, 99]).length)]) (by simp only [List.length_append, List.length_cons, List.length_nil]; omega) (by omega)
            rw [hsx] at f1
            refine ⟨tkS (tokL (c :: cs)).2.1 (tokL (c :: cs)).2.2.1 (N' - (c :: cs ++ 10 :: [32, 35, 32, 99]).length) :: ts', by rw [f1, List.append_assoc]; rfl, ?_⟩
            unfold Al at f2 ⊢
            rw [List.map_cons, List.map_cons, f2]; rfl
        · rw [if_neg hz] at he; exact absurd he hz
/-- a token and a blank, written anew -/
def wr (t : S30) : List UInt8 := wp t.f0 t.f1.data.toList ++ [32]
theorem toks_again : ∀ (ts : List S30), Vs ts → ∀ (n : Nat) (N : Int) (acc : List S30) (pre : List UInt8), (pre = [] ∨ pre = [32]) → acc.length + ts.length ≤ 4096 → (pre ++ ts.flatMap wr).length < n →
    ∃ ts', toksL n N (pre ++ ts.flatMap wr) acc = (acc ++ ts', 0, 0) ∧ Al ts ts'
  | [], hv, _, _, _, _, _, _, _ => hv.elim
  | [t], hv, n, N, acc, pre, hp, ha, hn => by
    obtain ⟨m, rfl⟩ : ∃ m, n = m + 1 := ⟨n - 1, by omega⟩
    simp only [List.length_cons, List.length_nil] at ha
    have hw : [t].flatMap wr = [32] := by
      simp only [List.flatMap_cons, List.flatMap_nil, List.append_nil, wr]
      rw [hv.1, hv.2, B_list]; rfl
    have hk : skp false (pre ++ [32]) = [] := by rcases hp with rfl | rfl <;> simp [skp, isBl]
    refine ⟨[tkS 0 [] N], by rw [hw, toksL, if_neg (by omega), hk], ?_⟩
    unfold Al
    simp only [List.map_cons, List.map_nil, tkS]
    rw [hv.1, hv.2]
  | t :: u :: r, hv, n, N, acc, pre, hp, ha, hn => by
    obtain ⟨m, rfl⟩ : ∃ m, n = m + 1 := ⟨n - 1, by omega⟩
    simp only [List.length_cons] at ha
    obtain ⟨c, cs, f1, f2, f3, f4⟩ := hv.1.1 ((u :: r).flatMap wr)
    have hw : (t :: u :: r).flatMap wr = c :: cs ++ 32 :: (u :: r).flatMap wr := by
      rw [List.flatMap_cons]; unfold wr; rw [f1, List.append_assoc]; rfl
    have hk : skp false (pre ++ (c :: cs ++ 32 :: (u :: r).flatMap wr)) = c :: cs ++ 32 :: (u :: r).flatMap wr := by
      have h0 : skp false (c :: (cs ++ 32 :: (u :: r).flatMap wr)) = c :: (cs ++ 32 :: (u :: r).flatMap wr) := by
        rw [skp, f2, if_neg f3]; rfl
      rcases hp with rfl | rfl
      · exact h0
      · show skp false (32 :: (c :: (cs ++ 32 :: (u :: r).flatMap wr))) = _
        rw [skp, if_pos (by decide)]; exact h0
    rw [hw] at hn ⊢
    rw [toksL, if_neg (by omega), hk]
    have hc : (c :: cs ++ 32 :: (u :: r).flatMap wr) = c :: (cs ++ 32 :: (u :: r).flatMap wr) := rfl
    rw [hc]
    dsimp only
    rw [← hc, f4, if_pos rfl]
    dsimp only
    obtain ⟨ts', g1, g2⟩ := toks_again (u :: r) hv.2 m N (acc ++ [tkS t.f0 t.f1.data.toList (N - (c :: cs ++ 32 :: (u :: r).flatMap wr).length)]) [32] (.inr rfl) (by simp only [List.length_append, List.length_cons, List.length_nil]; omega) (by
      simp only [List.length_append, List.length_cons] at hn ⊢; simp only [List.length_nil]; omega)
    refine ⟨tkS t.f0 t.f1.data.toList (N - (c :: cs ++ 32 :: (u :: r).flatMap wr).length) :: ts', ?_, ?_⟩
    · have : ([32] ++ (u :: r).flatMap wr : List UInt8) = 32 :: (u :: r).flatMap wr := rfl
      rw [this] at g1
      rw [g1, List.append_assoc]; rfl
    · unfold Al at g2 ⊢
      exact (congrArg (List.cons (t.f0, t.f1)) g2).trans (by simp only [List.map_cons, tkS]; rw [B_back])
theorem lexS_ok (l : List UInt8) (h : (lexS l).2.2 = 0) : ∃ ts, lexS l = (ts, 0, 0) ∧ Vs ts ∧ ts.length ≤ 4096 ∧
    (l.length ≤ 16364 → ∃ ts', lexS (pfx ++ l ++ sfx) = (ts', 0, 0) ∧ Al ts ts') ∧ ((ts.flatMap wr).length ≤ 16384 → ∃ ts', lexS (ts.flatMap wr) = (ts', 0, 0) ∧ Al ts ts') := by
  unfold lexS at h ⊢
  by_cases hb : l.length > 16384
  · rw [if_pos hb] at h; simp at h
  · rw [if_neg hb] at h ⊢
    obtain ⟨ts, e1, e2, e3, e4⟩ := toks_ok (l.length + 1) l.length l [] (by omega) (by omega) h
    simp only [List.length_nil, Nat.zero_add] at e3
    refine ⟨ts, e1, e2, e3, fun h1 => ?_, fun h1 => ?_⟩
    · have hlen : (pfx ++ l ++ sfx).length = l.length + 15 := by simp [pfx, sfx]
      obtain ⟨ts', f1, f2⟩ := e4 (l.length + 15 + 1) ((l.length + 15 : Nat) : Int) [] rfl (by omega)
      refine ⟨ts', ?_, f2⟩
      rw [if_neg (by omega), hlen]
      rw [List.nil_append] at f1
      rw [← f1, toksL, toksL, List.append_assoc, skp_pfx]
    · rw [if_neg (by omega)]
      obtain ⟨ts', f1, f2⟩ := toks_again ts e2 ((ts.flatMap wr).length + 1) (ts.flatMap wr).length [] [] (.inl rfl) (by simpa using e3) (by simp)
      exact ⟨ts', by simpa using f1, f2⟩
end Go.Proofs.YtflmpgepboldfaaDoor.Lx
