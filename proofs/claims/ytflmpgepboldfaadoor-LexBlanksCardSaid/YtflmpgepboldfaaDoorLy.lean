/-
  The plain law of the lexer, second part: numbers, names, strings and operators, each read by one clean function over lists of bytes.
-/
import Derived.Test.YtflmpgepboldfaaDoorLx
namespace Go.Proofs.YtflmpgepboldfaaDoor.Lx
open Go.RowKit Go.Proofs.YtflmpgepboldfaaDoor.G Go.Proofs.YtflmpgepboldfaaDoorW.PrintWords Go.Proofs.YtflmpgepboldfaaDoorW.PrintLast

def isD (c : UInt8) : Bool := lexD (c.toNat : Int)
def isL (c : UInt8) : Bool := lexL (c.toNat : Int)
def isN (c : UInt8) : Bool := lexN (c.toNat : Int)
theorem isD_iff (c : UInt8) : isD c = true ↔ 48 ≤ c.toNat ∧ c.toNat ≤ 57 := by unfold isD lexD; simp; omega

theorem run_at (p : Int → Bool) (s : ByteArray) : ∀ (l : List UInt8) (i : Int), AtL s i l →
    runE p s i = i + (l.takeWhile fun c => p (c.toNat : Int)).length ∧ AtL s (runE p s i) (l.dropWhile fun c => p (c.toNat : Int))
  | [], i, h => by
    have e : runE p s i = i := runE_stop p s i (by have := h.fin; omega)
    rw [e]; exact ⟨by simp, by simpa using h⟩
  | c :: cs, i, h => by
    have hlt := h.lt
    have hb := h.byte
    cases hp : p (c.toNat : Int) with
    | true =>
      have e := runE_step p s i h.1 hlt (by rw [hb]; exact hp)
      obtain ⟨h1, h2⟩ := run_at p s cs (i + 1) h.tail
      rw [← e, List.takeWhile_cons, List.dropWhile_cons, hp]
      exact ⟨by rw [h1]; simp; omega, by simpa using h2⟩
    | false =>
      have e : runE p s i = i := runE_stop p s i (by rw [hb, hp]; simp)
      rw [e, List.takeWhile_cons, List.dropWhile_cons, hp]
      exact ⟨by simp, by simpa using h⟩

def dfrom (a : Nat) (l : List UInt8) : Nat := l.foldl (fun a c => a * 10 + (c.toNat - 48)) a
theorem dfrom_cons (a : Nat) (c : UInt8) (l : List UInt8) : dfrom a (c :: l) = dfrom (a * 10 + (c.toNat - 48)) l := by unfold dfrom; rw [List.foldl_cons]
theorem dfrom_ge : ∀ (l : List UInt8) (a : Nat), a ≤ dfrom a l
  | [], a => Nat.le_refl _
  | c :: l, a => by rw [dfrom_cons]; have := dfrom_ge l (a * 10 + (c.toNat - 48)); omega
theorem parse_digits (l : List UInt8) : ∀ (a : Nat), (∀ c ∈ l, isD c = true) → a < 18446744073709551616 →
    Lib.parseUint10 a l = if dfrom a l < 18446744073709551616 then .ok (dfrom a l) else .range := by
  induction l with
  | nil => intro a _ ha; rw [show dfrom a [] = a from rfl, if_pos ha, Lib.parseUint10]
  | cons c l ih =>
    intro a hd ha
    have hc := (isD_iff c).1 (hd c (by simp))
    have hg := dfrom_ge l (a * 10 + (c.toNat - 48))
    rw [Lib.parseUint10, if_pos hc, dfrom_cons]
    by_cases h1 : 1844674407370955162 ≤ a
    · rw [if_pos h1, if_neg (by omega)]
    · rw [if_neg h1]
      by_cases h2 : 18446744073709551616 ≤ a * 10 + (c.toNat - 48)
      · rw [if_pos h2, if_neg (by omega)]
      · rw [if_neg h2, ih _ (fun x hx => hd x (by simp [hx])) (by omega)]
theorem atoi_digits (l : List UInt8) (hne : l ≠ []) (hd : ∀ c ∈ l, isD c = true) :
    Lib.atoiAll l = if dfrom 0 l < 9223372036854775808 then .ok (dfrom 0 l : Int) else .range := by
  cases l with
  | nil => exact absurd rfl hne
  | cons c r =>
    have hc := (isD_iff c).1 (hd c (by simp))
    have hp := parse_digits (c :: r) 0 hd (by omega)
    simp only [Lib.atoiAll]
    rw [if_neg (by omega), Lib.parseMag, if_neg (by simp), hp]
    by_cases h1 : dfrom 0 (c :: r) < 18446744073709551616
    · rw [if_pos h1]
      dsimp only
      by_cases h2 : dfrom 0 (c :: r) < 9223372036854775808
      · rw [if_pos h2, if_neg (by omega), if_neg (by omega), if_neg (by omega)]
      · rw [if_neg h2, if_pos ⟨by omega, by omega⟩]
    · rw [if_neg h1, if_neg (by omega)]

/-- the error of a number: its value, and what follows -/
def numErr (v : Nat) (r : List UInt8) : Int :=
  if 4611686018427387904 < v then 2 else match r with
  | [] => 0
  | d :: _ => if isL d then 18 else 0
theorem takeWhile_all (p : UInt8 → Bool) : ∀ (l : List UInt8), ∀ c ∈ l.takeWhile p, p c = true
  | [], c, h => by simp at h
  | x :: l, c, h => by
    rw [List.takeWhile_cons] at h
    split at h
    · rename_i hx
      rcases List.mem_cons.1 h with rfl | h
      · exact hx
      · exact takeWhile_all p l c h
    · simp at h
theorem lex_number_at (s : ByteArray) (hs : s.size ≤ 16384) (c : UInt8) (cs : List UInt8) (i : Int) (h : AtL s i (c :: cs)) (hc : isD c = true) :
    ∃ j, AtL s j ((c :: cs).dropWhile isD) ∧ lex_lexer_number.f s i = some (1, ⟨((c :: cs).takeWhile isD).toArray⟩, 0, numErr (dfrom 0 ((c :: cs).takeWhile isD)) ((c :: cs).dropWhile isD), s, j) := by
  obtain ⟨hr, hat⟩ := run_at lexD s (c :: cs) i h
  have hat' : AtL s (runE lexD s i) ((c :: cs).dropWhile isD) := hat
  refine ⟨runE lexD s i, hat', ?_⟩
  have hpre : (c :: cs).takeWhile isD <+: (c :: cs) := List.takeWhile_prefix _
  have hlen := hpre.length_le
  have htx : s.extract i.toNat (runE lexD s i).toNat = ⟨((c :: cs).takeWhile isD).toArray⟩ := by
    rw [hr]
    have := h.text _ hlen
    rw [← List.prefix_iff_eq_take.1 hpre] at this
    exact this
  unfold lex_lexer_number.f
  rw [if_pos ⟨h.1, h.2.1, by omega⟩, htx]
  have hne : (c :: cs).takeWhile isD ≠ [] := by rw [List.takeWhile_cons, hc]; simp
  have hdig := takeWhile_all isD (c :: cs)
  generalize (c :: cs).takeWhile isD = t at *
  generalize (c :: cs).dropWhile isD = r at *
  rw [show (⟨t.toArray⟩ : ByteArray).data.toList = t from rfl, atoi_digits t hne hdig]
  generalize dfrom 0 t = v
  by_cases h1 : v < 9223372036854775808
  · rw [if_pos h1]
    unfold numOut numErr
    dsimp only
    by_cases h2 : 4611686018427387904 < v
    · rw [if_pos (show (v : Int) > 4611686018427387904 by omega), if_pos h2]
    · rw [if_neg (show ¬ (v : Int) > 4611686018427387904 by omega), if_neg h2]
      cases r with
      | nil => rw [if_neg (show ¬ runE lexD s i < (s.size : Int) by have := hat'.fin; omega)]
      | cons d r =>
        rw [if_pos hat'.lt, hat'.byte]
        dsimp only
        show (if isL d = true then _ else _) = _
        split <;> rfl
  · rw [if_neg h1]
    unfold numOut numErr
    dsimp only
    rw [if_pos (show 4611686018427387904 < v by omega)]

theorem ref_number_at (s : ByteArray) (hs : s.size ≤ 16384) (l : List UInt8) : ∀ (i n : Int) (m : Nat) (big : Bool), AtL s i l → (big = false ∧ n = m ∧ m ≤ 4611686018427387904 ∨ big = true ∧ 4611686018427387904 < m) →
    ∃ j, AtL s j (l.dropWhile isD) ∧ Ev (fun k => imageeditorref53_number.l0 k s i n big) (j, numErr (dfrom m (l.takeWhile isD)) (l.dropWhile isD)) := by
  have final : ∀ (l : List UInt8) (i n : Int) (m : Nat) (big : Bool), AtL s i l → (big = false ∧ n = m ∧ m ≤ 4611686018427387904 ∨ big = true ∧ 4611686018427387904 < m) → Ev (fun k => imageeditorref53_number.j1 k s i n big false) (i, numErr m l) := by
    intro l i n m big h hm
    rcases hm with ⟨rfl, rfl, hm⟩ | ⟨rfl, hm⟩
    · refine Ev.step (fun k => ?_) (Ev.now _)
      unfold numErr
      rw [if_neg (show ¬ 4611686018427387904 < m by omega)]
      rw [imageeditorref53_number.j1, if_neg (by simp), if_neg (by simp)]
      cases l with
      | nil => rw [if_neg (by have := h.fin; omega)]
      | cons d r =>
        have hl : imageeditorref53_letter.f (bt s i) = some (isL d) := by
          rw [h.byte]; exact isLetter_f _
        rw [if_pos h.lt, if_pos h.1, hl, Option.bind_some]
        dsimp only
        split <;> rfl
    · have e : numErr m l = 2 := by unfold numErr; rw [if_pos hm]
      rw [e]
      refine Ev.step (fun k => ?_) (Ev.now _)
      rw [imageeditorref53_number.j1, if_neg (by simp), if_pos rfl]
  induction l with
  | nil =>
    intro i n m big h hm
    refine ⟨i, h, Ev.step (fun k => ?_) (final [] i n m big h hm)⟩
    rw [imageeditorref53_number.l0, if_neg (by have := h.fin; omega)]
  | cons c cs ih =>
    intro i n m big h hm
    have hlt := h.lt
    have hb := h.byte
    have hdf : imageeditorref53_digit.f (bt s i) = some (isD c) := by rw [hb]; exact isDigit_f _
    have hw : wrap64 (i + 1) = i + 1 := wrap_small (by have := h.1; omega) (by omega)
    cases hc : isD c with
    | false =>
      rw [List.takeWhile_cons, List.dropWhile_cons, hc]
      refine ⟨i, by simpa using h, Ev.step (fun k => ?_) (final (c :: cs) i n m big h hm)⟩
      rw [imageeditorref53_number.l0, if_pos hlt, if_pos h.1, hdf, hc, Option.bind_some]
    | true =>
      have hd := (isD_iff c).1 hc
      have hmod : (bt s i - 48) % 256 = ((c.toNat - 48 : Nat) : Int) := by rw [hb]; omega
      have go : ∀ (n' : Int) (m' : Nat) (b' : Bool), m' = m * 10 + (c.toNat - 48) → (b' = false ∧ n' = m' ∧ m' ≤ 4611686018427387904 ∨ b' = true ∧ 4611686018427387904 < m') →
          (∀ k, imageeditorref53_number.j1 (k + 1) s i n big true = imageeditorref53_number.l0 k s (i + 1) n' b') →
          ∃ j, AtL s j ((c :: cs).dropWhile isD) ∧ Ev (fun k => imageeditorref53_number.l0 k s i n big) (j, numErr (dfrom m ((c :: cs).takeWhile isD)) ((c :: cs).dropWhile isD)) := by
        intro n' m' b' em hm' hk
        obtain ⟨j, hj, hev⟩ := ih (i + 1) n' m' b' h.tail hm'
        rw [List.takeWhile_cons, List.dropWhile_cons, hc]
        simp only [if_true]
        refine ⟨j, hj, Ev.step (f := fun k => imageeditorref53_number.j1 k s i n big true) (fun k => ?_) (Ev.step hk (by rw [dfrom_cons, ← em]; exact hev))⟩
        rw [imageeditorref53_number.l0, if_pos hlt, if_pos h.1, hdf, hc, Option.bind_some]
      rcases hm with ⟨rfl, rfl, hm⟩ | ⟨rfl, hm⟩
      · by_cases hov : (m : Int) > (4611686018427387904 - ((c.toNat - 48 : Nat) : Int)) / 10
        · refine go (m : Int) _ true rfl (.inr ⟨rfl, by omega⟩) (fun k => ?_)
          rw [imageeditorref53_number.j1, if_pos rfl, if_pos h.1, if_pos hlt, hmod, if_pos hov, hw]
        · refine go _ _ false rfl (.inl ⟨rfl, rfl, by omega⟩) (fun k => ?_)
          rw [imageeditorref53_number.j1, if_pos rfl, if_pos h.1, if_pos hlt, hmod, if_neg hov, hw]
          have e1 : wrap64 ((m : Int) * 10) = m * 10 := by unfold wrap64; omega
          rw [e1, show wrap64 ((m : Int) * 10 + ((c.toNat - 48 : Nat) : Int)) = ((m * 10 + (c.toNat - 48) : Nat) : Int) from by unfold wrap64; omega]
      · by_cases hov : n > (4611686018427387904 - ((c.toNat - 48 : Nat) : Int)) / 10
        · refine go n _ true rfl (.inr ⟨rfl, by omega⟩) (fun k => ?_)
          rw [imageeditorref53_number.j1, if_pos rfl, if_pos h.1, if_pos hlt, hmod, if_pos hov, hw]
        · refine go (wrap64 (wrap64 (n * 10) + ((c.toNat - 48 : Nat) : Int))) _ true rfl (.inr ⟨rfl, by omega⟩) (fun k => ?_)
          rw [imageeditorref53_number.j1, if_pos rfl, if_pos h.1, if_pos hlt, hmod, if_neg hov, hw]
end Go.Proofs.YtflmpgepboldfaaDoor.Lx
