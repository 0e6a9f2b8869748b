import Derived.Test.YtocefehnemahhaaG10
namespace Go.Proofs.Ytocefehnemahhaa.G
open Go.RowKit Go.Proofs.YtocefehnemahhaaW.PrintWords Go.Proofs.YtocefehnemahhaaW.PrintLast Go.Proofs.YtocefehnemahhaaW.PrintMore
set_option linter.unusedVariables false
set_option linter.unusedSimpArgs false
/-! Numbers modulo 2^64. -/
theorem wrap_id (x : Int) (h1 : -9223372036854775808 ≤ x) (h2 : x ≤ 9223372036854775807) : wrap64 x = x := by
  unfold wrap64; omega
theorem wrap_eq (x : Int) : ∃ q : Int, wrap64 x = x + 18446744073709551616 * q := by
  refine ⟨-((x + 9223372036854775808) / 18446744073709551616), ?_⟩
  unfold wrap64; omega
theorem wrap_of (x q : Int) : wrap64 (x + 18446744073709551616 * q) = wrap64 x := by
  unfold wrap64; omega
theorem wrap_add (a b : Int) : wrap64 (wrap64 a + wrap64 b) = wrap64 (a + b) := by
  obtain ⟨q, hq⟩ := wrap_eq a
  obtain ⟨r, hr⟩ := wrap_eq b
  rw [hq, hr, show a + 18446744073709551616 * q + (b + 18446744073709551616 * r) = (a + b) + 18446744073709551616 * (q + r) by rw [Int.mul_add]; omega, wrap_of]
theorem wrap_addl (a b : Int) : wrap64 (wrap64 a + b) = wrap64 (a + b) := by
  obtain ⟨q, hq⟩ := wrap_eq a
  rw [hq, show a + 18446744073709551616 * q + b = (a + b) + 18446744073709551616 * q by omega, wrap_of]
theorem wrap_mull (a b : Int) : wrap64 (wrap64 a * b) = wrap64 (a * b) := by
  obtain ⟨q, hq⟩ := wrap_eq a
  rw [hq, show (a + 18446744073709551616 * q) * b = a * b + 18446744073709551616 * (q * b) by rw [Int.add_mul, Int.mul_assoc], wrap_of]
/-! Sums of weighted pixels. -/
abbrev T5 := Int × Int × Int × Int × Int
def tup (p : S51) : Int × Int × Int × Int := (p.f0, p.f1, p.f2, p.f3)
def sW (L : List (S51 × Int)) : Int := (L.map fun q => q.2).sum
def sA (L : List (S51 × Int)) : Int := (L.map fun q => q.2 * q.1.f3).sum
def sC (c : S51 → Int) (L : List (S51 × Int)) : Int := (L.map fun q => q.2 * q.1.f3 * c q.1).sum
def TL (L : List (S51 × Int)) : T5 := (wrap64 (sW L), wrap64 (sA L), wrap64 (sC S51.f0 L), wrap64 (sC S51.f1 L), wrap64 (sC S51.f2 L))
theorem add_TL (L : List (S51 × Int)) (p : S51) (n : Int) :
    filter_total_add.f (TL L).1 (TL L).2.1 (TL L).2.2.1 (TL L).2.2.2.1 (TL L).2.2.2.2 p.f0 p.f1 p.f2 p.f3 n = some (TL (L ++ [(p, n)])) := by
  have e1 : ∀ x, wrap64 (wrap64 x + wrap64 (n * p.f3)) = wrap64 (x + n * p.f3) := fun x => wrap_add _ _
  have e2 : ∀ x y, wrap64 (wrap64 x + wrap64 (wrap64 (n * p.f3) * y)) = wrap64 (x + n * p.f3 * y) := fun x y => by rw [wrap_add, ← wrap_add x, wrap_mull, wrap_add]
  simp only [filter_total_add.f, TL, sW, sA, sC, List.map_append, List.map_cons, List.map_nil, List.sum_append, List.sum_cons, List.sum_nil, Int.add_zero, wrap_addl, e1, e2]
theorem TL_nil : TL [] = (0, 0, 0, 0, 0) := by
  simp [TL, sW, sA, sC, wrap_id]
/-! The quotient, rounded. -/
def dv (a b : Int) : Int := (num_Div.f 1 a b).getD 0
theorem floor_some (a b : Int) : ∃ v, num_Floor.f a b = some v := by
  unfold num_Floor.f
  split
  · exact ⟨_, rfl⟩
  · split
    · split <;> exact ⟨_, rfl⟩
    · split
      · exact ⟨_, rfl⟩
      · split <;> exact ⟨_, rfl⟩
theorem divj_some (a b c : Int) (t : Bool) : ∃ v, ∀ k, num_Div.j0 (k + 1) a b c t = some v := by
  simp only [num_Div.j0]
  split
  · exact ⟨_, fun _ => rfl⟩
  · split
    · split
      · exact ⟨_, fun _ => rfl⟩
      · split
        · split <;> exact ⟨_, fun _ => rfl⟩
        · exact ⟨_, fun _ => rfl⟩
    · split
      · split <;> exact ⟨_, fun _ => rfl⟩
      · exact ⟨_, fun _ => rfl⟩
theorem div_at (a b : Int) (k : Nat) : num_Div.f (k + 1) a b = some (dv a b) := by
  obtain ⟨v, hv⟩ := floor_some a b
  have h : ∃ v, ∀ k, num_Div.f (k + 1) a b = some v := by
    simp only [num_Div.f, hv, Option.bind_some]
    split
    · exact divj_some _ _ _ _
    · exact divj_some _ _ _ _
  obtain ⟨u, hu⟩ := h
  rw [hu k, dv, hu 0]
  rfl
theorem div_ev (a b : Int) : Ev (fun k => num_Div.f k a b) (dv a b) := Ev.step (fun k => div_at a b k) (Ev.now _)
/-- The rounded quotient by a positive number. -/
theorem dv_pos (a b : Int) (hb : 0 < b) (h1 : -4611686018427387904 ≤ a) (h2 : a ≤ 4611686018427387904) (h3 : b ≤ 4611686018427387904) : dv a b = (2 * a + b) / (2 * b) := by
  have hF : num_Floor.f a b = some (a / b) := by
    unfold num_Floor.f
    rw [if_neg (by omega), if_neg (by omega)]
    have hm := Int.mul_ediv_add_emod a b
    have hl := Int.emod_lt_of_pos a hb
    have hn := Int.emod_nonneg a (by omega : b ≠ 0)
    have hab : (a / b) ≤ 4611686018427387904 ∧ -4611686018427387904 ≤ a / b := by
      constructor
      · refine Int.ediv_le_of_le_mul hb ?_
        have := Int.mul_le_mul_of_nonneg_left (show (1 : Int) ≤ b by omega) (show (0 : Int) ≤ 4611686018427387904 by omega)
        omega
      · refine (Int.le_ediv_iff_mul_le hb).2 ?_
        have := Int.mul_le_mul_of_nonneg_left (show (1 : Int) ≤ b by omega) (show (0 : Int) ≤ 4611686018427387904 by omega)
        omega
    by_cases h0 : 0 ≤ a
    · rw [Int.tdiv_eq_ediv_of_nonneg h0, Int.tmod_eq_emod_of_nonneg h0]
      split
      · rw [wrap_id] <;> omega
      · rw [if_neg (by simp; omega), wrap_id] <;> omega
    · have h0' : a < 0 := by omega
      by_cases hd : a % b = 0
      · have ht : Int.tmod a b = 0 := Int.tmod_eq_zero_of_dvd (Int.dvd_of_emod_eq_zero hd)
        rw [if_pos ht]
        have : Int.tdiv a b = a / b := Int.tdiv_eq_ediv_of_dvd (Int.dvd_of_emod_eq_zero hd)
        rw [this, wrap_id] <;> omega
      · have ht : Int.tmod a b ≠ 0 := fun h => hd (Int.emod_eq_zero_of_dvd (Int.dvd_of_tmod_eq_zero h))
        rw [if_neg ht, if_pos (by simp; omega)]
        have : Int.tdiv a b = a / b + 1 := by
          rw [Int.tdiv_eq_ediv]
          have hdv : ¬ b ∣ a := fun h => hd (Int.emod_eq_zero_of_dvd h)
          simp [h0, hdv, Int.sign_eq_one_of_pos hb]
        rw [this, wrap_id (a / b + 1) (by omega) (by omega), wrap_id _ (by omega) (by omega)]
        congr 1
        omega
  have hm := Int.mul_ediv_add_emod a b
  have hl := Int.emod_lt_of_pos a hb
  have hn := Int.emod_nonneg a (by omega : b ≠ 0)
  have hbm : b * (a / b) = a / b * b := Int.mul_comm _ _
  have hr : a - a / b * b = a % b := by omega
  have hw1 : wrap64 (a / b * b) = a / b * b := wrap_id _ (by omega) (by omega)
  have hw2 : wrap64 (a - a / b * b) = a % b := by rw [hr, wrap_id] <;> omega
  have hw3 : wrap64 (b - a % b) = b - a % b := wrap_id _ (by omega) (by omega)
  have key : ∀ q r : Int, a = b * q + r → 0 ≤ r → r < b → (2 * a + b) / (2 * b) = if r ≥ b - r then q + 1 else q := by
    intro q r e h0 h1
    have e2 : 2 * a + b = 2 * b * q + (2 * r + b) := by rw [e, Int.mul_assoc]; omega
    rw [e2, Int.add_comm, Int.add_mul_ediv_left _ _ (by omega : (2 * b) ≠ 0)]
    split
    · rw [show (2 * r + b) / (2 * b) = 1 from Int.ediv_eq_iff_of_pos (by omega) |>.2 ⟨by omega, by omega⟩]; omega
    · rw [Int.ediv_eq_zero_of_lt (by omega) (by omega)]; omega
  rw [dv, num_Div.f, hF, Option.bind_some, if_neg (by omega), num_Div.j0, if_neg (by simp; omega), if_pos hb, hw1, hw2, hw3, key (a / b) (a % b) (by omega) hn hl]
  have hq : -4611686018427387904 ≤ a / b ∧ a / b ≤ 4611686018427387904 := by
    constructor
    · refine (Int.le_ediv_iff_mul_le hb).2 ?_
      have := Int.mul_le_mul_of_nonneg_left (show (1 : Int) ≤ b by omega) (show (0 : Int) ≤ 4611686018427387904 by omega)
      omega
    · refine Int.ediv_le_of_le_mul hb ?_
      have := Int.mul_le_mul_of_nonneg_left (show (1 : Int) ≤ b by omega) (show (0 : Int) ≤ 4611686018427387904 by omega)
      omega
  split
  · rw [wrap_id _ (by omega) (by omega)]; rfl
  · rw [if_neg (by omega)]; rfl
/-! The mean of a sum. -/
def tm (s : T5) : S51 := if s.2.1 = 0 then ⟨0, 0, 0, 0⟩ else ⟨dv s.2.2.1 s.2.1, dv s.2.2.2.1 s.2.1, dv s.2.2.2.2 s.2.1, dv s.2.1 s.1⟩
theorem mean_at (s : T5) (k : Nat) : filter_total_mean.f (k + 1) s.1 s.2.1 s.2.2.1 s.2.2.2.1 s.2.2.2.2 = some ((tm s).f0, (tm s).f1, (tm s).f2, (tm s).f3, s) := by
  unfold filter_total_mean.f tm
  split
  · rfl
  · simp only [div_at, Option.bind_some]
/-- The end of each loop of sums. -/
theorem mean_ev (s : T5) : Ev (fun k => (filter_total_mean.f k s.1 s.2.1 s.2.2.1 s.2.2.2.1 s.2.2.2.2).bind fun b => some (b.1, b.2.1, b.2.2.1, b.2.2.2.1)) (tup (tm s)) :=
  Ev.step (fun k => by rw [mean_at]; rfl) (Ev.now _)
end Go.Proofs.Ytocefehnemahhaa.G
