import Derived.Test.YtocefehnemahhaaMc
namespace Go.Proofs.Ytocefehnemahhaa.G
open Go.RowKit Go.Proofs.YtocefehnemahhaaW.PrintWords Go.Proofs.YtocefehnemahhaaW.PrintLast Go.Proofs.YtocefehnemahhaaW.PrintMore
set_option linter.unusedVariables false
set_option linter.unusedSimpArgs false
theorem w64 (x : Int) (h1 : -9223372036854775808 ≤ x) (h2 : x ≤ 9223372036854775807) : wrap64 x = x := by
  unfold wrap64; omega
def V (x y w h : Int) : Prop := -1048576 ≤ x ∧ x ≤ 1048576 ∧ -1048576 ≤ y ∧ y ≤ 1048576 ∧ 0 ≤ w ∧ 0 ≤ h ∧ w ≤ 1048576 - x ∧ h ≤ 1048576 - y
instance (x y w h : Int) : Decidable (V x y w h) := by unfold V; infer_instance
theorem span_eq (a n : Int) : rect_span.f a n = some (decide (-1048576 ≤ a ∧ a ≤ 1048576 ∧ 0 ≤ n ∧ n ≤ 1048576 - a)) := by
  unfold rect_span.f
  by_cases h1 : a ≥ -1048576
  · by_cases h2 : a ≤ 1048576
    · rw [w64 (1048576 - a) (by omega) (by omega), if_pos h1, if_pos h2]
      by_cases h3 : n ≥ 0
      · rw [if_pos h3]; congr 1; rw [decide_eq_decide]; omega
      · rw [if_neg h3]; congr 1; symm; rw [decide_eq_false_iff_not]; omega
    · rw [if_pos h1, if_neg h2]; congr 1; symm; rw [decide_eq_false_iff_not]; omega
  · rw [if_neg h1]; congr 1; symm; rw [decide_eq_false_iff_not]; omega
theorem valid1 (x y w h : Int) : rect_Valid.f x y w h = some (decide (V x y w h)) := by
  unfold rect_Valid.f
  rw [span_eq, span_eq]
  simp only [Option.bind_some, decide_eq_true_eq]
  by_cases h1 : -1048576 ≤ x ∧ x ≤ 1048576 ∧ 0 ≤ w ∧ w ≤ 1048576 - x
  · rw [if_pos h1]; congr 1; rw [decide_eq_decide]; unfold V; omega
  · rw [if_neg h1]; congr 1; symm; rw [decide_eq_false_iff_not]; unfold V; omega
def F (x y w h : Int) : Prop := V x y w h ∧ 0 < w ∧ 0 < h
instance (x y w h : Int) : Decidable (F x y w h) := by unfold F; infer_instance
theorem empty1 (x y w h : Int) : rect_Empty.f x y w h = some (decide (¬ F x y w h)) := by
  unfold rect_Empty.f rect_known.f
  rw [valid1]
  simp only [Option.bind_some, decide_eq_true_eq]
  by_cases hv : V x y w h
  · rw [if_pos hv]
    simp only [Option.bind_some]
    by_cases h1 : w = 0
    · rw [if_pos h1]; congr 1; symm; rw [decide_eq_true_eq]; unfold F; omega
    · rw [if_neg h1]
      congr 1
      have hv' := hv; unfold V at hv'
      by_cases h2 : h = 0
      · subst h2; simp [F]
      · have h3 : (h == 0) = false := beq_eq_false_iff_ne.mpr h2
        rw [h3]; symm; rw [decide_eq_false_iff_not, Decidable.not_not]; exact ⟨hv, by omega, by omega⟩
  · rw [if_neg hv]
    simp only [Option.bind_some, if_true]
    congr 1; symm; rw [decide_eq_true_eq]; exact fun h => hv h.1
theorem mx_eq (a b : Int) : mx a b = max a b := by unfold mx; omega
theorem mn_eq (a b : Int) : mn a b = min a b := by unfold mn; omega
theorem check_range {a : Int} {l : List Int} (h : filter_Check.f a l = some 0) : (a = 5 ∨ a = 6) ∧ l = [] ∨ (a = 9 ∧ ∃ x y, l = [x, y] ∧ -16 ≤ x ∧ x ≤ 16 ∧ -16 ≤ y ∧ y ≤ 16) ∨ (a = 10 ∧ ∃ x, l = [x] ∧ 1 ≤ x ∧ x ≤ 16) ∨ (a = 3 ∧ ∃ x y, l = [x, y] ∧ 0 ≤ x ∧ x ≤ 16 ∧ 0 ≤ y ∧ y ≤ 262140) ∨ ((a = 1 ∨ a = 2 ∨ a = 4 ∨ a = 7 ∨ a = 8) ∧ ∃ x, l = [x] ∧ 0 ≤ x ∧ x ≤ 16 ∧ (a = 2 → x ≤ 7) ∧ (a = 4 → x ≤ 4)) := by
  unfold filter_Check.f at h
  have h := Option.some.inj h
  by_cases ho : a < 1 ∨ 10 < a
  · rw [if_pos ho] at h; cases h
  rw [if_neg ho] at h
  have hk : a = 1 ∨ a = 2 ∨ a = 3 ∨ a = 4 ∨ a = 5 ∨ a = 6 ∨ a = 7 ∨ a = 8 ∨ a = 9 ∨ a = 10 := by omega
  clear ho
  by_cases hl : l.length ≠ (rngs a).length
  · rw [if_pos hl] at h; cases h
  rw [if_neg hl] at h
  have hl := Decidable.not_not.mp hl
  rcases hk with rfl | rfl | rfl | rfl | rfl | rfl | rfl | rfl | rfl | rfl
  all_goals simp [rngs] at hl
  case inr.inr.inr.inr.inl => exact .inl ⟨.inl rfl, hl⟩
  case inr.inr.inr.inr.inr.inl => exact .inl ⟨.inr rfl, hl⟩
  case inr.inr.inl =>
    match l, hl with
    | [x, y], _ =>
      simp [rngs] at h
      exact .inr (.inr (.inr (.inl ⟨rfl, x, y, rfl, by omega, by omega, by omega, by omega⟩)))
  case inr.inr.inr.inr.inr.inr.inr.inr.inl =>
    match l, hl with
    | [x, y], _ =>
      simp [rngs] at h
      exact .inr (.inl ⟨rfl, x, y, rfl, by omega, by omega, by omega, by omega⟩)
  case inr.inr.inr.inr.inr.inr.inr.inr.inr =>
    match l, hl with
    | [x], _ =>
      simp [rngs] at h
      exact .inr (.inr (.inl ⟨rfl, x, rfl, by omega, by omega⟩))
  all_goals
    match l, hl with
    | [x], _ =>
      simp [rngs] at h
      exact .inr (.inr (.inr (.inr ⟨by decide, x, rfl, by omega, by omega, by omega, by omega⟩)))
theorem reach_val (k : Nat) {a : Int} {l : List Int} (h : filter_Check.f a l = some 0) : ∃ r, filter_Reach.f (k + 1) a l = some r ∧ 0 ≤ r ∧ r ≤ 16 := by
  unfold filter_Reach.f
  rw [h]
  simp only [Option.bind_some, if_true]
  rcases check_range h with ⟨h1 | h1, rfl⟩ | ⟨rfl, x, y, rfl, hx⟩ | ⟨rfl, x, rfl, hx⟩ | ⟨rfl, x, y, rfl, hx⟩ | ⟨ha, x, rfl, hx⟩
  · subst h1; exact ⟨1, rfl, by omega, by omega⟩
  · subst h1; exact ⟨1, rfl, by omega, by omega⟩
  · refine ⟨mx (mx (mx x (wrap64 (-x))) y) (wrap64 (-y)), rfl, ?_, ?_⟩
    · rw [w64 (-x) (by omega) (by omega), w64 (-y) (by omega) (by omega)]; simp only [mx_eq]; omega
    · rw [w64 (-x) (by omega) (by omega), w64 (-y) (by omega) (by omega)]; simp only [mx_eq]; omega
  · refine ⟨wrap64 (x - 1), rfl, ?_, ?_⟩ <;> (rw [w64 (x - 1) (by omega) (by omega)]; omega)
  · exact ⟨x, rfl, by omega, by omega⟩
  · rcases ha with rfl | rfl | rfl | rfl | rfl <;> exact ⟨x, rfl, by omega, by omega⟩
theorem within1 {ax ay aw ah bx by_ bw bh : Int} (hF : F ax ay aw ah) (hV : V bx by_ bw bh) : rect_Within.f ax ay aw ah bx by_ bw bh = some (decide (bx ≤ ax ∧ by_ ≤ ay ∧ ax + aw ≤ bx + bw ∧ ay + ah ≤ by_ + bh)) := by
  have hf := hF; unfold F V at hf
  have hv := hV; unfold V at hv
  unfold rect_Within.f rect_known.f
  rw [empty1, valid1]
  simp only [Option.bind_some, decide_eq_true_eq]
  rw [if_neg (by simpa using hF), if_pos hV]
  simp only [Option.bind_some]
  rw [w64 (ax + aw) (by omega) (by omega), w64 (bx + bw) (by omega) (by omega), w64 (ay + ah) (by omega) (by omega), w64 (by_ + bh) (by omega) (by omega)]
  by_cases h1 : ax ≥ bx
  · by_cases h2 : ay ≥ by_
    · by_cases h3 : ax + aw ≤ bx + bw
      · rw [if_pos h1, if_pos h2, if_pos h3]; congr 1; rw [decide_eq_decide]; omega
      · rw [if_pos h1, if_pos h2, if_neg h3]; congr 1; symm; rw [decide_eq_false_iff_not]; omega
    · rw [if_pos h1, if_neg h2]; congr 1; symm; rw [decide_eq_false_iff_not]; omega
  · rw [if_neg h1]; congr 1; symm; rw [decide_eq_false_iff_not]; omega
def gx0 (x r : Int) : Int := max (x - r) (-1048576)
def gx1 (x w r : Int) : Int := min (x + w + r) 1048576
theorem grow1 (k : Nat) {x y w h r : Int} (hF : F x y w h) (h0 : 0 ≤ r) (h1 : r ≤ 16) : rect_Grow.f (k + 1) x y w h r = some (gx0 x r, gx0 y r, gx1 x w r - gx0 x r, gx1 y h r - gx0 y r) := by
  have hf := hF; unfold F V at hf
  unfold rect_Grow.f rect_limit.f
  rw [empty1]
  simp only [Option.bind_some, decide_eq_true_eq]
  have e : mn (mx r (-4194304)) 4194304 = r := by simp only [mx_eq, mn_eq]; omega
  rw [e, w64 (2 * r) (by omega) (by omega), w64 (w + 2 * r) (by omega) (by omega), w64 (h + 2 * r) (by omega) (by omega), if_neg (by simpa using hF), if_neg (by omega)]
  have e2 : decide (h + 2 * r ≤ 0) = false := by rw [decide_eq_false_iff_not]; omega
  rw [e2]
  simp only [rect_Grow.j0, rect_world.f, rect_meet.f, rect_between.f, Option.bind_some]
  rw [if_neg (by simp), w64 (2 * r) (by omega) (by omega), w64 (x - r) (by omega) (by omega), w64 (y - r) (by omega) (by omega), w64 (w + 2 * r) (by omega) (by omega), w64 (h + 2 * r) (by omega) (by omega), w64 (x - r + (w + 2 * r)) (by omega) (by omega), w64 (y - r + (h + 2 * r)) (by omega) (by omega), w64 (-1048576 + 2097152) (by omega) (by omega)]
  simp only [mx_eq, mn_eq]
  rw [if_neg (by omega), if_neg (by omega)]
  simp only [Option.bind_some, Option.some.injEq, Prod.mk.injEq]
  unfold gx0 gx1
  refine ⟨rfl, rfl, ?_, ?_⟩
  · rw [w64 _ (by omega) (by omega)]; omega
  · rw [w64 _ (by omega) (by omega)]; omega
theorem growF {x y w h r : Int} (hF : F x y w h) (h0 : 0 ≤ r) (h1 : r ≤ 16) : F (gx0 x r) (gx0 y r) (gx1 x w r - gx0 x r) (gx1 y h r - gx0 y r) := by
  unfold F V gx0 gx1 at *
  omega
end Go.Proofs.Ytocefehnemahhaa.G
