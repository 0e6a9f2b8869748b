import Derived.Test.YtocefehnemahhaaG7
namespace Go.Proofs.Ytocefehnemahhaa.G
open Go.RowKit Go.Proofs.YtocefehnemahhaaW.PrintWords Go.Proofs.YtocefehnemahhaaW.PrintLast Go.Proofs.YtocefehnemahhaaW.PrintMore
set_option linter.unusedVariables false
set_option linter.unusedSimpArgs false
theorem w64 (x : Int) (h1 : -9223372036854775808 ≤ x) (h2 : x ≤ 9223372036854775807) : wrap64 x = x := by
  unfold wrap64; omega
def V (x y w h : Int) : Prop := -1048576 ≤ x ∧ x ≤ 1048576 ∧ -1048576 ≤ y ∧ y ≤ 1048576 ∧ 0 ≤ w ∧ 0 ≤ h ∧ w ≤ 1048576 - x ∧ h ≤ 1048576 - y
instance (x y w h : Int) : Decidable (V x y w h) := by unfold V; infer_instance
theorem span_eq (a n : Int) : rect_span.f a n = some (decide (-1048576 ≤ a ∧ a ≤ 1048576 ∧ 0 ≤ n ∧ n ≤ 1048576 - a)) := by
  unfold rect_span.f
  by_cases h1 : a ≥ -1048576
  · by_cases h2 : a ≤ 1048576
    · rw [w64 (1048576 - a) (by omega) (by omega), if_pos h1, if_pos h2]
      by_cases h3 : n ≥ 0
      · rw [if_pos h3]; congr 1; rw [decide_eq_decide]; omega
      · rw [if_neg h3]; congr 1; symm; rw [decide_eq_false_iff_not]; omega
    · rw [if_pos h1, if_neg h2]; congr 1; symm; rw [decide_eq_false_iff_not]; omega
  · rw [if_neg h1]; congr 1; symm; rw [decide_eq_false_iff_not]; omega
theorem valid1 (x y w h : Int) : rect_Valid.f x y w h = some (decide (V x y w h)) := by
  unfold rect_Valid.f
  rw [span_eq, span_eq]
  simp only [Option.bind_some, decide_eq_true_eq]
  by_cases h1 : -1048576 ≤ x ∧ x ≤ 1048576 ∧ 0 ≤ w ∧ w ≤ 1048576 - x
  · rw [if_pos h1]; congr 1; rw [decide_eq_decide]; unfold V; omega
  · rw [if_neg h1]; congr 1; symm; rw [decide_eq_false_iff_not]; unfold V; omega
theorem valid2 (x y w h : Int) : imageeditorref02_Valid.f x y w h = some (decide (V x y w h)) := by
  unfold imageeditorref02_Valid.f
  by_cases h1 : x < -1048576
  · rw [if_pos h1]; congr 1; symm; rw [decide_eq_false_iff_not]; unfold V; omega
  by_cases h2 : x > 1048576
  · rw [if_neg h1, if_pos h2]; congr 1; symm; rw [decide_eq_false_iff_not]; unfold V; omega
  by_cases h3 : y < -1048576
  · rw [if_neg h1, if_neg h2, if_pos h3]; congr 1; symm; rw [decide_eq_false_iff_not]; unfold V; omega
  by_cases h4 : y > 1048576
  · rw [if_neg h1, if_neg h2, if_neg h3, if_pos h4]; congr 1; symm; rw [decide_eq_false_iff_not]; unfold V; omega
  rw [w64 (1048576 - x) (by omega) (by omega), w64 (1048576 - y) (by omega) (by omega), if_neg h1, if_neg h2, if_neg h3, if_neg h4]
  by_cases h5 : w ≥ 0
  · by_cases h6 : h ≥ 0
    · by_cases h7 : w ≤ 1048576 - x
      · rw [if_pos h5, if_pos h6, if_pos h7]; congr 1; rw [decide_eq_decide]; unfold V; omega
      · rw [if_pos h5, if_pos h6, if_neg h7]; congr 1; symm; rw [decide_eq_false_iff_not]; unfold V; omega
    · rw [if_pos h5, if_neg h6]; congr 1; symm; rw [decide_eq_false_iff_not]; unfold V; omega
  · rw [if_neg h5]; congr 1; symm; rw [decide_eq_false_iff_not]; unfold V; omega
/-- Valid, with pixels. -/
def F (x y w h : Int) : Prop := V x y w h ∧ 0 < w ∧ 0 < h
instance (x y w h : Int) : Decidable (F x y w h) := by unfold F; infer_instance
theorem empty1 (x y w h : Int) : rect_Empty.f x y w h = some (decide (¬ F x y w h)) := by
  unfold rect_Empty.f rect_known.f
  rw [valid1]
  simp only [Option.bind_some, decide_eq_true_eq]
  by_cases hv : V x y w h
  · rw [if_pos hv]
    simp only [Option.bind_some]
    by_cases h1 : w = 0
    · rw [if_pos h1]; congr 1; symm; rw [decide_eq_true_eq]; unfold F; omega
    · rw [if_neg h1]
      congr 1
      have hv' := hv; unfold V at hv'
      by_cases h2 : h = 0
      · subst h2; simp [F]
      · have h3 : (h == 0) = false := beq_eq_false_iff_ne.mpr h2
        rw [h3]; symm; rw [decide_eq_false_iff_not, Decidable.not_not]; exact ⟨hv, by omega, by omega⟩
  · rw [if_neg hv]
    simp only [Option.bind_some, if_true]
    congr 1; symm; rw [decide_eq_true_eq]; exact fun h => hv h.1
theorem empty2 (x y w h : Int) : imageeditorref02_Empty.f x y w h = some (decide (¬ F x y w h)) := by
  unfold imageeditorref02_Empty.f
  rw [valid2]
  simp only [Option.bind_some, decide_eq_true_eq]
  by_cases hv : V x y w h
  · rw [if_pos hv]
    by_cases h1 : w = 0
    · rw [if_pos h1]; congr 1; symm; rw [decide_eq_true_eq]; unfold F; omega
    · rw [if_neg h1]
      congr 1
      have hv' := hv; unfold V at hv'
      by_cases h2 : h = 0
      · subst h2; simp [F]
      · have h3 : (h == 0) = false := beq_eq_false_iff_ne.mpr h2
        rw [h3]; symm; rw [decide_eq_false_iff_not, Decidable.not_not]; exact ⟨hv, by omega, by omega⟩
  · rw [if_neg hv]
    congr 1; symm; rw [decide_eq_true_eq]; exact fun h => hv h.1
theorem mx_eq (a b : Int) : mx a b = max a b := by unfold mx; omega
theorem mn_eq (a b : Int) : mn a b = min a b := by unfold mn; omega
theorem wi (a lo hi : Int) : imageeditorref16_within.f a lo hi = some (decide (lo ≤ a ∧ a ≤ hi)) := by
  unfold imageeditorref16_within.f
  by_cases h : a ≥ lo
  · rw [if_pos h]; congr 1; rw [decide_eq_decide]; omega
  · rw [if_neg h]; congr 1; symm; rw [decide_eq_false_iff_not]; omega
theorem count_eq (k : Nat) (a : Int) : imageeditorref16_count.f (k + 1) a = some (if a = 5 ∨ a = 6 then 0 else if a = 3 ∨ a = 9 then 2 else 1) := by
  unfold imageeditorref16_count.f
  simp only [imageeditorref16_count.j0]
  by_cases h5 : a = 5
  · subst h5; rfl
  by_cases h6 : a = 6
  · subst h6; rfl
  have e : (a == 6) = false := beq_eq_false_iff_ne.mpr h6
  rw [if_neg h5, e, if_neg (by simp)]
  by_cases h3 : a = 3
  · subst h3; rfl
  by_cases h9 : a = 9
  · subst h9; rfl
  rw [if_neg h3, if_neg h9, if_neg (by omega), if_neg (by omega)]
theorem check_eq (k : Nat) (a : Int) (l : List Int) : imageeditorref16_Check.f (k + 2) a l = filter_Check.f a l := by
  unfold imageeditorref16_Check.f filter_Check.f
  rw [wi]
  simp only [Option.bind_some, decide_eq_true_eq]
  by_cases ho : a < 1 ∨ 10 < a
  · rw [if_neg (by omega), if_pos ho]
  rw [if_pos (by omega), if_neg ho, count_eq]
  have hk : a = 1 ∨ a = 2 ∨ a = 3 ∨ a = 4 ∨ a = 5 ∨ a = 6 ∨ a = 7 ∨ a = 8 ∨ a = 9 ∨ a = 10 := by omega
  clear ho
  have e1 : ∀ (x lo hi : Int), (if decide (lo ≤ x ∧ x ≤ hi) = true then some (0 : Int) else some 2) = some (if x < lo ∨ hi < x then 2 else 0) := by
    intro x lo hi
    by_cases h : lo ≤ x ∧ x ≤ hi
    · rw [if_pos (by simpa using h), if_neg (by omega)]
    · rw [if_neg (by simpa using h), if_pos (by omega)]
  rcases hk with rfl | rfl | rfl | rfl | rfl | rfl | rfl | rfl | rfl | rfl
  all_goals simp only [Option.bind_some]
  case inr.inr.inr.inr.inl =>
    cases l with
    | nil => rfl
    | cons x t => rw [if_neg (by simp; omega), if_pos (by simp [rngs])]
  case inr.inr.inr.inr.inr.inl =>
    cases l with
    | nil => rfl
    | cons x t => rw [if_neg (by simp; omega), if_pos (by simp [rngs])]
  case inr.inr.inl =>
    match l with
    | [] => rfl
    | [x] => rfl
    | [x, y] =>
      simp [imageeditorref16_Check.j0, wi, rngs, rd]
      by_cases h1 : 0 ≤ x ∧ x ≤ 16
      · rw [if_pos h1]
        by_cases h2 : 0 ≤ y ∧ y ≤ 262140
        · rw [if_pos h2, if_neg (by omega)]
        · rw [if_neg h2, if_pos (by omega)]
      · rw [if_neg h1, if_pos (by omega)]
    | x :: y :: z :: t => rw [if_neg (by simp; omega), if_pos (by simp [rngs])]
  case inr.inr.inr.inr.inr.inr.inr.inr.inl =>
    match l with
    | [] => rfl
    | [x] => rfl
    | [x, y] =>
      simp [imageeditorref16_Check.j0, wi, rngs, rd]
      by_cases h1 : -16 ≤ x ∧ x ≤ 16
      · rw [if_pos h1]
        by_cases h2 : -16 ≤ y ∧ y ≤ 16
        · rw [if_pos h2, if_neg (by omega)]
        · rw [if_neg h2, if_pos (by omega)]
      · rw [if_neg h1, if_pos (by omega)]
    | x :: y :: z :: t => rw [if_neg (by simp; omega), if_pos (by simp [rngs])]
  all_goals
    match l with
    | [] => rfl
    | [x] =>
      simp [imageeditorref16_Check.j0, wi, rngs, rd]
      split <;> split <;> first | rfl | omega
    | x :: y :: t => rw [if_neg (by simp; omega), if_pos (by simp [rngs])]
theorem check_range {a : Int} {l : List Int} (h : filter_Check.f a l = some 0) : (a = 5 ∨ a = 6) ∧ l = [] ∨ (a = 9 ∧ ∃ x y, l = [x, y] ∧ -16 ≤ x ∧ x ≤ 16 ∧ -16 ≤ y ∧ y ≤ 16) ∨ (a = 10 ∧ ∃ x, l = [x] ∧ 1 ≤ x ∧ x ≤ 16) ∨ (a = 3 ∧ ∃ x y, l = [x, y] ∧ 0 ≤ x ∧ x ≤ 16 ∧ 0 ≤ y ∧ y ≤ 262140) ∨ ((a = 1 ∨ a = 2 ∨ a = 4 ∨ a = 7 ∨ a = 8) ∧ ∃ x, l = [x] ∧ 0 ≤ x ∧ x ≤ 16 ∧ (a = 2 → x ≤ 7) ∧ (a = 4 → x ≤ 4)) := by
  unfold filter_Check.f at h
  have h := Option.some.inj h
  by_cases ho : a < 1 ∨ 10 < a
  · rw [if_pos ho] at h; cases h
  rw [if_neg ho] at h
  have hk : a = 1 ∨ a = 2 ∨ a = 3 ∨ a = 4 ∨ a = 5 ∨ a = 6 ∨ a = 7 ∨ a = 8 ∨ a = 9 ∨ a = 10 := by omega
  clear ho
  by_cases hl : l.length ≠ (rngs a).length
  · rw [if_pos hl] at h; cases h
  rw [if_neg hl] at h
  have hl := Decidable.not_not.mp hl
  rcases hk with rfl | rfl | rfl | rfl | rfl | rfl | rfl | rfl | rfl | rfl
  all_goals simp [rngs] at hl
  case inr.inr.inr.inr.inl => exact .inl ⟨.inl rfl, hl⟩
  case inr.inr.inr.inr.inr.inl => exact .inl ⟨.inr rfl, hl⟩
  case inr.inr.inl =>
    match l, hl with
    | [x, y], _ =>
      simp [rngs] at h
      exact .inr (.inr (.inr (.inl ⟨rfl, x, y, rfl, by omega, by omega, by omega, by omega⟩)))
  case inr.inr.inr.inr.inr.inr.inr.inr.inl =>
    match l, hl with
    | [x, y], _ =>
      simp [rngs] at h
      exact .inr (.inl ⟨rfl, x, y, rfl, by omega, by omega, by omega, by omega⟩)
  case inr.inr.inr.inr.inr.inr.inr.inr.inr =>
    match l, hl with
    | [x], _ =>
      simp [rngs] at h
      exact .inr (.inr (.inl ⟨rfl, x, rfl, by omega, by omega⟩))
  all_goals
    match l, hl with
    | [x], _ =>
      simp [rngs] at h
      exact .inr (.inr (.inr (.inr ⟨by decide, x, rfl, by omega, by omega, by omega, by omega⟩)))
theorem reachj (k : Nat) (l : List Int) (a : Int) (b : Bool) : imageeditorref16_Reach.j0 (k + 1) l a b = filter_Reach.j0 (k + 1) l a b := rfl
theorem reach_eq (k : Nat) (a : Int) (l : List Int) : imageeditorref16_Reach.f (k + 2) a l = filter_Reach.f (k + 2) a l := by
  unfold imageeditorref16_Reach.f filter_Reach.f
  rw [check_eq]
  rfl
theorem reach_val (k : Nat) {a : Int} {l : List Int} (h : filter_Check.f a l = some 0) : ∃ r, filter_Reach.f (k + 1) a l = some r ∧ 0 ≤ r ∧ r ≤ 16 := by
  unfold filter_Reach.f
  rw [h]
  simp only [Option.bind_some, if_true]
  rcases check_range h with ⟨h1 | h1, rfl⟩ | ⟨rfl, x, y, rfl, hx⟩ | ⟨rfl, x, rfl, hx⟩ | ⟨rfl, x, y, rfl, hx⟩ | ⟨ha, x, rfl, hx⟩
  · subst h1; exact ⟨1, rfl, by omega, by omega⟩
  · subst h1; exact ⟨1, rfl, by omega, by omega⟩
  · refine ⟨mx (mx (mx x (wrap64 (-x))) y) (wrap64 (-y)), rfl, ?_, ?_⟩
    · rw [w64 (-x) (by omega) (by omega), w64 (-y) (by omega) (by omega)]; simp only [mx_eq]; omega
    · rw [w64 (-x) (by omega) (by omega), w64 (-y) (by omega) (by omega)]; simp only [mx_eq]; omega
  · refine ⟨wrap64 (x - 1), rfl, ?_, ?_⟩ <;> (rw [w64 (x - 1) (by omega) (by omega)]; omega)
  · exact ⟨x, rfl, by omega, by omega⟩
  · rcases ha with rfl | rfl | rfl | rfl | rfl <;> exact ⟨x, rfl, by omega, by omega⟩
theorem reach_zero (k : Nat) {a : Int} {l : List Int} {c : Int} (h : filter_Check.f a l = some c) (hc : c ≠ 0) : filter_Reach.f (k + 1) a l = some 0 := by
  unfold filter_Reach.f
  rw [h]
  simp only [Option.bind_some]
  rw [if_neg hc]
theorem span0 (k : Nat) {x y w h : Int} (hF : F x y w h) : imageeditorref02_span.f (k + 1) x y w h 0 = some (x, x + w - 1) := by
  have hf := hF; unfold F V at hf
  unfold imageeditorref02_span.f
  rw [valid2]
  simp only [Option.bind_some, decide_eq_true_eq]
  have e : (h == 0) = false := beq_eq_false_iff_ne.mpr (by omega)
  rw [if_pos hF.1, if_neg (by omega), e]
  simp only [imageeditorref02_span.j0]
  rw [if_neg (by simp), if_pos trivial, w64 (x + w) (by omega) (by omega), w64 (x + w - 1) (by omega) (by omega)]
theorem span1 (k : Nat) {x y w h : Int} (hF : F x y w h) : imageeditorref02_span.f (k + 1) x y w h 1 = some (y, y + h - 1) := by
  have hf := hF; unfold F V at hf
  unfold imageeditorref02_span.f
  rw [valid2]
  simp only [Option.bind_some, decide_eq_true_eq]
  have e : (h == 0) = false := beq_eq_false_iff_ne.mpr (by omega)
  rw [if_pos hF.1, if_neg (by omega), e]
  simp only [imageeditorref02_span.j0]
  rw [if_neg (by simp), if_neg (by simp), w64 (y + h) (by omega) (by omega), w64 (y + h - 1) (by omega) (by omega)]
theorem spanE (k : Nat) {x y w h : Int} (a : Int) (hF : ¬ F x y w h) : imageeditorref02_span.f (k + 1) x y w h a = some (0, -1) := by
  unfold imageeditorref02_span.f
  rw [valid2]
  simp only [Option.bind_some, decide_eq_true_eq]
  by_cases hv : V x y w h
  · rw [if_pos hv]
    have hv' := hv; unfold V at hv'
    by_cases h1 : w = 0
    · rw [if_pos h1]; rfl
    · rw [if_neg h1]
      have h2 : h = 0 := by
        rcases Int.lt_or_le 0 h with h3 | h3
        · exact absurd ⟨hv, by omega, h3⟩ hF
        · omega
      subst h2; rfl
  · rw [if_neg hv]; rfl
theorem within1 {ax ay aw ah bx by_ bw bh : Int} (hF : F ax ay aw ah) (hV : V bx by_ bw bh) : rect_Within.f ax ay aw ah bx by_ bw bh = some (decide (bx ≤ ax ∧ by_ ≤ ay ∧ ax + aw ≤ bx + bw ∧ ay + ah ≤ by_ + bh)) := by
  have hf := hF; unfold F V at hf
  have hv := hV; unfold V at hv
  unfold rect_Within.f rect_known.f
  rw [empty1, valid1]
  simp only [Option.bind_some, decide_eq_true_eq]
  rw [if_neg (by simpa using hF), if_pos hV]
  simp only [Option.bind_some]
  rw [w64 (ax + aw) (by omega) (by omega), w64 (bx + bw) (by omega) (by omega), w64 (ay + ah) (by omega) (by omega), w64 (by_ + bh) (by omega) (by omega)]
  by_cases h1 : ax ≥ bx
  · by_cases h2 : ay ≥ by_
    · by_cases h3 : ax + aw ≤ bx + bw
      · rw [if_pos h1, if_pos h2, if_pos h3]; congr 1; rw [decide_eq_decide]; omega
      · rw [if_pos h1, if_pos h2, if_neg h3]; congr 1; symm; rw [decide_eq_false_iff_not]; omega
    · rw [if_pos h1, if_neg h2]; congr 1; symm; rw [decide_eq_false_iff_not]; omega
  · rw [if_neg h1]; congr 1; symm; rw [decide_eq_false_iff_not]; omega
theorem has2 (k : Nat) {bx by_ bw bh : Int} (px py : Int) (hF : F bx by_ bw bh) : imageeditorref02_Has.f (k + 1) bx by_ bw bh px py = some (decide (bx ≤ px ∧ px ≤ bx + bw - 1 ∧ by_ ≤ py ∧ py ≤ by_ + bh - 1)) := by
  unfold imageeditorref02_Has.f
  rw [span0 k hF, span1 k hF]
  simp only [Option.bind_some]
  by_cases h1 : px ≥ bx
  · by_cases h2 : px ≤ bx + bw - 1
    · by_cases h3 : py ≥ by_
      · rw [if_pos h1, if_pos h2, if_pos h3]; congr 1; rw [decide_eq_decide]; omega
      · rw [if_pos h1, if_pos h2, if_neg h3]; congr 1; symm; rw [decide_eq_false_iff_not]; omega
    · rw [if_pos h1, if_neg h2]; congr 1; symm; rw [decide_eq_false_iff_not]; omega
  · rw [if_neg h1]; congr 1; symm; rw [decide_eq_false_iff_not]; omega
theorem has2E (k : Nat) {bx by_ bw bh : Int} (px py : Int) (hF : ¬ F bx by_ bw bh) : imageeditorref02_Has.f (k + 1) bx by_ bw bh px py = some false := by
  unfold imageeditorref02_Has.f
  rw [spanE k 0 hF, spanE k 1 hF]
  simp only [Option.bind_some]
  by_cases h1 : px ≥ 0
  · rw [if_pos h1, if_neg (by omega)]
  · rw [if_neg h1]
theorem within2 (k : Nat) {ax ay aw ah bx by_ bw bh : Int} (hF : F ax ay aw ah) (hV : V bx by_ bw bh) : imageeditorref02_Within.f (k + 1) ax ay aw ah bx by_ bw bh = some (decide (bx ≤ ax ∧ by_ ≤ ay ∧ ax + aw ≤ bx + bw ∧ ay + ah ≤ by_ + bh)) := by
  have hf := hF; unfold F V at hf
  have hv := hV; unfold V at hv
  unfold imageeditorref02_Within.f
  rw [empty2, span0 k hF, span1 k hF]
  simp only [Option.bind_some, decide_eq_true_eq]
  rw [if_neg (by simpa using hF)]
  by_cases hb : F bx by_ bw bh
  · rw [has2 k _ _ hb, has2 k _ _ hb]
    have hb' := hb; unfold F V at hb'
    simp only [Option.bind_some, decide_eq_true_eq]
    by_cases h1 : bx ≤ ax ∧ ax ≤ bx + bw - 1 ∧ by_ ≤ ay ∧ ay ≤ by_ + bh - 1
    · rw [if_pos h1]; congr 1; rw [decide_eq_decide]; omega
    · rw [if_neg h1]; congr 1; symm; rw [decide_eq_false_iff_not]; omega
  · rw [has2E k _ _ hb]
    simp only [Option.bind_some]
    rw [if_neg (by simp)]
    congr 1; symm; rw [decide_eq_false_iff_not]
    intro h1
    exact hb ⟨hV, by omega, by omega⟩
/-- The grown rectangle. -/
def gx0 (x r : Int) : Int := max (x - r) (-1048576)
def gx1 (x w r : Int) : Int := min (x + w + r) 1048576
theorem grow1 (k : Nat) {x y w h r : Int} (hF : F x y w h) (h0 : 0 ≤ r) (h1 : r ≤ 16) : rect_Grow.f (k + 1) x y w h r = some (gx0 x r, gx0 y r, gx1 x w r - gx0 x r, gx1 y h r - gx0 y r) := by
  have hf := hF; unfold F V at hf
  unfold rect_Grow.f rect_limit.f
  rw [empty1]
  simp only [Option.bind_some, decide_eq_true_eq]
  have e : mn (mx r (-4194304)) 4194304 = r := by simp only [mx_eq, mn_eq]; omega
  rw [e, w64 (2 * r) (by omega) (by omega), w64 (w + 2 * r) (by omega) (by omega), w64 (h + 2 * r) (by omega) (by omega), if_neg (by simpa using hF), if_neg (by omega)]
  have e2 : decide (h + 2 * r ≤ 0) = false := by rw [decide_eq_false_iff_not]; omega
  rw [e2]
  simp only [rect_Grow.j0, rect_world.f, rect_meet.f, rect_between.f, Option.bind_some]
  rw [if_neg (by simp), w64 (2 * r) (by omega) (by omega), w64 (x - r) (by omega) (by omega), w64 (y - r) (by omega) (by omega), w64 (w + 2 * r) (by omega) (by omega), w64 (h + 2 * r) (by omega) (by omega), w64 (x - r + (w + 2 * r)) (by omega) (by omega), w64 (y - r + (h + 2 * r)) (by omega) (by omega), w64 (-1048576 + 2097152) (by omega) (by omega)]
  simp only [mx_eq, mn_eq]
  rw [if_neg (by omega), if_neg (by omega)]
  simp only [Option.bind_some, Option.some.injEq, Prod.mk.injEq]
  unfold gx0 gx1
  refine ⟨rfl, rfl, ?_, ?_⟩
  · rw [w64 _ (by omega) (by omega)]; omega
  · rw [w64 _ (by omega) (by omega)]; omega
theorem of_eq {x0 x1 y0 y1 : Int} (hx : x0 ≤ x1) (hy : y0 ≤ y1) (b : -8388608 ≤ x0 ∧ x1 ≤ 8388608 ∧ -8388608 ≤ y0 ∧ y1 ≤ 8388608) : imageeditorref02_of.f x0 x1 y0 y1 = some (x0, y0, x1 - x0 + 1, y1 - y0 + 1) := by
  unfold imageeditorref02_of.f
  rw [if_neg (by omega), if_neg (by omega), w64 (x1 - x0) (by omega) (by omega), w64 (x1 - x0 + 1) (by omega) (by omega), w64 (y1 - y0) (by omega) (by omega), w64 (y1 - y0 + 1) (by omega) (by omega)]
theorem grow2 (k : Nat) {x y w h r : Int} (hF : F x y w h) (h0 : 0 ≤ r) (h1 : r ≤ 16) : imageeditorref02_Grow.f (k + 1) x y w h r = some (gx0 x r, gx0 y r, gx1 x w r - gx0 x r, gx1 y h r - gx0 y r) := by
  have hf := hF; unfold F V at hf
  unfold imageeditorref02_Grow.f imageeditorref02_limit.f imageeditorref02_world.f
  rw [empty2, span0 k hF, span1 k hF]
  simp only [Option.bind_some, decide_eq_true_eq]
  have e : mn (mx r (-3145728)) 3145728 = r := by simp only [mx_eq, mn_eq]; omega
  rw [e, if_neg (by simpa using hF), w64 (x - r) (by omega) (by omega), w64 (x + w - 1 + r) (by omega) (by omega), w64 (y - r) (by omega) (by omega), w64 (y + h - 1 + r) (by omega) (by omega)]
  simp only [mx_eq, mn_eq]
  rw [of_eq (by omega) (by omega) (by omega)]
  simp only [Option.bind_some, Option.some.injEq, Prod.mk.injEq]
  unfold gx0 gx1
  refine ⟨rfl, rfl, ?_, ?_⟩ <;> omega
theorem growF {x y w h r : Int} (hF : F x y w h) (h0 : 0 ≤ r) (h1 : r ≤ 16) : F (gx0 x r) (gx0 y r) (gx1 x w r - gx0 x r) (gx1 y h r - gx0 y r) := by
  unfold F V gx0 gx1 at *
  omega
theorem meet12 (k : Nat) {ax ay aw ah bx by_ bw bh : Int} (hA : F ax ay aw ah) (hB : F bx by_ bw bh) (hx : max ax bx < min (ax + aw) (bx + bw)) (hy : max ay by_ < min (ay + ah) (by_ + bh)) :
    ∃ r0 r1 r2 r3, rect_Meet.f ax ay aw ah bx by_ bw bh = some (r0, r1, r2, r3) ∧ imageeditorref02_Meet.f (k + 2) ax ay aw ah bx by_ bw bh = some (r0, r1, r2, r3) := by
  have ha := hA; unfold F V at ha
  have hb := hB; unfold F V at hb
  refine ⟨max ax bx, max ay by_, min (ax + aw) (bx + bw) - max ax bx, min (ay + ah) (by_ + bh) - max ay by_, ?_, ?_⟩
  · unfold rect_Meet.f rect_known.f rect_meet.f rect_between.f
    rw [valid1, valid1]
    simp only [Option.bind_some, decide_eq_true_eq]
    rw [if_pos hA.1, if_pos hB.1]
    simp only [Option.bind_some]
    rw [w64 (ax + aw) (by omega) (by omega), w64 (bx + bw) (by omega) (by omega), w64 (ay + ah) (by omega) (by omega), w64 (by_ + bh) (by omega) (by omega)]
    simp only [mx_eq, mn_eq]
    rw [if_neg (by omega), if_neg (by omega)]
    simp only [Option.bind_some]
    rw [w64 (min (ax + aw) (bx + bw) - max ax bx) (by omega) (by omega), w64 (min (ay + ah) (by_ + bh) - max ay by_) (by omega) (by omega)]
  · unfold imageeditorref02_Meet.f
    rw [empty2, empty2]
    simp only [Option.bind_some, decide_eq_true_eq]
    rw [if_neg (by simpa using hA)]
    have e : decide (¬ F bx by_ bw bh) = false := by rw [decide_eq_false_iff_not, Decidable.not_not]; exact hB
    rw [e]
    simp only [imageeditorref02_Meet.j0]
    rw [if_neg (by simp), span0 k hA, span1 k hA, span0 k hB, span1 k hB]
    simp only [Option.bind_some, mx_eq, mn_eq]
    rw [of_eq (by omega) (by omega) (by omega)]
    simp only [Option.bind_some, Option.some.injEq, Prod.mk.injEq]
    refine ⟨trivial, trivial, ?_, ?_⟩ <;> omega
theorem needs_pure (a : Int) (l : List Int) (o0 o1 o2 o3 b0 b1 b2 b3 : Int) : ∃ n0 n1 n2 n3 er cc rr,
    filter_Needs.f 9 a l o0 o1 o2 o3 b0 b1 b2 b3 = some (n0, n1, n2, n3, er) ∧ imageeditorref16_Needs.f 9 a l o0 o1 o2 o3 b0 b1 b2 b3 = some (n0, n1, n2, n3, er) ∧ filter_Check.f a l = some cc ∧ imageeditorref16_Check.f 9 a l = some cc ∧ filter_Reach.f 9 a l = some rr ∧ imageeditorref16_Reach.f 9 a l = some rr := by
  obtain ⟨cc, hc⟩ : ∃ cc, filter_Check.f a l = some cc := ⟨_, rfl⟩
  have e1 : imageeditorref16_Check.f 9 a l = some cc := (check_eq 7 a l).trans hc
  by_cases h0 : cc = 0
  · rw [h0] at hc e1
    obtain ⟨r, hr, hr0, hr1⟩ := reach_val 8 hc
    have hr2 : imageeditorref16_Reach.f 9 a l = some r := (reach_eq 7 a l).trans hr
    obtain ⟨r', hr', _, _⟩ := reach_val 7 hc
    have e8 : filter_Reach.f 8 a l = some r := by
      rw [← hr]; unfold filter_Reach.f; rfl
    have e9 : imageeditorref16_Reach.f 8 a l = some r := (reach_eq 6 a l).trans e8
    have key : ∃ n0 n1 n2 n3 er, filter_Needs.f 9 a l o0 o1 o2 o3 b0 b1 b2 b3 = some (n0, n1, n2, n3, er) ∧ imageeditorref16_Needs.f 9 a l o0 o1 o2 o3 b0 b1 b2 b3 = some (n0, n1, n2, n3, er) := by
      unfold filter_Needs.f imageeditorref16_Needs.f
      rw [hc, e1, valid1, valid2, valid1, valid2, empty1, empty2]
      simp only [Option.bind_some, if_true, decide_eq_true_eq]
      by_cases hv : V o0 o1 o2 o3
      · rw [if_pos hv, if_pos hv]
        by_cases hw : V b0 b1 b2 b3
        · rw [if_pos hw, if_pos hw]
          by_cases hF : F o0 o1 o2 o3
          · rw [if_neg (by simpa using hF), if_neg (by simpa using hF), within1 hF hw, within2 8 hF hw]
            simp only [Option.bind_some]
            by_cases hi : b0 ≤ o0 ∧ b1 ≤ o1 ∧ o0 + o2 ≤ b0 + b2 ∧ o1 + o3 ≤ b1 + b3
            · have e : (!decide (b0 ≤ o0 ∧ b1 ≤ o1 ∧ o0 + o2 ≤ b0 + b2 ∧ o1 + o3 ≤ b1 + b3)) = false := by simp [hi]
              rw [e]
              simp only [filter_Needs.j0, imageeditorref16_Needs.j0]
              rw [if_neg (by simp), if_neg (by simp), e8, e9]
              simp only [Option.bind_some]
              rw [grow1 7 hF hr0 hr1, grow2 7 hF hr0 hr1]
              simp only [Option.bind_some]
              have hf := hF; unfold F V at hf
              have hw' := hw; unfold V at hw'
              have hB : F b0 b1 b2 b3 := ⟨hw, by omega, by omega⟩
              obtain ⟨m0, m1, m2, m3, q1, q2⟩ := meet12 6 (growF hF hr0 hr1) hB (by unfold gx0 gx1; omega) (by unfold gx0 gx1; omega)
              rw [q1, q2]
              exact ⟨m0, m1, m2, m3, 0, rfl, rfl⟩
            · have e : (!decide (b0 ≤ o0 ∧ b1 ≤ o1 ∧ o0 + o2 ≤ b0 + b2 ∧ o1 + o3 ≤ b1 + b3)) = true := by simp [hi]
              rw [e]
              exact ⟨0, 0, 0, 0, 2, rfl, rfl⟩
          · rw [if_pos hF, if_pos hF]
            exact ⟨0, 0, 0, 0, 2, rfl, rfl⟩
        · rw [if_neg hw, if_neg hw]
          exact ⟨0, 0, 0, 0, 2, rfl, rfl⟩
      · rw [if_neg hv, if_neg hv]
        exact ⟨0, 0, 0, 0, 2, rfl, rfl⟩
    obtain ⟨n0, n1, n2, n3, er, q1, q2⟩ := key
    exact ⟨n0, n1, n2, n3, er, 0, r, q1, q2, hc, e1, hr, hr2⟩
  · refine ⟨0, 0, 0, 0, cc, cc, 0, ?_, ?_, hc, e1, reach_zero 8 hc h0, (reach_eq 7 a l).trans (reach_zero 8 hc h0)⟩
    · unfold filter_Needs.f; rw [hc]; simp only [Option.bind_some]; rw [if_neg h0]
    · unfold imageeditorref16_Needs.f; rw [e1]; simp only [Option.bind_some]; rw [if_neg h0]
end Go.Proofs.Ytocefehnemahhaa.G
