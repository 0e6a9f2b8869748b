import Derived.Test.YtocefehnemahhaaMu
namespace Go.Proofs.Ytocefehnemahhaa.G
open Go.RowKit Go.Proofs.YtocefehnemahhaaW.PrintWords Go.Proofs.YtocefehnemahhaaW.PrintLast Go.Proofs.YtocefehnemahhaaW.PrintMore
set_option linter.unusedVariables false
set_option linter.unusedSimpArgs false
theorem wi (a lo hi : Int) : imageeditorref16_within.f a lo hi = some (decide (lo ≤ a ∧ a ≤ hi)) := by
  unfold imageeditorref16_within.f
  by_cases h : a ≥ lo
  · rw [if_pos h]; congr 1; rw [decide_eq_decide]; omega
  · rw [if_neg h]; congr 1; symm; rw [decide_eq_false_iff_not]; omega
theorem count_eq (k : Nat) (a : Int) : imageeditorref16_count.f (k + 1) a = some (if a = 5 ∨ a = 6 then 0 else if a = 3 ∨ a = 9 then 2 else 1) := by
  unfold imageeditorref16_count.f
  simp only [imageeditorref16_count.j0]
  by_cases h5 : a = 5
  · subst h5; rfl
  by_cases h6 : a = 6
  · subst h6; rfl
  have e : (a == 6) = false := beq_eq_false_iff_ne.mpr h6
  rw [if_neg h5, e, if_neg (by simp)]
  by_cases h3 : a = 3
  · subst h3; rfl
  by_cases h9 : a = 9
  · subst h9; rfl
  rw [if_neg h3, if_neg h9, if_neg (by omega), if_neg (by omega)]
theorem check_eq (k : Nat) (a : Int) (l : List Int) : imageeditorref16_Check.f (k + 2) a l = filter_Check.f a l := by
  unfold imageeditorref16_Check.f filter_Check.f
  rw [wi]
  simp only [Option.bind_some, decide_eq_true_eq]
  by_cases ho : a < 1 ∨ 10 < a
  · rw [if_neg (by omega), if_pos ho]
  rw [if_pos (by omega), if_neg ho, count_eq]
  have hk : a = 1 ∨ a = 2 ∨ a = 3 ∨ a = 4 ∨ a = 5 ∨ a = 6 ∨ a = 7 ∨ a = 8 ∨ a = 9 ∨ a = 10 := by omega
  clear ho
  have e1 : ∀ (x lo hi : Int), (if decide (lo ≤ x ∧ x ≤ hi) = true then some (0 : Int) else some 2) = some (if x < lo ∨ hi < x then 2 else 0) := by
    intro x lo hi
    by_cases h : lo ≤ x ∧ x ≤ hi
    · rw [if_pos (by simpa using h), if_neg (by omega)]
    · rw [if_neg (by simpa using h), if_pos (by omega)]
  rcases hk with rfl | rfl | rfl | rfl | rfl | rfl | rfl | rfl | rfl | rfl
  all_goals simp only [Option.bind_some]
  case inr.inr.inr.inr.inl =>
    cases l with
    | nil => rfl
    | cons x t => rw [if_neg (by simp; omega), if_pos (by simp [rngs])]
  case inr.inr.inr.inr.inr.inl =>
    cases l with
    | nil => rfl
    | cons x t => rw [if_neg (by simp; omega), if_pos (by simp [rngs])]
  case inr.inr.inl =>
    match l with
    | [] => rfl
    | [x] => rfl
    | [x, y] =>
      simp [imageeditorref16_Check.j0, wi, rngs, rd]
      by_cases h1 : 0 ≤ x ∧ x ≤ 16
      · rw [if_pos h1]
        by_cases h2 : 0 ≤ y ∧ y ≤ 262140
        · rw [if_pos h2, if_neg (by omega)]
        · rw [if_neg h2, if_pos (by omega)]
      · rw [if_neg h1, if_pos (by omega)]
    | x :: y :: z :: t => rw [if_neg (by simp; omega), if_pos (by simp [rngs])]
  case inr.inr.inr.inr.inr.inr.inr.inr.inl =>
    match l with
    | [] => rfl
    | [x] => rfl
    | [x, y] =>
      simp [imageeditorref16_Check.j0, wi, rngs, rd]
      by_cases h1 : -16 ≤ x ∧ x ≤ 16
      · rw [if_pos h1]
        by_cases h2 : -16 ≤ y ∧ y ≤ 16
        · rw [if_pos h2, if_neg (by omega)]
        · rw [if_neg h2, if_pos (by omega)]
      · rw [if_neg h1, if_pos (by omega)]
    | x :: y :: z :: t => rw [if_neg (by simp; omega), if_pos (by simp [rngs])]
  all_goals
    match l with
    | [] => rfl
    | [x] =>
      simp [imageeditorref16_Check.j0, wi, rngs, rd]
      split <;> split <;> first | rfl | omega
    | x :: y :: t => rw [if_neg (by simp; omega), if_pos (by simp [rngs])]

/-! The law of uniform images. -/
theorem cl_id2 (x : Int) : (mn 65535 (mx x 0) == x) = decide (0 ≤ x ∧ x ≤ 65535) := by
  rw [Bool.eq_iff_iff, beq_iff_eq, decide_eq_true_iff, mx_eq, mn_eq]
  omega
theorem valid06 (p : S51) : imageeditorref06_Valid.f p.f0 p.f1 p.f2 p.f3 = some (decide (pv p)) := by
  simp only [imageeditorref06_Valid.f, imageeditorref06_Limit.f, imageeditorref06_U.f, imageeditorref01_Clamp.f, Option.bind_some, cl_id2]
  congr 1
  rw [Bool.eq_iff_iff, decide_eq_true_iff (p := pv p)]
  simp only [Bool.and_eq_true, decide_eq_true_iff]
  unfold pv
  omega
def sides (W H : Int) : Prop := 0 ≤ W ∧ W ≤ 256 ∧ 0 ≤ H ∧ H ≤ 256 ∧ (W = 0 ↔ H = 0)
theorem xor_sides {W H : Int} : (((W == 0) != (H == 0)) = true) ↔ ¬ (W = 0 ↔ H = 0) := by
  have e : ∀ z : Int, (z == 0) = decide (z = 0) := fun z => by rw [Bool.eq_iff_iff, beq_iff_eq, decide_eq_true_iff]
  rw [e, e]
  by_cases h1 : W = 0 <;> by_cases h2 : H = 0 <;> simp [h1, h2]
theorem new_bad {W H : Int} (h : ¬ sides W H) (p : S51) (k : Nat) : imageeditorref11_New.f (k + 1) W H p.f0 p.f1 p.f2 p.f3 = some (0, 0, [], 15) := by
  have hj : ∀ b : Bool, b = true → imageeditorref11_New.j0 (k + 1) W H b p.f0 p.f1 p.f2 p.f3 = some (0, 0, [], 15) := fun b hb => by rw [imageeditorref11_New.j0, if_pos hb]
  unfold imageeditorref11_New.f
  split
  · exact hj _ rfl
  · split
    · exact hj _ rfl
    · split
      · exact hj _ rfl
      · split
        · exact hj _ rfl
        · exact hj _ (xor_sides.2 fun e => h (by unfold sides; exact ⟨by omega, by omega, by omega, by omega, e⟩))
theorem new_good {W H : Int} (h : sides W H) (p : S51) (k : Nat) : imageeditorref11_New.f (k + 1) W H p.f0 p.f1 p.f2 p.f3 = if pv p then imageeditorref11_New.l0 k W H 0 p.f0 p.f1 p.f2 p.f3 W H [] else some (0, 0, [], 2) := by
  obtain ⟨h0, h1, h2, h3, h4⟩ := h
  have hb : ((W == 0) != (H == 0)) = false := Bool.eq_false_iff.2 fun e => xor_sides.1 e h4
  rw [imageeditorref11_New.f, if_neg (by omega), if_neg (by omega), if_neg (by omega), if_neg (by omega), hb, imageeditorref11_New.j0, if_neg (by decide), valid06, Option.bind_some]
  by_cases hp : pv p
  · rw [decide_eq_true hp, if_pos rfl, if_pos hp]
  · rw [decide_eq_false hp, if_neg (by decide), if_neg hp]
theorem new_l0 {W H : Int} (h : sides W H) (p : S51) : ∀ (n : Nat) (i : Int) (acc : List S51), i + n = W * H → 0 ≤ i → acc.length + n ≤ 65536 → Ev (fun k => imageeditorref11_New.l0 k W H i p.f0 p.f1 p.f2 p.f3 W H acc) (W, H, acc ++ List.replicate n p, 0)
  | 0, i, acc, e, hi, hl => by
    have ha := area h.1 h.2.1 h.2.2.1 h.2.2.2.1
    refine Ev.step (fun k => ?_) (Ev.now _)
    rw [imageeditorref11_New.l0, wrap_id (W * H) (by omega) (by omega), if_neg (by omega), List.replicate_zero, List.append_nil]
  | n + 1, i, acc, e, hi, hl => by
    have ha := area h.1 h.2.1 h.2.2.1 h.2.2.2.1
    have := new_l0 h p n (i + 1) (acc ++ [p]) (by omega) (by omega) (by simp; omega)
    rw [List.append_assoc, List.singleton_append, ← List.replicate_succ] at this
    refine Ev.step (fun k => ?_) this
    rw [imageeditorref11_New.l0, wrap_id (W * H) (by omega) (by omega), if_pos (by omega), if_pos (by omega), wrap_id (i + 1) (by omega) (by omega)]
theorem law_loop (P : S51) (l : List S51) (h : ∀ z ∈ l, z = P) (hl : l.length ≤ 65536) (w h_ : Int) : ∀ (n i : Nat), i + n = l.length → Ev (fun k => imageeditorlaw16_FilterUniform.l0 k i P.f0 P.f1 P.f2 P.f3 w h_ l) true
  | 0, i, e => by
    refine Ev.step (fun k => ?_) (Ev.now _)
    rw [imageeditorlaw16_FilterUniform.l0, if_neg (by omega)]
    rfl
  | n + 1, i, e => by
    have := law_loop P l h hl w h_ n (i + 1) (by omega)
    rw [Int.natCast_succ] at this
    refine Ev.step (fun k => ?_) this
    rw [imageeditorlaw16_FilterUniform.l0, if_pos (by omega), if_pos (by omega), rd_T51_at l i (by omega), h _ (List.getElem_mem _), if_neg (by simp), wrap_id _ (by omega) (by omega)]
theorem uni_skip (kd : Int) (l : List Int) (p : S51) (x y : Int) (z : List S51) (b : Bool) (hb : b = true) : Ev (fun k => imageeditorlaw16_FilterUniform.j0 k kd l b p.f0 p.f1 p.f2 p.f3 x y z) true :=
  Ev.step (fun k => by rw [imageeditorlaw16_FilterUniform.j0, if_pos hb]) (Ev.now _)
theorem uniform_pure (p : S51) (W H kd : Int) (l : List Int) : ∃ k, imageeditorlaw16_FilterUniform.f k p.f0 p.f1 p.f2 p.f3 W H kd l = some true := by
  suffices h : Ev (fun k => imageeditorlaw16_FilterUniform.f k p.f0 p.f1 p.f2 p.f3 W H kd l) true from h.rounds
  refine Ev.congr (fun k => by rw [imageeditorlaw16_FilterUniform.f]) ?_
  by_cases hs : sides W H
  case neg => exact Ev.bind (Ev.step (fun k => new_bad hs p k) (Ev.now _)) (Ev.congr (fun k => if_neg (by decide)) (uni_skip _ _ _ _ _ _ _ rfl))
  by_cases hp : pv p
  case neg => exact Ev.bind (Ev.step (fun k => (new_good hs p k).trans (if_neg hp)) (Ev.now _)) (Ev.congr (fun k => if_neg (by decide)) (uni_skip _ _ _ _ _ _ _ rfl))
  have ha := area hs.1 hs.2.1 hs.2.2.1 hs.2.2.2.1
  have hn := new_l0 hs p (W * H).toNat 0 [] (by omega) (by omega) (by simp; omega)
  refine Ev.bind (Ev.step (fun k => (new_good hs p k).trans (if_pos hp)) hn) (Ev.congr (fun k => if_pos rfl) ?_)
  rw [List.nil_append]
  by_cases hz : p.f3 = 0
  · exact Ev.congr (fun k => if_pos hz) (uni_skip _ _ _ _ _ _ _ rfl)
  refine Ev.congr (fun k => if_neg hz) ?_
  by_cases hb : wrap64 (W * H) > 1024
  · exact Ev.congr (fun k => if_pos hb) (uni_skip _ _ _ _ _ _ _ rfl)
  refine Ev.congr (fun k => if_neg hb) ?_
  rw [wrap_id _ (by omega) (by omega)] at hb
  obtain ⟨cc, hc⟩ : ∃ cc, filter_Check.f kd l = some cc := ⟨_, rfl⟩
  refine Ev.bind (Ev.step (fun k => rfl) (Ev.step (fun k => (check_eq k kd l).trans hc) (Ev.now _))) ?_
  by_cases h0 : cc = 0
  case neg => exact uni_skip _ _ _ _ _ _ _ (by simp [h0])
  subst h0
  have hI : iv W H (List.replicate (W * H).toNat p) := ⟨hs.1, hs.2.1, hs.2.2.1, hs.2.2.2.1, hs.2.2.2.2, by rw [List.length_replicate]; omega, fun q hq => by rw [List.eq_of_mem_replicate hq]; exact hp⟩
  have tail : ∀ (x y : Int) (z : List S51), (∀ q ∈ z, q = uniS kd p) → z.length = (W * H).toNat → Ev (fun k => imageeditorlaw16_FilterUniform.j1 k kd (((z.length : Nat) : Int) != (((List.replicate (W * H).toNat p).length : Nat) : Int)) p.f0 p.f1 p.f2 p.f3 x y z) true := fun x y z hq hl => by
    rw [List.length_replicate, hl]
    have hL := fun P (e : P = uniS kd p) => law_loop P z (fun q h => (hq q h).trans e.symm) (by omega) x y z.length 0 (by omega)
    refine Ev.step (fun k => by rw [imageeditorlaw16_FilterUniform.j1, if_neg (by simp)]) ?_
    by_cases h5 : kd = 5
    · refine Ev.congr (fun k => if_pos h5) (Ev.step (fun k => by rw [imageeditorlaw16_FilterUniform.j2, if_neg (by omega)]) (Ev.step (fun k => by rw [imageeditorlaw16_FilterUniform.j3]) ?_))
      exact hL ⟨0, 0, 0, p.f3⟩ (by rw [uniS, if_pos h5])
    · refine Ev.congr (fun k => if_neg h5) ?_
      by_cases h6 : kd = 6
      · refine Ev.step (fun k => by rw [imageeditorlaw16_FilterUniform.j2, if_pos h6]) (Ev.step (fun k => by rw [imageeditorlaw16_FilterUniform.j3]) ?_)
        exact hL ⟨32768, 32768, 32768, p.f3⟩ (by rw [uniS, if_neg h5, if_pos h6])
      · refine Ev.step (fun k => by rw [imageeditorlaw16_FilterUniform.j2, if_neg h6]) (Ev.step (fun k => by rw [imageeditorlaw16_FilterUniform.j3]) ?_)
        exact hL p (by rw [uniS, if_neg h5, if_neg h6])
  refine Ev.step (fun k => by rw [imageeditorlaw16_FilterUniform.j0, if_neg (by decide)]) ?_
  by_cases hW : W = 0
  · subst hW
    refine Ev.bind (whole_none hI hc) (Ev.congr (fun k => if_pos rfl) (tail 0 0 [] (by simp) (by simp)))
  · have e1 : ((H.toNat * W.toNat : Nat) : Int) = W * H := by
      have := hs.1; have := hs.2.2.1
      rw [Int.natCast_mul, show (H.toNat : Int) = H by omega, show (W.toNat : Int) = W by omega, Int.mul_comm]
    have e2 : (whole W H (List.replicate (W * H).toNat p) kd l).length = (W * H).toNat := by
      unfold whole
      rw [imS_len]
      omega
    exact Ev.bind (whole_ev hI hc hW) (Ev.congr (fun k => if_pos rfl) (tail _ _ _ (whole_const hp hz hc hI hW) e2))
end Go.Proofs.Ytocefehnemahhaa.G
