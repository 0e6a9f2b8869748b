import Derived.Test.YtocefehnemahhaaMo
import Derived.Test.YtocefehnemahhaaG12
import Derived.Test.YtocefehnemahhaaG13
namespace Go.Proofs.Ytocefehnemahhaa.G
open Go.RowKit Go.Proofs.YtocefehnemahhaaW.PrintWords Go.Proofs.YtocefehnemahhaaW.PrintLast Go.Proofs.YtocefehnemahhaaW.PrintMore
set_option linter.unusedVariables false
set_option linter.unusedSimpArgs false
/-! The reference's check of an image, and the comparison of images. -/
theorem cl_id2 (x : Int) : (mn 65535 (mx x 0) == x) = decide (0 ≤ x ∧ x ≤ 65535) := by
  rw [Bool.eq_iff_iff, beq_iff_eq, decide_eq_true_iff, mx_eq, mn_eq]
  omega
theorem valid06 (p : S51) : imageeditorref06_Valid.f p.f0 p.f1 p.f2 p.f3 = some (decide (pv p)) := by
  simp only [imageeditorref06_Valid.f, imageeditorref06_Limit.f, imageeditorref06_U.f, imageeditorref01_Clamp.f, Option.bind_some, cl_id2]
  congr 1
  rw [Bool.eq_iff_iff, decide_eq_true_iff (p := pv p)]
  simp only [Bool.and_eq_true, decide_eq_true_iff]
  unfold pv
  omega
def sides (W H : Int) : Prop := 0 ≤ W ∧ W ≤ 256 ∧ 0 ≤ H ∧ H ≤ 256 ∧ (W = 0 ↔ H = 0)
theorem xor_sides {W H : Int} : (((W == 0) != (H == 0)) = true) ↔ ¬ (W = 0 ↔ H = 0) := by
  have e : ∀ z : Int, (z == 0) = decide (z = 0) := fun z => by rw [Bool.eq_iff_iff, beq_iff_eq, decide_eq_true_iff]
  rw [e, e]
  by_cases h1 : W = 0 <;> by_cases h2 : H = 0 <;> simp [h1, h2]
theorem c11_l0 (W H : Int) (l : List S51) (hl : l.length ≤ 65536) : ∀ (n i : Nat), i + n = l.length → ∃ cc, Ev (fun k => imageeditorref11_Check.l0 k (i : Int) W H l) cc ∧ (cc = 0 → ∀ j : Nat, i ≤ j → ∀ h : j < l.length, pv l[j])
  | 0, i, e => ⟨0, Ev.step (fun k => by rw [imageeditorref11_Check.l0, if_neg (by omega)]) (Ev.now _), fun _ j h1 h2 => by omega⟩
  | n + 1, i, e => by
    obtain ⟨cc, h, hp⟩ := c11_l0 W H l hl n (i + 1) (by omega)
    rw [Int.natCast_succ] at h
    by_cases hv : pv (l[i]'(by omega))
    · refine ⟨cc, Ev.step (fun k => ?_) h, fun e j h1 h2 => ?_⟩
      · rw [imageeditorref11_Check.l0, if_pos (by omega), if_pos (by omega), rd_T51_at l i (by omega), valid06, Option.bind_some, decide_eq_true hv, if_pos rfl, wrap_id _ (by omega) (by omega)]
      · by_cases hj : i = j
        · subst hj; exact hv
        · exact hp e j (by omega) h2
    · refine ⟨2, Ev.step (fun k => ?_) (Ev.now _), fun e => absurd e (by decide)⟩
      rw [imageeditorref11_Check.l0, if_pos (by omega), if_pos (by omega), rd_T51_at l i (by omega), valid06, Option.bind_some, decide_eq_false hv, if_neg (by decide)]
theorem c11_j1 (W H : Int) (l : List S51) {b : Bool} (hb : b = true) : Ev (fun k => imageeditorref11_Check.j1 k b W H l) 15 := Ev.step (fun k => by rw [imageeditorref11_Check.j1, if_pos hb]) (Ev.now _)
theorem c11_j0 (W H : Int) (l : List S51) {b : Bool} (hb : b = true) : Ev (fun k => imageeditorref11_Check.j0 k b W H l) 15 := Ev.step (fun k => by rw [imageeditorref11_Check.j0, if_pos hb]) (Ev.now _)
theorem check11 (W H : Int) (l : List S51) : ∃ cc, Ev (fun k => imageeditorref11_Check.f k W H l) cc ∧ (cc = 0 → iv W H l) := by
  have n15 : (15 : Int) = 0 → iv W H l := fun e => absurd e (by decide)
  by_cases h0 : W < 0
  · exact ⟨15, Ev.congr (fun k => by rw [imageeditorref11_Check.f, if_pos h0]) (c11_j0 W H l rfl), n15⟩
  by_cases h1 : W > 256
  · exact ⟨15, Ev.congr (fun k => by rw [imageeditorref11_Check.f, if_neg h0, if_pos h1]) (c11_j0 W H l rfl), n15⟩
  by_cases h2 : H < 0
  · exact ⟨15, Ev.congr (fun k => by rw [imageeditorref11_Check.f, if_neg h0, if_neg h1, if_pos h2]) (c11_j0 W H l rfl), n15⟩
  by_cases h3 : H > 256
  · exact ⟨15, Ev.congr (fun k => by rw [imageeditorref11_Check.f, if_neg h0, if_neg h1, if_neg h2]) (c11_j0 W H l (decide_eq_true h3)), n15⟩
  by_cases h4 : W = 0 ↔ H = 0
  case neg =>
    exact ⟨15, Ev.congr (fun k => by rw [imageeditorref11_Check.f, if_neg h0, if_neg h1, if_neg h2]) (Ev.step (fun k => by rw [imageeditorref11_Check.j0, if_neg (by rw [decide_eq_true_iff]; exact h3), if_pos (xor_sides.2 h4)]) (c11_j1 W H l rfl)), n15⟩
  have e0 : ∀ k, imageeditorref11_Check.f (k + 1) W H l = imageeditorref11_Check.j1 k ((l.length : Int) != wrap64 (W * H)) W H l := fun k => by
    rw [imageeditorref11_Check.f, if_neg h0, if_neg h1, if_neg h2, imageeditorref11_Check.j0, if_neg (by rw [decide_eq_true_iff]; exact h3), if_neg (fun e => xor_sides.1 e h4)]
  have ha := area (W := W) (H := H) (by omega) (by omega) (by omega) (by omega)
  rw [wrap_id (W * H) (by omega) (by omega)] at e0
  by_cases h5 : (l.length : Int) = W * H
  case neg => exact ⟨15, Ev.step e0 (c11_j1 W H l (bne_iff_ne.mpr h5)), n15⟩
  obtain ⟨cc, hc, hp⟩ := c11_l0 W H l (by omega) l.length 0 (by omega)
  refine ⟨cc, Ev.step e0 (Ev.step (fun k => ?_) hc), fun e => ⟨by omega, by omega, by omega, by omega, h4, h5, fun p hm => ?_⟩⟩
  · rw [imageeditorref11_Check.j1, if_neg (by simp [h5])]; rfl
  · obtain ⟨j, hj, rfl⟩ := List.getElem_of_mem hm
    exact hp e j (by omega) hj
theorem same_l0 (W H : Int) (l : List S51) (hl : l.length ≤ 65536) : ∀ (n i : Nat), i + n = l.length → Ev (fun k => imageeditorlaw16_same.l0 k (i : Int) W H l W H l) true
  | 0, i, e => Ev.step (fun k => by rw [imageeditorlaw16_same.l0, if_neg (by omega)]) (Ev.now _)
  | n + 1, i, e => by
    have h := same_l0 W H l hl n (i + 1) (by omega)
    rw [Int.natCast_succ] at h
    refine Ev.step (fun k => ?_) h
    rw [imageeditorlaw16_same.l0, if_pos (by omega), if_pos (by omega), if_pos (by omega), if_neg (by simp), wrap_id _ (by omega) (by omega)]
theorem same_ev (W H : Int) (l : List S51) (hl : l.length ≤ 65536) : Ev (fun k => imageeditorlaw16_same.f k W H l W H l) true := by
  refine Ev.step (f := fun k => imageeditorlaw16_same.l0 k 0 W H l W H l) (fun k => ?_) (same_l0 W H l hl l.length 0 (by omega))
  rw [imageeditorlaw16_same.f, if_pos rfl, if_pos rfl, imageeditorlaw16_same.j0, if_neg (by simp)]
theorem rd_of {xs : List S51} {i : Nat} {p : S51} (h : xs[i]? = some p) : rd_T51 xs (i : Int) = p := by
  unfold rd_T51
  rw [List.getD_eq_getElem?_getD, Int.toNat_natCast, h]
  rfl
section
variable {W H : Int} {l : List S51} {u v : Nat}
theorem getS_in (hI : iv W H l) (hu : u < W.toNat) (hv : v < H.toNat) (i j : Int) : ∃ n : Nat, n < l.length ∧ getS W l 0 0 0 0 W H u v i j = rd_T51 l n := by
  obtain ⟨q0, q1, q2, q3, q4, q5, q6⟩ := hI
  have hi := index_in (W := W) (H := H) (u := cx 0 W u i - 0) (v := cx 0 H v j - 0) (by unfold cx; omega) (by unfold cx; omega)
  refine ⟨((cx 0 H v j - 0) * W + (cx 0 W u i - 0)).toNat, by omega, ?_⟩
  unfold getS
  rw [Int.toNat_of_nonneg hi.1]
theorem getS_self (hu : u < W.toNat) (hv : v < H.toNat) : getS W l 0 0 0 0 W H u v 0 0 = rd_T51 l ((v : Int) * (W.toNat : Int) + u) := by
  unfold getS
  rw [show cx 0 H v 0 - 0 = v by unfold cx; omega, show cx 0 W u 0 - 0 = u by unfold cx; omega, Int.toNat_of_nonneg (by omega)]
theorem whole_at (a : Int) (p : List Int) (hu : u < W.toNat) (hv : v < H.toNat) : rd_T51 (whole W H l a p) ((v * W.toNat + u : Nat) : Int) = apP W l 0 0 0 0 W H a p u v :=
  rd_of (by unfold whole; rw [imS_get _ _ u hu _ 0 v hv, Int.zero_add])
end
end Go.Proofs.Ytocefehnemahhaa.G
