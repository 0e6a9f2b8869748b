import Derived.Test.YtocefehnemahhaaPc
namespace Go.Proofs.Ytocefehnemahhaa.G
open Go.RowKit Go.Proofs.YtocefehnemahhaaW.PrintWords Go.Proofs.YtocefehnemahhaaW.PrintLast Go.Proofs.YtocefehnemahhaaW.PrintMore
set_option linter.unusedVariables false
set_option linter.unusedSimpArgs false
/-! The law of least, middle and greatest values, in plain lists. -/
section
variable {W H : Int} {l : List S51} {u v : Nat}
theorem getS_in (hI : iv W H l) (hu : u < W.toNat) (hv : v < H.toNat) (i j : Int) : ∃ n : Nat, n < l.length ∧ getS W l 0 0 0 0 W H u v i j = rd_T51 l n := by
  obtain ⟨q0, q1, q2, q3, q4, q5, q6⟩ := hI
  have hi := index_in (W := W) (H := H) (u := cx 0 W u i - 0) (v := cx 0 H v j - 0) (by unfold cx; omega) (by unfold cx; omega)
  refine ⟨((cx 0 H v j - 0) * W + (cx 0 W u i - 0)).toNat, by omega, ?_⟩
  unfold getS
  rw [Int.toNat_of_nonneg hi.1]
theorem getS_self (hu : u < W.toNat) (hv : v < H.toNat) : getS W l 0 0 0 0 W H u v 0 0 = rd_T51 l ((v : Int) * (W.toNat : Int) + u) := by
  unfold getS
  rw [show cx 0 H v 0 - 0 = v by unfold cx; omega, show cx 0 W u 0 - 0 = u by unfold cx; omega, Int.toNat_of_nonneg (by omega)]
theorem whole_at (a : Int) (p : List Int) (hu : u < W.toNat) (hv : v < H.toNat) : rd_T51 (whole W H l a p) ((v * W.toNat + u : Nat) : Int) = apP W l 0 0 0 0 W H a p u v :=
  rd_of (by unfold whole; rw [imS_get _ _ u hu _ 0 v hv, Int.zero_add])
theorem ap_rank (hI : iv W H l) (hz : ∀ i : Nat, i < l.length → (rd_T51 l i).f3 ≠ 0) (hu : u < W.toNat) (hv : v < H.toNat) {a r n : Int} (h0 : 0 ≤ r) (hr : r ≤ 16) (hn : 0 ≤ n) (h1 : n < (2 * r + 1) * (2 * r + 1))
    (hf : ∀ g x y, filS g x y W H a [r] = rankS g r n) : apP W l 0 0 0 0 W H a [r] u v = rankS (getS W l 0 0 0 0 W H u v) r n := by
  unfold apP
  rw [hf]
  refine clean_id ?_
  refine rank_mem h0 hr hn h1 (Q := fun z => z ≠ 0) (fun q => q.f3) fun i j => ?_
  obtain ⟨m, hm, e⟩ := getS_in hI hu hv i j
  rw [e]
  exact hz m hm
theorem ap_box0 (hI : iv W H l) (hz : ∀ i : Nat, i < l.length → (rd_T51 l i).f3 ≠ 0) (hu : u < W.toNat) (hv : v < H.toNat) : apP W l 0 0 0 0 W H 1 [0] u v = getS W l 0 0 0 0 W H u v 0 0 := by
  obtain ⟨m, hm, e⟩ := getS_in hI hu hv 0 0
  have h3 := hz m hm
  unfold apP
  rw [show ∀ g x y, filS g x y W H 1 [0] = boxS g 0 from fun _ _ _ => rfl, box_zero (by rw [e, rd_T51_at l m hm]; exact hI.2.2.2.2.2.2 _ (List.getElem_mem _)) (by rw [e]; exact h3)]
  exact clean_id (by rw [e]; exact h3)
theorem whole_id (hI : iv W H l) {a : Int} {p : List Int} (h : ∀ u v : Nat, u < W.toNat → v < H.toNat → apP W l 0 0 0 0 W H a p u v = getS W l 0 0 0 0 W H u v 0 0) : whole W H l a p = l := by
  obtain ⟨q0, q1, q2, q3, q4, q5, q6⟩ := hI
  have hl : l.length = H.toNat * W.toNat := by
    apply Int.ofNat.inj
    show (l.length : Int) = ((H.toNat * W.toNat : Nat) : Int)
    rw [Int.natCast_mul, Int.toNat_of_nonneg q0, Int.toNat_of_nonneg q2, q5, Int.mul_comm]
  refine Eq.trans ?_ (imS_self hl)
  unfold whole
  exact imS_congr fun u v hu hv => by rw [h u v hu hv, getS_self hu hv]
end
theorem ranges_ok {a rad : Int} (h0 : 0 ≤ rad) (h1 : rad ≤ 4) (ha : a = 8 ∨ a = 4 ∨ a = 7 ∨ a = 1) : filter_Check.f a [rad] = some 0 := by
  rcases ha with rfl | rfl | rfl | rfl <;> (unfold filter_Check.f; simp [rngs]; omega)
theorem orders_pure (W H rad : Int) (l : List S51) : ∃ k cc, imageeditorref11_Check.f k W H l = some cc ∧ (cc = 0 → 0 ≤ rad → rad ≤ 4 → (l.length : Int) ≤ 1024 → (∀ i : Nat, i < l.length → (rd_T51 l i).f3 ≠ 0) →
    ∃ lo md hi : List S51, filter_Whole.f k W H l 8 [rad] = some (W, H, lo, 0) ∧ filter_Whole.f k W H l 4 [rad] = some (W, H, md, 0) ∧ filter_Whole.f k W H l 7 [rad] = some (W, H, hi, 0) ∧ lo.length = l.length ∧ md.length = l.length ∧ hi.length = l.length
    ∧ (∀ i : Nat, i < l.length → belowS (rd_T51 lo i) (rd_T51 l i) ∧ belowS (rd_T51 l i) (rd_T51 hi i) ∧ belowS (rd_T51 lo i) (rd_T51 md i) ∧ belowS (rd_T51 md i) (rd_T51 hi i))
    ∧ (rad = 0 → ∃ bx : List S51, filter_Whole.f k W H l 1 [0] = some (W, H, bx, 0) ∧ imageeditorlaw16_same.f k W H lo W H l = some true ∧ imageeditorlaw16_same.f k W H md W H l = some true ∧ imageeditorlaw16_same.f k W H hi W H l = some true ∧ imageeditorlaw16_same.f k W H bx W H l = some true)) := by
  obtain ⟨cc, ⟨K0, hc⟩, hi⟩ := check11 W H l
  by_cases hcc : cc = 0
  case neg => exact ⟨K0, cc, hc K0 (Nat.le_refl _), fun e => absurd e hcc⟩
  have hI := hi hcc
  by_cases hz : 0 ≤ rad ∧ rad ≤ 4 ∧ ∀ i : Nat, i < l.length → (rd_T51 l i).f3 ≠ 0
  case neg => exact ⟨K0, cc, hc K0 (Nat.le_refl _), fun _ h0 h1 _ h2 => absurd ⟨h0, h1, h2⟩ hz⟩
  obtain ⟨h0, h1, hz⟩ := hz
  have ha := area hI.1 hI.2.1 hI.2.2.1 hI.2.2.2.1
  have hl := hI.2.2.2.2.2.1
  obtain ⟨K5, hs⟩ := same_ev W H l (by omega)
  have r8 := ranges_ok h0 h1 (a := 8) (by omega)
  have r4 := ranges_ok h0 h1 (a := 4) (by omega)
  have r7 := ranges_ok h0 h1 (a := 7) (by omega)
  have r1 := ranges_ok (rad := 0) (a := 1) (by omega) (by omega) (by omega)
  by_cases hW : W = 0
  · subst hW
    have hH : H = 0 := hI.2.2.2.2.1.1 rfl
    subst hH
    have hl0 : l = [] := List.eq_nil_of_length_eq_zero (by omega)
    subst hl0
    obtain ⟨K1, w8⟩ := whole_none hI r8
    obtain ⟨K2, w4⟩ := whole_none hI r4
    obtain ⟨K3, w7⟩ := whole_none hI r7
    obtain ⟨K4, w1⟩ := whole_none hI r1
    refine ⟨K0 + K1 + K2 + K3 + K4 + K5, cc, hc _ (by omega), fun _ _ _ _ _ => ⟨[], [], [], w8 _ (by omega), w4 _ (by omega), w7 _ (by omega), rfl, rfl, rfl, fun i hi => absurd hi (Nat.not_lt_zero i), fun _ => ?_⟩⟩
    have s := hs (K0 + K1 + K2 + K3 + K4 + K5) (by omega)
    exact ⟨[], w1 _ (by omega), s, s, s, s⟩
  obtain ⟨K1, w8⟩ := whole_ev hI r8 hW
  obtain ⟨K2, w4⟩ := whole_ev hI r4 hW
  obtain ⟨K3, w7⟩ := whole_ev hI r7 hW
  obtain ⟨K4, w1⟩ := whole_ev hI r1 hW
  obtain ⟨s1, s2, s3, s4⟩ := side_sq h0 (show rad ≤ 16 by omega)
  have hlN : l.length = H.toNat * W.toNat := by
    apply Int.ofNat.inj
    show (l.length : Int) = ((H.toNat * W.toNat : Nat) : Int)
    rw [Int.natCast_mul, Int.toNat_of_nonneg hI.1, Int.toNat_of_nonneg hI.2.2.1, hl, Int.mul_comm]
  have hlen : ∀ a p, (whole W H l a p).length = l.length := fun a p => by unfold whole; rw [imS_len, hlN]
  have e8 : ∀ u v : Nat, u < W.toNat → v < H.toNat → apP W l 0 0 0 0 W H 8 [rad] u v = rankS (getS W l 0 0 0 0 W H u v) rad 0 := fun u v hu hv => ap_rank hI hz hu hv h0 (by omega) (by omega) (by omega) fun _ _ _ => rfl
  have e4 : ∀ u v : Nat, u < W.toNat → v < H.toNat → apP W l 0 0 0 0 W H 4 [rad] u v = rankS (getS W l 0 0 0 0 W H u v) rad ((2 * rad + 1) * (2 * rad + 1) / 2) := fun u v hu hv => ap_rank hI hz hu hv h0 (by omega) (by omega) (by omega) fun _ _ _ => rfl
  have e7 : ∀ u v : Nat, u < W.toNat → v < H.toNat → apP W l 0 0 0 0 W H 7 [rad] u v = rankS (getS W l 0 0 0 0 W H u v) rad ((2 * rad + 1) * (2 * rad + 1) - 1) := fun u v hu hv => ap_rank hI hz hu hv h0 (by omega) (by omega) (by omega) fun _ _ _ => rfl
  refine ⟨K0 + K1 + K2 + K3 + K4 + K5, cc, hc _ (by omega), fun _ _ _ _ _ => ⟨_, _, _, w8 _ (by omega), w4 _ (by omega), w7 _ (by omega), hlen _ _, hlen _ _, hlen _ _, fun i hi => ?_, fun hr => ?_⟩⟩
  · obtain ⟨u, v, hu, hv, rfl⟩ := split_at (m := W.toNat) (n := H.toNat) (k := i) (by omega)
    have eg : rd_T51 l ((v * W.toNat + u : Nat) : Int) = getS W l 0 0 0 0 W H u v 0 0 := by rw [getS_self hu hv, Int.natCast_add, Int.natCast_mul]
    rw [whole_at _ _ hu hv, whole_at _ _ hu hv, whole_at _ _ hu hv, e8 u v hu hv, e4 u v hu hv, e7 u v hu hv, eg]
    exact ⟨rank_first _ h0, rank_last _ h0 (by omega), ranks_below h0 (by omega) (by omega) (by omega) (by omega), ranks_below h0 (by omega) (by omega) (by omega) (by omega)⟩
  · subst hr
    have i8 : whole W H l 8 [0] = l := whole_id hI fun u v hu hv => by rw [e8 u v hu hv, rank_zero]
    have i4 : whole W H l 4 [0] = l := whole_id hI fun u v hu hv => by rw [e4 u v hu hv]; exact rank_zero _
    have i7 : whole W H l 7 [0] = l := whole_id hI fun u v hu hv => by rw [e7 u v hu hv]; exact rank_zero _
    have i1 : whole W H l 1 [0] = l := whole_id hI fun u v hu hv => ap_box0 hI hz hu hv
    have s := hs (K0 + K1 + K2 + K3 + K4 + K5) (by omega)
    refine ⟨_, w1 _ (by omega), ?_, ?_, ?_, ?_⟩
    · rw [i8]; exact s
    · rw [i4]; exact s
    · rw [i7]; exact s
    · rw [i1]; exact s
end Go.Proofs.Ytocefehnemahhaa.G
