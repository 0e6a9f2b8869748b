-- laid by gprint.py (a program of this proof's writer) out of the translation; Lean checks it.
import Derived.Test.YtocefehnemahhaaG0
import Derived.Test.YtocefehnemahhaaG5
import Derived.Test.YtocefehnemahhaaG6
namespace Go.Proofs.Ytocefehnemahhaa.G
open Go.RowKit Go.Proofs.YtocefehnemahhaaW.PrintWords Go.Proofs.YtocefehnemahhaaW.PrintLast Go.Proofs.YtocefehnemahhaaW.PrintMore
attribute [local go_sem] max2_int min2_int max_two min_two max_three min_three max_four min_four   -- for this text's walks alone
set_option linter.unusedVariables false
set_option linter.unusedSimpArgs false

/-! ### imageeditorref02_Grow: function 30 -/
def imageeditorref02_Grow.f (k : Nat) (a0_0 : Int) (a0_1 : Int) (a0_2 : Int) (a0_3 : Int) (a1 : Int) : Option (Int × Int × Int × Int) := (imageeditorref02_Empty.f a0_0 a0_1 a0_2 a0_3).bind fun t249 => (if t249 = true then (some (0, 0, 0, 0)) else ((imageeditorref02_span.f k a0_0 a0_1 a0_2 a0_3 0).bind fun bt250 => ((imageeditorref02_span.f k a0_0 a0_1 a0_2 a0_3 1).bind fun bt252 => ((imageeditorref02_limit.f a1).bind fun t254 => ((imageeditorref02_world.f (wrap64 (bt250.1 - t254)) (wrap64 (bt250.2 + t254)) (wrap64 (bt252.1 - t254)) (wrap64 (bt252.2 + t254))).bind fun bt255 => (some (bt255.1, bt255.2.1, bt255.2.2.1, bt255.2.2.2)))))))
theorem imageeditorref02_Grow.mono : ∀ a0 a1 a2 a3 a4 k, LeO (imageeditorref02_Grow.f k a0 a1 a2 a3 a4) (imageeditorref02_Grow.f (k + 1) a0 a1 a2 a3 a4) := by
 intro a0 a1 a2 a3 a4 k
 unfold imageeditorref02_Grow.f
 repeat' first
   | (with_reducible exact imageeditorref02_span.mono _ _ _ _ _ _)
   | (with_reducible exact LeO.refl _)
   | (with_reducible exact LeO.none _)
   | (with_reducible refine LeO.ite ?_ ?_)
   | (with_reducible refine LeO.bind ?_ (fun _ => ?_))
   | exact imageeditorref02_span.mono _ _ _ _ _ _
   | exact LeO.none _
   | refine LeO.ite ?_ ?_
   | refine LeO.bind ?_ (fun _ => ?_)
set_option maxHeartbeats 8000000 in
set_option maxRecDepth 100000 in
theorem imageeditorref02_Grow.calls (k : Nat) (a0_0 : Int) (a0_1 : Int) (a0_2 : Int) (a0_3 : Int) (a1 : Int) (r1 : Int) (r2 : Int) (r3 : Int) (r4 : Int) (w : World) (h : imageeditorref02_Grow.f k a0_0 a0_1 a0_2 a0_3 a1 = some (r1, r2, r3, r4)) :
  Calls Try.prog 30 #[.agg #[.int .i64 a0_0, .int .i64 a0_1, .int .i64 a0_2, .int .i64 a0_3], .int .i64 a1] w fun e w' => e = .returned (.agg #[.int .i64 r1, .int .i64 r2, .int .i64 r3, .int .i64 r4]) ∧ Below w.heap.size w w' := by
 have hu24 := Try.underlying24
 have HB := am (Below.refl w.heap.size w)
 have H : ((imageeditorref02_Empty.f a0_0 a0_1 a0_2 a0_3).bind fun t249 => (if t249 = true then (some (0, 0, 0, 0)) else ((imageeditorref02_span.f k a0_0 a0_1 a0_2 a0_3 0).bind fun bt250 => ((imageeditorref02_span.f k a0_0 a0_1 a0_2 a0_3 1).bind fun bt252 => ((imageeditorref02_limit.f a1).bind fun t254 => ((imageeditorref02_world.f (wrap64 (bt250.1 - t254)) (wrap64 (bt250.2 + t254)) (wrap64 (bt252.1 - t254)) (wrap64 (bt252.2 + t254))).bind fun bt255 => (some (bt255.1, bt255.2.1, bt255.2.2.1, bt255.2.2.2)))))))) = some (r1, r2, r3, r4) := h
 clear h
 replace H := Option.bind_eq_some_iff.mp H
 obtain ⟨t249, A30, H⟩ := H
 replace H : (if t249 = true then (some (0, 0, 0, 0)) else ((imageeditorref02_span.f k a0_0 a0_1 a0_2 a0_3 0).bind fun bt250 => ((imageeditorref02_span.f k a0_0 a0_1 a0_2 a0_3 1).bind fun bt252 => ((imageeditorref02_limit.f a1).bind fun t254 => ((imageeditorref02_world.f (wrap64 (bt250.1 - t254)) (wrap64 (bt250.2 + t254)) (wrap64 (bt252.1 - t254)) (wrap64 (bt252.2 + t254))).bind fun bt255 => (some (bt255.1, bt255.2.1, bt255.2.2.1, bt255.2.2.2))))))) = some (r1, r2, r3, r4) := H
 have A3 := Aside0.mk A30
 clear A30
 by_cases c4 : t249 = true
 ·subst c4
  have H1 : (some (0, 0, 0, 0)) = some (r1, r2, r3, r4) := by rw [if_pos rfl] at H; exact H
  clear H
  have H := H1
  clear H1
  simp only [Option.some.injEq, Prod.mk.injEq] at H
  obtain ⟨rfl, rfl, rfl, rfl⟩ := H
  go_enter Try.func30, Try.ntmps30
  go_wp2_with (first | ((with_reducible refine gate_dst (N := 2) rfl ?_); refine box_event ?hg (N := 2) ?hd (cs := #[.int .i64 a0_0, .int .i64 a0_1, .int .i64 a0_2, .int .i64 a0_3]) (t := 24) ?hr ?_; (case hd => rfl); (case hg => rfl); (case hr => first | (go_simp; done) | (go_simp; rfl)); intro gb247 hg w5 hbox hb; have BK247 := am (hbox); have GW247 := am ((by rw [hg]; exact (below_size (beX HB.out)) : w.heap.size ≤ gb247)); have GE247 := am ((by rw [hg]; exact (below_size (beX HB.out)) : w.heap.size ≤ gb247)); replace HB := am (below_step (beX HB.out) hb); clear hb hbox hg) | ((with_reducible refine gate_dst (N := 4) rfl ?_); refine box_event ?hg (N := 4) ?hd (cs := #[.int .i64 0, .int .i64 0, .int .i64 0, .int .i64 0]) (t := 24) ?hr ?_; (case hd => rfl); (case hg => rfl); (case hr => first | (go_simp; done) | (go_simp; rfl)); intro gb248 hg w6 hbox hb; have BK248 := am (hbox); have GW248 := am ((by rw [hg]; exact (below_size (beX HB.out)) : w.heap.size ≤ gb248)); have GE248 := am ((by rw [hg]; exact (below_size (beX HB.out)) : w.heap.size ≤ gb248)); have NB247_248 := am ((by rw [hg]; exact Nat.ne_of_lt (blk_lt (bX BK247.out)) : gb247 ≠ gb248)); have NB248_247 := am ((by rw [hg]; exact Nat.ne_of_gt (blk_lt (bX BK247.out)) : gb248 ≠ gb247)); replace BK247 := am (blk_below (bX BK247.out) hb); replace HB := am (below_step (beX HB.out) hb); clear hb hbox hg; have hnb7 := NB247_248.out; have hnc7 := NB248_247.out; have hcz8_0 := blk_cell BK247.out; have hfz8_0 := blk_frozen BK247.out) | ((with_reducible refine gate_callee (f := 16) rfl ?_); refine goesL_ (some 11) rfl rfl Try.func16 (by kernel_rfl) rfl #[.agg #[.int .i64 a0_0, .int .i64 a0_1, .int .i64 a0_2, .int .i64 a0_3]] rfl (by (try simp only [List.map_toArray, List.map_cons, List.map_nil]); first | done | rfl | (simp only [List.length_drop, List.length_take]; rfl)) ?_; (with_reducible refine (imageeditorref02_Empty.calls a0_0 a0_1 a0_2 a0_3 true _ A3.out).mono ?_); rintro e w9 ⟨rfl, hb⟩; refine ⟨_, rfl, ?_⟩; replace BK247 := am (blk_below (bX BK247.out) hb); replace BK248 := am (blk_below (bX BK248.out) hb); replace HB := am (below_step (beX HB.out) hb); (try clear hb); (try clear hb2); (try clear hk); (try clear hi); have hcz10_0 := blk_cell BK248.out; have hfz10_0 := blk_frozen BK248.out))
  refine bodyPost_ret (results_cell_row rfl _ _ gb248 24 #[.int .i64 0, .int .i64 0, .int .i64 0, .int .i64 0] (0, 0) _ rfl (by (with_reducible repeat (first | refine blk_drewN ?_ _ | refine blk_drew ?_ | refine blk_alloc ?_ _)); refine blk_put (cs := #[.int .i64 0, .int .i64 0, .int .i64 0, .int .i64 0]) ?_ 3 _ rfl; (with_reducible repeat (first | refine blk_drewN ?_ _ | refine blk_drew ?_ | refine blk_alloc ?_ _)); refine blk_put (cs := #[.int .i64 0, .int .i64 0, .int .i64 0, .int .i64 0]) ?_ 2 _ rfl; (with_reducible repeat (first | refine blk_drewN ?_ _ | refine blk_drew ?_ | refine blk_alloc ?_ _)); refine blk_put (cs := #[.int .i64 0, .int .i64 0, .int .i64 0, .int .i64 0]) ?_ 1 _ rfl; (with_reducible repeat (first | refine blk_drewN ?_ _ | refine blk_drew ?_ | refine blk_alloc ?_ _)); refine blk_put (cs := #[.int .i64 0, .int .i64 0, .int .i64 0, .int .i64 0]) ?_ 0 _ rfl; (with_reducible repeat (first | refine blk_drewN ?_ _ | refine blk_drew ?_ | refine blk_alloc ?_ _)); exact BK248.out) Try.underlying24 rfl (by kernel_rfl)) rfl ?_
  exact ⟨by first | rfl | (simp [errW_none, errW_some] <;> rfl) | (simp [*, errW_none, errW_some] <;> rfl), by repeat (first | (with_reducible first | exact HB.out | apply below_alloc | apply pw_below_drewN | apply below_drew1 | refine below_set ?_ GE247.out | refine below_set ?_ GE248.out) | exact HB.out)⟩
 ·replace c4 := Bool.eq_false_iff.mpr c4
  subst c4
  have H1 : ((imageeditorref02_span.f k a0_0 a0_1 a0_2 a0_3 0).bind fun bt250 => ((imageeditorref02_span.f k a0_0 a0_1 a0_2 a0_3 1).bind fun bt252 => ((imageeditorref02_limit.f a1).bind fun t254 => ((imageeditorref02_world.f (wrap64 (bt250.1 - t254)) (wrap64 (bt250.2 + t254)) (wrap64 (bt252.1 - t254)) (wrap64 (bt252.2 + t254))).bind fun bt255 => (some (bt255.1, bt255.2.1, bt255.2.2.1, bt255.2.2.2)))))) = some (r1, r2, r3, r4) := by rw [if_neg (show ¬ (false = true) by decide)] at H; exact H
  clear H
  have H := H1
  clear H1
  replace H := Option.bind_eq_some_iff.mp H
  obtain ⟨⟨t250, t251⟩, A110, H⟩ := H
  replace H : ((imageeditorref02_span.f k a0_0 a0_1 a0_2 a0_3 1).bind fun bt252 => ((imageeditorref02_limit.f a1).bind fun t254 => ((imageeditorref02_world.f (wrap64 (t250 - t254)) (wrap64 (t251 + t254)) (wrap64 (bt252.1 - t254)) (wrap64 (bt252.2 + t254))).bind fun bt255 => (some (bt255.1, bt255.2.1, bt255.2.2.1, bt255.2.2.2))))) = some (r1, r2, r3, r4) := H
  have A11 := Aside0.mk A110
  clear A110
  replace H := Option.bind_eq_some_iff.mp H
  obtain ⟨⟨t252, t253⟩, A120, H⟩ := H
  replace H : ((imageeditorref02_limit.f a1).bind fun t254 => ((imageeditorref02_world.f (wrap64 (t250 - t254)) (wrap64 (t251 + t254)) (wrap64 (t252 - t254)) (wrap64 (t253 + t254))).bind fun bt255 => (some (bt255.1, bt255.2.1, bt255.2.2.1, bt255.2.2.2)))) = some (r1, r2, r3, r4) := H
  have A12 := Aside0.mk A120
  clear A120
  replace H := Option.bind_eq_some_iff.mp H
  obtain ⟨t254, A130, H⟩ := H
  replace H : ((imageeditorref02_world.f (wrap64 (t250 - t254)) (wrap64 (t251 + t254)) (wrap64 (t252 - t254)) (wrap64 (t253 + t254))).bind fun bt255 => (some (bt255.1, bt255.2.1, bt255.2.2.1, bt255.2.2.2))) = some (r1, r2, r3, r4) := H
  have A13 := Aside0.mk A130
  clear A130
  replace H := Option.bind_eq_some_iff.mp H
  obtain ⟨⟨t255, t256, t257, t258⟩, A140, H⟩ := H
  replace H : (some (t255, t256, t257, t258)) = some (r1, r2, r3, r4) := H
  have A14 := Aside0.mk A140
  clear A140
  simp only [Option.some.injEq, Prod.mk.injEq] at H
  obtain ⟨rfl, rfl, rfl, rfl⟩ := H
  go_enter Try.func30, Try.ntmps30
  go_wp2_with (first | ((with_reducible refine gate_dst (N := 2) rfl ?_); refine box_event ?hg (N := 2) ?hd (cs := #[.int .i64 a0_0, .int .i64 a0_1, .int .i64 a0_2, .int .i64 a0_3]) (t := 24) ?hr ?_; (case hd => rfl); (case hg => rfl); (case hr => first | (go_simp; done) | (go_simp; rfl)); intro gb247 hg w15 hbox hb; have BK247 := am (hbox); have GW247 := am ((by rw [hg]; exact (below_size (beX HB.out)) : w.heap.size ≤ gb247)); have GE247 := am ((by rw [hg]; exact (below_size (beX HB.out)) : w.heap.size ≤ gb247)); replace HB := am (below_step (beX HB.out) hb); clear hb hbox hg) | ((with_reducible refine gate_dst (N := 4) rfl ?_); refine box_event ?hg (N := 4) ?hd (cs := #[.int .i64 0, .int .i64 0, .int .i64 0, .int .i64 0]) (t := 24) ?hr ?_; (case hd => rfl); (case hg => rfl); (case hr => first | (go_simp; done) | (go_simp; rfl)); intro gb248 hg w16 hbox hb; have BK248 := am (hbox); have GW248 := am ((by rw [hg]; exact (below_size (beX HB.out)) : w.heap.size ≤ gb248)); have GE248 := am ((by rw [hg]; exact (below_size (beX HB.out)) : w.heap.size ≤ gb248)); have NB247_248 := am ((by rw [hg]; exact Nat.ne_of_lt (blk_lt (bX BK247.out)) : gb247 ≠ gb248)); have NB248_247 := am ((by rw [hg]; exact Nat.ne_of_gt (blk_lt (bX BK247.out)) : gb248 ≠ gb247)); replace BK247 := am (blk_below (bX BK247.out) hb); replace HB := am (below_step (beX HB.out) hb); clear hb hbox hg; have hnb17 := NB247_248.out; have hnc17 := NB248_247.out; have hcz18_0 := blk_cell BK247.out; have hfz18_0 := blk_frozen BK247.out) | ((with_reducible refine gate_callee (f := 16) rfl ?_); refine goesL_ (some 11) rfl rfl Try.func16 (by kernel_rfl) rfl #[.agg #[.int .i64 a0_0, .int .i64 a0_1, .int .i64 a0_2, .int .i64 a0_3]] rfl (by (try simp only [List.map_toArray, List.map_cons, List.map_nil]); first | done | rfl | (simp only [List.length_drop, List.length_take]; rfl)) ?_; (with_reducible refine (imageeditorref02_Empty.calls a0_0 a0_1 a0_2 a0_3 false _ A3.out).mono ?_); rintro e w19 ⟨rfl, hb⟩; refine ⟨_, rfl, ?_⟩; replace BK247 := am (blk_below (bX BK247.out) hb); replace BK248 := am (blk_below (bX BK248.out) hb); replace HB := am (below_step (beX HB.out) hb); (try clear hb); (try clear hb2); (try clear hk); (try clear hi); have hcz20_0 := blk_cell BK247.out; have hfz20_0 := blk_frozen BK247.out) | ((with_reducible refine gate_callee (f := 35) rfl ?_); refine goesL_ (some 15) rfl rfl Try.func35 (by kernel_rfl) rfl #[.agg #[.int .i64 a0_0, .int .i64 a0_1, .int .i64 a0_2, .int .i64 a0_3], .int .i64 0] rfl (by (try simp only [List.map_toArray, List.map_cons, List.map_nil]); first | done | rfl | (simp only [List.length_drop, List.length_take]; rfl)) ?_; (with_reducible refine (imageeditorref02_span.calls k a0_0 a0_1 a0_2 a0_3 0 t250 t251 _ A11.out).mono ?_); rintro e w21 ⟨rfl, hb⟩; refine ⟨_, rfl, ?_⟩; replace BK247 := am (blk_below (bX BK247.out) hb); replace BK248 := am (blk_below (bX BK248.out) hb); replace HB := am (below_step (beX HB.out) hb); (try clear hb); (try clear hb2); (try clear hk); (try clear hi); have hcz22_0 := blk_cell BK247.out; have hfz22_0 := blk_frozen BK247.out) | ((with_reducible refine gate_callee (f := 35) rfl ?_); refine goesL_ (some 20) rfl rfl Try.func35 (by kernel_rfl) rfl #[.agg #[.int .i64 a0_0, .int .i64 a0_1, .int .i64 a0_2, .int .i64 a0_3], .int .i64 1] rfl (by (try simp only [List.map_toArray, List.map_cons, List.map_nil]); first | done | rfl | (simp only [List.length_drop, List.length_take]; rfl)) ?_; (with_reducible refine (imageeditorref02_span.calls k a0_0 a0_1 a0_2 a0_3 1 t252 t253 _ A12.out).mono ?_); rintro e w23 ⟨rfl, hb⟩; refine ⟨_, rfl, ?_⟩; replace BK247 := am (blk_below (bX BK247.out) hb); replace BK248 := am (blk_below (bX BK248.out) hb); replace HB := am (below_step (beX HB.out) hb); (try clear hb); (try clear hb2); (try clear hk); (try clear hi)) | ((with_reducible refine gate_callee (f := 46) rfl ?_); refine goesL_ (some 24) rfl rfl Try.func46 (by kernel_rfl) rfl #[.int .i64 a1] rfl (by (try simp only [List.map_toArray, List.map_cons, List.map_nil]); first | done | rfl | (simp only [List.length_drop, List.length_take]; rfl)) ?_; (with_reducible refine (imageeditorref02_limit.calls a1 t254 _ A13.out).mono ?_); rintro e w24 ⟨rfl, hb⟩; refine ⟨_, rfl, ?_⟩; replace BK247 := am (blk_below (bX BK247.out) hb); replace BK248 := am (blk_below (bX BK248.out) hb); replace HB := am (below_step (beX HB.out) hb); (try clear hb); (try clear hb2); (try clear hk); (try clear hi)) | ((with_reducible refine gate_callee (f := 47) rfl ?_); refine goesL_ (some 37) rfl rfl Try.func47 (by kernel_rfl) rfl #[.int .i64 (wrap64 (t250 - t254)), .int .i64 (wrap64 (t251 + t254)), .int .i64 (wrap64 (t252 - t254)), .int .i64 (wrap64 (t253 + t254))] rfl (by (try simp only [List.map_toArray, List.map_cons, List.map_nil]); first | done | rfl | (simp only [List.length_drop, List.length_take]; rfl)) ?_; (with_reducible refine (imageeditorref02_world.calls (wrap64 (t250 - t254)) (wrap64 (t251 + t254)) (wrap64 (t252 - t254)) (wrap64 (t253 + t254)) t255 t256 t257 t258 _ A14.out).mono ?_); rintro e w25 ⟨rfl, hb⟩; refine ⟨_, rfl, ?_⟩; replace BK247 := am (blk_below (bX BK247.out) hb); replace BK248 := am (blk_below (bX BK248.out) hb); replace HB := am (below_step (beX HB.out) hb); (try clear hb); (try clear hb2); (try clear hk); (try clear hi); have hcz26_0 := blk_cell BK248.out; have hfz26_0 := blk_frozen BK248.out))
  refine bodyPost_ret (results_cell_row rfl _ _ gb248 24 #[.int .i64 t255, .int .i64 t256, .int .i64 t257, .int .i64 t258] (0, 0) _ rfl (by (with_reducible repeat (first | refine blk_drewN ?_ _ | refine blk_drew ?_ | refine blk_alloc ?_ _)); refine blk_put (cs := #[.int .i64 t255, .int .i64 t256, .int .i64 t257, .int .i64 0]) ?_ 3 _ rfl; (with_reducible repeat (first | refine blk_drewN ?_ _ | refine blk_drew ?_ | refine blk_alloc ?_ _)); refine blk_put (cs := #[.int .i64 t255, .int .i64 t256, .int .i64 0, .int .i64 0]) ?_ 2 _ rfl; (with_reducible repeat (first | refine blk_drewN ?_ _ | refine blk_drew ?_ | refine blk_alloc ?_ _)); refine blk_put (cs := #[.int .i64 t255, .int .i64 0, .int .i64 0, .int .i64 0]) ?_ 1 _ rfl; (with_reducible repeat (first | refine blk_drewN ?_ _ | refine blk_drew ?_ | refine blk_alloc ?_ _)); refine blk_put (cs := #[.int .i64 0, .int .i64 0, .int .i64 0, .int .i64 0]) ?_ 0 _ rfl; (with_reducible repeat (first | refine blk_drewN ?_ _ | refine blk_drew ?_ | refine blk_alloc ?_ _)); exact BK248.out) Try.underlying24 rfl (by kernel_rfl)) rfl ?_
  exact ⟨by first | rfl | (simp [errW_none, errW_some] <;> rfl) | (simp [*, errW_none, errW_some] <;> rfl), by repeat (first | (with_reducible first | exact HB.out | apply below_alloc | apply pw_below_drewN | apply below_drew1 | refine below_set ?_ GE247.out | refine below_set ?_ GE248.out) | exact HB.out)⟩

/-! ### imageeditorref16_Needs: function 8 -/
def imageeditorref16_Needs.j0 : Nat → Int → List Int → Bool → Int → Int → Int → Int → Int → Int → Int → Int → Option (Int × Int × Int × Int × Int)
 | 0, _, _, _, _, _, _, _, _, _, _, _ => none
 | k + 1, x0, x1, x35, x260000, x260001, x260002, x260003, x261000, x261001, x261002, x261003 => if x35 = true then (some (0, 0, 0, 0, 2)) else ((imageeditorref16_Reach.f k x0 x1).bind fun t267 => ((imageeditorref02_Grow.f k x260000 x260001 x260002 x260003 t267).bind fun bt268 => ((imageeditorref02_Meet.f k bt268.1 bt268.2.1 bt268.2.2.1 bt268.2.2.2 x261000 x261001 x261002 x261003).bind fun bt272 => (some (bt272.1, bt272.2.1, bt272.2.2.1, bt272.2.2.2, 0)))))
def imageeditorref16_Needs.f (k : Nat) (a0 : Int) (l1 : List Int) (a2_0 : Int) (a2_1 : Int) (a2_2 : Int) (a2_3 : Int) (a3_0 : Int) (a3_1 : Int) (a3_2 : Int) (a3_3 : Int) : Option (Int × Int × Int × Int × Int) := (imageeditorref16_Check.f k a0 l1).bind fun t262 => (if t262 = 0 then ((imageeditorref02_Valid.f a2_0 a2_1 a2_2 a2_3).bind fun t263 => (if t263 = true then ((imageeditorref02_Valid.f a3_0 a3_1 a3_2 a3_3).bind fun t264 => (if t264 = true then ((imageeditorref02_Empty.f a2_0 a2_1 a2_2 a2_3).bind fun t265 => (if t265 = true then (imageeditorref16_Needs.j0 k a0 l1 true a2_0 a2_1 a2_2 a2_3 a3_0 a3_1 a3_2 a3_3) else ((imageeditorref02_Within.f k a2_0 a2_1 a2_2 a2_3 a3_0 a3_1 a3_2 a3_3).bind fun t266 => (imageeditorref16_Needs.j0 k a0 l1 (!t266) a2_0 a2_1 a2_2 a2_3 a3_0 a3_1 a3_2 a3_3)))) else (imageeditorref16_Needs.j0 k a0 l1 true a2_0 a2_1 a2_2 a2_3 a3_0 a3_1 a3_2 a3_3))) else (imageeditorref16_Needs.j0 k a0 l1 true a2_0 a2_1 a2_2 a2_3 a3_0 a3_1 a3_2 a3_3))) else (some (0, 0, 0, 0, t262)))
theorem imageeditorref16_Needs.mono_l : ∀ k, (∀ y0 y1 y2 y3 y4 y5 y6 y7 y8 y9 y10, LeO (imageeditorref16_Needs.j0 k y0 y1 y2 y3 y4 y5 y6 y7 y8 y9 y10) (imageeditorref16_Needs.j0 (k + 1) y0 y1 y2 y3 y4 y5 y6 y7 y8 y9 y10))
 | 0 => fun _ _ _ _ _ _ _ _ _ _ _ r h => by simp [imageeditorref16_Needs.j0] at h
 | k + 1 => by
  have ih0 := imageeditorref16_Needs.mono_l k
  ·intro y0 y1 y2 y3 y4 y5 y6 y7 y8 y9 y10
   unfold imageeditorref16_Needs.j0
   repeat' first
   | (with_reducible exact ih0 _ _ _ _ _ _ _ _ _ _ _)
   | (with_reducible exact imageeditorref02_Grow.mono _ _ _ _ _ _)
   | (with_reducible exact imageeditorref02_Meet.mono _ _ _ _ _ _ _ _ _)
   | (with_reducible exact imageeditorref02_Within.mono _ _ _ _ _ _ _ _ _)
   | (with_reducible exact imageeditorref16_Check.mono _ _ _)
   | (with_reducible exact imageeditorref16_Reach.mono _ _ _)
   | (with_reducible exact LeO.refl _)
   | (with_reducible exact LeO.none _)
   | (with_reducible refine LeO.ite ?_ ?_)
   | (with_reducible refine LeO.bind ?_ (fun _ => ?_))
   | exact ih0 _ _ _ _ _ _ _ _ _ _ _
   | exact imageeditorref02_Grow.mono _ _ _ _ _ _
   | exact imageeditorref02_Meet.mono _ _ _ _ _ _ _ _ _
   | exact imageeditorref02_Within.mono _ _ _ _ _ _ _ _ _
   | exact imageeditorref16_Check.mono _ _ _
   | exact imageeditorref16_Reach.mono _ _ _
   | exact LeO.none _
   | refine LeO.ite ?_ ?_
   | refine LeO.bind ?_ (fun _ => ?_)
theorem imageeditorref16_Needs.mono : ∀ a0 a1 a2 a3 a4 a5 a6 a7 a8 a9 k, LeO (imageeditorref16_Needs.f k a0 a1 a2 a3 a4 a5 a6 a7 a8 a9) (imageeditorref16_Needs.f (k + 1) a0 a1 a2 a3 a4 a5 a6 a7 a8 a9) := by
 intro a0 a1 a2 a3 a4 a5 a6 a7 a8 a9 k
 have ih0 := imageeditorref16_Needs.mono_l k
 unfold imageeditorref16_Needs.f
 repeat' first
   | (with_reducible exact ih0 _ _ _ _ _ _ _ _ _ _ _)
   | (with_reducible exact imageeditorref02_Grow.mono _ _ _ _ _ _)
   | (with_reducible exact imageeditorref02_Meet.mono _ _ _ _ _ _ _ _ _)
   | (with_reducible exact imageeditorref02_Within.mono _ _ _ _ _ _ _ _ _)
   | (with_reducible exact imageeditorref16_Check.mono _ _ _)
   | (with_reducible exact imageeditorref16_Reach.mono _ _ _)
   | (with_reducible exact LeO.refl _)
   | (with_reducible exact LeO.none _)
   | (with_reducible refine LeO.ite ?_ ?_)
   | (with_reducible refine LeO.bind ?_ (fun _ => ?_))
   | exact ih0 _ _ _ _ _ _ _ _ _ _ _
   | exact imageeditorref02_Grow.mono _ _ _ _ _ _
   | exact imageeditorref02_Meet.mono _ _ _ _ _ _ _ _ _
   | exact imageeditorref02_Within.mono _ _ _ _ _ _ _ _ _
   | exact imageeditorref16_Check.mono _ _ _
   | exact imageeditorref16_Reach.mono _ _ _
   | exact LeO.none _
   | refine LeO.ite ?_ ?_
   | refine LeO.bind ?_ (fun _ => ?_)
def imageeditorref16_Needs.T6 : Bool × List (List Nat × List Nat) := (true, [([], []), ([], []), ([], []), ([1, 2], [1, 2]), ([0, 3, 3], [0, 3]), ([], []), ([4, 5, 4], [4, 5]), ([6, 6, 0, 1, 2, 3, 4, 5, 6], [6]), ([7, 0, 1, 2, 3, 4, 5, 6, 7], [])])
def imageeditorref16_Needs.B6 : List Nat := [0, 0, 0, 6, 15, 0, 63, 127, 255]
theorem imageeditorref16_Needs.tab6 : rtab .any (opsOf Try.f8 6) = imageeditorref16_Needs.T6 := by kernel_rfl
theorem imageeditorref16_Needs.bits6 : waitsOk imageeditorref16_Needs.T6.2 imageeditorref16_Needs.B6 = true := by kernel_rfl
set_option maxHeartbeats 8000000 in
set_option maxRecDepth 100000 in
theorem imageeditorref16_Needs.calls (k : Nat) (a0 : Int) (A1 : Option Addr) (c1 : Nat) (l1 : List Int) (a2_0 : Int) (a2_1 : Int) (a2_2 : Int) (a2_3 : Int) (a3_0 : Int) (a3_1 : Int) (a3_2 : Int) (a3_3 : Int) (r1 : Int) (r2 : Int) (r3 : Int) (r4 : Int) (r5 : Int) (w : World) (hr1 : Kd.C (Kd.int .i64) w A1 l1.length l1) (hc1 : l1.length ≤ c1) (h : imageeditorref16_Needs.f k a0 l1 a2_0 a2_1 a2_2 a2_3 a3_0 a3_1 a3_2 a3_3 = some (r1, r2, r3, r4, r5)) :
  Calls Try.prog 8 #[.int .i64 a0, .slice A1 l1.length c1, .agg #[.int .i64 a2_0, .int .i64 a2_1, .int .i64 a2_2, .int .i64 a2_3], .agg #[.int .i64 a3_0, .int .i64 a3_1, .int .i64 a3_2, .int .i64 a3_3]] w fun e w' => e = .returned (.tuple #[.agg #[.int .i64 r1, .int .i64 r2, .int .i64 r3, .int .i64 r4], .int .i64 r5]) ∧ Below w.heap.size w w' := by
 have hu24 := Try.underlying24
 have HR1 := Aside0.mk hr1
 have HC1 := Aside0.mk hc1
 clear hr1 hc1
 have HB := am (Below.refl w.heap.size w)
 have H : ((imageeditorref16_Check.f k a0 l1).bind fun t262 => (if t262 = 0 then ((imageeditorref02_Valid.f a2_0 a2_1 a2_2 a2_3).bind fun t263 => (if t263 = true then ((imageeditorref02_Valid.f a3_0 a3_1 a3_2 a3_3).bind fun t264 => (if t264 = true then ((imageeditorref02_Empty.f a2_0 a2_1 a2_2 a2_3).bind fun t265 => (if t265 = true then (imageeditorref16_Needs.j0 k a0 l1 true a2_0 a2_1 a2_2 a2_3 a3_0 a3_1 a3_2 a3_3) else ((imageeditorref02_Within.f k a2_0 a2_1 a2_2 a2_3 a3_0 a3_1 a3_2 a3_3).bind fun t266 => (imageeditorref16_Needs.j0 k a0 l1 (!t266) a2_0 a2_1 a2_2 a2_3 a3_0 a3_1 a3_2 a3_3)))) else (imageeditorref16_Needs.j0 k a0 l1 true a2_0 a2_1 a2_2 a2_3 a3_0 a3_1 a3_2 a3_3))) else (imageeditorref16_Needs.j0 k a0 l1 true a2_0 a2_1 a2_2 a2_3 a3_0 a3_1 a3_2 a3_3))) else (some (0, 0, 0, 0, t262)))) = some (r1, r2, r3, r4, r5) := h
 clear h
 replace H := Option.bind_eq_some_iff.mp H
 obtain ⟨t262, A50, H⟩ := H
 replace H : (if t262 = 0 then ((imageeditorref02_Valid.f a2_0 a2_1 a2_2 a2_3).bind fun t263 => (if t263 = true then ((imageeditorref02_Valid.f a3_0 a3_1 a3_2 a3_3).bind fun t264 => (if t264 = true then ((imageeditorref02_Empty.f a2_0 a2_1 a2_2 a2_3).bind fun t265 => (if t265 = true then (imageeditorref16_Needs.j0 k a0 l1 true a2_0 a2_1 a2_2 a2_3 a3_0 a3_1 a3_2 a3_3) else ((imageeditorref02_Within.f k a2_0 a2_1 a2_2 a2_3 a3_0 a3_1 a3_2 a3_3).bind fun t266 => (imageeditorref16_Needs.j0 k a0 l1 (!t266) a2_0 a2_1 a2_2 a2_3 a3_0 a3_1 a3_2 a3_3)))) else (imageeditorref16_Needs.j0 k a0 l1 true a2_0 a2_1 a2_2 a2_3 a3_0 a3_1 a3_2 a3_3))) else (imageeditorref16_Needs.j0 k a0 l1 true a2_0 a2_1 a2_2 a2_3 a3_0 a3_1 a3_2 a3_3))) else (some (0, 0, 0, 0, t262))) = some (r1, r2, r3, r4, r5) := H
 have A5 := Aside0.mk A50
 clear A50
 by_cases c6 : t262 = 0
 ·rw [if_pos c6] at H
  have c6b0 : (t262 == 0) = true := beq_iff_eq.mpr c6
  have c6b1 : (t262 != 0) = false := bne_eq_false_iff_eq.mpr c6
  clear c6
  have HC7 := Aside0.mk H
  clear H
  go_enter Try.func8, Try.ntmps8
  go_upto_region 4 with (first | ((with_reducible refine gate_dst (N := 6) rfl ?_); refine box_event ?hg (N := 6) ?hd (cs := #[.int .i64 a2_0, .int .i64 a2_1, .int .i64 a2_2, .int .i64 a2_3]) (t := 24) ?hr ?_; (case hd => rfl); (case hg => rfl); (case hr => first | (go_simp; done) | (go_simp; rfl)); intro gb259 hg w8 hbox hb; have BK259 := am (hbox); have GW259 := am ((by rw [hg]; exact (below_size (beX HB.out)) : w.heap.size ≤ gb259)); have GE259 := am ((by rw [hg]; exact (below_size (beX HB.out)) : w.heap.size ≤ gb259)); replace HB := am (below_step (beX HB.out) hb); clear hb hbox hg) | ((with_reducible refine gate_dst (N := 7) rfl ?_); refine box_event ?hg (N := 7) ?hd (cs := #[.int .i64 a3_0, .int .i64 a3_1, .int .i64 a3_2, .int .i64 a3_3]) (t := 24) ?hr ?_; (case hd => rfl); (case hg => rfl); (case hr => first | (go_simp; done) | (go_simp; rfl)); intro gb260 hg w9 hbox hb; have BK260 := am (hbox); have GW260 := am ((by rw [hg]; exact (below_size (beX HB.out)) : w.heap.size ≤ gb260)); have GE260 := am ((by rw [hg]; exact (below_size (beX HB.out)) : w.heap.size ≤ gb260)); have NB259_260 := am ((by rw [hg]; exact Nat.ne_of_lt (blk_lt (bX BK259.out)) : gb259 ≠ gb260)); have NB260_259 := am ((by rw [hg]; exact Nat.ne_of_gt (blk_lt (bX BK259.out)) : gb260 ≠ gb259)); replace BK259 := am (blk_below (bX BK259.out) hb); replace HB := am (below_step (beX HB.out) hb); clear hb hbox hg) | ((with_reducible refine gate_dst (N := 8) rfl ?_); refine box_event ?hg (N := 8) ?hd (cs := #[.int .i64 0, .int .i64 0, .int .i64 0, .int .i64 0]) (t := 24) ?hr ?_; (case hd => rfl); (case hg => rfl); (case hr => first | (go_simp; done) | (go_simp; rfl)); intro gb261 hg w10 hbox hb; have BK261 := am (hbox); have GW261 := am ((by rw [hg]; exact (below_size (beX HB.out)) : w.heap.size ≤ gb261)); have GE261 := am ((by rw [hg]; exact (below_size (beX HB.out)) : w.heap.size ≤ gb261)); have NB259_261 := am ((by rw [hg]; exact Nat.ne_of_lt (blk_lt (bX BK259.out)) : gb259 ≠ gb261)); have NB261_259 := am ((by rw [hg]; exact Nat.ne_of_gt (blk_lt (bX BK259.out)) : gb261 ≠ gb259)); have NB260_261 := am ((by rw [hg]; exact Nat.ne_of_lt (blk_lt (bX BK260.out)) : gb260 ≠ gb261)); have NB261_260 := am ((by rw [hg]; exact Nat.ne_of_gt (blk_lt (bX BK260.out)) : gb261 ≠ gb260)); replace BK259 := am (blk_below (bX BK259.out) hb); replace BK260 := am (blk_below (bX BK260.out) hb); replace HB := am (below_step (beX HB.out) hb); clear hb hbox hg) | ((with_reducible refine gate_callee (f := 10) rfl ?_); refine goesL_ (some 13) rfl rfl Try.func10 (by kernel_rfl) rfl #[.int .i64 a0, .slice A1 l1.length c1] rfl (by (try simp only [List.map_toArray, List.map_cons, List.map_nil]); first | done | rfl | (simp only [List.length_drop, List.length_take]; rfl)) ?_; (with_reducible refine (imageeditorref16_Check.calls k a0 _ _ l1 t262 _ ?side1 ?side2 A5.out).mono ?_); (case side1 => repeat (first | exact (Kd.C_below HR1.out HB.out) | (with_reducible refine Kd.C_alloc ?_ _) | (with_reducible refine Kd.C_drewN ?_ _) | (with_reducible refine Kd.C_drew ?_))); (case side2 => exact HC1.out); rintro e w' ⟨rfl, ⟨nd, rfl⟩⟩; refine ⟨_, rfl, ?_⟩))
  (try simp only [Act.put, List.setIfInBounds_toArray, List.set_cons_zero, List.set_cons_succ])
  go_cut [35] (fun v35 wc => ∃ (kq : Nat) (x35_6 : Bool), v35 = .bool x35_6 ∧ Aside0 (imageeditorref16_Needs.j0 kq a0 l1 x35_6 a2_0 a2_1 a2_2 a2_3 a3_0 a3_1 a3_2 a3_3 = some (r1, r2, r3, r4, r5)) ∧ Aside0 (kq ≤ k) ∧ Aside0 (wc.heap[gb259]? = some (.cells #[.int .i64 a2_0, .int .i64 a2_1, .int .i64 a2_2, .int .i64 a2_3] 24 (0, 0))) ∧ Aside0 (wc.heap[gb260]? = some (.cells #[.int .i64 a3_0, .int .i64 a3_1, .int .i64 a3_2, .int .i64 a3_3] 24 (0, 0))) ∧ Aside0 (wc.heap[gb261]? = some (.cells #[.int .i64 0, .int .i64 0, .int .i64 0, .int .i64 0] 24 (0, 0))) ∧ Aside0 (Below w.heap.size w wc))
  case first =>
   have H := HC7.out
   clear HC7
   replace H := Option.bind_eq_some_iff.mp H
   obtain ⟨t263, A110, H⟩ := H
   replace H : (if t263 = true then ((imageeditorref02_Valid.f a3_0 a3_1 a3_2 a3_3).bind fun t264 => (if t264 = true then ((imageeditorref02_Empty.f a2_0 a2_1 a2_2 a2_3).bind fun t265 => (if t265 = true then (imageeditorref16_Needs.j0 k a0 l1 true a2_0 a2_1 a2_2 a2_3 a3_0 a3_1 a3_2 a3_3) else ((imageeditorref02_Within.f k a2_0 a2_1 a2_2 a2_3 a3_0 a3_1 a3_2 a3_3).bind fun t266 => (imageeditorref16_Needs.j0 k a0 l1 (!t266) a2_0 a2_1 a2_2 a2_3 a3_0 a3_1 a3_2 a3_3)))) else (imageeditorref16_Needs.j0 k a0 l1 true a2_0 a2_1 a2_2 a2_3 a3_0 a3_1 a3_2 a3_3))) else (imageeditorref16_Needs.j0 k a0 l1 true a2_0 a2_1 a2_2 a2_3 a3_0 a3_1 a3_2 a3_3)) = some (r1, r2, r3, r4, r5) := H
   have A11 := Aside0.mk A110
   clear A110
   by_cases c12 : t263 = true
   ·subst c12
    have H1 : ((imageeditorref02_Valid.f a3_0 a3_1 a3_2 a3_3).bind fun t264 => (if t264 = true then ((imageeditorref02_Empty.f a2_0 a2_1 a2_2 a2_3).bind fun t265 => (if t265 = true then (imageeditorref16_Needs.j0 k a0 l1 true a2_0 a2_1 a2_2 a2_3 a3_0 a3_1 a3_2 a3_3) else ((imageeditorref02_Within.f k a2_0 a2_1 a2_2 a2_3 a3_0 a3_1 a3_2 a3_3).bind fun t266 => (imageeditorref16_Needs.j0 k a0 l1 (!t266) a2_0 a2_1 a2_2 a2_3 a3_0 a3_1 a3_2 a3_3)))) else (imageeditorref16_Needs.j0 k a0 l1 true a2_0 a2_1 a2_2 a2_3 a3_0 a3_1 a3_2 a3_3))) = some (r1, r2, r3, r4, r5) := by rw [if_pos rfl] at H; exact H
    clear H
    have H := H1
    clear H1
    replace H := Option.bind_eq_some_iff.mp H
    obtain ⟨t264, A130, H⟩ := H
    replace H : (if t264 = true then ((imageeditorref02_Empty.f a2_0 a2_1 a2_2 a2_3).bind fun t265 => (if t265 = true then (imageeditorref16_Needs.j0 k a0 l1 true a2_0 a2_1 a2_2 a2_3 a3_0 a3_1 a3_2 a3_3) else ((imageeditorref02_Within.f k a2_0 a2_1 a2_2 a2_3 a3_0 a3_1 a3_2 a3_3).bind fun t266 => (imageeditorref16_Needs.j0 k a0 l1 (!t266) a2_0 a2_1 a2_2 a2_3 a3_0 a3_1 a3_2 a3_3)))) else (imageeditorref16_Needs.j0 k a0 l1 true a2_0 a2_1 a2_2 a2_3 a3_0 a3_1 a3_2 a3_3)) = some (r1, r2, r3, r4, r5) := H
    have A13 := Aside0.mk A130
    clear A130
    by_cases c14 : t264 = true
    ·subst c14
     have H1 : ((imageeditorref02_Empty.f a2_0 a2_1 a2_2 a2_3).bind fun t265 => (if t265 = true then (imageeditorref16_Needs.j0 k a0 l1 true a2_0 a2_1 a2_2 a2_3 a3_0 a3_1 a3_2 a3_3) else ((imageeditorref02_Within.f k a2_0 a2_1 a2_2 a2_3 a3_0 a3_1 a3_2 a3_3).bind fun t266 => (imageeditorref16_Needs.j0 k a0 l1 (!t266) a2_0 a2_1 a2_2 a2_3 a3_0 a3_1 a3_2 a3_3)))) = some (r1, r2, r3, r4, r5) := by rw [if_pos rfl] at H; exact H
     clear H
     have H := H1
     clear H1
     replace H := Option.bind_eq_some_iff.mp H
     obtain ⟨t265, A150, H⟩ := H
     replace H : (if t265 = true then (imageeditorref16_Needs.j0 k a0 l1 true a2_0 a2_1 a2_2 a2_3 a3_0 a3_1 a3_2 a3_3) else ((imageeditorref02_Within.f k a2_0 a2_1 a2_2 a2_3 a3_0 a3_1 a3_2 a3_3).bind fun t266 => (imageeditorref16_Needs.j0 k a0 l1 (!t266) a2_0 a2_1 a2_2 a2_3 a3_0 a3_1 a3_2 a3_3))) = some (r1, r2, r3, r4, r5) := H
     have A15 := Aside0.mk A150
     clear A150
     by_cases c16 : t265 = true
     ·subst c16
      have H1 : (imageeditorref16_Needs.j0 k a0 l1 true a2_0 a2_1 a2_2 a2_3 a3_0 a3_1 a3_2 a3_3) = some (r1, r2, r3, r4, r5) := by rw [if_pos rfl] at H; exact H
      clear H
      have H := H1
      clear H1
      have H' := Aside0.mk H
      clear H
      have hnb17 := NB259_260.out
      have hnc17 := NB260_259.out
      have hnb18 := NB259_261.out
      have hnc18 := NB261_259.out
      have hcz19_0 := blk_cell BK259.out
      have hfz19_0 := blk_frozen BK259.out
      go_wp2_with (first | ((with_reducible refine gate_callee (f := 15) rfl ?_); refine goesL_ (some 19) rfl rfl Try.func15 (by kernel_rfl) rfl #[.agg #[.int .i64 a2_0, .int .i64 a2_1, .int .i64 a2_2, .int .i64 a2_3]] rfl (by (try simp only [List.map_toArray, List.map_cons, List.map_nil]); first | done | rfl | (simp only [List.length_drop, List.length_take]; rfl)) ?_; (with_reducible refine (imageeditorref02_Valid.calls a2_0 a2_1 a2_2 a2_3 true _ A11.out).mono ?_); rintro e w20 ⟨rfl, hb⟩; refine ⟨_, rfl, ?_⟩; replace BK259 := am (blk_below (bX BK259.out) hb); replace BK260 := am (blk_below (bX BK260.out) hb); replace BK261 := am (blk_below (bX BK261.out) hb); replace HB := am (below_step (beX HB.out) hb); (try clear hb); (try clear hb2); (try clear hk); (try clear hi); have hnb21 := NB260_261.out; have hnc21 := NB261_260.out; have hcz22_0 := blk_cell BK260.out; have hfz22_0 := blk_frozen BK260.out) | (go_at_call 15; (with_reducible refine (imageeditorref02_Valid.calls a3_0 a3_1 a3_2 a3_3 true _ A13.out).mono ?_); rintro e w23 ⟨rfl, hb⟩; replace BK259 := am (blk_below (bX BK259.out) hb); replace BK260 := am (blk_below (bX BK260.out) hb); replace BK261 := am (blk_below (bX BK261.out) hb); replace HB := am (below_step (beX HB.out) hb); (try clear hb); (try clear hb2); (try clear hk); (try clear hi); have hcz24_0 := blk_cell BK259.out; have hfz24_0 := blk_frozen BK259.out) | (go_at_call 16; (with_reducible refine (imageeditorref02_Empty.calls a2_0 a2_1 a2_2 a2_3 true _ A15.out).mono ?_); rintro e w25 ⟨rfl, hb⟩; replace BK259 := am (blk_below (bX BK259.out) hb); replace BK260 := am (blk_below (bX BK260.out) hb); replace BK261 := am (blk_below (bX BK261.out) hb); replace HB := am (below_step (beX HB.out) hb); (try clear hb); (try clear hb2); (try clear hk); (try clear hi)))
      go_meet
      case rel => exact ⟨_, (true), (by first | rfl | (simp; done) | (simp [*]; done)), H', ⟨by first | omega | exact Nat.le_refl _⟩, ⟨bX BK259.out⟩, ⟨bX BK260.out⟩, ⟨bX BK261.out⟩, ⟨beX HB.out⟩⟩
     ·replace c16 := Bool.eq_false_iff.mpr c16
      subst c16
      have H1 : ((imageeditorref02_Within.f k a2_0 a2_1 a2_2 a2_3 a3_0 a3_1 a3_2 a3_3).bind fun t266 => (imageeditorref16_Needs.j0 k a0 l1 (!t266) a2_0 a2_1 a2_2 a2_3 a3_0 a3_1 a3_2 a3_3)) = some (r1, r2, r3, r4, r5) := by rw [if_neg (show ¬ (false = true) by decide)] at H; exact H
      clear H
      have H := H1
      clear H1
      replace H := Option.bind_eq_some_iff.mp H
      obtain ⟨t266, A260, H⟩ := H
      replace H : (imageeditorref16_Needs.j0 k a0 l1 (!t266) a2_0 a2_1 a2_2 a2_3 a3_0 a3_1 a3_2 a3_3) = some (r1, r2, r3, r4, r5) := H
      have A26 := Aside0.mk A260
      clear A260
      have H' := Aside0.mk H
      clear H
      have hnb27 := NB259_260.out
      have hnc27 := NB260_259.out
      have hnb28 := NB259_261.out
      have hnc28 := NB261_259.out
      have hcz29_0 := blk_cell BK259.out
      have hfz29_0 := blk_frozen BK259.out
      go_wp2_with (first | ((with_reducible refine gate_callee (f := 15) rfl ?_); refine goesL_ (some 19) rfl rfl Try.func15 (by kernel_rfl) rfl #[.agg #[.int .i64 a2_0, .int .i64 a2_1, .int .i64 a2_2, .int .i64 a2_3]] rfl (by (try simp only [List.map_toArray, List.map_cons, List.map_nil]); first | done | rfl | (simp only [List.length_drop, List.length_take]; rfl)) ?_; (with_reducible refine (imageeditorref02_Valid.calls a2_0 a2_1 a2_2 a2_3 true _ A11.out).mono ?_); rintro e w30 ⟨rfl, hb⟩; refine ⟨_, rfl, ?_⟩; replace BK259 := am (blk_below (bX BK259.out) hb); replace BK260 := am (blk_below (bX BK260.out) hb); replace BK261 := am (blk_below (bX BK261.out) hb); replace HB := am (below_step (beX HB.out) hb); (try clear hb); (try clear hb2); (try clear hk); (try clear hi); have hnb31 := NB260_261.out; have hnc31 := NB261_260.out; have hcz32_0 := blk_cell BK260.out; have hfz32_0 := blk_frozen BK260.out) | (go_at_call 15; (with_reducible refine (imageeditorref02_Valid.calls a3_0 a3_1 a3_2 a3_3 true _ A13.out).mono ?_); rintro e w33 ⟨rfl, hb⟩; replace BK259 := am (blk_below (bX BK259.out) hb); replace BK260 := am (blk_below (bX BK260.out) hb); replace BK261 := am (blk_below (bX BK261.out) hb); replace HB := am (below_step (beX HB.out) hb); (try clear hb); (try clear hb2); (try clear hk); (try clear hi); have hcz34_0 := blk_cell BK259.out; have hfz34_0 := blk_frozen BK259.out) | (go_at_call 16; (with_reducible refine (imageeditorref02_Empty.calls a2_0 a2_1 a2_2 a2_3 false _ A15.out).mono ?_); rintro e w35 ⟨rfl, hb⟩; replace BK259 := am (blk_below (bX BK259.out) hb); replace BK260 := am (blk_below (bX BK260.out) hb); replace BK261 := am (blk_below (bX BK261.out) hb); replace HB := am (below_step (beX HB.out) hb); (try clear hb); (try clear hb2); (try clear hk); (try clear hi); have hcz36_0 := blk_cell BK259.out; have hfz36_0 := blk_frozen BK259.out; have hcz37_0 := blk_cell BK260.out; have hfz37_0 := blk_frozen BK260.out) | (go_at_call 17; (with_reducible refine (imageeditorref02_Within.calls k a2_0 a2_1 a2_2 a2_3 a3_0 a3_1 a3_2 a3_3 t266 _ A26.out).mono ?_); rintro e w38 ⟨rfl, hb⟩; replace BK259 := am (blk_below (bX BK259.out) hb); replace BK260 := am (blk_below (bX BK260.out) hb); replace BK261 := am (blk_below (bX BK261.out) hb); replace HB := am (below_step (beX HB.out) hb); (try clear hb); (try clear hb2); (try clear hk); (try clear hi)))
      go_meet
      case rel => exact ⟨_, (!t266), (by first | rfl | (simp; done) | (simp [*]; done)), H', ⟨by first | omega | exact Nat.le_refl _⟩, ⟨bX BK259.out⟩, ⟨bX BK260.out⟩, ⟨bX BK261.out⟩, ⟨beX HB.out⟩⟩
    ·replace c14 := Bool.eq_false_iff.mpr c14
     subst c14
     have H1 : (imageeditorref16_Needs.j0 k a0 l1 true a2_0 a2_1 a2_2 a2_3 a3_0 a3_1 a3_2 a3_3) = some (r1, r2, r3, r4, r5) := by rw [if_neg (show ¬ (false = true) by decide)] at H; exact H
     clear H
     have H := H1
     clear H1
     have H' := Aside0.mk H
     clear H
     have hnb39 := NB259_260.out
     have hnc39 := NB260_259.out
     have hnb40 := NB259_261.out
     have hnc40 := NB261_259.out
     have hcz41_0 := blk_cell BK259.out
     have hfz41_0 := blk_frozen BK259.out
     go_wp2_with (first | ((with_reducible refine gate_callee (f := 15) rfl ?_); refine goesL_ (some 19) rfl rfl Try.func15 (by kernel_rfl) rfl #[.agg #[.int .i64 a2_0, .int .i64 a2_1, .int .i64 a2_2, .int .i64 a2_3]] rfl (by (try simp only [List.map_toArray, List.map_cons, List.map_nil]); first | done | rfl | (simp only [List.length_drop, List.length_take]; rfl)) ?_; (with_reducible refine (imageeditorref02_Valid.calls a2_0 a2_1 a2_2 a2_3 true _ A11.out).mono ?_); rintro e w42 ⟨rfl, hb⟩; refine ⟨_, rfl, ?_⟩; replace BK259 := am (blk_below (bX BK259.out) hb); replace BK260 := am (blk_below (bX BK260.out) hb); replace BK261 := am (blk_below (bX BK261.out) hb); replace HB := am (below_step (beX HB.out) hb); (try clear hb); (try clear hb2); (try clear hk); (try clear hi); have hnb43 := NB260_261.out; have hnc43 := NB261_260.out; have hcz44_0 := blk_cell BK260.out; have hfz44_0 := blk_frozen BK260.out) | (go_at_call 15; (with_reducible refine (imageeditorref02_Valid.calls a3_0 a3_1 a3_2 a3_3 false _ A13.out).mono ?_); rintro e w45 ⟨rfl, hb⟩; replace BK259 := am (blk_below (bX BK259.out) hb); replace BK260 := am (blk_below (bX BK260.out) hb); replace BK261 := am (blk_below (bX BK261.out) hb); replace HB := am (below_step (beX HB.out) hb); (try clear hb); (try clear hb2); (try clear hk); (try clear hi)))
     go_meet
     case rel => exact ⟨_, (true), (by first | rfl | (simp; done) | (simp [*]; done)), H', ⟨by first | omega | exact Nat.le_refl _⟩, ⟨bX BK259.out⟩, ⟨bX BK260.out⟩, ⟨bX BK261.out⟩, ⟨beX HB.out⟩⟩
   ·replace c12 := Bool.eq_false_iff.mpr c12
    subst c12
    have H1 : (imageeditorref16_Needs.j0 k a0 l1 true a2_0 a2_1 a2_2 a2_3 a3_0 a3_1 a3_2 a3_3) = some (r1, r2, r3, r4, r5) := by rw [if_neg (show ¬ (false = true) by decide)] at H; exact H
    clear H
    have H := H1
    clear H1
    have H' := Aside0.mk H
    clear H
    have hnb46 := NB259_260.out
    have hnc46 := NB260_259.out
    have hnb47 := NB259_261.out
    have hnc47 := NB261_259.out
    have hcz48_0 := blk_cell BK259.out
    have hfz48_0 := blk_frozen BK259.out
    go_wp2_with (first | ((with_reducible refine gate_callee (f := 15) rfl ?_); refine goesL_ (some 19) rfl rfl Try.func15 (by kernel_rfl) rfl #[.agg #[.int .i64 a2_0, .int .i64 a2_1, .int .i64 a2_2, .int .i64 a2_3]] rfl (by (try simp only [List.map_toArray, List.map_cons, List.map_nil]); first | done | rfl | (simp only [List.length_drop, List.length_take]; rfl)) ?_; (with_reducible refine (imageeditorref02_Valid.calls a2_0 a2_1 a2_2 a2_3 false _ A11.out).mono ?_); rintro e w49 ⟨rfl, hb⟩; refine ⟨_, rfl, ?_⟩; replace BK259 := am (blk_below (bX BK259.out) hb); replace BK260 := am (blk_below (bX BK260.out) hb); replace BK261 := am (blk_below (bX BK261.out) hb); replace HB := am (below_step (beX HB.out) hb); (try clear hb); (try clear hb2); (try clear hk); (try clear hi)))
    go_meet
    case rel => exact ⟨_, (true), (by first | rfl | (simp; done) | (simp [*]; done)), H', ⟨by first | omega | exact Nat.le_refl _⟩, ⟨bX BK259.out⟩, ⟨bX BK260.out⟩, ⟨bX BK261.out⟩, ⟨beX HB.out⟩⟩
  case rest =>
   clear HC7
   try clear c1
   try clear c2
   try clear p2
   try clear c3
   try clear c4
   try clear c6
   try clear c6b0
   try clear c6b1
   try clear c8
   try clear c10
   try clear c12
   try clear c14
   try clear c15
   try clear c16
   try clear c17
   try clear c18
   try clear c21
   try clear c27
   try clear c28
   try clear c31
   try clear c39
   try clear c40
   try clear c43
   try clear c46
   try clear c47
   try clear hcz19_0
   try clear hcz19_1
   try clear hcz19_2
   try clear hcz19_3
   try clear hcz22_0
   try clear hcz22_1
   try clear hcz22_2
   try clear hcz22_3
   try clear hcz24_0
   try clear hcz24_1
   try clear hcz24_2
   try clear hcz24_3
   try clear hcz29_0
   try clear hcz29_1
   try clear hcz29_2
   try clear hcz29_3
   try clear hcz32_0
   try clear hcz32_1
   try clear hcz32_2
   try clear hcz32_3
   try clear hcz34_0
   try clear hcz34_1
   try clear hcz34_2
   try clear hcz34_3
   try clear hcz36_0
   try clear hcz36_1
   try clear hcz36_2
   try clear hcz36_3
   try clear hcz37_0
   try clear hcz37_1
   try clear hcz37_2
   try clear hcz37_3
   try clear hcz41_0
   try clear hcz41_1
   try clear hcz41_2
   try clear hcz41_3
   try clear hcz44_0
   try clear hcz44_1
   try clear hcz44_2
   try clear hcz44_3
   try clear hcz48_0
   try clear hcz48_1
   try clear hcz48_2
   try clear hcz48_3
   try clear hfz19_0
   try clear hfz19_1
   try clear hfz19_2
   try clear hfz19_3
   try clear hfz22_0
   try clear hfz22_1
   try clear hfz22_2
   try clear hfz22_3
   try clear hfz24_0
   try clear hfz24_1
   try clear hfz24_2
   try clear hfz24_3
   try clear hfz29_0
   try clear hfz29_1
   try clear hfz29_2
   try clear hfz29_3
   try clear hfz32_0
   try clear hfz32_1
   try clear hfz32_2
   try clear hfz32_3
   try clear hfz34_0
   try clear hfz34_1
   try clear hfz34_2
   try clear hfz34_3
   try clear hfz36_0
   try clear hfz36_1
   try clear hfz36_2
   try clear hfz36_3
   try clear hfz37_0
   try clear hfz37_1
   try clear hfz37_2
   try clear hfz37_3
   try clear hfz41_0
   try clear hfz41_1
   try clear hfz41_2
   try clear hfz41_3
   try clear hfz44_0
   try clear hfz44_1
   try clear hfz44_2
   try clear hfz44_3
   try clear hfz48_0
   try clear hfz48_1
   try clear hfz48_2
   try clear hfz48_3
   obtain ⟨kq, x35_6, rfl, HA, HJ6, BK259, BK260, BK261, HB⟩ := hcut
   cases kq with
   | zero => exact absurd HA.out (by simp [imageeditorref16_Needs.j0])
   | succ kj6 =>
    have H := HA.out
    clear HA
    simp only [imageeditorref16_Needs.j0] at H
    by_cases c50 : x35_6 = true
    ·subst c50
     have H1 : (some (0, 0, 0, 0, 2)) = some (r1, r2, r3, r4, r5) := by rw [if_pos rfl] at H; exact H
     clear H
     have H := H1
     clear H1
     simp only [Option.some.injEq, Prod.mk.injEq] at H
     obtain ⟨rfl, rfl, rfl, rfl, rfl⟩ := H
     have hnb51 := NB261_259.out
     have hnc51 := NB259_261.out
     have hnb52 := NB261_260.out
     have hnc52 := NB260_261.out
     have hcz53_0 := blk_cell BK261.out
     have hfz53_0 := blk_frozen BK261.out
     go_wp2
     refine bodyPost_ret (results_ct rfl _ _ gb261 24 #[.int .i64 0, .int .i64 0, .int .i64 0, .int .i64 0] (0, 0) _ rfl (by (with_reducible repeat (first | refine blk_drewN ?_ _ | refine blk_drew ?_ | refine blk_alloc ?_ _)); refine blk_put (cs := #[.int .i64 0, .int .i64 0, .int .i64 0, .int .i64 0]) ?_ 3 _ rfl; (with_reducible repeat (first | refine blk_drewN ?_ _ | refine blk_drew ?_ | refine blk_alloc ?_ _)); refine blk_put (cs := #[.int .i64 0, .int .i64 0, .int .i64 0, .int .i64 0]) ?_ 2 _ rfl; (with_reducible repeat (first | refine blk_drewN ?_ _ | refine blk_drew ?_ | refine blk_alloc ?_ _)); refine blk_put (cs := #[.int .i64 0, .int .i64 0, .int .i64 0, .int .i64 0]) ?_ 1 _ rfl; (with_reducible repeat (first | refine blk_drewN ?_ _ | refine blk_drew ?_ | refine blk_alloc ?_ _)); refine blk_put (cs := #[.int .i64 0, .int .i64 0, .int .i64 0, .int .i64 0]) ?_ 0 _ rfl; (with_reducible repeat (first | refine blk_drewN ?_ _ | refine blk_drew ?_ | refine blk_alloc ?_ _)); exact BK261.out) Try.underlying24 rfl (by kernel_rfl)) rfl ?_
     exact ⟨by first | rfl | (simp [errW_none, errW_some] <;> rfl) | (simp [*, errW_none, errW_some] <;> rfl), by repeat (first | (with_reducible first | exact HB.out | apply below_alloc | apply pw_below_drewN | apply below_drew1 | refine below_set ?_ GE259.out | refine below_set ?_ GE260.out | refine below_set ?_ GE261.out) | exact HB.out)⟩
    ·replace c50 := Bool.eq_false_iff.mpr c50
     subst c50
     have H1 : ((imageeditorref16_Reach.f kj6 a0 l1).bind fun t267 => ((imageeditorref02_Grow.f kj6 a2_0 a2_1 a2_2 a2_3 t267).bind fun bt268 => ((imageeditorref02_Meet.f kj6 bt268.1 bt268.2.1 bt268.2.2.1 bt268.2.2.2 a3_0 a3_1 a3_2 a3_3).bind fun bt272 => (some (bt272.1, bt272.2.1, bt272.2.2.1, bt272.2.2.2, 0))))) = some (r1, r2, r3, r4, r5) := by rw [if_neg (show ¬ (false = true) by decide)] at H; exact H
     clear H
     have H := H1
     clear H1
     replace H := Option.bind_eq_some_iff.mp H
     obtain ⟨t267, A540, H⟩ := H
     replace H : ((imageeditorref02_Grow.f kj6 a2_0 a2_1 a2_2 a2_3 t267).bind fun bt268 => ((imageeditorref02_Meet.f kj6 bt268.1 bt268.2.1 bt268.2.2.1 bt268.2.2.2 a3_0 a3_1 a3_2 a3_3).bind fun bt272 => (some (bt272.1, bt272.2.1, bt272.2.2.1, bt272.2.2.2, 0)))) = some (r1, r2, r3, r4, r5) := H
     have A54 := Aside0.mk A540
     clear A540
     replace H := Option.bind_eq_some_iff.mp H
     obtain ⟨⟨t268, t269, t270, t271⟩, A550, H⟩ := H
     replace H : ((imageeditorref02_Meet.f kj6 t268 t269 t270 t271 a3_0 a3_1 a3_2 a3_3).bind fun bt272 => (some (bt272.1, bt272.2.1, bt272.2.2.1, bt272.2.2.2, 0))) = some (r1, r2, r3, r4, r5) := H
     have A55 := Aside0.mk A550
     clear A550
     replace H := Option.bind_eq_some_iff.mp H
     obtain ⟨⟨t272, t273, t274, t275⟩, A560, H⟩ := H
     replace H : (some (t272, t273, t274, t275, 0)) = some (r1, r2, r3, r4, r5) := H
     have A56 := Aside0.mk A560
     clear A560
     simp only [Option.some.injEq, Prod.mk.injEq] at H
     obtain ⟨rfl, rfl, rfl, rfl, rfl⟩ := H
     try go_wp2
     replace BK259 := am (blk_drew BK259.out)
     replace BK260 := am (blk_drew BK260.out)
     replace BK261 := am (blk_drew BK261.out)
     replace HB := am (below_drew1 HB.out)
     refine start_ (n := 9) (S := fun w' => w'.cell? ⟨gb259, 0, none⟩ = some (.int .i64 a2_0) ∧ w'.cell? ⟨gb259, 1, none⟩ = some (.int .i64 a2_1) ∧ w'.cell? ⟨gb259, 2, none⟩ = some (.int .i64 a2_2) ∧ w'.cell? ⟨gb259, 3, none⟩ = some (.int .i64 a2_3) ∧ w'.cell? ⟨gb260, 0, none⟩ = some (.int .i64 a3_0) ∧ w'.cell? ⟨gb260, 1, none⟩ = some (.int .i64 a3_1) ∧ w'.cell? ⟨gb260, 2, none⟩ = some (.int .i64 a3_2) ∧ w'.cell? ⟨gb260, 3, none⟩ = some (.int .i64 a3_3)) (ds := []) #[false, false, false, false, false, false, false, false, false] (by kernel_rfl) rfl rfl ⟨(blk_cell BK259.out 0).trans rfl, (blk_cell BK259.out 1).trans rfl, (blk_cell BK259.out 2).trans rfl, (blk_cell BK259.out 3).trans rfl, (blk_cell BK260.out 0).trans rfl, (blk_cell BK260.out 1).trans rfl, (blk_cell BK260.out 2).trans rfl, (blk_cell BK260.out 3).trans rfl⟩ (fun hHeld => ?_); refine with_tabW imageeditorref16_Needs.tab6 imageeditorref16_Needs.bits6 (fun HT_ HW_ => ?_)
     generalize wc.drew = w57 at BK259 BK260 BK261 HB hHeld ⊢
     refine pure_ (i := 1) (N := some 38) (v := ?_) (a' := ?_) #[false, true, false, false, false, false, false, false, false] rfl rfl (any_of HT_.out (by kernel_rfl)) (fun _ _ _ h => h) (Or.inl ⟨by rfl, ?_⟩) ?_ ?_
     rotate_left
     ·intro w'
      go_simp
      with_reducible rfl
     rotate_left
     ·simp only [Act.put, List.setIfInBounds_toArray, List.set_cons_zero, List.set_cons_succ, i64_w, i32_w]
      rfl
     refine pure_ (i := 2) (N := some 39) (v := ?_) (a' := ?_) #[false, true, true, false, false, false, false, false, false] rfl rfl (any_of HT_.out (by kernel_rfl)) (fun _ _ _ h => h) (Or.inl ⟨by rfl, ?_⟩) ?_ ?_
     rotate_left
     ·intro w'
      go_simp
      with_reducible rfl
     rotate_left
     ·simp only [Act.put, List.setIfInBounds_toArray, List.set_cons_zero, List.set_cons_succ, i64_w, i32_w]
      rfl
     refine take_ (i := 0) (N := some 37) (v := ?_) (a' := ?_) #[true, true, true, false, false, false, false, false, false] rfl rfl (take_ofW HT_.out HW_.out (by kernel_rfl)) (fun _ _ _ h => h) (Or.inl ⟨by rfl, ?_⟩) hHeld ?_ ?_
     rotate_left
     ·rintro w' ⟨s0, s1, s2, s3, s4, s5, s6, s7⟩
      go_simp
      with_reducible rfl
     rotate_left
     ·simp only [Act.put, List.setIfInBounds_toArray, List.set_cons_zero, List.set_cons_succ, i64_w, i32_w]
      rfl
     refine take_ (i := 5) (N := some 42) (v := ?_) (a' := ?_) #[true, true, true, false, false, true, false, false, false] rfl rfl (take_ofW HT_.out HW_.out (by kernel_rfl)) (fun _ _ _ h => h) (Or.inl ⟨by rfl, ?_⟩) hHeld ?_ ?_
     rotate_left
     ·rintro w' ⟨s0, s1, s2, s3, s4, s5, s6, s7⟩
      go_simp
      with_reducible rfl
     rotate_left
     ·simp only [Act.put, List.setIfInBounds_toArray, List.set_cons_zero, List.set_cons_succ, i64_w, i32_w]
      rfl
     refine one_ (i := 3) (N := some 40) #[true, true, true, true, false, true, false, false, false] rfl rfl (one_of HT_.out (by kernel_rfl)) (by decide) (fun K hK => ?_)
     refine goes_ Try.func12 (by kernel_rfl) rfl #[.int .i64 a0, .slice A1 l1.length c1] (by rfl) rfl rfl (by (try simp only [List.map_toArray, List.map_cons, List.map_nil]); first | done | rfl | (simp only [List.length_drop, List.length_take]; rfl)) ?_
     with_reducible refine (imageeditorref16_Reach.calls kj6 a0 _ _ l1 t267 _ ?side1 ?side2 A54.out).mono ?_
     (case side1 => repeat (first | exact (Kd.C_below HR1.out HB.out) | (with_reducible refine Kd.C_alloc ?_ _) | (with_reducible refine Kd.C_drewN ?_ _) | (with_reducible refine Kd.C_drew ?_)))
     (case side2 => exact HC1.out)
     rintro e w58 ⟨rfl, hb⟩
     refine ⟨_, rfl, ?_⟩
     replace BK259 := am (blk_below (bX BK259.out) hb)
     replace BK260 := am (blk_below (bX BK260.out) hb)
     replace BK261 := am (blk_below (bX BK261.out) hb)
     replace HB := am (below_step (beX HB.out) hb)
     (try clear hb)
     (try clear hb2)
     (try clear hk)
     (try clear hi)
     refine hK.out _ _ ⟨(blk_cell BK259.out 0).trans rfl, (blk_cell BK259.out 1).trans rfl, (blk_cell BK259.out 2).trans rfl, (blk_cell BK259.out 3).trans rfl, (blk_cell BK260.out 0).trans rfl, (blk_cell BK260.out 1).trans rfl, (blk_cell BK260.out 2).trans rfl, (blk_cell BK260.out 3).trans rfl⟩ (fun hHeld => ?_)
     clear hK K
     refine norm_ (a' := ?_) ?_ ?_
     rotate_left
     ·show Act.put _ (some 40) _ = _
      simp only [Act.put, List.setIfInBounds_toArray, List.set_cons_zero, List.set_cons_succ, i64_w, i32_w]
      rfl
     refine one_ (i := 4) (N := some 41) #[true, true, true, true, true, true, false, false, false] rfl rfl (one_of HT_.out (by kernel_rfl)) (by decide) (fun K hK => ?_)
     refine goes_ Try.func30 (by kernel_rfl) rfl #[.agg #[.int .i64 a2_0, .int .i64 a2_1, .int .i64 a2_2, .int .i64 a2_3], .int .i64 t267] (by rfl) rfl rfl (by (try simp only [List.map_toArray, List.map_cons, List.map_nil]); first | done | rfl | (simp only [List.length_drop, List.length_take]; rfl)) ?_
     with_reducible refine (imageeditorref02_Grow.calls kj6 a2_0 a2_1 a2_2 a2_3 t267 t268 t269 t270 t271 _ A55.out).mono ?_
     rintro e w59 ⟨rfl, hb⟩
     refine ⟨_, rfl, ?_⟩
     replace BK259 := am (blk_below (bX BK259.out) hb)
     replace BK260 := am (blk_below (bX BK260.out) hb)
     replace BK261 := am (blk_below (bX BK261.out) hb)
     replace HB := am (below_step (beX HB.out) hb)
     (try clear hb)
     (try clear hb2)
     (try clear hk)
     (try clear hi)
     refine hK.out _ _ ⟨(blk_cell BK259.out 0).trans rfl, (blk_cell BK259.out 1).trans rfl, (blk_cell BK259.out 2).trans rfl, (blk_cell BK259.out 3).trans rfl, (blk_cell BK260.out 0).trans rfl, (blk_cell BK260.out 1).trans rfl, (blk_cell BK260.out 2).trans rfl, (blk_cell BK260.out 3).trans rfl⟩ (fun hHeld => ?_)
     clear hK K
     refine norm_ (a' := ?_) ?_ ?_
     rotate_left
     ·show Act.put _ (some 41) _ = _
      simp only [Act.put, List.setIfInBounds_toArray, List.set_cons_zero, List.set_cons_succ, i64_w, i32_w]
      rfl
     refine one_ (i := 6) (N := some 43) #[true, true, true, true, true, true, true, false, false] rfl rfl (one_of HT_.out (by kernel_rfl)) (by decide) (fun K hK => ?_)
     refine goes_ Try.func29 (by kernel_rfl) rfl #[.agg #[.int .i64 t268, .int .i64 t269, .int .i64 t270, .int .i64 t271], .agg #[.int .i64 a3_0, .int .i64 a3_1, .int .i64 a3_2, .int .i64 a3_3]] (by rfl) rfl rfl (by (try simp only [List.map_toArray, List.map_cons, List.map_nil]); first | done | rfl | (simp only [List.length_drop, List.length_take]; rfl)) ?_
     with_reducible refine (imageeditorref02_Meet.calls kj6 t268 t269 t270 t271 a3_0 a3_1 a3_2 a3_3 t272 t273 t274 t275 _ A56.out).mono ?_
     rintro e w60 ⟨rfl, hb⟩
     refine ⟨_, rfl, ?_⟩
     replace BK259 := am (blk_below (bX BK259.out) hb)
     replace BK260 := am (blk_below (bX BK260.out) hb)
     replace BK261 := am (blk_below (bX BK261.out) hb)
     replace HB := am (below_step (beX HB.out) hb)
     (try clear hb)
     (try clear hb2)
     (try clear hk)
     (try clear hi)
     refine hK.out _ _ ⟨(blk_cell BK259.out 0).trans rfl, (blk_cell BK259.out 1).trans rfl, (blk_cell BK259.out 2).trans rfl, (blk_cell BK259.out 3).trans rfl, (blk_cell BK260.out 0).trans rfl, (blk_cell BK260.out 1).trans rfl, (blk_cell BK260.out 2).trans rfl, (blk_cell BK260.out 3).trans rfl⟩ (fun hHeld => ?_)
     clear hK K
     refine norm_ (a' := ?_) ?_ ?_
     rotate_left
     ·show Act.put _ (some 43) _ = _
      simp only [Act.put, List.setIfInBounds_toArray, List.set_cons_zero, List.set_cons_succ, i64_w, i32_w]
      rfl
     refine one_ (i := 7) (N := none) #[true, true, true, true, true, true, true, true, false] rfl rfl (one_of HT_.out (by kernel_rfl)) (by decide) (fun K hK => ?_)
     have hs61 : w60.cell? ⟨gb261, 0, none⟩ = some (.int .i64 0) := (blk_cell BK261.out 0).trans rfl
     have hfs61 := blk_frozen BK261.out 0
     have hns61_0 := NB259_261.out
     have hns61_1 := NB260_261.out
     have hms61_0 := NB261_259.out
     have hms61_1 := NB261_260.out
     have hs62 : w60.cell? ⟨gb261, 1, none⟩ = some (.int .i64 0) := (blk_cell BK261.out 1).trans rfl
     have hfs62 := blk_frozen BK261.out 1
     have hns62_0 := NB259_261.out
     have hns62_1 := NB260_261.out
     have hms62_0 := NB261_259.out
     have hms62_1 := NB261_260.out
     have hs63 : w60.cell? ⟨gb261, 2, none⟩ = some (.int .i64 0) := (blk_cell BK261.out 2).trans rfl
     have hfs63 := blk_frozen BK261.out 2
     have hns63_0 := NB259_261.out
     have hns63_1 := NB260_261.out
     have hms63_0 := NB261_259.out
     have hms63_1 := NB261_260.out
     have hs64 : w60.cell? ⟨gb261, 3, none⟩ = some (.int .i64 0) := (blk_cell BK261.out 3).trans rfl
     have hfs64 := blk_frozen BK261.out 3
     have hns64_0 := NB259_261.out
     have hns64_1 := NB260_261.out
     have hms64_0 := NB261_259.out
     have hms64_1 := NB261_260.out
     refine skip_ (w1 := ?_) (by rfl) rfl ?_ ?_
     rotate_left
     ·go_simp
      rfl
     refine hK.out _ _ ⟨((cell_far (p := ⟨gb261, _, none⟩) NB259_261.out _).trans (((cell_far (p := ⟨gb261, _, none⟩) NB259_261.out _).trans (((cell_far (p := ⟨gb261, _, none⟩) NB259_261.out _).trans (((cell_far (p := ⟨gb261, _, none⟩) NB259_261.out _).trans (hHeld.1)))))))), ((cell_far (p := ⟨gb261, _, none⟩) NB259_261.out _).trans (((cell_far (p := ⟨gb261, _, none⟩) NB259_261.out _).trans (((cell_far (p := ⟨gb261, _, none⟩) NB259_261.out _).trans (((cell_far (p := ⟨gb261, _, none⟩) NB259_261.out _).trans (hHeld.2.1)))))))), ((cell_far (p := ⟨gb261, _, none⟩) NB259_261.out _).trans (((cell_far (p := ⟨gb261, _, none⟩) NB259_261.out _).trans (((cell_far (p := ⟨gb261, _, none⟩) NB259_261.out _).trans (((cell_far (p := ⟨gb261, _, none⟩) NB259_261.out _).trans (hHeld.2.2.1)))))))), ((cell_far (p := ⟨gb261, _, none⟩) NB259_261.out _).trans (((cell_far (p := ⟨gb261, _, none⟩) NB259_261.out _).trans (((cell_far (p := ⟨gb261, _, none⟩) NB259_261.out _).trans (((cell_far (p := ⟨gb261, _, none⟩) NB259_261.out _).trans (hHeld.2.2.2.1)))))))), ((cell_far (p := ⟨gb261, _, none⟩) NB260_261.out _).trans (((cell_far (p := ⟨gb261, _, none⟩) NB260_261.out _).trans (((cell_far (p := ⟨gb261, _, none⟩) NB260_261.out _).trans (((cell_far (p := ⟨gb261, _, none⟩) NB260_261.out _).trans (hHeld.2.2.2.2.1)))))))), ((cell_far (p := ⟨gb261, _, none⟩) NB260_261.out _).trans (((cell_far (p := ⟨gb261, _, none⟩) NB260_261.out _).trans (((cell_far (p := ⟨gb261, _, none⟩) NB260_261.out _).trans (((cell_far (p := ⟨gb261, _, none⟩) NB260_261.out _).trans (hHeld.2.2.2.2.2.1)))))))), ((cell_far (p := ⟨gb261, _, none⟩) NB260_261.out _).trans (((cell_far (p := ⟨gb261, _, none⟩) NB260_261.out _).trans (((cell_far (p := ⟨gb261, _, none⟩) NB260_261.out _).trans (((cell_far (p := ⟨gb261, _, none⟩) NB260_261.out _).trans (hHeld.2.2.2.2.2.2.1)))))))), ((cell_far (p := ⟨gb261, _, none⟩) NB260_261.out _).trans (((cell_far (p := ⟨gb261, _, none⟩) NB260_261.out _).trans (((cell_far (p := ⟨gb261, _, none⟩) NB260_261.out _).trans (((cell_far (p := ⟨gb261, _, none⟩) NB260_261.out _).trans (hHeld.2.2.2.2.2.2.2))))))))⟩ (fun hHeld => ?_)
     clear hK K
     refine pure_ (i := 8) (N := some 9) (v := ?_) (a' := ?_) #[true, true, true, true, true, true, true, true, true] rfl rfl (any_of HT_.out (by kernel_rfl)) (fun _ _ _ h => h) (Or.inl ⟨by rfl, ?_⟩) ?_ ?_
     rotate_left
     ·intro w'
      go_simp
      with_reducible rfl
     rotate_left
     ·simp only [Act.put, List.setIfInBounds_toArray, List.set_cons_zero, List.set_cons_succ, i64_w, i32_w]
      rfl
     refine done_ (done_of HT_.out (by kernel_rfl)) ?_
     try go_wp2
     refine bodyPost_ret (results_ct rfl _ _ gb261 24 #[.int .i64 t272, .int .i64 t273, .int .i64 t274, .int .i64 t275] (0, 0) _ rfl (by (with_reducible repeat (first | refine blk_drewN ?_ _ | refine blk_drew ?_ | refine blk_alloc ?_ _)); refine blk_put (cs := #[.int .i64 t272, .int .i64 t273, .int .i64 t274, .int .i64 0]) ?_ 3 _ rfl; (with_reducible repeat (first | refine blk_drewN ?_ _ | refine blk_drew ?_ | refine blk_alloc ?_ _)); refine blk_put (cs := #[.int .i64 t272, .int .i64 t273, .int .i64 0, .int .i64 0]) ?_ 2 _ rfl; (with_reducible repeat (first | refine blk_drewN ?_ _ | refine blk_drew ?_ | refine blk_alloc ?_ _)); refine blk_put (cs := #[.int .i64 t272, .int .i64 0, .int .i64 0, .int .i64 0]) ?_ 1 _ rfl; (with_reducible repeat (first | refine blk_drewN ?_ _ | refine blk_drew ?_ | refine blk_alloc ?_ _)); refine blk_put (cs := #[.int .i64 0, .int .i64 0, .int .i64 0, .int .i64 0]) ?_ 0 _ rfl; (with_reducible repeat (first | refine blk_drewN ?_ _ | refine blk_drew ?_ | refine blk_alloc ?_ _)); exact BK261.out) Try.underlying24 rfl (by kernel_rfl)) rfl ?_
     exact ⟨by first | rfl | (simp [errW_none, errW_some] <;> rfl) | (simp [*, errW_none, errW_some] <;> rfl), by repeat (first | (with_reducible first | exact HB.out | apply below_alloc | apply pw_below_drewN | apply below_drew1 | refine below_set ?_ GE259.out | refine below_set ?_ GE260.out | refine below_set ?_ GE261.out) | exact HB.out)⟩
 ·rw [if_neg c6] at H
  have c6b0 : (t262 == 0) = false := beq_eq_false_iff_ne.mpr c6
  have c6b1 : (t262 != 0) = true := bne_iff_ne.mpr c6
  simp only [Option.some.injEq, Prod.mk.injEq] at H
  obtain ⟨rfl, rfl, rfl, rfl, rfl⟩ := H
  go_enter Try.func8, Try.ntmps8
  go_wp2_with (first | ((with_reducible refine gate_dst (N := 6) rfl ?_); refine box_event ?hg (N := 6) ?hd (cs := #[.int .i64 a2_0, .int .i64 a2_1, .int .i64 a2_2, .int .i64 a2_3]) (t := 24) ?hr ?_; (case hd => rfl); (case hg => rfl); (case hr => first | (go_simp; done) | (go_simp; rfl)); intro gb259 hg w65 hbox hb; have BK259 := am (hbox); have GW259 := am ((by rw [hg]; exact (below_size (beX HB.out)) : w.heap.size ≤ gb259)); have GE259 := am ((by rw [hg]; exact (below_size (beX HB.out)) : w.heap.size ≤ gb259)); replace HB := am (below_step (beX HB.out) hb); clear hb hbox hg) | ((with_reducible refine gate_dst (N := 7) rfl ?_); refine box_event ?hg (N := 7) ?hd (cs := #[.int .i64 a3_0, .int .i64 a3_1, .int .i64 a3_2, .int .i64 a3_3]) (t := 24) ?hr ?_; (case hd => rfl); (case hg => rfl); (case hr => first | (go_simp; done) | (go_simp; rfl)); intro gb260 hg w66 hbox hb; have BK260 := am (hbox); have GW260 := am ((by rw [hg]; exact (below_size (beX HB.out)) : w.heap.size ≤ gb260)); have GE260 := am ((by rw [hg]; exact (below_size (beX HB.out)) : w.heap.size ≤ gb260)); have NB259_260 := am ((by rw [hg]; exact Nat.ne_of_lt (blk_lt (bX BK259.out)) : gb259 ≠ gb260)); have NB260_259 := am ((by rw [hg]; exact Nat.ne_of_gt (blk_lt (bX BK259.out)) : gb260 ≠ gb259)); replace BK259 := am (blk_below (bX BK259.out) hb); replace HB := am (below_step (beX HB.out) hb); clear hb hbox hg) | ((with_reducible refine gate_dst (N := 8) rfl ?_); refine box_event ?hg (N := 8) ?hd (cs := #[.int .i64 0, .int .i64 0, .int .i64 0, .int .i64 0]) (t := 24) ?hr ?_; (case hd => rfl); (case hg => rfl); (case hr => first | (go_simp; done) | (go_simp; rfl)); intro gb261 hg w67 hbox hb; have BK261 := am (hbox); have GW261 := am ((by rw [hg]; exact (below_size (beX HB.out)) : w.heap.size ≤ gb261)); have GE261 := am ((by rw [hg]; exact (below_size (beX HB.out)) : w.heap.size ≤ gb261)); have NB259_261 := am ((by rw [hg]; exact Nat.ne_of_lt (blk_lt (bX BK259.out)) : gb259 ≠ gb261)); have NB261_259 := am ((by rw [hg]; exact Nat.ne_of_gt (blk_lt (bX BK259.out)) : gb261 ≠ gb259)); have NB260_261 := am ((by rw [hg]; exact Nat.ne_of_lt (blk_lt (bX BK260.out)) : gb260 ≠ gb261)); have NB261_260 := am ((by rw [hg]; exact Nat.ne_of_gt (blk_lt (bX BK260.out)) : gb261 ≠ gb260)); replace BK259 := am (blk_below (bX BK259.out) hb); replace BK260 := am (blk_below (bX BK260.out) hb); replace HB := am (below_step (beX HB.out) hb); clear hb hbox hg) | ((with_reducible refine gate_callee (f := 10) rfl ?_); refine goesL_ (some 13) rfl rfl Try.func10 (by kernel_rfl) rfl #[.int .i64 a0, .slice A1 l1.length c1] rfl (by (try simp only [List.map_toArray, List.map_cons, List.map_nil]); first | done | rfl | (simp only [List.length_drop, List.length_take]; rfl)) ?_; (with_reducible refine (imageeditorref16_Check.calls k a0 _ _ l1 t262 _ ?side1 ?side2 A5.out).mono ?_); (case side1 => repeat (first | exact (Kd.C_below HR1.out HB.out) | (with_reducible refine Kd.C_alloc ?_ _) | (with_reducible refine Kd.C_drewN ?_ _) | (with_reducible refine Kd.C_drew ?_))); (case side2 => exact HC1.out); rintro e w' ⟨rfl, ⟨nd, rfl⟩⟩; refine ⟨_, rfl, ?_⟩; (try (rw [drewN_self w67]; generalize hq_ : World.drewN w67 _ = w67; have n0_ : Aside0 (w67.heap[gb259]? = some (.cells #[.int .i64 a2_0, .int .i64 a2_1, .int .i64 a2_2, .int .i64 a2_3] 24 (0, 0))) := ⟨by rw [← hq_]; exact (bX BK259.out)⟩; have n1_ : Aside0 (w67.heap[gb260]? = some (.cells #[.int .i64 a3_0, .int .i64 a3_1, .int .i64 a3_2, .int .i64 a3_3] 24 (0, 0))) := ⟨by rw [← hq_]; exact (bX BK260.out)⟩; have n2_ : Aside0 (w67.heap[gb261]? = some (.cells #[.int .i64 0, .int .i64 0, .int .i64 0, .int .i64 0] 24 (0, 0))) := ⟨by rw [← hq_]; exact (bX BK261.out)⟩; have n3_ : Aside0 (Below w.heap.size w w67) := ⟨by rw [← hq_]; exact (beX HB.out)⟩; clear BK259 BK260 BK261 HB hq_; have BK259 := n0_; have BK260 := n1_; have BK261 := n2_; have HB := n3_; clear n0_ n1_ n2_ n3_)); have hnb68 := NB261_259.out; have hnc68 := NB259_261.out; have hnb69 := NB261_260.out; have hnc69 := NB260_261.out; have hcz70_0 := blk_cell BK261.out; have hfz70_0 := blk_frozen BK261.out))
  refine bodyPost_ret (results_ct rfl _ _ gb261 24 #[.int .i64 0, .int .i64 0, .int .i64 0, .int .i64 0] (0, 0) _ rfl (by (with_reducible repeat (first | refine blk_drewN ?_ _ | refine blk_drew ?_ | refine blk_alloc ?_ _)); refine blk_put (cs := #[.int .i64 0, .int .i64 0, .int .i64 0, .int .i64 0]) ?_ 3 _ rfl; (with_reducible repeat (first | refine blk_drewN ?_ _ | refine blk_drew ?_ | refine blk_alloc ?_ _)); refine blk_put (cs := #[.int .i64 0, .int .i64 0, .int .i64 0, .int .i64 0]) ?_ 2 _ rfl; (with_reducible repeat (first | refine blk_drewN ?_ _ | refine blk_drew ?_ | refine blk_alloc ?_ _)); refine blk_put (cs := #[.int .i64 0, .int .i64 0, .int .i64 0, .int .i64 0]) ?_ 1 _ rfl; (with_reducible repeat (first | refine blk_drewN ?_ _ | refine blk_drew ?_ | refine blk_alloc ?_ _)); refine blk_put (cs := #[.int .i64 0, .int .i64 0, .int .i64 0, .int .i64 0]) ?_ 0 _ rfl; (with_reducible repeat (first | refine blk_drewN ?_ _ | refine blk_drew ?_ | refine blk_alloc ?_ _)); exact BK261.out) Try.underlying24 rfl (by kernel_rfl)) rfl ?_
  exact ⟨by first | rfl | (simp [errW_none, errW_some] <;> rfl) | (simp [*, errW_none, errW_some] <;> rfl), by repeat (first | (with_reducible first | exact HB.out | apply below_alloc | apply pw_below_drewN | apply below_drew1 | refine below_set ?_ GE259.out | refine below_set ?_ GE260.out | refine below_set ?_ GE261.out) | exact HB.out)⟩

/-! ### raster_sides: function 49 -/
def raster_sides.f (a0 : Int) (a1 : Int) : Option (Int) := if a0 < 0 then (some 15) else (if a0 > 256 then (some 15) else (if a1 < 0 then (some 15) else (if a1 > 256 then (some 15) else (if ((a0 == 0) != (a1 == 0)) = true then (some 15) else (some 0)))))
set_option maxHeartbeats 8000000 in
set_option maxRecDepth 100000 in
theorem raster_sides.calls (a0 : Int) (a1 : Int) (r : Int) (w : World) (h : raster_sides.f a0 a1 = some r) :
  Calls Try.prog 49 #[.int .i64 a0, .int .i64 a1] w fun e w' => e = .returned (.int .i64 r) ∧ Drawn0 w w' := by
 have H : (if a0 < 0 then (some 15) else (if a0 > 256 then (some 15) else (if a1 < 0 then (some 15) else (if a1 > 256 then (some 15) else (if ((a0 == 0) != (a1 == 0)) = true then (some 15) else (some 0)))))) = some r := h
 clear h
 by_cases c3 : a0 < 0
 ·rw [if_pos c3] at H
  have c3b0 : decide (a0 < 0) = true := decide_eq_true c3
  clear c3
  obtain rfl := Option.some.inj H
  go_enter Try.func49, Try.ntmps49
  go_wp2
  go_ret
  exact ⟨by first | rfl | (simp; done) | (simp [*]; done), by repeat (first | exact Drawn0.refl _ | apply Drawn0.step)⟩
 ·rw [if_neg c3] at H
  have c3b0 : decide (a0 < 0) = false := decide_eq_false c3
  clear c3
  by_cases c4 : a0 > 256
  ·rw [if_pos c4] at H
   have c4b0 : decide (256 < a0) = true := decide_eq_true c4
   clear c4
   obtain rfl := Option.some.inj H
   go_enter Try.func49, Try.ntmps49
   go_wp2
   go_ret
   exact ⟨by first | rfl | (simp; done) | (simp [*]; done), by repeat (first | exact Drawn0.refl _ | apply Drawn0.step)⟩
  ·rw [if_neg c4] at H
   have c4b0 : decide (256 < a0) = false := decide_eq_false c4
   clear c4
   by_cases c5 : a1 < 0
   ·rw [if_pos c5] at H
    have c5b0 : decide (a1 < 0) = true := decide_eq_true c5
    clear c5
    obtain rfl := Option.some.inj H
    go_enter Try.func49, Try.ntmps49
    go_wp2
    go_ret
    exact ⟨by first | rfl | (simp; done) | (simp [*]; done), by repeat (first | exact Drawn0.refl _ | apply Drawn0.step)⟩
   ·rw [if_neg c5] at H
    have c5b0 : decide (a1 < 0) = false := decide_eq_false c5
    clear c5
    by_cases c6 : a1 > 256
    ·rw [if_pos c6] at H
     have c6b0 : decide (256 < a1) = true := decide_eq_true c6
     clear c6
     obtain rfl := Option.some.inj H
     go_enter Try.func49, Try.ntmps49
     go_wp2
     go_ret
     exact ⟨by first | rfl | (simp; done) | (simp [*]; done), by repeat (first | exact Drawn0.refl _ | apply Drawn0.step)⟩
    ·rw [if_neg c6] at H
     have c6b0 : decide (256 < a1) = false := decide_eq_false c6
     clear c6
     by_cases c7 : ((a0 == 0) != (a1 == 0)) = true
     ·rw [if_pos c7] at H
      have c7b0 : ((a0 == 0) != (a1 == 0)) = true := c7
      (try (have c7b1 : decide ((a0 == 0) = (a1 == 0)) = false := by simpa using c7))
      (try (have c7b2 : ((a0 == 0) == (a1 == 0)) = false := by simpa using c7))
      (try (have c7b3 : ¬ ((a0 == 0) = (a1 == 0)) := by simpa using c7))
      clear c7
      obtain rfl := Option.some.inj H
      go_enter Try.func49, Try.ntmps49
      go_wp2
      go_ret
      exact ⟨by first | rfl | (simp; done) | (simp [*]; done), by repeat (first | exact Drawn0.refl _ | apply Drawn0.step)⟩
     ·rw [if_neg c7] at H
      have c7b0 : ((a0 == 0) != (a1 == 0)) = false := by simpa using c7
      (try (have c7b1 : decide ((a0 == 0) = (a1 == 0)) = true := by simpa using c7))
      (try (have c7b2 : ((a0 == 0) == (a1 == 0)) = true := by simpa using c7))
      clear c7
      obtain rfl := Option.some.inj H
      go_enter Try.func49, Try.ntmps49
      go_wp2
      go_ret
      exact ⟨by first | rfl | (simp; done) | (simp [*]; done), by repeat (first | exact Drawn0.refl _ | apply Drawn0.step)⟩

/-! ### num_Clamp: function 69 -/
def num_Clamp.f (a0 : Int) (a1 : Int) (a2 : Int) : Option (Int) := some (mn a2 (mx a0 a1))
set_option maxHeartbeats 8000000 in
set_option maxRecDepth 100000 in
theorem num_Clamp.calls (a0 : Int) (a1 : Int) (a2 : Int) (r : Int) (w : World) (h : num_Clamp.f a0 a1 a2 = some r) :
  Calls Try.prog 69 #[.int .i64 a0, .int .i64 a1, .int .i64 a2] w fun e w' => e = .returned (.int .i64 r) ∧ Below w.heap.size w w' := by
 have HB := am (Below.refl w.heap.size w)
 have H : (some (mn a2 (mx a0 a1))) = some r := h
 clear h
 obtain ⟨ji4, hji4⟩ : ∃ j_ : Int, (mx a0 a1) = j_ := ⟨_, rfl⟩
 replace H : (some (mn a2 (ji4))) = some r := by first | (rw [hji4] at H; exact H) | (simp only [hji4] at H ⊢; exact H)
 have hji4_ : (if a0 < a1 then a1 else a0) = ji4 := hji4
 obtain ⟨ji5, hji5⟩ : ∃ j_ : Int, (mn a2 (ji4)) = j_ := ⟨_, rfl⟩
 replace H : (some ji5) = some r := by first | (rw [hji5] at H; exact H) | (simp only [hji5] at H ⊢; exact H)
 have hji5_ : (if (ji4) < a2 then (ji4) else a2) = ji5 := hji5
 obtain rfl := Option.some.inj H
 go_enter Try.func69, Try.ntmps69
 go_wp2
 go_ret
 exact ⟨by first | rfl | (simp [errW_none, errW_some] <;> rfl) | (simp only [← hji4, ← hji5]; first | rfl | (simp [errW_none, errW_some] <;> rfl)) | (simp [*, errW_none, errW_some] <;> rfl), by exact beX HB.out⟩

/-! ### pixel_unit: function 81 -/
def pixel_unit.f (a0 : Int) : Option (Int) := (num_Clamp.f a0 0 65535).bind fun t276 => (some t276)
set_option maxHeartbeats 8000000 in
set_option maxRecDepth 100000 in
theorem pixel_unit.calls (a0 : Int) (r : Int) (w : World) (h : pixel_unit.f a0 = some r) :
  Calls Try.prog 81 #[.int .i64 a0] w fun e w' => e = .returned (.int .i64 r) ∧ Below w.heap.size w w' := by
 have HB := am (Below.refl w.heap.size w)
 have H : ((num_Clamp.f a0 0 65535).bind fun t276 => (some t276)) = some r := h
 clear h
 replace H := Option.bind_eq_some_iff.mp H
 obtain ⟨t276, A20, H⟩ := H
 replace H : (some t276) = some r := H
 have A2 := Aside0.mk A20
 clear A20
 obtain rfl := Option.some.inj H
 go_enter Try.func81, Try.ntmps81
 go_wp2_with (first | ((with_reducible refine gate_callee (f := 69) rfl ?_); refine goesL_ (some 4) rfl rfl Try.func69 (by kernel_rfl) rfl #[.int .i64 a0, .int .i64 0, .int .i64 65535] rfl (by (try simp only [List.map_toArray, List.map_cons, List.map_nil]); first | done | rfl | (simp only [List.length_drop, List.length_take]; rfl)) ?_; (with_reducible refine (num_Clamp.calls a0 0 65535 t276 _ A2.out).mono ?_); rintro e w3 ⟨rfl, hb⟩; refine ⟨_, rfl, ?_⟩; replace HB := am (below_step (beX HB.out) hb); (try clear hb); (try clear hb2); (try clear hk); (try clear hi)))
 go_ret
 exact ⟨by first | rfl | (simp [errW_none, errW_some] <;> rfl) | (simp [*, errW_none, errW_some] <;> rfl), by exact beX HB.out⟩

end Go.Proofs.Ytocefehnemahhaa.G
