-- laid by gprint.py (a program of this proof's writer) out of the translation; Lean checks it.
import Derived.Test.YtocefehnemahhaaG0
namespace Go.Proofs.Ytocefehnemahhaa.G
open Go.RowKit Go.Proofs.YtocefehnemahhaaW.PrintWords Go.Proofs.YtocefehnemahhaaW.PrintLast Go.Proofs.YtocefehnemahhaaW.PrintMore
attribute [local go_sem] max2_int min2_int max_two min_two max_three min_three max_four min_four   -- for this text's walks alone
set_option linter.unusedVariables false
set_option linter.unusedSimpArgs false

/-! ### imageeditorref02_Valid: function 15 -/
def imageeditorref02_Valid.f (a0_0 : Int) (a0_1 : Int) (a0_2 : Int) (a0_3 : Int) : Option (Bool) := if a0_0 < (-1048576) then (some false) else (if a0_0 > 1048576 then (some false) else (if a0_1 < (-1048576) then (some false) else (if a0_1 > 1048576 then (some false) else (if a0_2 ≥ 0 then (if a0_3 ≥ 0 then (if a0_2 ≤ (wrap64 (1048576 - a0_0)) then (some (decide (a0_3 ≤ (wrap64 (1048576 - a0_1))))) else (some false)) else (some false)) else (some false)))))
set_option maxHeartbeats 8000000 in
set_option maxRecDepth 100000 in
theorem imageeditorref02_Valid.calls (a0_0 : Int) (a0_1 : Int) (a0_2 : Int) (a0_3 : Int) (r : Bool) (w : World) (h : imageeditorref02_Valid.f a0_0 a0_1 a0_2 a0_3 = some r) :
  Calls Try.prog 15 #[.agg #[.int .i64 a0_0, .int .i64 a0_1, .int .i64 a0_2, .int .i64 a0_3]] w fun e w' => e = .returned (.bool r) ∧ Below w.heap.size w w' := by
 have hu24 := Try.underlying24
 have HB := am (Below.refl w.heap.size w)
 have H : (if a0_0 < (-1048576) then (some false) else (if a0_0 > 1048576 then (some false) else (if a0_1 < (-1048576) then (some false) else (if a0_1 > 1048576 then (some false) else (if a0_2 ≥ 0 then (if a0_3 ≥ 0 then (if a0_2 ≤ (wrap64 (1048576 - a0_0)) then (some (decide (a0_3 ≤ (wrap64 (1048576 - a0_1))))) else (some false)) else (some false)) else (some false)))))) = some r := h
 clear h
 by_cases c2 : a0_0 < (-1048576)
 ·rw [if_pos c2] at H
  have c2b0 : decide (a0_0 < (-1048576)) = true := decide_eq_true c2
  clear c2
  obtain rfl := Option.some.inj H
  go_enter Try.func15, Try.ntmps15
  go_wp2_with (first | ((with_reducible refine gate_dst (N := 1) rfl ?_); refine box_event ?hg (N := 1) ?hd (cs := #[.int .i64 a0_0, .int .i64 a0_1, .int .i64 a0_2, .int .i64 a0_3]) (t := 24) ?hr ?_; (case hd => rfl); (case hg => rfl); (case hr => first | (go_simp; done) | (go_simp; rfl)); intro gb204 hg w3 hbox hb; have BK204 := am (hbox); have GW204 := am ((by rw [hg]; exact (below_size (beX HB.out)) : w.heap.size ≤ gb204)); have GE204 := am ((by rw [hg]; exact (below_size (beX HB.out)) : w.heap.size ≤ gb204)); replace HB := am (below_step (beX HB.out) hb); clear hb hbox hg; have hcz4_0 := blk_cell BK204.out; have hfz4_0 := blk_frozen BK204.out))
  go_ret
  exact ⟨by first | rfl | (simp [errW_none, errW_some] <;> rfl) | (simp [*, errW_none, errW_some] <;> rfl), by exact beX HB.out⟩
 ·rw [if_neg c2] at H
  have c2b0 : decide (a0_0 < (-1048576)) = false := decide_eq_false c2
  clear c2
  by_cases c5 : a0_0 > 1048576
  ·rw [if_pos c5] at H
   have c5b0 : decide (1048576 < a0_0) = true := decide_eq_true c5
   clear c5
   obtain rfl := Option.some.inj H
   go_enter Try.func15, Try.ntmps15
   go_wp2_with (first | ((with_reducible refine gate_dst (N := 1) rfl ?_); refine box_event ?hg (N := 1) ?hd (cs := #[.int .i64 a0_0, .int .i64 a0_1, .int .i64 a0_2, .int .i64 a0_3]) (t := 24) ?hr ?_; (case hd => rfl); (case hg => rfl); (case hr => first | (go_simp; done) | (go_simp; rfl)); intro gb204 hg w6 hbox hb; have BK204 := am (hbox); have GW204 := am ((by rw [hg]; exact (below_size (beX HB.out)) : w.heap.size ≤ gb204)); have GE204 := am ((by rw [hg]; exact (below_size (beX HB.out)) : w.heap.size ≤ gb204)); replace HB := am (below_step (beX HB.out) hb); clear hb hbox hg; have hcz7_0 := blk_cell BK204.out; have hfz7_0 := blk_frozen BK204.out))
   go_ret
   exact ⟨by first | rfl | (simp [errW_none, errW_some] <;> rfl) | (simp [*, errW_none, errW_some] <;> rfl), by exact beX HB.out⟩
  ·rw [if_neg c5] at H
   have c5b0 : decide (1048576 < a0_0) = false := decide_eq_false c5
   clear c5
   by_cases c8 : a0_1 < (-1048576)
   ·rw [if_pos c8] at H
    have c8b0 : decide (a0_1 < (-1048576)) = true := decide_eq_true c8
    clear c8
    obtain rfl := Option.some.inj H
    go_enter Try.func15, Try.ntmps15
    go_wp2_with (first | ((with_reducible refine gate_dst (N := 1) rfl ?_); refine box_event ?hg (N := 1) ?hd (cs := #[.int .i64 a0_0, .int .i64 a0_1, .int .i64 a0_2, .int .i64 a0_3]) (t := 24) ?hr ?_; (case hd => rfl); (case hg => rfl); (case hr => first | (go_simp; done) | (go_simp; rfl)); intro gb204 hg w9 hbox hb; have BK204 := am (hbox); have GW204 := am ((by rw [hg]; exact (below_size (beX HB.out)) : w.heap.size ≤ gb204)); have GE204 := am ((by rw [hg]; exact (below_size (beX HB.out)) : w.heap.size ≤ gb204)); replace HB := am (below_step (beX HB.out) hb); clear hb hbox hg; have hcz10_0 := blk_cell BK204.out; have hfz10_0 := blk_frozen BK204.out))
    go_ret
    exact ⟨by first | rfl | (simp [errW_none, errW_some] <;> rfl) | (simp [*, errW_none, errW_some] <;> rfl), by exact beX HB.out⟩
   ·rw [if_neg c8] at H
    have c8b0 : decide (a0_1 < (-1048576)) = false := decide_eq_false c8
    clear c8
    by_cases c11 : a0_1 > 1048576
    ·rw [if_pos c11] at H
     have c11b0 : decide (1048576 < a0_1) = true := decide_eq_true c11
     clear c11
     obtain rfl := Option.some.inj H
     go_enter Try.func15, Try.ntmps15
     go_wp2_with (first | ((with_reducible refine gate_dst (N := 1) rfl ?_); refine box_event ?hg (N := 1) ?hd (cs := #[.int .i64 a0_0, .int .i64 a0_1, .int .i64 a0_2, .int .i64 a0_3]) (t := 24) ?hr ?_; (case hd => rfl); (case hg => rfl); (case hr => first | (go_simp; done) | (go_simp; rfl)); intro gb204 hg w12 hbox hb; have BK204 := am (hbox); have GW204 := am ((by rw [hg]; exact (below_size (beX HB.out)) : w.heap.size ≤ gb204)); have GE204 := am ((by rw [hg]; exact (below_size (beX HB.out)) : w.heap.size ≤ gb204)); replace HB := am (below_step (beX HB.out) hb); clear hb hbox hg; have hcz13_0 := blk_cell BK204.out; have hfz13_0 := blk_frozen BK204.out))
     go_ret
     exact ⟨by first | rfl | (simp [errW_none, errW_some] <;> rfl) | (simp [*, errW_none, errW_some] <;> rfl), by exact beX HB.out⟩
    ·rw [if_neg c11] at H
     have c11b0 : decide (1048576 < a0_1) = false := decide_eq_false c11
     clear c11
     by_cases c14 : a0_2 ≥ 0
     ·rw [if_pos c14] at H
      have c14b0 : decide (0 ≤ a0_2) = true := decide_eq_true c14
      clear c14
      by_cases c15 : a0_3 ≥ 0
      ·rw [if_pos c15] at H
       have c15b0 : decide (0 ≤ a0_3) = true := decide_eq_true c15
       clear c15
       by_cases c16 : a0_2 ≤ (wrap64 (1048576 - a0_0))
       ·rw [if_pos c16] at H
        have c16b0 : decide (a0_2 ≤ (wrap64 (1048576 - a0_0))) = true := decide_eq_true c16
        clear c16
        obtain rfl := Option.some.inj H
        go_enter Try.func15, Try.ntmps15
        go_wp2_with (first | ((with_reducible refine gate_dst (N := 1) rfl ?_); refine box_event ?hg (N := 1) ?hd (cs := #[.int .i64 a0_0, .int .i64 a0_1, .int .i64 a0_2, .int .i64 a0_3]) (t := 24) ?hr ?_; (case hd => rfl); (case hg => rfl); (case hr => first | (go_simp; done) | (go_simp; rfl)); intro gb204 hg w17 hbox hb; have BK204 := am (hbox); have GW204 := am ((by rw [hg]; exact (below_size (beX HB.out)) : w.heap.size ≤ gb204)); have GE204 := am ((by rw [hg]; exact (below_size (beX HB.out)) : w.heap.size ≤ gb204)); replace HB := am (below_step (beX HB.out) hb); clear hb hbox hg; have hcz18_0 := blk_cell BK204.out; have hfz18_0 := blk_frozen BK204.out))
        go_ret
        exact ⟨by first | rfl | (simp [errW_none, errW_some] <;> rfl) | (simp [*, errW_none, errW_some] <;> rfl), by exact beX HB.out⟩
       ·rw [if_neg c16] at H
        have c16b0 : decide (a0_2 ≤ (wrap64 (1048576 - a0_0))) = false := decide_eq_false c16
        clear c16
        obtain rfl := Option.some.inj H
        go_enter Try.func15, Try.ntmps15
        go_wp2_with (first | ((with_reducible refine gate_dst (N := 1) rfl ?_); refine box_event ?hg (N := 1) ?hd (cs := #[.int .i64 a0_0, .int .i64 a0_1, .int .i64 a0_2, .int .i64 a0_3]) (t := 24) ?hr ?_; (case hd => rfl); (case hg => rfl); (case hr => first | (go_simp; done) | (go_simp; rfl)); intro gb204 hg w19 hbox hb; have BK204 := am (hbox); have GW204 := am ((by rw [hg]; exact (below_size (beX HB.out)) : w.heap.size ≤ gb204)); have GE204 := am ((by rw [hg]; exact (below_size (beX HB.out)) : w.heap.size ≤ gb204)); replace HB := am (below_step (beX HB.out) hb); clear hb hbox hg; have hcz20_0 := blk_cell BK204.out; have hfz20_0 := blk_frozen BK204.out))
        go_ret
        exact ⟨by first | rfl | (simp [errW_none, errW_some] <;> rfl) | (simp [*, errW_none, errW_some] <;> rfl), by exact beX HB.out⟩
      ·rw [if_neg c15] at H
       have c15b0 : decide (0 ≤ a0_3) = false := decide_eq_false c15
       clear c15
       obtain rfl := Option.some.inj H
       go_enter Try.func15, Try.ntmps15
       go_wp2_with (first | ((with_reducible refine gate_dst (N := 1) rfl ?_); refine box_event ?hg (N := 1) ?hd (cs := #[.int .i64 a0_0, .int .i64 a0_1, .int .i64 a0_2, .int .i64 a0_3]) (t := 24) ?hr ?_; (case hd => rfl); (case hg => rfl); (case hr => first | (go_simp; done) | (go_simp; rfl)); intro gb204 hg w21 hbox hb; have BK204 := am (hbox); have GW204 := am ((by rw [hg]; exact (below_size (beX HB.out)) : w.heap.size ≤ gb204)); have GE204 := am ((by rw [hg]; exact (below_size (beX HB.out)) : w.heap.size ≤ gb204)); replace HB := am (below_step (beX HB.out) hb); clear hb hbox hg; have hcz22_0 := blk_cell BK204.out; have hfz22_0 := blk_frozen BK204.out))
       go_ret
       exact ⟨by first | rfl | (simp [errW_none, errW_some] <;> rfl) | (simp [*, errW_none, errW_some] <;> rfl), by exact beX HB.out⟩
     ·rw [if_neg c14] at H
      have c14b0 : decide (0 ≤ a0_2) = false := decide_eq_false c14
      clear c14
      obtain rfl := Option.some.inj H
      go_enter Try.func15, Try.ntmps15
      go_wp2_with (first | ((with_reducible refine gate_dst (N := 1) rfl ?_); refine box_event ?hg (N := 1) ?hd (cs := #[.int .i64 a0_0, .int .i64 a0_1, .int .i64 a0_2, .int .i64 a0_3]) (t := 24) ?hr ?_; (case hd => rfl); (case hg => rfl); (case hr => first | (go_simp; done) | (go_simp; rfl)); intro gb204 hg w23 hbox hb; have BK204 := am (hbox); have GW204 := am ((by rw [hg]; exact (below_size (beX HB.out)) : w.heap.size ≤ gb204)); have GE204 := am ((by rw [hg]; exact (below_size (beX HB.out)) : w.heap.size ≤ gb204)); replace HB := am (below_step (beX HB.out) hb); clear hb hbox hg; have hcz24_0 := blk_cell BK204.out; have hfz24_0 := blk_frozen BK204.out))
      go_ret
      exact ⟨by first | rfl | (simp [errW_none, errW_some] <;> rfl) | (simp [*, errW_none, errW_some] <;> rfl), by exact beX HB.out⟩

/-! ### imageeditorref02_Empty: function 16 -/
def imageeditorref02_Empty.f (a0_0 : Int) (a0_1 : Int) (a0_2 : Int) (a0_3 : Int) : Option (Bool) := (imageeditorref02_Valid.f a0_0 a0_1 a0_2 a0_3).bind fun t206 => (if t206 = true then (if a0_2 = 0 then (some true) else (some (a0_3 == 0))) else (some true))
set_option maxHeartbeats 8000000 in
set_option maxRecDepth 100000 in
theorem imageeditorref02_Empty.calls (a0_0 : Int) (a0_1 : Int) (a0_2 : Int) (a0_3 : Int) (r : Bool) (w : World) (h : imageeditorref02_Empty.f a0_0 a0_1 a0_2 a0_3 = some r) :
  Calls Try.prog 16 #[.agg #[.int .i64 a0_0, .int .i64 a0_1, .int .i64 a0_2, .int .i64 a0_3]] w fun e w' => e = .returned (.bool r) ∧ Below w.heap.size w w' := by
 have hu24 := Try.underlying24
 have HB := am (Below.refl w.heap.size w)
 have H : ((imageeditorref02_Valid.f a0_0 a0_1 a0_2 a0_3).bind fun t206 => (if t206 = true then (if a0_2 = 0 then (some true) else (some (a0_3 == 0))) else (some true))) = some r := h
 clear h
 replace H := Option.bind_eq_some_iff.mp H
 obtain ⟨t206, A20, H⟩ := H
 replace H : (if t206 = true then (if a0_2 = 0 then (some true) else (some (a0_3 == 0))) else (some true)) = some r := H
 have A2 := Aside0.mk A20
 clear A20
 by_cases c3 : t206 = true
 ·subst c3
  have H1 : (if a0_2 = 0 then (some true) else (some (a0_3 == 0))) = some r := by rw [if_pos rfl] at H; exact H
  clear H
  have H := H1
  clear H1
  by_cases c4 : a0_2 = 0
  ·rw [if_pos c4] at H
   have c4b0 : (a0_2 == 0) = true := beq_iff_eq.mpr c4
   have c4b1 : (a0_2 != 0) = false := bne_eq_false_iff_eq.mpr c4
   clear c4
   obtain rfl := Option.some.inj H
   go_enter Try.func16, Try.ntmps16
   go_wp2_with (first | ((with_reducible refine gate_dst (N := 1) rfl ?_); refine box_event ?hg (N := 1) ?hd (cs := #[.int .i64 a0_0, .int .i64 a0_1, .int .i64 a0_2, .int .i64 a0_3]) (t := 24) ?hr ?_; (case hd => rfl); (case hg => rfl); (case hr => first | (go_simp; done) | (go_simp; rfl)); intro gb205 hg w5 hbox hb; have BK205 := am (hbox); have GW205 := am ((by rw [hg]; exact (below_size (beX HB.out)) : w.heap.size ≤ gb205)); have GE205 := am ((by rw [hg]; exact (below_size (beX HB.out)) : w.heap.size ≤ gb205)); replace HB := am (below_step (beX HB.out) hb); clear hb hbox hg; have hcz6_0 := blk_cell BK205.out; have hfz6_0 := blk_frozen BK205.out) | ((with_reducible refine gate_callee (f := 15) rfl ?_); refine goesL_ (some 4) rfl rfl Try.func15 (by kernel_rfl) rfl #[.agg #[.int .i64 a0_0, .int .i64 a0_1, .int .i64 a0_2, .int .i64 a0_3]] rfl (by (try simp only [List.map_toArray, List.map_cons, List.map_nil]); first | done | rfl | (simp only [List.length_drop, List.length_take]; rfl)) ?_; (with_reducible refine (imageeditorref02_Valid.calls a0_0 a0_1 a0_2 a0_3 true _ A2.out).mono ?_); rintro e w7 ⟨rfl, hb⟩; refine ⟨_, rfl, ?_⟩; replace BK205 := am (blk_below (bX BK205.out) hb); replace HB := am (below_step (beX HB.out) hb); (try clear hb); (try clear hb2); (try clear hk); (try clear hi); have hcz8_0 := blk_cell BK205.out; have hfz8_0 := blk_frozen BK205.out))
   go_ret
   exact ⟨by first | rfl | (simp [errW_none, errW_some] <;> rfl) | (simp [*, errW_none, errW_some] <;> rfl), by exact beX HB.out⟩
  ·rw [if_neg c4] at H
   have c4b0 : (a0_2 == 0) = false := beq_eq_false_iff_ne.mpr c4
   have c4b1 : (a0_2 != 0) = true := bne_iff_ne.mpr c4
   obtain rfl := Option.some.inj H
   go_enter Try.func16, Try.ntmps16
   go_wp2_with (first | ((with_reducible refine gate_dst (N := 1) rfl ?_); refine box_event ?hg (N := 1) ?hd (cs := #[.int .i64 a0_0, .int .i64 a0_1, .int .i64 a0_2, .int .i64 a0_3]) (t := 24) ?hr ?_; (case hd => rfl); (case hg => rfl); (case hr => first | (go_simp; done) | (go_simp; rfl)); intro gb205 hg w9 hbox hb; have BK205 := am (hbox); have GW205 := am ((by rw [hg]; exact (below_size (beX HB.out)) : w.heap.size ≤ gb205)); have GE205 := am ((by rw [hg]; exact (below_size (beX HB.out)) : w.heap.size ≤ gb205)); replace HB := am (below_step (beX HB.out) hb); clear hb hbox hg; have hcz10_0 := blk_cell BK205.out; have hfz10_0 := blk_frozen BK205.out) | ((with_reducible refine gate_callee (f := 15) rfl ?_); refine goesL_ (some 4) rfl rfl Try.func15 (by kernel_rfl) rfl #[.agg #[.int .i64 a0_0, .int .i64 a0_1, .int .i64 a0_2, .int .i64 a0_3]] rfl (by (try simp only [List.map_toArray, List.map_cons, List.map_nil]); first | done | rfl | (simp only [List.length_drop, List.length_take]; rfl)) ?_; (with_reducible refine (imageeditorref02_Valid.calls a0_0 a0_1 a0_2 a0_3 true _ A2.out).mono ?_); rintro e w11 ⟨rfl, hb⟩; refine ⟨_, rfl, ?_⟩; replace BK205 := am (blk_below (bX BK205.out) hb); replace HB := am (below_step (beX HB.out) hb); (try clear hb); (try clear hb2); (try clear hk); (try clear hi); have hcz12_0 := blk_cell BK205.out; have hfz12_0 := blk_frozen BK205.out))
   go_ret
   exact ⟨by first | rfl | (simp [errW_none, errW_some] <;> rfl) | (simp [*, errW_none, errW_some] <;> rfl), by exact beX HB.out⟩
 ·replace c3 := Bool.eq_false_iff.mpr c3
  subst c3
  have H1 : (some true) = some r := by rw [if_neg (show ¬ (false = true) by decide)] at H; exact H
  clear H
  have H := H1
  clear H1
  obtain rfl := Option.some.inj H
  go_enter Try.func16, Try.ntmps16
  go_wp2_with (first | ((with_reducible refine gate_dst (N := 1) rfl ?_); refine box_event ?hg (N := 1) ?hd (cs := #[.int .i64 a0_0, .int .i64 a0_1, .int .i64 a0_2, .int .i64 a0_3]) (t := 24) ?hr ?_; (case hd => rfl); (case hg => rfl); (case hr => first | (go_simp; done) | (go_simp; rfl)); intro gb205 hg w13 hbox hb; have BK205 := am (hbox); have GW205 := am ((by rw [hg]; exact (below_size (beX HB.out)) : w.heap.size ≤ gb205)); have GE205 := am ((by rw [hg]; exact (below_size (beX HB.out)) : w.heap.size ≤ gb205)); replace HB := am (below_step (beX HB.out) hb); clear hb hbox hg; have hcz14_0 := blk_cell BK205.out; have hfz14_0 := blk_frozen BK205.out) | ((with_reducible refine gate_callee (f := 15) rfl ?_); refine goesL_ (some 4) rfl rfl Try.func15 (by kernel_rfl) rfl #[.agg #[.int .i64 a0_0, .int .i64 a0_1, .int .i64 a0_2, .int .i64 a0_3]] rfl (by (try simp only [List.map_toArray, List.map_cons, List.map_nil]); first | done | rfl | (simp only [List.length_drop, List.length_take]; rfl)) ?_; (with_reducible refine (imageeditorref02_Valid.calls a0_0 a0_1 a0_2 a0_3 false _ A2.out).mono ?_); rintro e w15 ⟨rfl, hb⟩; refine ⟨_, rfl, ?_⟩; replace BK205 := am (blk_below (bX BK205.out) hb); replace HB := am (below_step (beX HB.out) hb); (try clear hb); (try clear hb2); (try clear hk); (try clear hi)))
  go_ret
  exact ⟨by first | rfl | (simp [errW_none, errW_some] <;> rfl) | (simp [*, errW_none, errW_some] <;> rfl), by exact beX HB.out⟩

/-! ### imageeditorref02_span: function 35 -/
def imageeditorref02_span.j0 : Nat → Int → Bool → Int → Int → Int → Int → Option (Int × Int)
 | 0, _, _, _, _, _, _ => none
 | k + 1, x1, x18, x208000, x208001, x208002, x208003 => if x18 = true then (some (0, (-1))) else (if x1 = 0 then (some (x208000, wrap64 ((wrap64 (x208000 + x208002)) - 1))) else (some (x208001, wrap64 ((wrap64 (x208001 + x208003)) - 1))))
def imageeditorref02_span.f (k : Nat) (a0_0 : Int) (a0_1 : Int) (a0_2 : Int) (a0_3 : Int) (a1 : Int) : Option (Int × Int) := (imageeditorref02_Valid.f a0_0 a0_1 a0_2 a0_3).bind fun t208 => (if t208 = true then (if a0_2 = 0 then (imageeditorref02_span.j0 k a1 true a0_0 a0_1 a0_2 a0_3) else (imageeditorref02_span.j0 k a1 (a0_3 == 0) a0_0 a0_1 a0_2 a0_3)) else (imageeditorref02_span.j0 k a1 true a0_0 a0_1 a0_2 a0_3))
theorem imageeditorref02_span.mono_l : ∀ k, (∀ y0 y1 y2 y3 y4 y5, LeO (imageeditorref02_span.j0 k y0 y1 y2 y3 y4 y5) (imageeditorref02_span.j0 (k + 1) y0 y1 y2 y3 y4 y5))
 | 0 => fun _ _ _ _ _ _ r h => by simp [imageeditorref02_span.j0] at h
 | k + 1 => by
  have ih0 := imageeditorref02_span.mono_l k
  ·intro y0 y1 y2 y3 y4 y5
   unfold imageeditorref02_span.j0
   repeat' first
   | (with_reducible exact ih0 _ _ _ _ _ _)
   | (with_reducible exact LeO.refl _)
   | (with_reducible exact LeO.none _)
   | (with_reducible refine LeO.ite ?_ ?_)
   | (with_reducible refine LeO.bind ?_ (fun _ => ?_))
   | exact ih0 _ _ _ _ _ _
   | exact LeO.none _
   | refine LeO.ite ?_ ?_
   | refine LeO.bind ?_ (fun _ => ?_)
theorem imageeditorref02_span.mono : ∀ a0 a1 a2 a3 a4 k, LeO (imageeditorref02_span.f k a0 a1 a2 a3 a4) (imageeditorref02_span.f (k + 1) a0 a1 a2 a3 a4) := by
 intro a0 a1 a2 a3 a4 k
 have ih0 := imageeditorref02_span.mono_l k
 unfold imageeditorref02_span.f
 repeat' first
   | (with_reducible exact ih0 _ _ _ _ _ _)
   | (with_reducible exact LeO.refl _)
   | (with_reducible exact LeO.none _)
   | (with_reducible refine LeO.ite ?_ ?_)
   | (with_reducible refine LeO.bind ?_ (fun _ => ?_))
   | exact ih0 _ _ _ _ _ _
   | exact LeO.none _
   | refine LeO.ite ?_ ?_
   | refine LeO.bind ?_ (fun _ => ?_)
set_option maxHeartbeats 8000000 in
set_option maxRecDepth 100000 in
theorem imageeditorref02_span.calls (k : Nat) (a0_0 : Int) (a0_1 : Int) (a0_2 : Int) (a0_3 : Int) (a1 : Int) (r1 : Int) (r2 : Int) (w : World) (h : imageeditorref02_span.f k a0_0 a0_1 a0_2 a0_3 a1 = some (r1, r2)) :
  Calls Try.prog 35 #[.agg #[.int .i64 a0_0, .int .i64 a0_1, .int .i64 a0_2, .int .i64 a0_3], .int .i64 a1] w fun e w' => e = .returned (.tuple #[.int .i64 r1, .int .i64 r2]) ∧ Below w.heap.size w w' := by
 have hu24 := Try.underlying24
 have HB := am (Below.refl w.heap.size w)
 have H : ((imageeditorref02_Valid.f a0_0 a0_1 a0_2 a0_3).bind fun t208 => (if t208 = true then (if a0_2 = 0 then (imageeditorref02_span.j0 k a1 true a0_0 a0_1 a0_2 a0_3) else (imageeditorref02_span.j0 k a1 (a0_3 == 0) a0_0 a0_1 a0_2 a0_3)) else (imageeditorref02_span.j0 k a1 true a0_0 a0_1 a0_2 a0_3))) = some (r1, r2) := h
 clear h
 have HC3 := Aside0.mk H
 clear H
 go_enter Try.func35, Try.ntmps35
 go_upto_region 1 with (first | ((with_reducible refine gate_dst (N := 2) rfl ?_); refine box_event ?hg (N := 2) ?hd (cs := #[.int .i64 a0_0, .int .i64 a0_1, .int .i64 a0_2, .int .i64 a0_3]) (t := 24) ?hr ?_; (case hd => rfl); (case hg => rfl); (case hr => first | (go_simp; done) | (go_simp; rfl)); intro gb207 hg w4 hbox hb; have BK207 := am (hbox); have GW207 := am ((by rw [hg]; exact (below_size (beX HB.out)) : w.heap.size ≤ gb207)); have GE207 := am ((by rw [hg]; exact (below_size (beX HB.out)) : w.heap.size ≤ gb207)); replace HB := am (below_step (beX HB.out) hb); clear hb hbox hg))
 repeat (go_quiet (first | ((with_reducible refine gate_dst (N := 2) rfl ?_); refine box_event ?hg (N := 2) ?hd (cs := #[.int .i64 a0_0, .int .i64 a0_1, .int .i64 a0_2, .int .i64 a0_3]) (t := 24) ?hr ?_; (case hd => rfl); (case hg => rfl); (case hr => first | (go_simp; done) | (go_simp; rfl)); intro gb207 hg w4 hbox hb; have BK207 := am (hbox); have GW207 := am ((by rw [hg]; exact (below_size (beX HB.out)) : w.heap.size ≤ gb207)); have GE207 := am ((by rw [hg]; exact (below_size (beX HB.out)) : w.heap.size ≤ gb207)); replace HB := am (below_step (beX HB.out) hb); clear hb hbox hg)); go_upto_region 1 with (first | ((with_reducible refine gate_dst (N := 2) rfl ?_); refine box_event ?hg (N := 2) ?hd (cs := #[.int .i64 a0_0, .int .i64 a0_1, .int .i64 a0_2, .int .i64 a0_3]) (t := 24) ?hr ?_; (case hd => rfl); (case hg => rfl); (case hr => first | (go_simp; done) | (go_simp; rfl)); intro gb207 hg w4 hbox hb; have BK207 := am (hbox); have GW207 := am ((by rw [hg]; exact (below_size (beX HB.out)) : w.heap.size ≤ gb207)); have GE207 := am ((by rw [hg]; exact (below_size (beX HB.out)) : w.heap.size ≤ gb207)); replace HB := am (below_step (beX HB.out) hb); clear hb hbox hg)))
 (try simp only [Act.put, List.setIfInBounds_toArray, List.set_cons_zero, List.set_cons_succ])
 go_cut [18] (fun v18 wc => ∃ (kq : Nat) (x18_2 : Bool), v18 = .bool x18_2 ∧ Aside0 (imageeditorref02_span.j0 kq a1 x18_2 a0_0 a0_1 a0_2 a0_3 = some (r1, r2)) ∧ Aside0 (kq ≤ k) ∧ Aside0 (wc.heap[gb207]? = some (.cells #[.int .i64 a0_0, .int .i64 a0_1, .int .i64 a0_2, .int .i64 a0_3] 24 (0, 0))) ∧ Aside0 (Below w.heap.size w wc))
 case first =>
  have H := HC3.out
  clear HC3
  replace H := Option.bind_eq_some_iff.mp H
  obtain ⟨t208, A50, H⟩ := H
  replace H : (if t208 = true then (if a0_2 = 0 then (imageeditorref02_span.j0 k a1 true a0_0 a0_1 a0_2 a0_3) else (imageeditorref02_span.j0 k a1 (a0_3 == 0) a0_0 a0_1 a0_2 a0_3)) else (imageeditorref02_span.j0 k a1 true a0_0 a0_1 a0_2 a0_3)) = some (r1, r2) := H
  have A5 := Aside0.mk A50
  clear A50
  by_cases c6 : t208 = true
  ·subst c6
   have H1 : (if a0_2 = 0 then (imageeditorref02_span.j0 k a1 true a0_0 a0_1 a0_2 a0_3) else (imageeditorref02_span.j0 k a1 (a0_3 == 0) a0_0 a0_1 a0_2 a0_3)) = some (r1, r2) := by rw [if_pos rfl] at H; exact H
   clear H
   have H := H1
   clear H1
   by_cases c7 : a0_2 = 0
   ·rw [if_pos c7] at H
    have c7b0 : (a0_2 == 0) = true := beq_iff_eq.mpr c7
    have c7b1 : (a0_2 != 0) = false := bne_eq_false_iff_eq.mpr c7
    clear c7
    (first | rw [c7b0] | (simp only [i64_w, i32_w]; rw [c7b0]) | skip)
    have H' := Aside0.mk H
    clear H
    have hcz8_0 := blk_cell BK207.out
    have hfz8_0 := blk_frozen BK207.out
    go_wp2_with (first | (go_at_call 15; (with_reducible refine (imageeditorref02_Valid.calls a0_0 a0_1 a0_2 a0_3 true _ A5.out).mono ?_); rintro e w9 ⟨rfl, hb⟩; replace BK207 := am (blk_below (bX BK207.out) hb); replace HB := am (below_step (beX HB.out) hb); (try clear hb); (try clear hb2); (try clear hk); (try clear hi); have hcz10_0 := blk_cell BK207.out; have hfz10_0 := blk_frozen BK207.out))
    repeat (go_quiet (first | (go_at_call 15; (with_reducible refine (imageeditorref02_Valid.calls a0_0 a0_1 a0_2 a0_3 true _ A5.out).mono ?_); rintro e w9 ⟨rfl, hb⟩; replace BK207 := am (blk_below (bX BK207.out) hb); replace HB := am (below_step (beX HB.out) hb); (try clear hb); (try clear hb2); (try clear hk); (try clear hi); have hcz10_0 := blk_cell BK207.out; have hfz10_0 := blk_frozen BK207.out)); try go_wp2_with (first | (go_at_call 15; (with_reducible refine (imageeditorref02_Valid.calls a0_0 a0_1 a0_2 a0_3 true _ A5.out).mono ?_); rintro e w9 ⟨rfl, hb⟩; replace BK207 := am (blk_below (bX BK207.out) hb); replace HB := am (below_step (beX HB.out) hb); (try clear hb); (try clear hb2); (try clear hk); (try clear hi); have hcz10_0 := blk_cell BK207.out; have hfz10_0 := blk_frozen BK207.out)))
    go_meet
    case rel => exact ⟨_, (true), (by first | rfl | (simp; done) | (simp [*]; done)), H', ⟨by first | omega | exact Nat.le_refl _⟩, ⟨bX BK207.out⟩, ⟨beX HB.out⟩⟩
   ·rw [if_neg c7] at H
    have c7b0 : (a0_2 == 0) = false := beq_eq_false_iff_ne.mpr c7
    have c7b1 : (a0_2 != 0) = true := bne_iff_ne.mpr c7
    (first | rw [c7b0] | (simp only [i64_w, i32_w]; rw [c7b0]) | skip)
    have H' := Aside0.mk H
    clear H
    have hcz11_0 := blk_cell BK207.out
    have hfz11_0 := blk_frozen BK207.out
    go_wp2_with (first | (go_at_call 15; (with_reducible refine (imageeditorref02_Valid.calls a0_0 a0_1 a0_2 a0_3 true _ A5.out).mono ?_); rintro e w12 ⟨rfl, hb⟩; replace BK207 := am (blk_below (bX BK207.out) hb); replace HB := am (below_step (beX HB.out) hb); (try clear hb); (try clear hb2); (try clear hk); (try clear hi); have hcz13_0 := blk_cell BK207.out; have hfz13_0 := blk_frozen BK207.out))
    repeat (go_quiet (first | (go_at_call 15; (with_reducible refine (imageeditorref02_Valid.calls a0_0 a0_1 a0_2 a0_3 true _ A5.out).mono ?_); rintro e w12 ⟨rfl, hb⟩; replace BK207 := am (blk_below (bX BK207.out) hb); replace HB := am (below_step (beX HB.out) hb); (try clear hb); (try clear hb2); (try clear hk); (try clear hi); have hcz13_0 := blk_cell BK207.out; have hfz13_0 := blk_frozen BK207.out)); try go_wp2_with (first | (go_at_call 15; (with_reducible refine (imageeditorref02_Valid.calls a0_0 a0_1 a0_2 a0_3 true _ A5.out).mono ?_); rintro e w12 ⟨rfl, hb⟩; replace BK207 := am (blk_below (bX BK207.out) hb); replace HB := am (below_step (beX HB.out) hb); (try clear hb); (try clear hb2); (try clear hk); (try clear hi); have hcz13_0 := blk_cell BK207.out; have hfz13_0 := blk_frozen BK207.out)))
    go_meet
    case rel => exact ⟨_, ((a0_3 == 0)), (by first | rfl | (simp; done) | (simp [*]; done)), H', ⟨by first | omega | exact Nat.le_refl _⟩, ⟨bX BK207.out⟩, ⟨beX HB.out⟩⟩
  ·replace c6 := Bool.eq_false_iff.mpr c6
   subst c6
   have H1 : (imageeditorref02_span.j0 k a1 true a0_0 a0_1 a0_2 a0_3) = some (r1, r2) := by rw [if_neg (show ¬ (false = true) by decide)] at H; exact H
   clear H
   have H := H1
   clear H1
   have H' := Aside0.mk H
   clear H
   have hcz14_0 := blk_cell BK207.out
   have hfz14_0 := blk_frozen BK207.out
   go_wp2_with (first | (go_at_call 15; (with_reducible refine (imageeditorref02_Valid.calls a0_0 a0_1 a0_2 a0_3 false _ A5.out).mono ?_); rintro e w15 ⟨rfl, hb⟩; replace BK207 := am (blk_below (bX BK207.out) hb); replace HB := am (below_step (beX HB.out) hb); (try clear hb); (try clear hb2); (try clear hk); (try clear hi)))
   repeat (go_quiet (first | (go_at_call 15; (with_reducible refine (imageeditorref02_Valid.calls a0_0 a0_1 a0_2 a0_3 false _ A5.out).mono ?_); rintro e w15 ⟨rfl, hb⟩; replace BK207 := am (blk_below (bX BK207.out) hb); replace HB := am (below_step (beX HB.out) hb); (try clear hb); (try clear hb2); (try clear hk); (try clear hi))); try go_wp2_with (first | (go_at_call 15; (with_reducible refine (imageeditorref02_Valid.calls a0_0 a0_1 a0_2 a0_3 false _ A5.out).mono ?_); rintro e w15 ⟨rfl, hb⟩; replace BK207 := am (blk_below (bX BK207.out) hb); replace HB := am (below_step (beX HB.out) hb); (try clear hb); (try clear hb2); (try clear hk); (try clear hi))))
   go_meet
   case rel => exact ⟨_, (true), (by first | rfl | (simp; done) | (simp [*]; done)), H', ⟨by first | omega | exact Nat.le_refl _⟩, ⟨bX BK207.out⟩, ⟨beX HB.out⟩⟩
 case rest =>
  clear HC3
  try clear p2
  try clear c3
  try clear c6
  try clear c7
  try clear c7b0
  try clear c7b1
  try clear hcz10_0
  try clear hcz10_1
  try clear hcz10_2
  try clear hcz10_3
  try clear hcz11_0
  try clear hcz11_1
  try clear hcz11_2
  try clear hcz11_3
  try clear hcz13_0
  try clear hcz13_1
  try clear hcz13_2
  try clear hcz13_3
  try clear hcz14_0
  try clear hcz14_1
  try clear hcz14_2
  try clear hcz14_3
  try clear hcz8_0
  try clear hcz8_1
  try clear hcz8_2
  try clear hcz8_3
  try clear hfz10_0
  try clear hfz10_1
  try clear hfz10_2
  try clear hfz10_3
  try clear hfz11_0
  try clear hfz11_1
  try clear hfz11_2
  try clear hfz11_3
  try clear hfz13_0
  try clear hfz13_1
  try clear hfz13_2
  try clear hfz13_3
  try clear hfz14_0
  try clear hfz14_1
  try clear hfz14_2
  try clear hfz14_3
  try clear hfz8_0
  try clear hfz8_1
  try clear hfz8_2
  try clear hfz8_3
  obtain ⟨kq, x18_2, rfl, HA, HJ2, BK207, HB⟩ := hcut
  cases kq with
  | zero => exact absurd HA.out (by simp [imageeditorref02_span.j0])
  | succ kj2 =>
   have H := HA.out
   clear HA
   simp only [imageeditorref02_span.j0] at H
   by_cases c16 : x18_2 = true
   ·subst c16
    have H1 : (some (0, (-1))) = some (r1, r2) := by rw [if_pos rfl] at H; exact H
    clear H
    have H := H1
    clear H1
    simp only [Option.some.injEq, Prod.mk.injEq] at H
    obtain ⟨rfl, rfl⟩ := H
    go_wp2
    repeat (go_quiet (fail); try go_wp2)
    go_ret2
    exact ⟨by first | rfl | (simp [errW_none, errW_some] <;> rfl) | (simp [*, errW_none, errW_some] <;> rfl), by exact beX HB.out⟩
   ·replace c16 := Bool.eq_false_iff.mpr c16
    subst c16
    have H1 : (if a1 = 0 then (some (a0_0, wrap64 ((wrap64 (a0_0 + a0_2)) - 1))) else (some (a0_1, wrap64 ((wrap64 (a0_1 + a0_3)) - 1)))) = some (r1, r2) := by rw [if_neg (show ¬ (false = true) by decide)] at H; exact H
    clear H
    have H := H1
    clear H1
    by_cases c17 : a1 = 0
    ·rw [if_pos c17] at H
     have c17b0 : (a1 == 0) = true := beq_iff_eq.mpr c17
     have c17b1 : (a1 != 0) = false := bne_eq_false_iff_eq.mpr c17
     clear c17
     simp only [Option.some.injEq, Prod.mk.injEq] at H
     obtain ⟨rfl, rfl⟩ := H
     have hcz18_0 := blk_cell BK207.out
     have hfz18_0 := blk_frozen BK207.out
     go_wp2
     repeat (go_quiet (fail); try go_wp2)
     go_ret2
     exact ⟨by first | rfl | (simp [errW_none, errW_some] <;> rfl) | (simp [*, errW_none, errW_some] <;> rfl), by exact beX HB.out⟩
    ·rw [if_neg c17] at H
     have c17b0 : (a1 == 0) = false := beq_eq_false_iff_ne.mpr c17
     have c17b1 : (a1 != 0) = true := bne_iff_ne.mpr c17
     simp only [Option.some.injEq, Prod.mk.injEq] at H
     obtain ⟨rfl, rfl⟩ := H
     have hcz19_0 := blk_cell BK207.out
     have hfz19_0 := blk_frozen BK207.out
     go_wp2
     repeat (go_quiet (fail); try go_wp2)
     go_ret2
     exact ⟨by first | rfl | (simp [errW_none, errW_some] <;> rfl) | (simp [*, errW_none, errW_some] <;> rfl), by exact beX HB.out⟩

/-! ### imageeditorref02_Has: function 36 -/
def imageeditorref02_Has.f (k : Nat) (a0_0 : Int) (a0_1 : Int) (a0_2 : Int) (a0_3 : Int) (a1_0 : Int) (a1_1 : Int) : Option (Bool) := (imageeditorref02_span.f k a0_0 a0_1 a0_2 a0_3 0).bind fun bt211 => ((imageeditorref02_span.f k a0_0 a0_1 a0_2 a0_3 1).bind fun bt213 => (if a1_0 ≥ bt211.1 then (if a1_0 ≤ bt211.2 then (if a1_1 ≥ bt213.1 then (some (decide (a1_1 ≤ bt213.2))) else (some false)) else (some false)) else (some false)))
theorem imageeditorref02_Has.mono : ∀ a0 a1 a2 a3 a4 a5 k, LeO (imageeditorref02_Has.f k a0 a1 a2 a3 a4 a5) (imageeditorref02_Has.f (k + 1) a0 a1 a2 a3 a4 a5) := by
 intro a0 a1 a2 a3 a4 a5 k
 unfold imageeditorref02_Has.f
 repeat' first
   | (with_reducible exact imageeditorref02_span.mono _ _ _ _ _ _)
   | (with_reducible exact LeO.refl _)
   | (with_reducible exact LeO.none _)
   | (with_reducible refine LeO.ite ?_ ?_)
   | (with_reducible refine LeO.bind ?_ (fun _ => ?_))
   | exact imageeditorref02_span.mono _ _ _ _ _ _
   | exact LeO.none _
   | refine LeO.ite ?_ ?_
   | refine LeO.bind ?_ (fun _ => ?_)
set_option maxHeartbeats 8000000 in
set_option maxRecDepth 100000 in
theorem imageeditorref02_Has.calls (k : Nat) (a0_0 : Int) (a0_1 : Int) (a0_2 : Int) (a0_3 : Int) (a1_0 : Int) (a1_1 : Int) (r : Bool) (w : World) (h : imageeditorref02_Has.f k a0_0 a0_1 a0_2 a0_3 a1_0 a1_1 = some r) :
  Calls Try.prog 36 #[.agg #[.int .i64 a0_0, .int .i64 a0_1, .int .i64 a0_2, .int .i64 a0_3], .agg #[.int .i64 a1_0, .int .i64 a1_1]] w fun e w' => e = .returned (.bool r) ∧ Below w.heap.size w w' := by
 have hu24 := Try.underlying24
 have hu47 := Try.underlying47
 have HB := am (Below.refl w.heap.size w)
 have H : ((imageeditorref02_span.f k a0_0 a0_1 a0_2 a0_3 0).bind fun bt211 => ((imageeditorref02_span.f k a0_0 a0_1 a0_2 a0_3 1).bind fun bt213 => (if a1_0 ≥ bt211.1 then (if a1_0 ≤ bt211.2 then (if a1_1 ≥ bt213.1 then (some (decide (a1_1 ≤ bt213.2))) else (some false)) else (some false)) else (some false)))) = some r := h
 clear h
 replace H := Option.bind_eq_some_iff.mp H
 obtain ⟨⟨t211, t212⟩, A30, H⟩ := H
 replace H : ((imageeditorref02_span.f k a0_0 a0_1 a0_2 a0_3 1).bind fun bt213 => (if a1_0 ≥ t211 then (if a1_0 ≤ t212 then (if a1_1 ≥ bt213.1 then (some (decide (a1_1 ≤ bt213.2))) else (some false)) else (some false)) else (some false))) = some r := H
 have A3 := Aside0.mk A30
 clear A30
 replace H := Option.bind_eq_some_iff.mp H
 obtain ⟨⟨t213, t214⟩, A40, H⟩ := H
 replace H : (if a1_0 ≥ t211 then (if a1_0 ≤ t212 then (if a1_1 ≥ t213 then (some (decide (a1_1 ≤ t214))) else (some false)) else (some false)) else (some false)) = some r := H
 have A4 := Aside0.mk A40
 clear A40
 by_cases c5 : a1_0 ≥ t211
 ·rw [if_pos c5] at H
  have c5b0 : decide (t211 ≤ a1_0) = true := decide_eq_true c5
  clear c5
  by_cases c6 : a1_0 ≤ t212
  ·rw [if_pos c6] at H
   have c6b0 : decide (a1_0 ≤ t212) = true := decide_eq_true c6
   clear c6
   by_cases c7 : a1_1 ≥ t213
   ·rw [if_pos c7] at H
    have c7b0 : decide (t213 ≤ a1_1) = true := decide_eq_true c7
    clear c7
    obtain rfl := Option.some.inj H
    go_enter Try.func36, Try.ntmps36
    go_wp2_with (first | ((with_reducible refine gate_dst (N := 2) rfl ?_); refine box_event ?hg (N := 2) ?hd (cs := #[.int .i64 a0_0, .int .i64 a0_1, .int .i64 a0_2, .int .i64 a0_3]) (t := 24) ?hr ?_; (case hd => rfl); (case hg => rfl); (case hr => first | (go_simp; done) | (go_simp; rfl)); intro gb209 hg w8 hbox hb; have BK209 := am (hbox); have GW209 := am ((by rw [hg]; exact (below_size (beX HB.out)) : w.heap.size ≤ gb209)); have GE209 := am ((by rw [hg]; exact (below_size (beX HB.out)) : w.heap.size ≤ gb209)); replace HB := am (below_step (beX HB.out) hb); clear hb hbox hg) | ((with_reducible refine gate_dst (N := 3) rfl ?_); refine box_event ?hg (N := 3) ?hd (cs := #[.int .i64 a1_0, .int .i64 a1_1]) (t := 47) ?hr ?_; (case hd => rfl); (case hg => rfl); (case hr => first | (go_simp; done) | (go_simp; rfl)); intro gb210 hg w9 hbox hb; have BK210 := am (hbox); have GW210 := am ((by rw [hg]; exact (below_size (beX HB.out)) : w.heap.size ≤ gb210)); have GE210 := am ((by rw [hg]; exact (below_size (beX HB.out)) : w.heap.size ≤ gb210)); have NB209_210 := am ((by rw [hg]; exact Nat.ne_of_lt (blk_lt (bX BK209.out)) : gb209 ≠ gb210)); have NB210_209 := am ((by rw [hg]; exact Nat.ne_of_gt (blk_lt (bX BK209.out)) : gb210 ≠ gb209)); replace BK209 := am (blk_below (bX BK209.out) hb); replace HB := am (below_step (beX HB.out) hb); clear hb hbox hg; have hnb10 := NB209_210.out; have hnc10 := NB210_209.out; have hcz11_0 := blk_cell BK209.out; have hfz11_0 := blk_frozen BK209.out) | ((with_reducible refine gate_callee (f := 35) rfl ?_); refine goesL_ (some 11) rfl rfl Try.func35 (by kernel_rfl) rfl #[.agg #[.int .i64 a0_0, .int .i64 a0_1, .int .i64 a0_2, .int .i64 a0_3], .int .i64 0] rfl (by (try simp only [List.map_toArray, List.map_cons, List.map_nil]); first | done | rfl | (simp only [List.length_drop, List.length_take]; rfl)) ?_; (with_reducible refine (imageeditorref02_span.calls k a0_0 a0_1 a0_2 a0_3 0 t211 t212 _ A3.out).mono ?_); rintro e w12 ⟨rfl, hb⟩; refine ⟨_, rfl, ?_⟩; replace BK209 := am (blk_below (bX BK209.out) hb); replace BK210 := am (blk_below (bX BK210.out) hb); replace HB := am (below_step (beX HB.out) hb); (try clear hb); (try clear hb2); (try clear hk); (try clear hi); have hcz13_0 := blk_cell BK209.out; have hfz13_0 := blk_frozen BK209.out) | ((with_reducible refine gate_callee (f := 35) rfl ?_); refine goesL_ (some 16) rfl rfl Try.func35 (by kernel_rfl) rfl #[.agg #[.int .i64 a0_0, .int .i64 a0_1, .int .i64 a0_2, .int .i64 a0_3], .int .i64 1] rfl (by (try simp only [List.map_toArray, List.map_cons, List.map_nil]); first | done | rfl | (simp only [List.length_drop, List.length_take]; rfl)) ?_; (with_reducible refine (imageeditorref02_span.calls k a0_0 a0_1 a0_2 a0_3 1 t213 t214 _ A4.out).mono ?_); rintro e w14 ⟨rfl, hb⟩; refine ⟨_, rfl, ?_⟩; replace BK209 := am (blk_below (bX BK209.out) hb); replace BK210 := am (blk_below (bX BK210.out) hb); replace HB := am (below_step (beX HB.out) hb); (try clear hb); (try clear hb2); (try clear hk); (try clear hi); have hcz15_0 := blk_cell BK210.out; have hfz15_0 := blk_frozen BK210.out))
    go_ret
    exact ⟨by first | rfl | (simp [errW_none, errW_some] <;> rfl) | (simp [*, errW_none, errW_some] <;> rfl), by exact beX HB.out⟩
   ·rw [if_neg c7] at H
    have c7b0 : decide (t213 ≤ a1_1) = false := decide_eq_false c7
    clear c7
    obtain rfl := Option.some.inj H
    go_enter Try.func36, Try.ntmps36
    go_wp2_with (first | ((with_reducible refine gate_dst (N := 2) rfl ?_); refine box_event ?hg (N := 2) ?hd (cs := #[.int .i64 a0_0, .int .i64 a0_1, .int .i64 a0_2, .int .i64 a0_3]) (t := 24) ?hr ?_; (case hd => rfl); (case hg => rfl); (case hr => first | (go_simp; done) | (go_simp; rfl)); intro gb209 hg w16 hbox hb; have BK209 := am (hbox); have GW209 := am ((by rw [hg]; exact (below_size (beX HB.out)) : w.heap.size ≤ gb209)); have GE209 := am ((by rw [hg]; exact (below_size (beX HB.out)) : w.heap.size ≤ gb209)); replace HB := am (below_step (beX HB.out) hb); clear hb hbox hg) | ((with_reducible refine gate_dst (N := 3) rfl ?_); refine box_event ?hg (N := 3) ?hd (cs := #[.int .i64 a1_0, .int .i64 a1_1]) (t := 47) ?hr ?_; (case hd => rfl); (case hg => rfl); (case hr => first | (go_simp; done) | (go_simp; rfl)); intro gb210 hg w17 hbox hb; have BK210 := am (hbox); have GW210 := am ((by rw [hg]; exact (below_size (beX HB.out)) : w.heap.size ≤ gb210)); have GE210 := am ((by rw [hg]; exact (below_size (beX HB.out)) : w.heap.size ≤ gb210)); have NB209_210 := am ((by rw [hg]; exact Nat.ne_of_lt (blk_lt (bX BK209.out)) : gb209 ≠ gb210)); have NB210_209 := am ((by rw [hg]; exact Nat.ne_of_gt (blk_lt (bX BK209.out)) : gb210 ≠ gb209)); replace BK209 := am (blk_below (bX BK209.out) hb); replace HB := am (below_step (beX HB.out) hb); clear hb hbox hg; have hnb18 := NB209_210.out; have hnc18 := NB210_209.out; have hcz19_0 := blk_cell BK209.out; have hfz19_0 := blk_frozen BK209.out) | ((with_reducible refine gate_callee (f := 35) rfl ?_); refine goesL_ (some 11) rfl rfl Try.func35 (by kernel_rfl) rfl #[.agg #[.int .i64 a0_0, .int .i64 a0_1, .int .i64 a0_2, .int .i64 a0_3], .int .i64 0] rfl (by (try simp only [List.map_toArray, List.map_cons, List.map_nil]); first | done | rfl | (simp only [List.length_drop, List.length_take]; rfl)) ?_; (with_reducible refine (imageeditorref02_span.calls k a0_0 a0_1 a0_2 a0_3 0 t211 t212 _ A3.out).mono ?_); rintro e w20 ⟨rfl, hb⟩; refine ⟨_, rfl, ?_⟩; replace BK209 := am (blk_below (bX BK209.out) hb); replace BK210 := am (blk_below (bX BK210.out) hb); replace HB := am (below_step (beX HB.out) hb); (try clear hb); (try clear hb2); (try clear hk); (try clear hi); have hcz21_0 := blk_cell BK209.out; have hfz21_0 := blk_frozen BK209.out) | ((with_reducible refine gate_callee (f := 35) rfl ?_); refine goesL_ (some 16) rfl rfl Try.func35 (by kernel_rfl) rfl #[.agg #[.int .i64 a0_0, .int .i64 a0_1, .int .i64 a0_2, .int .i64 a0_3], .int .i64 1] rfl (by (try simp only [List.map_toArray, List.map_cons, List.map_nil]); first | done | rfl | (simp only [List.length_drop, List.length_take]; rfl)) ?_; (with_reducible refine (imageeditorref02_span.calls k a0_0 a0_1 a0_2 a0_3 1 t213 t214 _ A4.out).mono ?_); rintro e w22 ⟨rfl, hb⟩; refine ⟨_, rfl, ?_⟩; replace BK209 := am (blk_below (bX BK209.out) hb); replace BK210 := am (blk_below (bX BK210.out) hb); replace HB := am (below_step (beX HB.out) hb); (try clear hb); (try clear hb2); (try clear hk); (try clear hi); have hcz23_0 := blk_cell BK210.out; have hfz23_0 := blk_frozen BK210.out))
    go_ret
    exact ⟨by first | rfl | (simp [errW_none, errW_some] <;> rfl) | (simp [*, errW_none, errW_some] <;> rfl), by exact beX HB.out⟩
  ·rw [if_neg c6] at H
   have c6b0 : decide (a1_0 ≤ t212) = false := decide_eq_false c6
   clear c6
   obtain rfl := Option.some.inj H
   go_enter Try.func36, Try.ntmps36
   go_wp2_with (first | ((with_reducible refine gate_dst (N := 2) rfl ?_); refine box_event ?hg (N := 2) ?hd (cs := #[.int .i64 a0_0, .int .i64 a0_1, .int .i64 a0_2, .int .i64 a0_3]) (t := 24) ?hr ?_; (case hd => rfl); (case hg => rfl); (case hr => first | (go_simp; done) | (go_simp; rfl)); intro gb209 hg w24 hbox hb; have BK209 := am (hbox); have GW209 := am ((by rw [hg]; exact (below_size (beX HB.out)) : w.heap.size ≤ gb209)); have GE209 := am ((by rw [hg]; exact (below_size (beX HB.out)) : w.heap.size ≤ gb209)); replace HB := am (below_step (beX HB.out) hb); clear hb hbox hg) | ((with_reducible refine gate_dst (N := 3) rfl ?_); refine box_event ?hg (N := 3) ?hd (cs := #[.int .i64 a1_0, .int .i64 a1_1]) (t := 47) ?hr ?_; (case hd => rfl); (case hg => rfl); (case hr => first | (go_simp; done) | (go_simp; rfl)); intro gb210 hg w25 hbox hb; have BK210 := am (hbox); have GW210 := am ((by rw [hg]; exact (below_size (beX HB.out)) : w.heap.size ≤ gb210)); have GE210 := am ((by rw [hg]; exact (below_size (beX HB.out)) : w.heap.size ≤ gb210)); have NB209_210 := am ((by rw [hg]; exact Nat.ne_of_lt (blk_lt (bX BK209.out)) : gb209 ≠ gb210)); have NB210_209 := am ((by rw [hg]; exact Nat.ne_of_gt (blk_lt (bX BK209.out)) : gb210 ≠ gb209)); replace BK209 := am (blk_below (bX BK209.out) hb); replace HB := am (below_step (beX HB.out) hb); clear hb hbox hg; have hnb26 := NB209_210.out; have hnc26 := NB210_209.out; have hcz27_0 := blk_cell BK209.out; have hfz27_0 := blk_frozen BK209.out) | ((with_reducible refine gate_callee (f := 35) rfl ?_); refine goesL_ (some 11) rfl rfl Try.func35 (by kernel_rfl) rfl #[.agg #[.int .i64 a0_0, .int .i64 a0_1, .int .i64 a0_2, .int .i64 a0_3], .int .i64 0] rfl (by (try simp only [List.map_toArray, List.map_cons, List.map_nil]); first | done | rfl | (simp only [List.length_drop, List.length_take]; rfl)) ?_; (with_reducible refine (imageeditorref02_span.calls k a0_0 a0_1 a0_2 a0_3 0 t211 t212 _ A3.out).mono ?_); rintro e w28 ⟨rfl, hb⟩; refine ⟨_, rfl, ?_⟩; replace BK209 := am (blk_below (bX BK209.out) hb); replace BK210 := am (blk_below (bX BK210.out) hb); replace HB := am (below_step (beX HB.out) hb); (try clear hb); (try clear hb2); (try clear hk); (try clear hi); have hcz29_0 := blk_cell BK209.out; have hfz29_0 := blk_frozen BK209.out) | ((with_reducible refine gate_callee (f := 35) rfl ?_); refine goesL_ (some 16) rfl rfl Try.func35 (by kernel_rfl) rfl #[.agg #[.int .i64 a0_0, .int .i64 a0_1, .int .i64 a0_2, .int .i64 a0_3], .int .i64 1] rfl (by (try simp only [List.map_toArray, List.map_cons, List.map_nil]); first | done | rfl | (simp only [List.length_drop, List.length_take]; rfl)) ?_; (with_reducible refine (imageeditorref02_span.calls k a0_0 a0_1 a0_2 a0_3 1 t213 t214 _ A4.out).mono ?_); rintro e w30 ⟨rfl, hb⟩; refine ⟨_, rfl, ?_⟩; replace BK209 := am (blk_below (bX BK209.out) hb); replace BK210 := am (blk_below (bX BK210.out) hb); replace HB := am (below_step (beX HB.out) hb); (try clear hb); (try clear hb2); (try clear hk); (try clear hi); have hcz31_0 := blk_cell BK210.out; have hfz31_0 := blk_frozen BK210.out))
   go_ret
   exact ⟨by first | rfl | (simp [errW_none, errW_some] <;> rfl) | (simp [*, errW_none, errW_some] <;> rfl), by exact beX HB.out⟩
 ·rw [if_neg c5] at H
  have c5b0 : decide (t211 ≤ a1_0) = false := decide_eq_false c5
  clear c5
  obtain rfl := Option.some.inj H
  go_enter Try.func36, Try.ntmps36
  go_wp2_with (first | ((with_reducible refine gate_dst (N := 2) rfl ?_); refine box_event ?hg (N := 2) ?hd (cs := #[.int .i64 a0_0, .int .i64 a0_1, .int .i64 a0_2, .int .i64 a0_3]) (t := 24) ?hr ?_; (case hd => rfl); (case hg => rfl); (case hr => first | (go_simp; done) | (go_simp; rfl)); intro gb209 hg w32 hbox hb; have BK209 := am (hbox); have GW209 := am ((by rw [hg]; exact (below_size (beX HB.out)) : w.heap.size ≤ gb209)); have GE209 := am ((by rw [hg]; exact (below_size (beX HB.out)) : w.heap.size ≤ gb209)); replace HB := am (below_step (beX HB.out) hb); clear hb hbox hg) | ((with_reducible refine gate_dst (N := 3) rfl ?_); refine box_event ?hg (N := 3) ?hd (cs := #[.int .i64 a1_0, .int .i64 a1_1]) (t := 47) ?hr ?_; (case hd => rfl); (case hg => rfl); (case hr => first | (go_simp; done) | (go_simp; rfl)); intro gb210 hg w33 hbox hb; have BK210 := am (hbox); have GW210 := am ((by rw [hg]; exact (below_size (beX HB.out)) : w.heap.size ≤ gb210)); have GE210 := am ((by rw [hg]; exact (below_size (beX HB.out)) : w.heap.size ≤ gb210)); have NB209_210 := am ((by rw [hg]; exact Nat.ne_of_lt (blk_lt (bX BK209.out)) : gb209 ≠ gb210)); have NB210_209 := am ((by rw [hg]; exact Nat.ne_of_gt (blk_lt (bX BK209.out)) : gb210 ≠ gb209)); replace BK209 := am (blk_below (bX BK209.out) hb); replace HB := am (below_step (beX HB.out) hb); clear hb hbox hg; have hnb34 := NB209_210.out; have hnc34 := NB210_209.out; have hcz35_0 := blk_cell BK209.out; have hfz35_0 := blk_frozen BK209.out) | ((with_reducible refine gate_callee (f := 35) rfl ?_); refine goesL_ (some 11) rfl rfl Try.func35 (by kernel_rfl) rfl #[.agg #[.int .i64 a0_0, .int .i64 a0_1, .int .i64 a0_2, .int .i64 a0_3], .int .i64 0] rfl (by (try simp only [List.map_toArray, List.map_cons, List.map_nil]); first | done | rfl | (simp only [List.length_drop, List.length_take]; rfl)) ?_; (with_reducible refine (imageeditorref02_span.calls k a0_0 a0_1 a0_2 a0_3 0 t211 t212 _ A3.out).mono ?_); rintro e w36 ⟨rfl, hb⟩; refine ⟨_, rfl, ?_⟩; replace BK209 := am (blk_below (bX BK209.out) hb); replace BK210 := am (blk_below (bX BK210.out) hb); replace HB := am (below_step (beX HB.out) hb); (try clear hb); (try clear hb2); (try clear hk); (try clear hi); have hcz37_0 := blk_cell BK209.out; have hfz37_0 := blk_frozen BK209.out) | ((with_reducible refine gate_callee (f := 35) rfl ?_); refine goesL_ (some 16) rfl rfl Try.func35 (by kernel_rfl) rfl #[.agg #[.int .i64 a0_0, .int .i64 a0_1, .int .i64 a0_2, .int .i64 a0_3], .int .i64 1] rfl (by (try simp only [List.map_toArray, List.map_cons, List.map_nil]); first | done | rfl | (simp only [List.length_drop, List.length_take]; rfl)) ?_; (with_reducible refine (imageeditorref02_span.calls k a0_0 a0_1 a0_2 a0_3 1 t213 t214 _ A4.out).mono ?_); rintro e w38 ⟨rfl, hb⟩; refine ⟨_, rfl, ?_⟩; replace BK209 := am (blk_below (bX BK209.out) hb); replace BK210 := am (blk_below (bX BK210.out) hb); replace HB := am (below_step (beX HB.out) hb); (try clear hb); (try clear hb2); (try clear hk); (try clear hi); have hcz39_0 := blk_cell BK210.out; have hfz39_0 := blk_frozen BK210.out))
  go_ret
  exact ⟨by first | rfl | (simp [errW_none, errW_some] <;> rfl) | (simp [*, errW_none, errW_some] <;> rfl), by exact beX HB.out⟩

/-! ### imageeditorref02_Within: function 17 -/
def imageeditorref02_Within.f (k : Nat) (a0_0 : Int) (a0_1 : Int) (a0_2 : Int) (a0_3 : Int) (a1_0 : Int) (a1_1 : Int) (a1_2 : Int) (a1_3 : Int) : Option (Bool) := (imageeditorref02_Empty.f a0_0 a0_1 a0_2 a0_3).bind fun t217 => (if t217 = true then (some true) else ((imageeditorref02_span.f k a0_0 a0_1 a0_2 a0_3 0).bind fun bt218 => ((imageeditorref02_span.f k a0_0 a0_1 a0_2 a0_3 1).bind fun bt220 => ((imageeditorref02_Has.f k a1_0 a1_1 a1_2 a1_3 bt218.1 bt220.1).bind fun t222 => (if t222 = true then ((imageeditorref02_Has.f k a1_0 a1_1 a1_2 a1_3 bt218.2 bt220.2).bind fun t223 => (some t223)) else (some false))))))
theorem imageeditorref02_Within.mono : ∀ a0 a1 a2 a3 a4 a5 a6 a7 k, LeO (imageeditorref02_Within.f k a0 a1 a2 a3 a4 a5 a6 a7) (imageeditorref02_Within.f (k + 1) a0 a1 a2 a3 a4 a5 a6 a7) := by
 intro a0 a1 a2 a3 a4 a5 a6 a7 k
 unfold imageeditorref02_Within.f
 repeat' first
   | (with_reducible exact imageeditorref02_Has.mono _ _ _ _ _ _ _)
   | (with_reducible exact imageeditorref02_span.mono _ _ _ _ _ _)
   | (with_reducible exact LeO.refl _)
   | (with_reducible exact LeO.none _)
   | (with_reducible refine LeO.ite ?_ ?_)
   | (with_reducible refine LeO.bind ?_ (fun _ => ?_))
   | exact imageeditorref02_Has.mono _ _ _ _ _ _ _
   | exact imageeditorref02_span.mono _ _ _ _ _ _
   | exact LeO.none _
   | refine LeO.ite ?_ ?_
   | refine LeO.bind ?_ (fun _ => ?_)
set_option maxHeartbeats 8000000 in
set_option maxRecDepth 100000 in
theorem imageeditorref02_Within.calls (k : Nat) (a0_0 : Int) (a0_1 : Int) (a0_2 : Int) (a0_3 : Int) (a1_0 : Int) (a1_1 : Int) (a1_2 : Int) (a1_3 : Int) (r : Bool) (w : World) (h : imageeditorref02_Within.f k a0_0 a0_1 a0_2 a0_3 a1_0 a1_1 a1_2 a1_3 = some r) :
  Calls Try.prog 17 #[.agg #[.int .i64 a0_0, .int .i64 a0_1, .int .i64 a0_2, .int .i64 a0_3], .agg #[.int .i64 a1_0, .int .i64 a1_1, .int .i64 a1_2, .int .i64 a1_3]] w fun e w' => e = .returned (.bool r) ∧ Below w.heap.size w w' := by
 have hu24 := Try.underlying24
 have hu47 := Try.underlying47
 have HB := am (Below.refl w.heap.size w)
 have H : ((imageeditorref02_Empty.f a0_0 a0_1 a0_2 a0_3).bind fun t217 => (if t217 = true then (some true) else ((imageeditorref02_span.f k a0_0 a0_1 a0_2 a0_3 0).bind fun bt218 => ((imageeditorref02_span.f k a0_0 a0_1 a0_2 a0_3 1).bind fun bt220 => ((imageeditorref02_Has.f k a1_0 a1_1 a1_2 a1_3 bt218.1 bt220.1).bind fun t222 => (if t222 = true then ((imageeditorref02_Has.f k a1_0 a1_1 a1_2 a1_3 bt218.2 bt220.2).bind fun t223 => (some t223)) else (some false))))))) = some r := h
 clear h
 replace H := Option.bind_eq_some_iff.mp H
 obtain ⟨t217, A30, H⟩ := H
 replace H : (if t217 = true then (some true) else ((imageeditorref02_span.f k a0_0 a0_1 a0_2 a0_3 0).bind fun bt218 => ((imageeditorref02_span.f k a0_0 a0_1 a0_2 a0_3 1).bind fun bt220 => ((imageeditorref02_Has.f k a1_0 a1_1 a1_2 a1_3 bt218.1 bt220.1).bind fun t222 => (if t222 = true then ((imageeditorref02_Has.f k a1_0 a1_1 a1_2 a1_3 bt218.2 bt220.2).bind fun t223 => (some t223)) else (some false)))))) = some r := H
 have A3 := Aside0.mk A30
 clear A30
 by_cases c4 : t217 = true
 ·subst c4
  have H1 : (some true) = some r := by rw [if_pos rfl] at H; exact H
  clear H
  have H := H1
  clear H1
  obtain rfl := Option.some.inj H
  go_enter Try.func17, Try.ntmps17
  go_wp2_with (first | ((with_reducible refine gate_dst (N := 2) rfl ?_); refine box_event ?hg (N := 2) ?hd (cs := #[.int .i64 a0_0, .int .i64 a0_1, .int .i64 a0_2, .int .i64 a0_3]) (t := 24) ?hr ?_; (case hd => rfl); (case hg => rfl); (case hr => first | (go_simp; done) | (go_simp; rfl)); intro gb215 hg w5 hbox hb; have BK215 := am (hbox); have GW215 := am ((by rw [hg]; exact (below_size (beX HB.out)) : w.heap.size ≤ gb215)); have GE215 := am ((by rw [hg]; exact (below_size (beX HB.out)) : w.heap.size ≤ gb215)); replace HB := am (below_step (beX HB.out) hb); clear hb hbox hg) | ((with_reducible refine gate_dst (N := 3) rfl ?_); refine box_event ?hg (N := 3) ?hd (cs := #[.int .i64 a1_0, .int .i64 a1_1, .int .i64 a1_2, .int .i64 a1_3]) (t := 24) ?hr ?_; (case hd => rfl); (case hg => rfl); (case hr => first | (go_simp; done) | (go_simp; rfl)); intro gb216 hg w6 hbox hb; have BK216 := am (hbox); have GW216 := am ((by rw [hg]; exact (below_size (beX HB.out)) : w.heap.size ≤ gb216)); have GE216 := am ((by rw [hg]; exact (below_size (beX HB.out)) : w.heap.size ≤ gb216)); have NB215_216 := am ((by rw [hg]; exact Nat.ne_of_lt (blk_lt (bX BK215.out)) : gb215 ≠ gb216)); have NB216_215 := am ((by rw [hg]; exact Nat.ne_of_gt (blk_lt (bX BK215.out)) : gb216 ≠ gb215)); replace BK215 := am (blk_below (bX BK215.out) hb); replace HB := am (below_step (beX HB.out) hb); clear hb hbox hg; have hnb7 := NB215_216.out; have hnc7 := NB216_215.out; have hcz8_0 := blk_cell BK215.out; have hfz8_0 := blk_frozen BK215.out) | ((with_reducible refine gate_callee (f := 16) rfl ?_); refine goesL_ (some 10) rfl rfl Try.func16 (by kernel_rfl) rfl #[.agg #[.int .i64 a0_0, .int .i64 a0_1, .int .i64 a0_2, .int .i64 a0_3]] rfl (by (try simp only [List.map_toArray, List.map_cons, List.map_nil]); first | done | rfl | (simp only [List.length_drop, List.length_take]; rfl)) ?_; (with_reducible refine (imageeditorref02_Empty.calls a0_0 a0_1 a0_2 a0_3 true _ A3.out).mono ?_); rintro e w9 ⟨rfl, hb⟩; refine ⟨_, rfl, ?_⟩; replace BK215 := am (blk_below (bX BK215.out) hb); replace BK216 := am (blk_below (bX BK216.out) hb); replace HB := am (below_step (beX HB.out) hb); (try clear hb); (try clear hb2); (try clear hk); (try clear hi)))
  go_ret
  exact ⟨by first | rfl | (simp [errW_none, errW_some] <;> rfl) | (simp [*, errW_none, errW_some] <;> rfl), by exact beX HB.out⟩
 ·replace c4 := Bool.eq_false_iff.mpr c4
  subst c4
  have H1 : ((imageeditorref02_span.f k a0_0 a0_1 a0_2 a0_3 0).bind fun bt218 => ((imageeditorref02_span.f k a0_0 a0_1 a0_2 a0_3 1).bind fun bt220 => ((imageeditorref02_Has.f k a1_0 a1_1 a1_2 a1_3 bt218.1 bt220.1).bind fun t222 => (if t222 = true then ((imageeditorref02_Has.f k a1_0 a1_1 a1_2 a1_3 bt218.2 bt220.2).bind fun t223 => (some t223)) else (some false))))) = some r := by rw [if_neg (show ¬ (false = true) by decide)] at H; exact H
  clear H
  have H := H1
  clear H1
  replace H := Option.bind_eq_some_iff.mp H
  obtain ⟨⟨t218, t219⟩, A100, H⟩ := H
  replace H : ((imageeditorref02_span.f k a0_0 a0_1 a0_2 a0_3 1).bind fun bt220 => ((imageeditorref02_Has.f k a1_0 a1_1 a1_2 a1_3 t218 bt220.1).bind fun t222 => (if t222 = true then ((imageeditorref02_Has.f k a1_0 a1_1 a1_2 a1_3 t219 bt220.2).bind fun t223 => (some t223)) else (some false)))) = some r := H
  have A10 := Aside0.mk A100
  clear A100
  replace H := Option.bind_eq_some_iff.mp H
  obtain ⟨⟨t220, t221⟩, A110, H⟩ := H
  replace H : ((imageeditorref02_Has.f k a1_0 a1_1 a1_2 a1_3 t218 t220).bind fun t222 => (if t222 = true then ((imageeditorref02_Has.f k a1_0 a1_1 a1_2 a1_3 t219 t221).bind fun t223 => (some t223)) else (some false))) = some r := H
  have A11 := Aside0.mk A110
  clear A110
  replace H := Option.bind_eq_some_iff.mp H
  obtain ⟨t222, A120, H⟩ := H
  replace H : (if t222 = true then ((imageeditorref02_Has.f k a1_0 a1_1 a1_2 a1_3 t219 t221).bind fun t223 => (some t223)) else (some false)) = some r := H
  have A12 := Aside0.mk A120
  clear A120
  by_cases c13 : t222 = true
  ·subst c13
   have H1 : ((imageeditorref02_Has.f k a1_0 a1_1 a1_2 a1_3 t219 t221).bind fun t223 => (some t223)) = some r := by rw [if_pos rfl] at H; exact H
   clear H
   have H := H1
   clear H1
   replace H := Option.bind_eq_some_iff.mp H
   obtain ⟨t223, A140, H⟩ := H
   replace H : (some t223) = some r := H
   have A14 := Aside0.mk A140
   clear A140
   obtain rfl := Option.some.inj H
   go_enter Try.func17, Try.ntmps17
   go_wp2_with (first | ((with_reducible refine gate_dst (N := 2) rfl ?_); refine box_event ?hg (N := 2) ?hd (cs := #[.int .i64 a0_0, .int .i64 a0_1, .int .i64 a0_2, .int .i64 a0_3]) (t := 24) ?hr ?_; (case hd => rfl); (case hg => rfl); (case hr => first | (go_simp; done) | (go_simp; rfl)); intro gb215 hg w15 hbox hb; have BK215 := am (hbox); have GW215 := am ((by rw [hg]; exact (below_size (beX HB.out)) : w.heap.size ≤ gb215)); have GE215 := am ((by rw [hg]; exact (below_size (beX HB.out)) : w.heap.size ≤ gb215)); replace HB := am (below_step (beX HB.out) hb); clear hb hbox hg) | ((with_reducible refine gate_dst (N := 3) rfl ?_); refine box_event ?hg (N := 3) ?hd (cs := #[.int .i64 a1_0, .int .i64 a1_1, .int .i64 a1_2, .int .i64 a1_3]) (t := 24) ?hr ?_; (case hd => rfl); (case hg => rfl); (case hr => first | (go_simp; done) | (go_simp; rfl)); intro gb216 hg w16 hbox hb; have BK216 := am (hbox); have GW216 := am ((by rw [hg]; exact (below_size (beX HB.out)) : w.heap.size ≤ gb216)); have GE216 := am ((by rw [hg]; exact (below_size (beX HB.out)) : w.heap.size ≤ gb216)); have NB215_216 := am ((by rw [hg]; exact Nat.ne_of_lt (blk_lt (bX BK215.out)) : gb215 ≠ gb216)); have NB216_215 := am ((by rw [hg]; exact Nat.ne_of_gt (blk_lt (bX BK215.out)) : gb216 ≠ gb215)); replace BK215 := am (blk_below (bX BK215.out) hb); replace HB := am (below_step (beX HB.out) hb); clear hb hbox hg; have hnb17 := NB215_216.out; have hnc17 := NB216_215.out; have hcz18_0 := blk_cell BK215.out; have hfz18_0 := blk_frozen BK215.out) | ((with_reducible refine gate_callee (f := 16) rfl ?_); refine goesL_ (some 10) rfl rfl Try.func16 (by kernel_rfl) rfl #[.agg #[.int .i64 a0_0, .int .i64 a0_1, .int .i64 a0_2, .int .i64 a0_3]] rfl (by (try simp only [List.map_toArray, List.map_cons, List.map_nil]); first | done | rfl | (simp only [List.length_drop, List.length_take]; rfl)) ?_; (with_reducible refine (imageeditorref02_Empty.calls a0_0 a0_1 a0_2 a0_3 false _ A3.out).mono ?_); rintro e w19 ⟨rfl, hb⟩; refine ⟨_, rfl, ?_⟩; replace BK215 := am (blk_below (bX BK215.out) hb); replace BK216 := am (blk_below (bX BK216.out) hb); replace HB := am (below_step (beX HB.out) hb); (try clear hb); (try clear hb2); (try clear hk); (try clear hi); have hcz20_0 := blk_cell BK215.out; have hfz20_0 := blk_frozen BK215.out) | ((with_reducible refine gate_callee (f := 35) rfl ?_); refine goesL_ (some 13) rfl rfl Try.func35 (by kernel_rfl) rfl #[.agg #[.int .i64 a0_0, .int .i64 a0_1, .int .i64 a0_2, .int .i64 a0_3], .int .i64 0] rfl (by (try simp only [List.map_toArray, List.map_cons, List.map_nil]); first | done | rfl | (simp only [List.length_drop, List.length_take]; rfl)) ?_; (with_reducible refine (imageeditorref02_span.calls k a0_0 a0_1 a0_2 a0_3 0 t218 t219 _ A10.out).mono ?_); rintro e w21 ⟨rfl, hb⟩; refine ⟨_, rfl, ?_⟩; replace BK215 := am (blk_below (bX BK215.out) hb); replace BK216 := am (blk_below (bX BK216.out) hb); replace HB := am (below_step (beX HB.out) hb); (try clear hb); (try clear hb2); (try clear hk); (try clear hi); have hcz22_0 := blk_cell BK215.out; have hfz22_0 := blk_frozen BK215.out) | ((with_reducible refine gate_callee (f := 35) rfl ?_); refine goesL_ (some 18) rfl rfl Try.func35 (by kernel_rfl) rfl #[.agg #[.int .i64 a0_0, .int .i64 a0_1, .int .i64 a0_2, .int .i64 a0_3], .int .i64 1] rfl (by (try simp only [List.map_toArray, List.map_cons, List.map_nil]); first | done | rfl | (simp only [List.length_drop, List.length_take]; rfl)) ?_; (with_reducible refine (imageeditorref02_span.calls k a0_0 a0_1 a0_2 a0_3 1 t220 t221 _ A11.out).mono ?_); rintro e w23 ⟨rfl, hb⟩; refine ⟨_, rfl, ?_⟩; replace BK215 := am (blk_below (bX BK215.out) hb); replace BK216 := am (blk_below (bX BK216.out) hb); replace HB := am (below_step (beX HB.out) hb); (try clear hb); (try clear hb2); (try clear hk); (try clear hi); have hcz24_0 := blk_cell BK216.out; have hfz24_0 := blk_frozen BK216.out) | ((with_reducible refine gate_callee (f := 36) rfl ?_); refine goesL_ (some 25) rfl rfl Try.func36 (by kernel_rfl) rfl #[.agg #[.int .i64 a1_0, .int .i64 a1_1, .int .i64 a1_2, .int .i64 a1_3], .agg #[.int .i64 t218, .int .i64 t220]] rfl (by (try simp only [List.map_toArray, List.map_cons, List.map_nil]); first | done | rfl | (simp only [List.length_drop, List.length_take]; rfl)) ?_; (with_reducible refine (imageeditorref02_Has.calls k a1_0 a1_1 a1_2 a1_3 t218 t220 true _ A12.out).mono ?_); rintro e w25 ⟨rfl, hb⟩; refine ⟨_, rfl, ?_⟩; replace BK215 := am (blk_below (bX BK215.out) hb); replace BK216 := am (blk_below (bX BK216.out) hb); replace HB := am (below_step (beX HB.out) hb); (try clear hb); (try clear hb2); (try clear hk); (try clear hi); have hcz26_0 := blk_cell BK216.out; have hfz26_0 := blk_frozen BK216.out) | (go_at_call 36; (with_reducible refine (imageeditorref02_Has.calls k a1_0 a1_1 a1_2 a1_3 t219 t221 t223 _ A14.out).mono ?_); rintro e w27 ⟨rfl, hb⟩; replace BK215 := am (blk_below (bX BK215.out) hb); replace BK216 := am (blk_below (bX BK216.out) hb); replace HB := am (below_step (beX HB.out) hb); (try clear hb); (try clear hb2); (try clear hk); (try clear hi)))
   go_ret
   exact ⟨by first | rfl | (simp [errW_none, errW_some] <;> rfl) | (simp [*, errW_none, errW_some] <;> rfl), by exact beX HB.out⟩
  ·replace c13 := Bool.eq_false_iff.mpr c13
   subst c13
   have H1 : (some false) = some r := by rw [if_neg (show ¬ (false = true) by decide)] at H; exact H
   clear H
   have H := H1
   clear H1
   obtain rfl := Option.some.inj H
   go_enter Try.func17, Try.ntmps17
   go_wp2_with (first | ((with_reducible refine gate_dst (N := 2) rfl ?_); refine box_event ?hg (N := 2) ?hd (cs := #[.int .i64 a0_0, .int .i64 a0_1, .int .i64 a0_2, .int .i64 a0_3]) (t := 24) ?hr ?_; (case hd => rfl); (case hg => rfl); (case hr => first | (go_simp; done) | (go_simp; rfl)); intro gb215 hg w28 hbox hb; have BK215 := am (hbox); have GW215 := am ((by rw [hg]; exact (below_size (beX HB.out)) : w.heap.size ≤ gb215)); have GE215 := am ((by rw [hg]; exact (below_size (beX HB.out)) : w.heap.size ≤ gb215)); replace HB := am (below_step (beX HB.out) hb); clear hb hbox hg) | ((with_reducible refine gate_dst (N := 3) rfl ?_); refine box_event ?hg (N := 3) ?hd (cs := #[.int .i64 a1_0, .int .i64 a1_1, .int .i64 a1_2, .int .i64 a1_3]) (t := 24) ?hr ?_; (case hd => rfl); (case hg => rfl); (case hr => first | (go_simp; done) | (go_simp; rfl)); intro gb216 hg w29 hbox hb; have BK216 := am (hbox); have GW216 := am ((by rw [hg]; exact (below_size (beX HB.out)) : w.heap.size ≤ gb216)); have GE216 := am ((by rw [hg]; exact (below_size (beX HB.out)) : w.heap.size ≤ gb216)); have NB215_216 := am ((by rw [hg]; exact Nat.ne_of_lt (blk_lt (bX BK215.out)) : gb215 ≠ gb216)); have NB216_215 := am ((by rw [hg]; exact Nat.ne_of_gt (blk_lt (bX BK215.out)) : gb216 ≠ gb215)); replace BK215 := am (blk_below (bX BK215.out) hb); replace HB := am (below_step (beX HB.out) hb); clear hb hbox hg; have hnb30 := NB215_216.out; have hnc30 := NB216_215.out; have hcz31_0 := blk_cell BK215.out; have hfz31_0 := blk_frozen BK215.out) | ((with_reducible refine gate_callee (f := 16) rfl ?_); refine goesL_ (some 10) rfl rfl Try.func16 (by kernel_rfl) rfl #[.agg #[.int .i64 a0_0, .int .i64 a0_1, .int .i64 a0_2, .int .i64 a0_3]] rfl (by (try simp only [List.map_toArray, List.map_cons, List.map_nil]); first | done | rfl | (simp only [List.length_drop, List.length_take]; rfl)) ?_; (with_reducible refine (imageeditorref02_Empty.calls a0_0 a0_1 a0_2 a0_3 false _ A3.out).mono ?_); rintro e w32 ⟨rfl, hb⟩; refine ⟨_, rfl, ?_⟩; replace BK215 := am (blk_below (bX BK215.out) hb); replace BK216 := am (blk_below (bX BK216.out) hb); replace HB := am (below_step (beX HB.out) hb); (try clear hb); (try clear hb2); (try clear hk); (try clear hi); have hcz33_0 := blk_cell BK215.out; have hfz33_0 := blk_frozen BK215.out) | ((with_reducible refine gate_callee (f := 35) rfl ?_); refine goesL_ (some 13) rfl rfl Try.func35 (by kernel_rfl) rfl #[.agg #[.int .i64 a0_0, .int .i64 a0_1, .int .i64 a0_2, .int .i64 a0_3], .int .i64 0] rfl (by (try simp only [List.map_toArray, List.map_cons, List.map_nil]); first | done | rfl | (simp only [List.length_drop, List.length_take]; rfl)) ?_; (with_reducible refine (imageeditorref02_span.calls k a0_0 a0_1 a0_2 a0_3 0 t218 t219 _ A10.out).mono ?_); rintro e w34 ⟨rfl, hb⟩; refine ⟨_, rfl, ?_⟩; replace BK215 := am (blk_below (bX BK215.out) hb); replace BK216 := am (blk_below (bX BK216.out) hb); replace HB := am (below_step (beX HB.out) hb); (try clear hb); (try clear hb2); (try clear hk); (try clear hi); have hcz35_0 := blk_cell BK215.out; have hfz35_0 := blk_frozen BK215.out) | ((with_reducible refine gate_callee (f := 35) rfl ?_); refine goesL_ (some 18) rfl rfl Try.func35 (by kernel_rfl) rfl #[.agg #[.int .i64 a0_0, .int .i64 a0_1, .int .i64 a0_2, .int .i64 a0_3], .int .i64 1] rfl (by (try simp only [List.map_toArray, List.map_cons, List.map_nil]); first | done | rfl | (simp only [List.length_drop, List.length_take]; rfl)) ?_; (with_reducible refine (imageeditorref02_span.calls k a0_0 a0_1 a0_2 a0_3 1 t220 t221 _ A11.out).mono ?_); rintro e w36 ⟨rfl, hb⟩; refine ⟨_, rfl, ?_⟩; replace BK215 := am (blk_below (bX BK215.out) hb); replace BK216 := am (blk_below (bX BK216.out) hb); replace HB := am (below_step (beX HB.out) hb); (try clear hb); (try clear hb2); (try clear hk); (try clear hi); have hcz37_0 := blk_cell BK216.out; have hfz37_0 := blk_frozen BK216.out) | ((with_reducible refine gate_callee (f := 36) rfl ?_); refine goesL_ (some 25) rfl rfl Try.func36 (by kernel_rfl) rfl #[.agg #[.int .i64 a1_0, .int .i64 a1_1, .int .i64 a1_2, .int .i64 a1_3], .agg #[.int .i64 t218, .int .i64 t220]] rfl (by (try simp only [List.map_toArray, List.map_cons, List.map_nil]); first | done | rfl | (simp only [List.length_drop, List.length_take]; rfl)) ?_; (with_reducible refine (imageeditorref02_Has.calls k a1_0 a1_1 a1_2 a1_3 t218 t220 false _ A12.out).mono ?_); rintro e w38 ⟨rfl, hb⟩; refine ⟨_, rfl, ?_⟩; replace BK215 := am (blk_below (bX BK215.out) hb); replace BK216 := am (blk_below (bX BK216.out) hb); replace HB := am (below_step (beX HB.out) hb); (try clear hb); (try clear hb2); (try clear hk); (try clear hi)))
   go_ret
   exact ⟨by first | rfl | (simp [errW_none, errW_some] <;> rfl) | (simp [*, errW_none, errW_some] <;> rfl), by exact beX HB.out⟩

/-! ### imageeditorref02_of: function 45 -/
def imageeditorref02_of.f (a0 : Int) (a1 : Int) (a2 : Int) (a3 : Int) : Option (Int × Int × Int × Int) := if a1 < a0 then (some (0, 0, 0, 0)) else (if a3 < a2 then (some (0, 0, 0, 0)) else (some (a0, a2, wrap64 ((wrap64 (a1 - a0)) + 1), wrap64 ((wrap64 (a3 - a2)) + 1))))
set_option maxHeartbeats 8000000 in
set_option maxRecDepth 100000 in
theorem imageeditorref02_of.calls (a0 : Int) (a1 : Int) (a2 : Int) (a3 : Int) (r1 : Int) (r2 : Int) (r3 : Int) (r4 : Int) (w : World) (h : imageeditorref02_of.f a0 a1 a2 a3 = some (r1, r2, r3, r4)) :
  Calls Try.prog 45 #[.int .i64 a0, .int .i64 a1, .int .i64 a2, .int .i64 a3] w fun e w' => e = .returned (.agg #[.int .i64 r1, .int .i64 r2, .int .i64 r3, .int .i64 r4]) ∧ Below w.heap.size w w' := by
 have hu24 := Try.underlying24
 have HB := am (Below.refl w.heap.size w)
 have H : (if a1 < a0 then (some (0, 0, 0, 0)) else (if a3 < a2 then (some (0, 0, 0, 0)) else (some (a0, a2, wrap64 ((wrap64 (a1 - a0)) + 1), wrap64 ((wrap64 (a3 - a2)) + 1))))) = some (r1, r2, r3, r4) := h
 clear h
 by_cases c5 : a1 < a0
 ·rw [if_pos c5] at H
  have c5b0 : decide (a1 < a0) = true := decide_eq_true c5
  clear c5
  simp only [Option.some.injEq, Prod.mk.injEq] at H
  obtain ⟨rfl, rfl, rfl, rfl⟩ := H
  go_enter Try.func45, Try.ntmps45
  go_wp2_with (first | ((with_reducible refine gate_dst (N := 8) rfl ?_); refine box_event ?hg (N := 8) ?hd (cs := #[.int .i64 0, .int .i64 0, .int .i64 0, .int .i64 0]) (t := 24) ?hr ?_; (case hd => rfl); (case hg => rfl); (case hr => first | (go_simp; done) | (go_simp; rfl)); intro gb224 hg w6 hbox hb; have BK224 := am (hbox); have GW224 := am ((by rw [hg]; exact (below_size (beX HB.out)) : w.heap.size ≤ gb224)); have GE224 := am ((by rw [hg]; exact (below_size (beX HB.out)) : w.heap.size ≤ gb224)); replace HB := am (below_step (beX HB.out) hb); clear hb hbox hg; have hcz7_0 := blk_cell BK224.out; have hfz7_0 := blk_frozen BK224.out))
  refine bodyPost_ret (results_cell_row rfl _ _ gb224 24 #[.int .i64 0, .int .i64 0, .int .i64 0, .int .i64 0] (0, 0) _ rfl (by (with_reducible repeat (first | refine blk_drewN ?_ _ | refine blk_drew ?_ | refine blk_alloc ?_ _)); refine blk_put (cs := #[.int .i64 0, .int .i64 0, .int .i64 0, .int .i64 0]) ?_ 3 _ rfl; (with_reducible repeat (first | refine blk_drewN ?_ _ | refine blk_drew ?_ | refine blk_alloc ?_ _)); refine blk_put (cs := #[.int .i64 0, .int .i64 0, .int .i64 0, .int .i64 0]) ?_ 2 _ rfl; (with_reducible repeat (first | refine blk_drewN ?_ _ | refine blk_drew ?_ | refine blk_alloc ?_ _)); refine blk_put (cs := #[.int .i64 0, .int .i64 0, .int .i64 0, .int .i64 0]) ?_ 1 _ rfl; (with_reducible repeat (first | refine blk_drewN ?_ _ | refine blk_drew ?_ | refine blk_alloc ?_ _)); refine blk_put (cs := #[.int .i64 0, .int .i64 0, .int .i64 0, .int .i64 0]) ?_ 0 _ rfl; (with_reducible repeat (first | refine blk_drewN ?_ _ | refine blk_drew ?_ | refine blk_alloc ?_ _)); exact BK224.out) Try.underlying24 rfl (by kernel_rfl)) rfl ?_
  exact ⟨by first | rfl | (simp [errW_none, errW_some] <;> rfl) | (simp [*, errW_none, errW_some] <;> rfl), by repeat (first | (with_reducible first | exact HB.out | apply below_alloc | apply pw_below_drewN | apply below_drew1 | refine below_set ?_ GE224.out) | exact HB.out)⟩
 ·rw [if_neg c5] at H
  have c5b0 : decide (a1 < a0) = false := decide_eq_false c5
  clear c5
  by_cases c8 : a3 < a2
  ·rw [if_pos c8] at H
   have c8b0 : decide (a3 < a2) = true := decide_eq_true c8
   clear c8
   simp only [Option.some.injEq, Prod.mk.injEq] at H
   obtain ⟨rfl, rfl, rfl, rfl⟩ := H
   go_enter Try.func45, Try.ntmps45
   go_wp2_with (first | ((with_reducible refine gate_dst (N := 8) rfl ?_); refine box_event ?hg (N := 8) ?hd (cs := #[.int .i64 0, .int .i64 0, .int .i64 0, .int .i64 0]) (t := 24) ?hr ?_; (case hd => rfl); (case hg => rfl); (case hr => first | (go_simp; done) | (go_simp; rfl)); intro gb224 hg w9 hbox hb; have BK224 := am (hbox); have GW224 := am ((by rw [hg]; exact (below_size (beX HB.out)) : w.heap.size ≤ gb224)); have GE224 := am ((by rw [hg]; exact (below_size (beX HB.out)) : w.heap.size ≤ gb224)); replace HB := am (below_step (beX HB.out) hb); clear hb hbox hg; have hcz10_0 := blk_cell BK224.out; have hfz10_0 := blk_frozen BK224.out))
   refine bodyPost_ret (results_cell_row rfl _ _ gb224 24 #[.int .i64 0, .int .i64 0, .int .i64 0, .int .i64 0] (0, 0) _ rfl (by (with_reducible repeat (first | refine blk_drewN ?_ _ | refine blk_drew ?_ | refine blk_alloc ?_ _)); refine blk_put (cs := #[.int .i64 0, .int .i64 0, .int .i64 0, .int .i64 0]) ?_ 3 _ rfl; (with_reducible repeat (first | refine blk_drewN ?_ _ | refine blk_drew ?_ | refine blk_alloc ?_ _)); refine blk_put (cs := #[.int .i64 0, .int .i64 0, .int .i64 0, .int .i64 0]) ?_ 2 _ rfl; (with_reducible repeat (first | refine blk_drewN ?_ _ | refine blk_drew ?_ | refine blk_alloc ?_ _)); refine blk_put (cs := #[.int .i64 0, .int .i64 0, .int .i64 0, .int .i64 0]) ?_ 1 _ rfl; (with_reducible repeat (first | refine blk_drewN ?_ _ | refine blk_drew ?_ | refine blk_alloc ?_ _)); refine blk_put (cs := #[.int .i64 0, .int .i64 0, .int .i64 0, .int .i64 0]) ?_ 0 _ rfl; (with_reducible repeat (first | refine blk_drewN ?_ _ | refine blk_drew ?_ | refine blk_alloc ?_ _)); exact BK224.out) Try.underlying24 rfl (by kernel_rfl)) rfl ?_
   exact ⟨by first | rfl | (simp [errW_none, errW_some] <;> rfl) | (simp [*, errW_none, errW_some] <;> rfl), by repeat (first | (with_reducible first | exact HB.out | apply below_alloc | apply pw_below_drewN | apply below_drew1 | refine below_set ?_ GE224.out) | exact HB.out)⟩
  ·rw [if_neg c8] at H
   have c8b0 : decide (a3 < a2) = false := decide_eq_false c8
   clear c8
   simp only [Option.some.injEq, Prod.mk.injEq] at H
   obtain ⟨rfl, rfl, rfl, rfl⟩ := H
   go_enter Try.func45, Try.ntmps45
   go_wp2_with (first | ((with_reducible refine gate_dst (N := 8) rfl ?_); refine box_event ?hg (N := 8) ?hd (cs := #[.int .i64 0, .int .i64 0, .int .i64 0, .int .i64 0]) (t := 24) ?hr ?_; (case hd => rfl); (case hg => rfl); (case hr => first | (go_simp; done) | (go_simp; rfl)); intro gb224 hg w11 hbox hb; have BK224 := am (hbox); have GW224 := am ((by rw [hg]; exact (below_size (beX HB.out)) : w.heap.size ≤ gb224)); have GE224 := am ((by rw [hg]; exact (below_size (beX HB.out)) : w.heap.size ≤ gb224)); replace HB := am (below_step (beX HB.out) hb); clear hb hbox hg; have hcz12_0 := blk_cell BK224.out; have hfz12_0 := blk_frozen BK224.out))
   refine bodyPost_ret (results_cell_row rfl _ _ gb224 24 #[.int .i64 a0, .int .i64 a2, .int .i64 (wrap64 ((wrap64 (a1 - a0)) + 1)), .int .i64 (wrap64 ((wrap64 (a3 - a2)) + 1))] (0, 0) _ rfl (by (with_reducible repeat (first | refine blk_drewN ?_ _ | refine blk_drew ?_ | refine blk_alloc ?_ _)); refine blk_put (cs := #[.int .i64 a0, .int .i64 a2, .int .i64 (wrap64 ((wrap64 (a1 - a0)) + 1)), .int .i64 0]) ?_ 3 _ rfl; (with_reducible repeat (first | refine blk_drewN ?_ _ | refine blk_drew ?_ | refine blk_alloc ?_ _)); refine blk_put (cs := #[.int .i64 a0, .int .i64 a2, .int .i64 0, .int .i64 0]) ?_ 2 _ rfl; (with_reducible repeat (first | refine blk_drewN ?_ _ | refine blk_drew ?_ | refine blk_alloc ?_ _)); refine blk_put (cs := #[.int .i64 a0, .int .i64 0, .int .i64 0, .int .i64 0]) ?_ 1 _ rfl; (with_reducible repeat (first | refine blk_drewN ?_ _ | refine blk_drew ?_ | refine blk_alloc ?_ _)); refine blk_put (cs := #[.int .i64 0, .int .i64 0, .int .i64 0, .int .i64 0]) ?_ 0 _ rfl; (with_reducible repeat (first | refine blk_drewN ?_ _ | refine blk_drew ?_ | refine blk_alloc ?_ _)); exact BK224.out) Try.underlying24 rfl (by kernel_rfl)) rfl ?_
   exact ⟨by first | rfl | (simp [errW_none, errW_some] <;> rfl) | (simp [*, errW_none, errW_some] <;> rfl), by repeat (first | (with_reducible first | exact HB.out | apply below_alloc | apply pw_below_drewN | apply below_drew1 | refine below_set ?_ GE224.out) | exact HB.out)⟩

/-! ### imageeditorref02_Meet: function 29 -/
def imageeditorref02_Meet.j0 : Nat → Bool → Int → Int → Int → Int → Int → Int → Int → Int → Option (Int × Int × Int × Int)
 | 0, _, _, _, _, _, _, _, _, _ => none
 | k + 1, x18, x226000, x226001, x226002, x226003, x227000, x227001, x227002, x227003 => if x18 = true then (some (0, 0, 0, 0)) else ((imageeditorref02_span.f k x226000 x226001 x226002 x226003 0).bind fun bt230 => ((imageeditorref02_span.f k x226000 x226001 x226002 x226003 1).bind fun bt232 => ((imageeditorref02_span.f k x227000 x227001 x227002 x227003 0).bind fun bt234 => ((imageeditorref02_span.f k x227000 x227001 x227002 x227003 1).bind fun bt236 => ((imageeditorref02_of.f (mx bt230.1 bt234.1) (mn bt230.2 bt234.2) (mx bt232.1 bt236.1) (mn bt232.2 bt236.2)).bind fun bt238 => (some (bt238.1, bt238.2.1, bt238.2.2.1, bt238.2.2.2)))))))
def imageeditorref02_Meet.f (k : Nat) (a0_0 : Int) (a0_1 : Int) (a0_2 : Int) (a0_3 : Int) (a1_0 : Int) (a1_1 : Int) (a1_2 : Int) (a1_3 : Int) : Option (Int × Int × Int × Int) := (imageeditorref02_Empty.f a0_0 a0_1 a0_2 a0_3).bind fun t228 => (if t228 = true then (imageeditorref02_Meet.j0 k true a0_0 a0_1 a0_2 a0_3 a1_0 a1_1 a1_2 a1_3) else ((imageeditorref02_Empty.f a1_0 a1_1 a1_2 a1_3).bind fun t229 => (imageeditorref02_Meet.j0 k t229 a0_0 a0_1 a0_2 a0_3 a1_0 a1_1 a1_2 a1_3)))
theorem imageeditorref02_Meet.mono_l : ∀ k, (∀ y0 y1 y2 y3 y4 y5 y6 y7 y8, LeO (imageeditorref02_Meet.j0 k y0 y1 y2 y3 y4 y5 y6 y7 y8) (imageeditorref02_Meet.j0 (k + 1) y0 y1 y2 y3 y4 y5 y6 y7 y8))
 | 0 => fun _ _ _ _ _ _ _ _ _ r h => by simp [imageeditorref02_Meet.j0] at h
 | k + 1 => by
  have ih0 := imageeditorref02_Meet.mono_l k
  ·intro y0 y1 y2 y3 y4 y5 y6 y7 y8
   unfold imageeditorref02_Meet.j0
   repeat' first
   | (with_reducible exact ih0 _ _ _ _ _ _ _ _ _)
   | (with_reducible exact imageeditorref02_span.mono _ _ _ _ _ _)
   | (with_reducible exact LeO.refl _)
   | (with_reducible exact LeO.none _)
   | (with_reducible refine LeO.ite ?_ ?_)
   | (with_reducible refine LeO.bind ?_ (fun _ => ?_))
   | exact ih0 _ _ _ _ _ _ _ _ _
   | exact imageeditorref02_span.mono _ _ _ _ _ _
   | exact LeO.none _
   | refine LeO.ite ?_ ?_
   | refine LeO.bind ?_ (fun _ => ?_)
theorem imageeditorref02_Meet.mono : ∀ a0 a1 a2 a3 a4 a5 a6 a7 k, LeO (imageeditorref02_Meet.f k a0 a1 a2 a3 a4 a5 a6 a7) (imageeditorref02_Meet.f (k + 1) a0 a1 a2 a3 a4 a5 a6 a7) := by
 intro a0 a1 a2 a3 a4 a5 a6 a7 k
 have ih0 := imageeditorref02_Meet.mono_l k
 unfold imageeditorref02_Meet.f
 repeat' first
   | (with_reducible exact ih0 _ _ _ _ _ _ _ _ _)
   | (with_reducible exact imageeditorref02_span.mono _ _ _ _ _ _)
   | (with_reducible exact LeO.refl _)
   | (with_reducible exact LeO.none _)
   | (with_reducible refine LeO.ite ?_ ?_)
   | (with_reducible refine LeO.bind ?_ (fun _ => ?_))
   | exact ih0 _ _ _ _ _ _ _ _ _
   | exact imageeditorref02_span.mono _ _ _ _ _ _
   | exact LeO.none _
   | refine LeO.ite ?_ ?_
   | refine LeO.bind ?_ (fun _ => ?_)
set_option maxHeartbeats 8000000 in
set_option maxRecDepth 100000 in
theorem imageeditorref02_Meet.calls (k : Nat) (a0_0 : Int) (a0_1 : Int) (a0_2 : Int) (a0_3 : Int) (a1_0 : Int) (a1_1 : Int) (a1_2 : Int) (a1_3 : Int) (r1 : Int) (r2 : Int) (r3 : Int) (r4 : Int) (w : World) (h : imageeditorref02_Meet.f k a0_0 a0_1 a0_2 a0_3 a1_0 a1_1 a1_2 a1_3 = some (r1, r2, r3, r4)) :
  Calls Try.prog 29 #[.agg #[.int .i64 a0_0, .int .i64 a0_1, .int .i64 a0_2, .int .i64 a0_3], .agg #[.int .i64 a1_0, .int .i64 a1_1, .int .i64 a1_2, .int .i64 a1_3]] w fun e w' => e = .returned (.agg #[.int .i64 r1, .int .i64 r2, .int .i64 r3, .int .i64 r4]) ∧ Below w.heap.size w w' := by
 have hu24 := Try.underlying24
 have HB := am (Below.refl w.heap.size w)
 have H : ((imageeditorref02_Empty.f a0_0 a0_1 a0_2 a0_3).bind fun t228 => (if t228 = true then (imageeditorref02_Meet.j0 k true a0_0 a0_1 a0_2 a0_3 a1_0 a1_1 a1_2 a1_3) else ((imageeditorref02_Empty.f a1_0 a1_1 a1_2 a1_3).bind fun t229 => (imageeditorref02_Meet.j0 k t229 a0_0 a0_1 a0_2 a0_3 a1_0 a1_1 a1_2 a1_3)))) = some (r1, r2, r3, r4) := h
 clear h
 have HC3 := Aside0.mk H
 clear H
 go_enter Try.func29, Try.ntmps29
 go_upto_region 1 with (first | ((with_reducible refine gate_dst (N := 2) rfl ?_); refine box_event ?hg (N := 2) ?hd (cs := #[.int .i64 a0_0, .int .i64 a0_1, .int .i64 a0_2, .int .i64 a0_3]) (t := 24) ?hr ?_; (case hd => rfl); (case hg => rfl); (case hr => first | (go_simp; done) | (go_simp; rfl)); intro gb225 hg w4 hbox hb; have BK225 := am (hbox); have GW225 := am ((by rw [hg]; exact (below_size (beX HB.out)) : w.heap.size ≤ gb225)); have GE225 := am ((by rw [hg]; exact (below_size (beX HB.out)) : w.heap.size ≤ gb225)); replace HB := am (below_step (beX HB.out) hb); clear hb hbox hg) | ((with_reducible refine gate_dst (N := 3) rfl ?_); refine box_event ?hg (N := 3) ?hd (cs := #[.int .i64 a1_0, .int .i64 a1_1, .int .i64 a1_2, .int .i64 a1_3]) (t := 24) ?hr ?_; (case hd => rfl); (case hg => rfl); (case hr => first | (go_simp; done) | (go_simp; rfl)); intro gb226 hg w5 hbox hb; have BK226 := am (hbox); have GW226 := am ((by rw [hg]; exact (below_size (beX HB.out)) : w.heap.size ≤ gb226)); have GE226 := am ((by rw [hg]; exact (below_size (beX HB.out)) : w.heap.size ≤ gb226)); have NB225_226 := am ((by rw [hg]; exact Nat.ne_of_lt (blk_lt (bX BK225.out)) : gb225 ≠ gb226)); have NB226_225 := am ((by rw [hg]; exact Nat.ne_of_gt (blk_lt (bX BK225.out)) : gb226 ≠ gb225)); replace BK225 := am (blk_below (bX BK225.out) hb); replace HB := am (below_step (beX HB.out) hb); clear hb hbox hg) | ((with_reducible refine gate_dst (N := 4) rfl ?_); refine box_event ?hg (N := 4) ?hd (cs := #[.int .i64 0, .int .i64 0, .int .i64 0, .int .i64 0]) (t := 24) ?hr ?_; (case hd => rfl); (case hg => rfl); (case hr => first | (go_simp; done) | (go_simp; rfl)); intro gb227 hg w6 hbox hb; have BK227 := am (hbox); have GW227 := am ((by rw [hg]; exact (below_size (beX HB.out)) : w.heap.size ≤ gb227)); have GE227 := am ((by rw [hg]; exact (below_size (beX HB.out)) : w.heap.size ≤ gb227)); have NB225_227 := am ((by rw [hg]; exact Nat.ne_of_lt (blk_lt (bX BK225.out)) : gb225 ≠ gb227)); have NB227_225 := am ((by rw [hg]; exact Nat.ne_of_gt (blk_lt (bX BK225.out)) : gb227 ≠ gb225)); have NB226_227 := am ((by rw [hg]; exact Nat.ne_of_lt (blk_lt (bX BK226.out)) : gb226 ≠ gb227)); have NB227_226 := am ((by rw [hg]; exact Nat.ne_of_gt (blk_lt (bX BK226.out)) : gb227 ≠ gb226)); replace BK225 := am (blk_below (bX BK225.out) hb); replace BK226 := am (blk_below (bX BK226.out) hb); replace HB := am (below_step (beX HB.out) hb); clear hb hbox hg))
 (try simp only [Act.put, List.setIfInBounds_toArray, List.set_cons_zero, List.set_cons_succ])
 go_cut [18] (fun v18 wc => ∃ (kq : Nat) (x18_2 : Bool), v18 = .bool x18_2 ∧ Aside0 (imageeditorref02_Meet.j0 kq x18_2 a0_0 a0_1 a0_2 a0_3 a1_0 a1_1 a1_2 a1_3 = some (r1, r2, r3, r4)) ∧ Aside0 (kq ≤ k) ∧ Aside0 (wc.heap[gb225]? = some (.cells #[.int .i64 a0_0, .int .i64 a0_1, .int .i64 a0_2, .int .i64 a0_3] 24 (0, 0))) ∧ Aside0 (wc.heap[gb226]? = some (.cells #[.int .i64 a1_0, .int .i64 a1_1, .int .i64 a1_2, .int .i64 a1_3] 24 (0, 0))) ∧ Aside0 (wc.heap[gb227]? = some (.cells #[.int .i64 0, .int .i64 0, .int .i64 0, .int .i64 0] 24 (0, 0))) ∧ Aside0 (Below w.heap.size w wc))
 case first =>
  have H := HC3.out
  clear HC3
  replace H := Option.bind_eq_some_iff.mp H
  obtain ⟨t228, A70, H⟩ := H
  replace H : (if t228 = true then (imageeditorref02_Meet.j0 k true a0_0 a0_1 a0_2 a0_3 a1_0 a1_1 a1_2 a1_3) else ((imageeditorref02_Empty.f a1_0 a1_1 a1_2 a1_3).bind fun t229 => (imageeditorref02_Meet.j0 k t229 a0_0 a0_1 a0_2 a0_3 a1_0 a1_1 a1_2 a1_3))) = some (r1, r2, r3, r4) := H
  have A7 := Aside0.mk A70
  clear A70
  by_cases c8 : t228 = true
  ·subst c8
   have H1 : (imageeditorref02_Meet.j0 k true a0_0 a0_1 a0_2 a0_3 a1_0 a1_1 a1_2 a1_3) = some (r1, r2, r3, r4) := by rw [if_pos rfl] at H; exact H
   clear H
   have H := H1
   clear H1
   have H' := Aside0.mk H
   clear H
   have hnb9 := NB225_226.out
   have hnc9 := NB226_225.out
   have hnb10 := NB225_227.out
   have hnc10 := NB227_225.out
   have hcz11_0 := blk_cell BK225.out
   have hfz11_0 := blk_frozen BK225.out
   go_wp2_with (first | ((with_reducible refine gate_callee (f := 16) rfl ?_); refine goesL_ (some 14) rfl rfl Try.func16 (by kernel_rfl) rfl #[.agg #[.int .i64 a0_0, .int .i64 a0_1, .int .i64 a0_2, .int .i64 a0_3]] rfl (by (try simp only [List.map_toArray, List.map_cons, List.map_nil]); first | done | rfl | (simp only [List.length_drop, List.length_take]; rfl)) ?_; (with_reducible refine (imageeditorref02_Empty.calls a0_0 a0_1 a0_2 a0_3 true _ A7.out).mono ?_); rintro e w12 ⟨rfl, hb⟩; refine ⟨_, rfl, ?_⟩; replace BK225 := am (blk_below (bX BK225.out) hb); replace BK226 := am (blk_below (bX BK226.out) hb); replace BK227 := am (blk_below (bX BK227.out) hb); replace HB := am (below_step (beX HB.out) hb); (try clear hb); (try clear hb2); (try clear hk); (try clear hi)))
   go_meet
   case rel => exact ⟨_, (true), (by first | rfl | (simp; done) | (simp [*]; done)), H', ⟨by first | omega | exact Nat.le_refl _⟩, ⟨bX BK225.out⟩, ⟨bX BK226.out⟩, ⟨bX BK227.out⟩, ⟨beX HB.out⟩⟩
  ·replace c8 := Bool.eq_false_iff.mpr c8
   subst c8
   have H1 : ((imageeditorref02_Empty.f a1_0 a1_1 a1_2 a1_3).bind fun t229 => (imageeditorref02_Meet.j0 k t229 a0_0 a0_1 a0_2 a0_3 a1_0 a1_1 a1_2 a1_3)) = some (r1, r2, r3, r4) := by rw [if_neg (show ¬ (false = true) by decide)] at H; exact H
   clear H
   have H := H1
   clear H1
   replace H := Option.bind_eq_some_iff.mp H
   obtain ⟨t229, A130, H⟩ := H
   replace H : (imageeditorref02_Meet.j0 k t229 a0_0 a0_1 a0_2 a0_3 a1_0 a1_1 a1_2 a1_3) = some (r1, r2, r3, r4) := H
   have A13 := Aside0.mk A130
   clear A130
   have H' := Aside0.mk H
   clear H
   have hnb14 := NB225_226.out
   have hnc14 := NB226_225.out
   have hnb15 := NB225_227.out
   have hnc15 := NB227_225.out
   have hcz16_0 := blk_cell BK225.out
   have hfz16_0 := blk_frozen BK225.out
   go_wp2_with (first | ((with_reducible refine gate_callee (f := 16) rfl ?_); refine goesL_ (some 14) rfl rfl Try.func16 (by kernel_rfl) rfl #[.agg #[.int .i64 a0_0, .int .i64 a0_1, .int .i64 a0_2, .int .i64 a0_3]] rfl (by (try simp only [List.map_toArray, List.map_cons, List.map_nil]); first | done | rfl | (simp only [List.length_drop, List.length_take]; rfl)) ?_; (with_reducible refine (imageeditorref02_Empty.calls a0_0 a0_1 a0_2 a0_3 false _ A7.out).mono ?_); rintro e w17 ⟨rfl, hb⟩; refine ⟨_, rfl, ?_⟩; replace BK225 := am (blk_below (bX BK225.out) hb); replace BK226 := am (blk_below (bX BK226.out) hb); replace BK227 := am (blk_below (bX BK227.out) hb); replace HB := am (below_step (beX HB.out) hb); (try clear hb); (try clear hb2); (try clear hk); (try clear hi); have hnb18 := NB226_227.out; have hnc18 := NB227_226.out; have hcz19_0 := blk_cell BK226.out; have hfz19_0 := blk_frozen BK226.out) | (go_at_call 16; (with_reducible refine (imageeditorref02_Empty.calls a1_0 a1_1 a1_2 a1_3 t229 _ A13.out).mono ?_); rintro e w20 ⟨rfl, hb⟩; replace BK225 := am (blk_below (bX BK225.out) hb); replace BK226 := am (blk_below (bX BK226.out) hb); replace BK227 := am (blk_below (bX BK227.out) hb); replace HB := am (below_step (beX HB.out) hb); (try clear hb); (try clear hb2); (try clear hk); (try clear hi)))
   go_meet
   case rel => exact ⟨_, (t229), (by first | rfl | (simp; done) | (simp [*]; done)), H', ⟨by first | omega | exact Nat.le_refl _⟩, ⟨bX BK225.out⟩, ⟨bX BK226.out⟩, ⟨bX BK227.out⟩, ⟨beX HB.out⟩⟩
 case rest =>
  clear HC3
  try clear c1
  try clear c2
  try clear p2
  try clear c8
  try clear c9
  try clear c10
  try clear c14
  try clear c15
  try clear c16
  try clear c18
  try clear hcz11_0
  try clear hcz11_1
  try clear hcz11_2
  try clear hcz11_3
  try clear hcz16_0
  try clear hcz16_1
  try clear hcz16_2
  try clear hcz16_3
  try clear hcz19_0
  try clear hcz19_1
  try clear hcz19_2
  try clear hcz19_3
  try clear hfz11_0
  try clear hfz11_1
  try clear hfz11_2
  try clear hfz11_3
  try clear hfz16_0
  try clear hfz16_1
  try clear hfz16_2
  try clear hfz16_3
  try clear hfz19_0
  try clear hfz19_1
  try clear hfz19_2
  try clear hfz19_3
  obtain ⟨kq, x18_2, rfl, HA, HJ2, BK225, BK226, BK227, HB⟩ := hcut
  cases kq with
  | zero => exact absurd HA.out (by simp [imageeditorref02_Meet.j0])
  | succ kj2 =>
   have H := HA.out
   clear HA
   simp only [imageeditorref02_Meet.j0] at H
   by_cases c21 : x18_2 = true
   ·subst c21
    have H1 : (some (0, 0, 0, 0)) = some (r1, r2, r3, r4) := by rw [if_pos rfl] at H; exact H
    clear H
    have H := H1
    clear H1
    simp only [Option.some.injEq, Prod.mk.injEq] at H
    obtain ⟨rfl, rfl, rfl, rfl⟩ := H
    have hnb22 := NB227_225.out
    have hnc22 := NB225_227.out
    have hnb23 := NB227_226.out
    have hnc23 := NB226_227.out
    have hcz24_0 := blk_cell BK227.out
    have hfz24_0 := blk_frozen BK227.out
    go_wp2
    refine bodyPost_ret (results_cell_row rfl _ _ gb227 24 #[.int .i64 0, .int .i64 0, .int .i64 0, .int .i64 0] (0, 0) _ rfl (by (with_reducible repeat (first | refine blk_drewN ?_ _ | refine blk_drew ?_ | refine blk_alloc ?_ _)); refine blk_put (cs := #[.int .i64 0, .int .i64 0, .int .i64 0, .int .i64 0]) ?_ 3 _ rfl; (with_reducible repeat (first | refine blk_drewN ?_ _ | refine blk_drew ?_ | refine blk_alloc ?_ _)); refine blk_put (cs := #[.int .i64 0, .int .i64 0, .int .i64 0, .int .i64 0]) ?_ 2 _ rfl; (with_reducible repeat (first | refine blk_drewN ?_ _ | refine blk_drew ?_ | refine blk_alloc ?_ _)); refine blk_put (cs := #[.int .i64 0, .int .i64 0, .int .i64 0, .int .i64 0]) ?_ 1 _ rfl; (with_reducible repeat (first | refine blk_drewN ?_ _ | refine blk_drew ?_ | refine blk_alloc ?_ _)); refine blk_put (cs := #[.int .i64 0, .int .i64 0, .int .i64 0, .int .i64 0]) ?_ 0 _ rfl; (with_reducible repeat (first | refine blk_drewN ?_ _ | refine blk_drew ?_ | refine blk_alloc ?_ _)); exact BK227.out) Try.underlying24 rfl (by kernel_rfl)) rfl ?_
    exact ⟨by first | rfl | (simp [errW_none, errW_some] <;> rfl) | (simp [*, errW_none, errW_some] <;> rfl), by repeat (first | (with_reducible first | exact HB.out | apply below_alloc | apply pw_below_drewN | apply below_drew1 | refine below_set ?_ GE225.out | refine below_set ?_ GE226.out | refine below_set ?_ GE227.out) | exact HB.out)⟩
   ·replace c21 := Bool.eq_false_iff.mpr c21
    subst c21
    have H1 : ((imageeditorref02_span.f kj2 a0_0 a0_1 a0_2 a0_3 0).bind fun bt230 => ((imageeditorref02_span.f kj2 a0_0 a0_1 a0_2 a0_3 1).bind fun bt232 => ((imageeditorref02_span.f kj2 a1_0 a1_1 a1_2 a1_3 0).bind fun bt234 => ((imageeditorref02_span.f kj2 a1_0 a1_1 a1_2 a1_3 1).bind fun bt236 => ((imageeditorref02_of.f (mx bt230.1 bt234.1) (mn bt230.2 bt234.2) (mx bt232.1 bt236.1) (mn bt232.2 bt236.2)).bind fun bt238 => (some (bt238.1, bt238.2.1, bt238.2.2.1, bt238.2.2.2))))))) = some (r1, r2, r3, r4) := by rw [if_neg (show ¬ (false = true) by decide)] at H; exact H
    clear H
    have H := H1
    clear H1
    replace H := Option.bind_eq_some_iff.mp H
    obtain ⟨⟨t230, t231⟩, A250, H⟩ := H
    replace H : ((imageeditorref02_span.f kj2 a0_0 a0_1 a0_2 a0_3 1).bind fun bt232 => ((imageeditorref02_span.f kj2 a1_0 a1_1 a1_2 a1_3 0).bind fun bt234 => ((imageeditorref02_span.f kj2 a1_0 a1_1 a1_2 a1_3 1).bind fun bt236 => ((imageeditorref02_of.f (mx t230 bt234.1) (mn t231 bt234.2) (mx bt232.1 bt236.1) (mn bt232.2 bt236.2)).bind fun bt238 => (some (bt238.1, bt238.2.1, bt238.2.2.1, bt238.2.2.2)))))) = some (r1, r2, r3, r4) := H
    have A25 := Aside0.mk A250
    clear A250
    replace H := Option.bind_eq_some_iff.mp H
    obtain ⟨⟨t232, t233⟩, A260, H⟩ := H
    replace H : ((imageeditorref02_span.f kj2 a1_0 a1_1 a1_2 a1_3 0).bind fun bt234 => ((imageeditorref02_span.f kj2 a1_0 a1_1 a1_2 a1_3 1).bind fun bt236 => ((imageeditorref02_of.f (mx t230 bt234.1) (mn t231 bt234.2) (mx t232 bt236.1) (mn t233 bt236.2)).bind fun bt238 => (some (bt238.1, bt238.2.1, bt238.2.2.1, bt238.2.2.2))))) = some (r1, r2, r3, r4) := H
    have A26 := Aside0.mk A260
    clear A260
    replace H := Option.bind_eq_some_iff.mp H
    obtain ⟨⟨t234, t235⟩, A270, H⟩ := H
    replace H : ((imageeditorref02_span.f kj2 a1_0 a1_1 a1_2 a1_3 1).bind fun bt236 => ((imageeditorref02_of.f (mx t230 t234) (mn t231 t235) (mx t232 bt236.1) (mn t233 bt236.2)).bind fun bt238 => (some (bt238.1, bt238.2.1, bt238.2.2.1, bt238.2.2.2)))) = some (r1, r2, r3, r4) := H
    have A27 := Aside0.mk A270
    clear A270
    replace H := Option.bind_eq_some_iff.mp H
    obtain ⟨⟨t236, t237⟩, A280, H⟩ := H
    replace H : ((imageeditorref02_of.f (mx t230 t234) (mn t231 t235) (mx t232 t236) (mn t233 t237)).bind fun bt238 => (some (bt238.1, bt238.2.1, bt238.2.2.1, bt238.2.2.2))) = some (r1, r2, r3, r4) := H
    have A28 := Aside0.mk A280
    clear A280
    obtain ⟨ji29, hji29⟩ : ∃ j_ : Int, (mx t230 t234) = j_ := ⟨_, rfl⟩
    replace H : ((imageeditorref02_of.f (ji29) (mn t231 t235) (mx t232 t236) (mn t233 t237)).bind fun bt238 => (some (bt238.1, bt238.2.1, bt238.2.2.1, bt238.2.2.2))) = some (r1, r2, r3, r4) := by first | (rw [hji29] at H; exact H) | (simp only [hji29] at H ⊢; exact H)
    (try rw [hji29] at A25)
    (try rw [hji29] at A26)
    (try rw [hji29] at A27)
    (try rw [hji29] at A28)
    have hji29_ : (if t230 < t234 then t234 else t230) = ji29 := hji29
    obtain ⟨ji30, hji30⟩ : ∃ j_ : Int, (mn t231 t235) = j_ := ⟨_, rfl⟩
    replace H : ((imageeditorref02_of.f (ji29) (ji30) (mx t232 t236) (mn t233 t237)).bind fun bt238 => (some (bt238.1, bt238.2.1, bt238.2.2.1, bt238.2.2.2))) = some (r1, r2, r3, r4) := by first | (rw [hji30] at H; exact H) | (simp only [hji30] at H ⊢; exact H)
    (try rw [hji30] at A25)
    (try rw [hji30] at A26)
    (try rw [hji30] at A27)
    (try rw [hji30] at A28)
    have hji30_ : (if t235 < t231 then t235 else t231) = ji30 := hji30
    obtain ⟨ji31, hji31⟩ : ∃ j_ : Int, (mx t232 t236) = j_ := ⟨_, rfl⟩
    replace H : ((imageeditorref02_of.f (ji29) (ji30) (ji31) (mn t233 t237)).bind fun bt238 => (some (bt238.1, bt238.2.1, bt238.2.2.1, bt238.2.2.2))) = some (r1, r2, r3, r4) := by first | (rw [hji31] at H; exact H) | (simp only [hji31] at H ⊢; exact H)
    (try rw [hji31] at A25)
    (try rw [hji31] at A26)
    (try rw [hji31] at A27)
    (try rw [hji31] at A28)
    have hji31_ : (if t232 < t236 then t236 else t232) = ji31 := hji31
    obtain ⟨ji32, hji32⟩ : ∃ j_ : Int, (mn t233 t237) = j_ := ⟨_, rfl⟩
    replace H : ((imageeditorref02_of.f (ji29) (ji30) (ji31) (ji32)).bind fun bt238 => (some (bt238.1, bt238.2.1, bt238.2.2.1, bt238.2.2.2))) = some (r1, r2, r3, r4) := by first | (rw [hji32] at H; exact H) | (simp only [hji32] at H ⊢; exact H)
    (try rw [hji32] at A25)
    (try rw [hji32] at A26)
    (try rw [hji32] at A27)
    (try rw [hji32] at A28)
    have hji32_ : (if t237 < t233 then t237 else t233) = ji32 := hji32
    replace H := Option.bind_eq_some_iff.mp H
    obtain ⟨⟨t238, t239, t240, t241⟩, A330, H⟩ := H
    replace H : (some (t238, t239, t240, t241)) = some (r1, r2, r3, r4) := H
    have A33 := Aside0.mk A330
    clear A330
    simp only [Option.some.injEq, Prod.mk.injEq] at H
    obtain ⟨rfl, rfl, rfl, rfl⟩ := H
    have hnb34 := NB225_226.out
    have hnc34 := NB226_225.out
    have hnb35 := NB225_227.out
    have hnc35 := NB227_225.out
    have hcz36_0 := blk_cell BK225.out
    have hfz36_0 := blk_frozen BK225.out
    go_wp2_with (first | ((with_reducible refine gate_callee (f := 35) rfl ?_); refine goesL_ (some 22) rfl rfl Try.func35 (by kernel_rfl) rfl #[.agg #[.int .i64 a0_0, .int .i64 a0_1, .int .i64 a0_2, .int .i64 a0_3], .int .i64 0] rfl (by (try simp only [List.map_toArray, List.map_cons, List.map_nil]); first | done | rfl | (simp only [List.length_drop, List.length_take]; rfl)) ?_; (with_reducible refine (imageeditorref02_span.calls kj2 a0_0 a0_1 a0_2 a0_3 0 t230 t231 _ A25.out).mono ?_); rintro e w37 ⟨rfl, hb⟩; refine ⟨_, rfl, ?_⟩; replace BK225 := am (blk_below (bX BK225.out) hb); replace BK226 := am (blk_below (bX BK226.out) hb); replace BK227 := am (blk_below (bX BK227.out) hb); replace HB := am (below_step (beX HB.out) hb); (try clear hb); (try clear hb2); (try clear hk); (try clear hi); have hcz38_0 := blk_cell BK225.out; have hfz38_0 := blk_frozen BK225.out) | ((with_reducible refine gate_callee (f := 35) rfl ?_); refine goesL_ (some 27) rfl rfl Try.func35 (by kernel_rfl) rfl #[.agg #[.int .i64 a0_0, .int .i64 a0_1, .int .i64 a0_2, .int .i64 a0_3], .int .i64 1] rfl (by (try simp only [List.map_toArray, List.map_cons, List.map_nil]); first | done | rfl | (simp only [List.length_drop, List.length_take]; rfl)) ?_; (with_reducible refine (imageeditorref02_span.calls kj2 a0_0 a0_1 a0_2 a0_3 1 t232 t233 _ A26.out).mono ?_); rintro e w39 ⟨rfl, hb⟩; refine ⟨_, rfl, ?_⟩; replace BK225 := am (blk_below (bX BK225.out) hb); replace BK226 := am (blk_below (bX BK226.out) hb); replace BK227 := am (blk_below (bX BK227.out) hb); replace HB := am (below_step (beX HB.out) hb); (try clear hb); (try clear hb2); (try clear hk); (try clear hi); have hnb40 := NB226_227.out; have hnc40 := NB227_226.out; have hcz41_0 := blk_cell BK226.out; have hfz41_0 := blk_frozen BK226.out) | ((with_reducible refine gate_callee (f := 35) rfl ?_); refine goesL_ (some 32) rfl rfl Try.func35 (by kernel_rfl) rfl #[.agg #[.int .i64 a1_0, .int .i64 a1_1, .int .i64 a1_2, .int .i64 a1_3], .int .i64 0] rfl (by (try simp only [List.map_toArray, List.map_cons, List.map_nil]); first | done | rfl | (simp only [List.length_drop, List.length_take]; rfl)) ?_; (with_reducible refine (imageeditorref02_span.calls kj2 a1_0 a1_1 a1_2 a1_3 0 t234 t235 _ A27.out).mono ?_); rintro e w42 ⟨rfl, hb⟩; refine ⟨_, rfl, ?_⟩; replace BK225 := am (blk_below (bX BK225.out) hb); replace BK226 := am (blk_below (bX BK226.out) hb); replace BK227 := am (blk_below (bX BK227.out) hb); replace HB := am (below_step (beX HB.out) hb); (try clear hb); (try clear hb2); (try clear hk); (try clear hi); have hcz43_0 := blk_cell BK226.out; have hfz43_0 := blk_frozen BK226.out) | ((with_reducible refine gate_callee (f := 35) rfl ?_); refine goesL_ (some 37) rfl rfl Try.func35 (by kernel_rfl) rfl #[.agg #[.int .i64 a1_0, .int .i64 a1_1, .int .i64 a1_2, .int .i64 a1_3], .int .i64 1] rfl (by (try simp only [List.map_toArray, List.map_cons, List.map_nil]); first | done | rfl | (simp only [List.length_drop, List.length_take]; rfl)) ?_; (with_reducible refine (imageeditorref02_span.calls kj2 a1_0 a1_1 a1_2 a1_3 1 t236 t237 _ A28.out).mono ?_); rintro e w44 ⟨rfl, hb⟩; refine ⟨_, rfl, ?_⟩; replace BK225 := am (blk_below (bX BK225.out) hb); replace BK226 := am (blk_below (bX BK226.out) hb); replace BK227 := am (blk_below (bX BK227.out) hb); replace HB := am (below_step (beX HB.out) hb); (try clear hb); (try clear hb2); (try clear hk); (try clear hi)) | ((with_reducible refine gate_callee (f := 45) rfl ?_); refine goesL_ (some 52) rfl rfl Try.func45 (by kernel_rfl) rfl #[.int .i64 ji29, .int .i64 ji30, .int .i64 ji31, .int .i64 ji32] rfl (by (try simp only [List.map_toArray, List.map_cons, List.map_nil]); first | done | (simp only [hji29, hji30, hji31, hji32]; rfl) | rfl | (simp only [List.length_drop, List.length_take]; rfl)) ?_; (with_reducible refine (imageeditorref02_of.calls ji29 ji30 ji31 ji32 t238 t239 t240 t241 _ A33.out).mono ?_); rintro e w45 ⟨rfl, hb⟩; refine ⟨_, rfl, ?_⟩; replace BK225 := am (blk_below (bX BK225.out) hb); replace BK226 := am (blk_below (bX BK226.out) hb); replace BK227 := am (blk_below (bX BK227.out) hb); replace HB := am (below_step (beX HB.out) hb); (try clear hb); (try clear hb2); (try clear hk); (try clear hi); have hcz46_0 := blk_cell BK227.out; have hfz46_0 := blk_frozen BK227.out))
    refine bodyPost_ret (results_cell_row rfl _ _ gb227 24 #[.int .i64 t238, .int .i64 t239, .int .i64 t240, .int .i64 t241] (0, 0) _ rfl (by (with_reducible repeat (first | refine blk_drewN ?_ _ | refine blk_drew ?_ | refine blk_alloc ?_ _)); refine blk_put (cs := #[.int .i64 t238, .int .i64 t239, .int .i64 t240, .int .i64 0]) ?_ 3 _ rfl; (with_reducible repeat (first | refine blk_drewN ?_ _ | refine blk_drew ?_ | refine blk_alloc ?_ _)); refine blk_put (cs := #[.int .i64 t238, .int .i64 t239, .int .i64 0, .int .i64 0]) ?_ 2 _ rfl; (with_reducible repeat (first | refine blk_drewN ?_ _ | refine blk_drew ?_ | refine blk_alloc ?_ _)); refine blk_put (cs := #[.int .i64 t238, .int .i64 0, .int .i64 0, .int .i64 0]) ?_ 1 _ rfl; (with_reducible repeat (first | refine blk_drewN ?_ _ | refine blk_drew ?_ | refine blk_alloc ?_ _)); refine blk_put (cs := #[.int .i64 0, .int .i64 0, .int .i64 0, .int .i64 0]) ?_ 0 _ rfl; (with_reducible repeat (first | refine blk_drewN ?_ _ | refine blk_drew ?_ | refine blk_alloc ?_ _)); exact BK227.out) Try.underlying24 rfl (by kernel_rfl)) rfl ?_
    exact ⟨by first | rfl | (simp [errW_none, errW_some] <;> rfl) | (simp only [← hji29, ← hji30, ← hji31, ← hji32]; first | rfl | (simp [errW_none, errW_some] <;> rfl)) | (simp [*, errW_none, errW_some] <;> rfl), by repeat (first | (with_reducible first | exact HB.out | apply below_alloc | apply pw_below_drewN | apply below_drew1 | refine below_set ?_ GE225.out | refine below_set ?_ GE226.out | refine below_set ?_ GE227.out) | exact HB.out)⟩

/-! ### imageeditorref02_limit: function 46 -/
def imageeditorref02_limit.f (a0 : Int) : Option (Int) := some (mn (mx a0 (-3145728)) 3145728)
set_option maxHeartbeats 8000000 in
set_option maxRecDepth 100000 in
theorem imageeditorref02_limit.calls (a0 : Int) (r : Int) (w : World) (h : imageeditorref02_limit.f a0 = some r) :
  Calls Try.prog 46 #[.int .i64 a0] w fun e w' => e = .returned (.int .i64 r) ∧ Below w.heap.size w w' := by
 have HB := am (Below.refl w.heap.size w)
 have H : (some (mn (mx a0 (-3145728)) 3145728)) = some r := h
 clear h
 obtain ⟨ji2, hji2⟩ : ∃ j_ : Int, (mx a0 (-3145728)) = j_ := ⟨_, rfl⟩
 replace H : (some (mn (ji2) 3145728)) = some r := by first | (rw [hji2] at H; exact H) | (simp only [hji2] at H ⊢; exact H)
 have hji2_ : (if a0 < (-3145728) then (-3145728) else a0) = ji2 := hji2
 obtain ⟨ji3, hji3⟩ : ∃ j_ : Int, (mn (ji2) 3145728) = j_ := ⟨_, rfl⟩
 replace H : (some ji3) = some r := by first | (rw [hji3] at H; exact H) | (simp only [hji3] at H ⊢; exact H)
 have hji3_ : (if 3145728 < (ji2) then 3145728 else (ji2)) = ji3 := hji3
 obtain rfl := Option.some.inj H
 go_enter Try.func46, Try.ntmps46
 go_wp2
 go_ret
 exact ⟨by first | rfl | (simp [errW_none, errW_some] <;> rfl) | (simp only [← hji2, ← hji3]; first | rfl | (simp [errW_none, errW_some] <;> rfl)) | (simp [*, errW_none, errW_some] <;> rfl), by exact beX HB.out⟩

/-! ### imageeditorref02_world: function 47 -/
def imageeditorref02_world.f (a0 : Int) (a1 : Int) (a2 : Int) (a3 : Int) : Option (Int × Int × Int × Int) := (imageeditorref02_of.f (mx a0 (-1048576)) (mn a1 1048575) (mx a2 (-1048576)) (mn a3 1048575)).bind fun bt243 => (some (bt243.1, bt243.2.1, bt243.2.2.1, bt243.2.2.2))
set_option maxHeartbeats 8000000 in
set_option maxRecDepth 100000 in
theorem imageeditorref02_world.calls (a0 : Int) (a1 : Int) (a2 : Int) (a3 : Int) (r1 : Int) (r2 : Int) (r3 : Int) (r4 : Int) (w : World) (h : imageeditorref02_world.f a0 a1 a2 a3 = some (r1, r2, r3, r4)) :
  Calls Try.prog 47 #[.int .i64 a0, .int .i64 a1, .int .i64 a2, .int .i64 a3] w fun e w' => e = .returned (.agg #[.int .i64 r1, .int .i64 r2, .int .i64 r3, .int .i64 r4]) ∧ Below w.heap.size w w' := by
 have hu24 := Try.underlying24
 have HB := am (Below.refl w.heap.size w)
 have H : ((imageeditorref02_of.f (mx a0 (-1048576)) (mn a1 1048575) (mx a2 (-1048576)) (mn a3 1048575)).bind fun bt243 => (some (bt243.1, bt243.2.1, bt243.2.2.1, bt243.2.2.2))) = some (r1, r2, r3, r4) := h
 clear h
 obtain ⟨ji5, hji5⟩ : ∃ j_ : Int, (mx a0 (-1048576)) = j_ := ⟨_, rfl⟩
 replace H : ((imageeditorref02_of.f (ji5) (mn a1 1048575) (mx a2 (-1048576)) (mn a3 1048575)).bind fun bt243 => (some (bt243.1, bt243.2.1, bt243.2.2.1, bt243.2.2.2))) = some (r1, r2, r3, r4) := by first | (rw [hji5] at H; exact H) | (simp only [hji5] at H ⊢; exact H)
 have hji5_ : (if a0 < (-1048576) then (-1048576) else a0) = ji5 := hji5
 obtain ⟨ji6, hji6⟩ : ∃ j_ : Int, (mn a1 1048575) = j_ := ⟨_, rfl⟩
 replace H : ((imageeditorref02_of.f (ji5) (ji6) (mx a2 (-1048576)) (mn a3 1048575)).bind fun bt243 => (some (bt243.1, bt243.2.1, bt243.2.2.1, bt243.2.2.2))) = some (r1, r2, r3, r4) := by first | (rw [hji6] at H; exact H) | (simp only [hji6] at H ⊢; exact H)
 (try (have hji6h : ji6 ≤ 1048575 := by (rw [← hji6]; unfold mn; (repeat' split) <;> omega)))
 (try (have hji6g : ji6 ≤ 64 := by omega))
 have hji6_ : (if 1048575 < a1 then 1048575 else a1) = ji6 := hji6
 obtain ⟨ji7, hji7⟩ : ∃ j_ : Int, (mx a2 (-1048576)) = j_ := ⟨_, rfl⟩
 replace H : ((imageeditorref02_of.f (ji5) (ji6) (ji7) (mn a3 1048575)).bind fun bt243 => (some (bt243.1, bt243.2.1, bt243.2.2.1, bt243.2.2.2))) = some (r1, r2, r3, r4) := by first | (rw [hji7] at H; exact H) | (simp only [hji7] at H ⊢; exact H)
 have hji7_ : (if a2 < (-1048576) then (-1048576) else a2) = ji7 := hji7
 obtain ⟨ji8, hji8⟩ : ∃ j_ : Int, (mn a3 1048575) = j_ := ⟨_, rfl⟩
 replace H : ((imageeditorref02_of.f (ji5) (ji6) (ji7) (ji8)).bind fun bt243 => (some (bt243.1, bt243.2.1, bt243.2.2.1, bt243.2.2.2))) = some (r1, r2, r3, r4) := by first | (rw [hji8] at H; exact H) | (simp only [hji8] at H ⊢; exact H)
 (try (have hji8h : ji8 ≤ 1048575 := by (rw [← hji8]; unfold mn; (repeat' split) <;> omega)))
 (try (have hji8g : ji8 ≤ 64 := by omega))
 have hji8_ : (if 1048575 < a3 then 1048575 else a3) = ji8 := hji8
 replace H := Option.bind_eq_some_iff.mp H
 obtain ⟨⟨t243, t244, t245, t246⟩, A90, H⟩ := H
 replace H : (some (t243, t244, t245, t246)) = some (r1, r2, r3, r4) := H
 have A9 := Aside0.mk A90
 clear A90
 simp only [Option.some.injEq, Prod.mk.injEq] at H
 obtain ⟨rfl, rfl, rfl, rfl⟩ := H
 go_enter Try.func47, Try.ntmps47
 go_wp2_with (first | ((with_reducible refine gate_dst (N := 8) rfl ?_); refine box_event ?hg (N := 8) ?hd (cs := #[.int .i64 0, .int .i64 0, .int .i64 0, .int .i64 0]) (t := 24) ?hr ?_; (case hd => rfl); (case hg => rfl); (case hr => first | (go_simp; done) | (go_simp; rfl)); intro gb242 hg w10 hbox hb; have BK242 := am (hbox); have GW242 := am ((by rw [hg]; exact (below_size (beX HB.out)) : w.heap.size ≤ gb242)); have GE242 := am ((by rw [hg]; exact (below_size (beX HB.out)) : w.heap.size ≤ gb242)); replace HB := am (below_step (beX HB.out) hb); clear hb hbox hg) | ((with_reducible refine gate_callee (f := 45) rfl ?_); refine goesL_ (some 17) rfl rfl Try.func45 (by kernel_rfl) rfl #[.int .i64 ji5, .int .i64 ji6, .int .i64 ji7, .int .i64 ji8] rfl (by (try simp only [List.map_toArray, List.map_cons, List.map_nil]); first | done | (simp only [hji5, hji6, hji7, hji8]; rfl) | rfl | (simp only [List.length_drop, List.length_take]; rfl)) ?_; (with_reducible refine (imageeditorref02_of.calls ji5 ji6 ji7 ji8 t243 t244 t245 t246 _ A9.out).mono ?_); rintro e w11 ⟨rfl, hb⟩; refine ⟨_, rfl, ?_⟩; replace BK242 := am (blk_below (bX BK242.out) hb); replace HB := am (below_step (beX HB.out) hb); (try clear hb); (try clear hb2); (try clear hk); (try clear hi); have hcz12_0 := blk_cell BK242.out; have hfz12_0 := blk_frozen BK242.out))
 refine bodyPost_ret (results_cell_row rfl _ _ gb242 24 #[.int .i64 t243, .int .i64 t244, .int .i64 t245, .int .i64 t246] (0, 0) _ rfl (by (with_reducible repeat (first | refine blk_drewN ?_ _ | refine blk_drew ?_ | refine blk_alloc ?_ _)); refine blk_put (cs := #[.int .i64 t243, .int .i64 t244, .int .i64 t245, .int .i64 0]) ?_ 3 _ rfl; (with_reducible repeat (first | refine blk_drewN ?_ _ | refine blk_drew ?_ | refine blk_alloc ?_ _)); refine blk_put (cs := #[.int .i64 t243, .int .i64 t244, .int .i64 0, .int .i64 0]) ?_ 2 _ rfl; (with_reducible repeat (first | refine blk_drewN ?_ _ | refine blk_drew ?_ | refine blk_alloc ?_ _)); refine blk_put (cs := #[.int .i64 t243, .int .i64 0, .int .i64 0, .int .i64 0]) ?_ 1 _ rfl; (with_reducible repeat (first | refine blk_drewN ?_ _ | refine blk_drew ?_ | refine blk_alloc ?_ _)); refine blk_put (cs := #[.int .i64 0, .int .i64 0, .int .i64 0, .int .i64 0]) ?_ 0 _ rfl; (with_reducible repeat (first | refine blk_drewN ?_ _ | refine blk_drew ?_ | refine blk_alloc ?_ _)); exact BK242.out) Try.underlying24 rfl (by kernel_rfl)) rfl ?_
 exact ⟨by first | rfl | (simp [errW_none, errW_some] <;> rfl) | (simp only [← hji5, ← hji6, ← hji7, ← hji8]; first | rfl | (simp [errW_none, errW_some] <;> rfl)) | (simp [*, errW_none, errW_some] <;> rfl), by repeat (first | (with_reducible first | exact HB.out | apply below_alloc | apply pw_below_drewN | apply below_drew1 | refine below_set ?_ GE242.out) | exact HB.out)⟩

end Go.Proofs.Ytocefehnemahhaa.G
