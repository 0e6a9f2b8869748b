-- laid by gprint.py (a program of this proof's writer) out of the translation; Lean checks it.
import Derived.Test.YtocefehnemahhaaG0
import Derived.Test.YtocefehnemahhaaG14
namespace Go.Proofs.Ytocefehnemahhaa.G
open Go.RowKit Go.Proofs.YtocefehnemahhaaW.PrintWords Go.Proofs.YtocefehnemahhaaW.PrintLast Go.Proofs.YtocefehnemahhaaW.PrintMore
attribute [local go_sem] max2_int min2_int max_two min_two max_three min_three max_four min_four   -- for this text's walks alone
set_option linter.unusedVariables false
set_option linter.unusedSimpArgs false

/-! ### imageeditorref02_span: function 35 -/
def imageeditorref02_span.j0 : Nat → Int → Bool → Int → Int → Int → Int → Option (Int × Int)
 | 0, _, _, _, _, _, _ => none
 | k + 1, x1, x18, x402000, x402001, x402002, x402003 => if x18 = true then (some (0, (-1))) else (if x1 = 0 then (some (x402000, wrap64 ((wrap64 (x402000 + x402002)) - 1))) else (some (x402001, wrap64 ((wrap64 (x402001 + x402003)) - 1))))
def imageeditorref02_span.f (k : Nat) (a0_0 : Int) (a0_1 : Int) (a0_2 : Int) (a0_3 : Int) (a1 : Int) : Option (Int × Int) := (imageeditorref02_Valid.f a0_0 a0_1 a0_2 a0_3).bind fun t402 => (if t402 = true then (if a0_2 = 0 then (imageeditorref02_span.j0 k a1 true a0_0 a0_1 a0_2 a0_3) else (imageeditorref02_span.j0 k a1 (a0_3 == 0) a0_0 a0_1 a0_2 a0_3)) else (imageeditorref02_span.j0 k a1 true a0_0 a0_1 a0_2 a0_3))
theorem imageeditorref02_span.mono_l : ∀ k, (∀ y0 y1 y2 y3 y4 y5, LeO (imageeditorref02_span.j0 k y0 y1 y2 y3 y4 y5) (imageeditorref02_span.j0 (k + 1) y0 y1 y2 y3 y4 y5))
 | 0 => fun _ _ _ _ _ _ r h => by simp [imageeditorref02_span.j0] at h
 | k + 1 => by
  have ih0 := imageeditorref02_span.mono_l k
  ·intro y0 y1 y2 y3 y4 y5
   unfold imageeditorref02_span.j0
   repeat' first
   | (with_reducible exact ih0 _ _ _ _ _ _)
   | (with_reducible exact LeO.refl _)
   | (with_reducible exact LeO.none _)
   | (with_reducible refine LeO.ite ?_ ?_)
   | (with_reducible refine LeO.bind ?_ (fun _ => ?_))
   | exact ih0 _ _ _ _ _ _
   | exact LeO.none _
   | refine LeO.ite ?_ ?_
   | refine LeO.bind ?_ (fun _ => ?_)
theorem imageeditorref02_span.mono : ∀ a0 a1 a2 a3 a4 k, LeO (imageeditorref02_span.f k a0 a1 a2 a3 a4) (imageeditorref02_span.f (k + 1) a0 a1 a2 a3 a4) := by
 intro a0 a1 a2 a3 a4 k
 have ih0 := imageeditorref02_span.mono_l k
 unfold imageeditorref02_span.f
 repeat' first
   | (with_reducible exact ih0 _ _ _ _ _ _)
   | (with_reducible exact LeO.refl _)
   | (with_reducible exact LeO.none _)
   | (with_reducible refine LeO.ite ?_ ?_)
   | (with_reducible refine LeO.bind ?_ (fun _ => ?_))
   | exact ih0 _ _ _ _ _ _
   | exact LeO.none _
   | refine LeO.ite ?_ ?_
   | refine LeO.bind ?_ (fun _ => ?_)
set_option maxHeartbeats 8000000 in
set_option maxRecDepth 100000 in
theorem imageeditorref02_span.calls (k : Nat) (a0_0 : Int) (a0_1 : Int) (a0_2 : Int) (a0_3 : Int) (a1 : Int) (r1 : Int) (r2 : Int) (w : World) (h : imageeditorref02_span.f k a0_0 a0_1 a0_2 a0_3 a1 = some (r1, r2)) :
  Calls Try.prog 35 #[.agg #[.int .i64 a0_0, .int .i64 a0_1, .int .i64 a0_2, .int .i64 a0_3], .int .i64 a1] w fun e w' => e = .returned (.tuple #[.int .i64 r1, .int .i64 r2]) ∧ Below w.heap.size w w' := by
 have hu24 := Try.underlying24
 have HB := am (Below.refl w.heap.size w)
 have H : ((imageeditorref02_Valid.f a0_0 a0_1 a0_2 a0_3).bind fun t402 => (if t402 = true then (if a0_2 = 0 then (imageeditorref02_span.j0 k a1 true a0_0 a0_1 a0_2 a0_3) else (imageeditorref02_span.j0 k a1 (a0_3 == 0) a0_0 a0_1 a0_2 a0_3)) else (imageeditorref02_span.j0 k a1 true a0_0 a0_1 a0_2 a0_3))) = some (r1, r2) := h
 clear h
 have HC3 := Aside0.mk H
 clear H
 go_enter Try.func35, Try.ntmps35
 go_upto_region 1 with (first | ((with_reducible refine gate_dst (N := 2) rfl ?_); refine boxE (N := 2) #[.int .i64 a0_0, .int .i64 a0_1, .int .i64 a0_2, .int .i64 a0_3] 24 ?_; intro gb401 hg w4 hbox hb; have BK401 := am (hbox); have GW401 := gW hg HB; have GE401 := gW hg HB; replace HB := hYb HB hb; clear hb hbox hg))
 repeat (go_quiet (first | ((with_reducible refine gate_dst (N := 2) rfl ?_); refine boxE (N := 2) #[.int .i64 a0_0, .int .i64 a0_1, .int .i64 a0_2, .int .i64 a0_3] 24 ?_; intro gb401 hg w4 hbox hb; have BK401 := am (hbox); have GW401 := gW hg HB; have GE401 := gW hg HB; replace HB := hYb HB hb; clear hb hbox hg)); go_upto_region 1 with (first | ((with_reducible refine gate_dst (N := 2) rfl ?_); refine boxE (N := 2) #[.int .i64 a0_0, .int .i64 a0_1, .int .i64 a0_2, .int .i64 a0_3] 24 ?_; intro gb401 hg w4 hbox hb; have BK401 := am (hbox); have GW401 := gW hg HB; have GE401 := gW hg HB; replace HB := hYb HB hb; clear hb hbox hg)))
 (try simp only [Act.put, List.setIfInBounds_toArray, List.set_cons_zero, List.set_cons_succ])
 go_cut [18] (fun v18 wc => ∃ (kq : Nat) (x18_2 : Bool), v18 = .bool x18_2 ∧ Aside0 (imageeditorref02_span.j0 kq a1 x18_2 a0_0 a0_1 a0_2 a0_3 = some (r1, r2)) ∧ Aside0 (kq ≤ k) ∧ Aside0 (wc.heap[gb401]? = some (.cells #[.int .i64 a0_0, .int .i64 a0_1, .int .i64 a0_2, .int .i64 a0_3] 24 (0, 0))) ∧ Aside0 (Below w.heap.size w wc))
 case first =>
  have H := HC3.out
  clear HC3
  replace H := Option.bind_eq_some_iff.mp H
  obtain ⟨t402, A50, H⟩ := H
  replace H : (if t402 = true then (if a0_2 = 0 then (imageeditorref02_span.j0 k a1 true a0_0 a0_1 a0_2 a0_3) else (imageeditorref02_span.j0 k a1 (a0_3 == 0) a0_0 a0_1 a0_2 a0_3)) else (imageeditorref02_span.j0 k a1 true a0_0 a0_1 a0_2 a0_3)) = some (r1, r2) := H
  have A5 := Aside0.mk A50
  clear A50
  by_cases c6 : t402 = true
  ·subst c6
   have H1 : (if a0_2 = 0 then (imageeditorref02_span.j0 k a1 true a0_0 a0_1 a0_2 a0_3) else (imageeditorref02_span.j0 k a1 (a0_3 == 0) a0_0 a0_1 a0_2 a0_3)) = some (r1, r2) := by rw [if_pos rfl] at H; exact H
   clear H
   have H := H1
   clear H1
   by_cases c7 : a0_2 = 0
   ·rw [if_pos c7] at H
    have c7b0 : (a0_2 == 0) = true := beq_iff_eq.mpr c7
    have c7b1 : (a0_2 != 0) = false := bne_eq_false_iff_eq.mpr c7
    clear c7
    (first | rw [c7b0] | (simp only [i64_w, i32_w]; rw [c7b0]) | skip)
    have H' := Aside0.mk H
    clear H
    have hcz8_0 := blk_cell BK401.out
    have hfz8_0 := blk_frozen BK401.out
    go_wp2_with (first | (go_at_call 15; (with_reducible refine (imageeditorref02_Valid.calls a0_0 a0_1 a0_2 a0_3 true _ A5.out).mono ?_); rintro e w9 ⟨rfl, hb⟩; replace BK401 := bY BK401 hb; replace HB := hYb HB hb; (try clear hb); (try clear hb2); (try clear hk); (try clear hi); have hcz10_0 := blk_cell BK401.out; have hfz10_0 := blk_frozen BK401.out))
    repeat (go_quiet (first | (go_at_call 15; (with_reducible refine (imageeditorref02_Valid.calls a0_0 a0_1 a0_2 a0_3 true _ A5.out).mono ?_); rintro e w9 ⟨rfl, hb⟩; replace BK401 := bY BK401 hb; replace HB := hYb HB hb; (try clear hb); (try clear hb2); (try clear hk); (try clear hi); have hcz10_0 := blk_cell BK401.out; have hfz10_0 := blk_frozen BK401.out)); try go_wp2_with (first | (go_at_call 15; (with_reducible refine (imageeditorref02_Valid.calls a0_0 a0_1 a0_2 a0_3 true _ A5.out).mono ?_); rintro e w9 ⟨rfl, hb⟩; replace BK401 := bY BK401 hb; replace HB := hYb HB hb; (try clear hb); (try clear hb2); (try clear hk); (try clear hi); have hcz10_0 := blk_cell BK401.out; have hfz10_0 := blk_frozen BK401.out)))
    go_meet
    case rel => exact ⟨_, (true), (by first | rfl | (simp; done) | (simp [*]; done)), H', ⟨by first | omega | exact Nat.le_refl _⟩, ⟨bX BK401.out⟩, ⟨beX HB.out⟩⟩
   ·rw [if_neg c7] at H
    have c7b0 : (a0_2 == 0) = false := beq_eq_false_iff_ne.mpr c7
    have c7b1 : (a0_2 != 0) = true := bne_iff_ne.mpr c7
    (first | rw [c7b0] | (simp only [i64_w, i32_w]; rw [c7b0]) | skip)
    have H' := Aside0.mk H
    clear H
    have hcz11_0 := blk_cell BK401.out
    have hfz11_0 := blk_frozen BK401.out
    go_wp2_with (first | (go_at_call 15; (with_reducible refine (imageeditorref02_Valid.calls a0_0 a0_1 a0_2 a0_3 true _ A5.out).mono ?_); rintro e w12 ⟨rfl, hb⟩; replace BK401 := bY BK401 hb; replace HB := hYb HB hb; (try clear hb); (try clear hb2); (try clear hk); (try clear hi); have hcz13_0 := blk_cell BK401.out; have hfz13_0 := blk_frozen BK401.out))
    repeat (go_quiet (first | (go_at_call 15; (with_reducible refine (imageeditorref02_Valid.calls a0_0 a0_1 a0_2 a0_3 true _ A5.out).mono ?_); rintro e w12 ⟨rfl, hb⟩; replace BK401 := bY BK401 hb; replace HB := hYb HB hb; (try clear hb); (try clear hb2); (try clear hk); (try clear hi); have hcz13_0 := blk_cell BK401.out; have hfz13_0 := blk_frozen BK401.out)); try go_wp2_with (first | (go_at_call 15; (with_reducible refine (imageeditorref02_Valid.calls a0_0 a0_1 a0_2 a0_3 true _ A5.out).mono ?_); rintro e w12 ⟨rfl, hb⟩; replace BK401 := bY BK401 hb; replace HB := hYb HB hb; (try clear hb); (try clear hb2); (try clear hk); (try clear hi); have hcz13_0 := blk_cell BK401.out; have hfz13_0 := blk_frozen BK401.out)))
    go_meet
    case rel => exact ⟨_, ((a0_3 == 0)), (by first | rfl | (simp; done) | (simp [*]; done)), H', ⟨by first | omega | exact Nat.le_refl _⟩, ⟨bX BK401.out⟩, ⟨beX HB.out⟩⟩
  ·replace c6 := Bool.eq_false_iff.mpr c6
   subst c6
   have H1 : (imageeditorref02_span.j0 k a1 true a0_0 a0_1 a0_2 a0_3) = some (r1, r2) := by rw [if_neg (show ¬ (false = true) by decide)] at H; exact H
   clear H
   have H := H1
   clear H1
   have H' := Aside0.mk H
   clear H
   have hcz14_0 := blk_cell BK401.out
   have hfz14_0 := blk_frozen BK401.out
   go_wp2_with (first | (go_at_call 15; (with_reducible refine (imageeditorref02_Valid.calls a0_0 a0_1 a0_2 a0_3 false _ A5.out).mono ?_); rintro e w15 ⟨rfl, hb⟩; replace BK401 := bY BK401 hb; replace HB := hYb HB hb; (try clear hb); (try clear hb2); (try clear hk); (try clear hi)))
   repeat (go_quiet (first | (go_at_call 15; (with_reducible refine (imageeditorref02_Valid.calls a0_0 a0_1 a0_2 a0_3 false _ A5.out).mono ?_); rintro e w15 ⟨rfl, hb⟩; replace BK401 := bY BK401 hb; replace HB := hYb HB hb; (try clear hb); (try clear hb2); (try clear hk); (try clear hi))); try go_wp2_with (first | (go_at_call 15; (with_reducible refine (imageeditorref02_Valid.calls a0_0 a0_1 a0_2 a0_3 false _ A5.out).mono ?_); rintro e w15 ⟨rfl, hb⟩; replace BK401 := bY BK401 hb; replace HB := hYb HB hb; (try clear hb); (try clear hb2); (try clear hk); (try clear hi))))
   go_meet
   case rel => exact ⟨_, (true), (by first | rfl | (simp; done) | (simp [*]; done)), H', ⟨by first | omega | exact Nat.le_refl _⟩, ⟨bX BK401.out⟩, ⟨beX HB.out⟩⟩
 case rest =>
  clear HC3
  try clear p2
  try clear c3
  try clear c6
  try clear c7
  try clear c7b0
  try clear c7b1
  try clear hcz10_0
  try clear hcz10_1
  try clear hcz10_2
  try clear hcz10_3
  try clear hcz11_0
  try clear hcz11_1
  try clear hcz11_2
  try clear hcz11_3
  try clear hcz13_0
  try clear hcz13_1
  try clear hcz13_2
  try clear hcz13_3
  try clear hcz14_0
  try clear hcz14_1
  try clear hcz14_2
  try clear hcz14_3
  try clear hcz8_0
  try clear hcz8_1
  try clear hcz8_2
  try clear hcz8_3
  try clear hfz10_0
  try clear hfz10_1
  try clear hfz10_2
  try clear hfz10_3
  try clear hfz11_0
  try clear hfz11_1
  try clear hfz11_2
  try clear hfz11_3
  try clear hfz13_0
  try clear hfz13_1
  try clear hfz13_2
  try clear hfz13_3
  try clear hfz14_0
  try clear hfz14_1
  try clear hfz14_2
  try clear hfz14_3
  try clear hfz8_0
  try clear hfz8_1
  try clear hfz8_2
  try clear hfz8_3
  obtain ⟨kq, x18_2, rfl, HA, HJ2, BK401, HB⟩ := hcut
  cases kq with
  | zero => exact absurd HA.out (by simp [imageeditorref02_span.j0])
  | succ kj2 =>
   have H := HA.out
   clear HA
   simp only [imageeditorref02_span.j0] at H
   by_cases c16 : x18_2 = true
   ·subst c16
    have H1 : (some (0, (-1))) = some (r1, r2) := by rw [if_pos rfl] at H; exact H
    clear H
    have H := H1
    clear H1
    simp only [Option.some.injEq, Prod.mk.injEq] at H
    obtain ⟨rfl, rfl⟩ := H
    go_wp2
    repeat (go_quiet (fail); try go_wp2)
    go_ret2
    exact ⟨by first | rfl | (simp [errW_none, errW_some] <;> rfl) | (simp [*, errW_none, errW_some] <;> rfl), by exact beX HB.out⟩
   ·replace c16 := Bool.eq_false_iff.mpr c16
    subst c16
    have H1 : (if a1 = 0 then (some (a0_0, wrap64 ((wrap64 (a0_0 + a0_2)) - 1))) else (some (a0_1, wrap64 ((wrap64 (a0_1 + a0_3)) - 1)))) = some (r1, r2) := by rw [if_neg (show ¬ (false = true) by decide)] at H; exact H
    clear H
    have H := H1
    clear H1
    by_cases c17 : a1 = 0
    ·rw [if_pos c17] at H
     have c17b0 : (a1 == 0) = true := beq_iff_eq.mpr c17
     have c17b1 : (a1 != 0) = false := bne_eq_false_iff_eq.mpr c17
     clear c17
     simp only [Option.some.injEq, Prod.mk.injEq] at H
     obtain ⟨rfl, rfl⟩ := H
     have hcz18_0 := blk_cell BK401.out
     have hfz18_0 := blk_frozen BK401.out
     go_wp2
     repeat (go_quiet (fail); try go_wp2)
     go_ret2
     exact ⟨by first | rfl | (simp [errW_none, errW_some] <;> rfl) | (simp [*, errW_none, errW_some] <;> rfl), by exact beX HB.out⟩
    ·rw [if_neg c17] at H
     have c17b0 : (a1 == 0) = false := beq_eq_false_iff_ne.mpr c17
     have c17b1 : (a1 != 0) = true := bne_iff_ne.mpr c17
     simp only [Option.some.injEq, Prod.mk.injEq] at H
     obtain ⟨rfl, rfl⟩ := H
     have hcz19_0 := blk_cell BK401.out
     have hfz19_0 := blk_frozen BK401.out
     go_wp2
     repeat (go_quiet (fail); try go_wp2)
     go_ret2
     exact ⟨by first | rfl | (simp [errW_none, errW_some] <;> rfl) | (simp [*, errW_none, errW_some] <;> rfl), by exact beX HB.out⟩

/-! ### imageeditorref02_Has: function 36 -/
def imageeditorref02_Has.f (k : Nat) (a0_0 : Int) (a0_1 : Int) (a0_2 : Int) (a0_3 : Int) (a1_0 : Int) (a1_1 : Int) : Option (Bool) := (imageeditorref02_span.f k a0_0 a0_1 a0_2 a0_3 0).bind fun bt405 => ((imageeditorref02_span.f k a0_0 a0_1 a0_2 a0_3 1).bind fun bt407 => (if a1_0 ≥ bt405.1 then (if a1_0 ≤ bt405.2 then (if a1_1 ≥ bt407.1 then (some (decide (a1_1 ≤ bt407.2))) else (some false)) else (some false)) else (some false)))
theorem imageeditorref02_Has.mono : ∀ a0 a1 a2 a3 a4 a5 k, LeO (imageeditorref02_Has.f k a0 a1 a2 a3 a4 a5) (imageeditorref02_Has.f (k + 1) a0 a1 a2 a3 a4 a5) := by
 intro a0 a1 a2 a3 a4 a5 k
 unfold imageeditorref02_Has.f
 repeat' first
   | (with_reducible exact imageeditorref02_span.mono _ _ _ _ _ _)
   | (with_reducible exact LeO.refl _)
   | (with_reducible exact LeO.none _)
   | (with_reducible refine LeO.ite ?_ ?_)
   | (with_reducible refine LeO.bind ?_ (fun _ => ?_))
   | exact imageeditorref02_span.mono _ _ _ _ _ _
   | exact LeO.none _
   | refine LeO.ite ?_ ?_
   | refine LeO.bind ?_ (fun _ => ?_)
set_option maxHeartbeats 8000000 in
set_option maxRecDepth 100000 in
theorem imageeditorref02_Has.calls (k : Nat) (a0_0 : Int) (a0_1 : Int) (a0_2 : Int) (a0_3 : Int) (a1_0 : Int) (a1_1 : Int) (r : Bool) (w : World) (h : imageeditorref02_Has.f k a0_0 a0_1 a0_2 a0_3 a1_0 a1_1 = some r) :
  Calls Try.prog 36 #[.agg #[.int .i64 a0_0, .int .i64 a0_1, .int .i64 a0_2, .int .i64 a0_3], .agg #[.int .i64 a1_0, .int .i64 a1_1]] w fun e w' => e = .returned (.bool r) ∧ Below w.heap.size w w' := by
 have hu24 := Try.underlying24
 have hu47 := Try.underlying47
 have HB := am (Below.refl w.heap.size w)
 have H : ((imageeditorref02_span.f k a0_0 a0_1 a0_2 a0_3 0).bind fun bt405 => ((imageeditorref02_span.f k a0_0 a0_1 a0_2 a0_3 1).bind fun bt407 => (if a1_0 ≥ bt405.1 then (if a1_0 ≤ bt405.2 then (if a1_1 ≥ bt407.1 then (some (decide (a1_1 ≤ bt407.2))) else (some false)) else (some false)) else (some false)))) = some r := h
 clear h
 replace H := Option.bind_eq_some_iff.mp H
 obtain ⟨⟨t405, t406⟩, A30, H⟩ := H
 replace H : ((imageeditorref02_span.f k a0_0 a0_1 a0_2 a0_3 1).bind fun bt407 => (if a1_0 ≥ t405 then (if a1_0 ≤ t406 then (if a1_1 ≥ bt407.1 then (some (decide (a1_1 ≤ bt407.2))) else (some false)) else (some false)) else (some false))) = some r := H
 have A3 := Aside0.mk A30
 clear A30
 replace H := Option.bind_eq_some_iff.mp H
 obtain ⟨⟨t407, t408⟩, A40, H⟩ := H
 replace H : (if a1_0 ≥ t405 then (if a1_0 ≤ t406 then (if a1_1 ≥ t407 then (some (decide (a1_1 ≤ t408))) else (some false)) else (some false)) else (some false)) = some r := H
 have A4 := Aside0.mk A40
 clear A40
 by_cases c5 : a1_0 ≥ t405
 ·rw [if_pos c5] at H
  have c5b0 : decide (t405 ≤ a1_0) = true := decide_eq_true c5
  clear c5
  by_cases c6 : a1_0 ≤ t406
  ·rw [if_pos c6] at H
   have c6b0 : decide (a1_0 ≤ t406) = true := decide_eq_true c6
   clear c6
   by_cases c7 : a1_1 ≥ t407
   ·rw [if_pos c7] at H
    have c7b0 : decide (t407 ≤ a1_1) = true := decide_eq_true c7
    clear c7
    obtain rfl := Option.some.inj H
    go_enter Try.func36, Try.ntmps36
    go_wp2_with (first | ((with_reducible refine gate_dst (N := 2) rfl ?_); refine boxE (N := 2) #[.int .i64 a0_0, .int .i64 a0_1, .int .i64 a0_2, .int .i64 a0_3] 24 ?_; intro gb403 hg w8 hbox hb; have BK403 := am (hbox); have GW403 := gW hg HB; have GE403 := gW hg HB; replace HB := hYb HB hb; clear hb hbox hg) | ((with_reducible refine gate_dst (N := 3) rfl ?_); refine boxE (N := 3) #[.int .i64 a1_0, .int .i64 a1_1] 47 ?_; intro gb404 hg w9 hbox hb; have BK404 := am (hbox); have GW404 := gW hg HB; have GE404 := gW hg HB; have NB403_404 := nL hg BK403; have NB404_403 := nG hg BK403; replace BK403 := bY BK403 hb; replace HB := hYb HB hb; clear hb hbox hg; have hnb10 := NB403_404.out; have hnc10 := NB404_403.out; have hcz11_0 := blk_cell BK403.out; have hfz11_0 := blk_frozen BK403.out) | ((with_reducible refine gate_callee (f := 35) rfl ?_); refine goesP (some 11) Try.func35 #[.agg #[.int .i64 a0_0, .int .i64 a0_1, .int .i64 a0_2, .int .i64 a0_3], .int .i64 0] ?_; (with_reducible refine (imageeditorref02_span.calls k a0_0 a0_1 a0_2 a0_3 0 t405 t406 _ A3.out).mono ?_); rintro e w12 ⟨rfl, hb⟩; refine ⟨_, rfl, ?_⟩; replace BK403 := bY BK403 hb; replace BK404 := bY BK404 hb; replace HB := hYb HB hb; (try clear hb); (try clear hb2); (try clear hk); (try clear hi); have hcz13_0 := blk_cell BK403.out; have hfz13_0 := blk_frozen BK403.out) | ((with_reducible refine gate_callee (f := 35) rfl ?_); refine goesP (some 16) Try.func35 #[.agg #[.int .i64 a0_0, .int .i64 a0_1, .int .i64 a0_2, .int .i64 a0_3], .int .i64 1] ?_; (with_reducible refine (imageeditorref02_span.calls k a0_0 a0_1 a0_2 a0_3 1 t407 t408 _ A4.out).mono ?_); rintro e w14 ⟨rfl, hb⟩; refine ⟨_, rfl, ?_⟩; replace BK403 := bY BK403 hb; replace BK404 := bY BK404 hb; replace HB := hYb HB hb; (try clear hb); (try clear hb2); (try clear hk); (try clear hi); have hcz15_0 := blk_cell BK404.out; have hfz15_0 := blk_frozen BK404.out))
    go_ret
    exact ⟨by first | rfl | (simp [errW_none, errW_some] <;> rfl) | (simp [*, errW_none, errW_some] <;> rfl), by exact beX HB.out⟩
   ·rw [if_neg c7] at H
    have c7b0 : decide (t407 ≤ a1_1) = false := decide_eq_false c7
    clear c7
    obtain rfl := Option.some.inj H
    go_enter Try.func36, Try.ntmps36
    go_wp2_with (first | ((with_reducible refine gate_dst (N := 2) rfl ?_); refine boxE (N := 2) #[.int .i64 a0_0, .int .i64 a0_1, .int .i64 a0_2, .int .i64 a0_3] 24 ?_; intro gb403 hg w16 hbox hb; have BK403 := am (hbox); have GW403 := gW hg HB; have GE403 := gW hg HB; replace HB := hYb HB hb; clear hb hbox hg) | ((with_reducible refine gate_dst (N := 3) rfl ?_); refine boxE (N := 3) #[.int .i64 a1_0, .int .i64 a1_1] 47 ?_; intro gb404 hg w17 hbox hb; have BK404 := am (hbox); have GW404 := gW hg HB; have GE404 := gW hg HB; have NB403_404 := nL hg BK403; have NB404_403 := nG hg BK403; replace BK403 := bY BK403 hb; replace HB := hYb HB hb; clear hb hbox hg; have hnb18 := NB403_404.out; have hnc18 := NB404_403.out; have hcz19_0 := blk_cell BK403.out; have hfz19_0 := blk_frozen BK403.out) | ((with_reducible refine gate_callee (f := 35) rfl ?_); refine goesP (some 11) Try.func35 #[.agg #[.int .i64 a0_0, .int .i64 a0_1, .int .i64 a0_2, .int .i64 a0_3], .int .i64 0] ?_; (with_reducible refine (imageeditorref02_span.calls k a0_0 a0_1 a0_2 a0_3 0 t405 t406 _ A3.out).mono ?_); rintro e w20 ⟨rfl, hb⟩; refine ⟨_, rfl, ?_⟩; replace BK403 := bY BK403 hb; replace BK404 := bY BK404 hb; replace HB := hYb HB hb; (try clear hb); (try clear hb2); (try clear hk); (try clear hi); have hcz21_0 := blk_cell BK403.out; have hfz21_0 := blk_frozen BK403.out) | ((with_reducible refine gate_callee (f := 35) rfl ?_); refine goesP (some 16) Try.func35 #[.agg #[.int .i64 a0_0, .int .i64 a0_1, .int .i64 a0_2, .int .i64 a0_3], .int .i64 1] ?_; (with_reducible refine (imageeditorref02_span.calls k a0_0 a0_1 a0_2 a0_3 1 t407 t408 _ A4.out).mono ?_); rintro e w22 ⟨rfl, hb⟩; refine ⟨_, rfl, ?_⟩; replace BK403 := bY BK403 hb; replace BK404 := bY BK404 hb; replace HB := hYb HB hb; (try clear hb); (try clear hb2); (try clear hk); (try clear hi); have hcz23_0 := blk_cell BK404.out; have hfz23_0 := blk_frozen BK404.out))
    go_ret
    exact ⟨by first | rfl | (simp [errW_none, errW_some] <;> rfl) | (simp [*, errW_none, errW_some] <;> rfl), by exact beX HB.out⟩
  ·rw [if_neg c6] at H
   have c6b0 : decide (a1_0 ≤ t406) = false := decide_eq_false c6
   clear c6
   obtain rfl := Option.some.inj H
   go_enter Try.func36, Try.ntmps36
   go_wp2_with (first | ((with_reducible refine gate_dst (N := 2) rfl ?_); refine boxE (N := 2) #[.int .i64 a0_0, .int .i64 a0_1, .int .i64 a0_2, .int .i64 a0_3] 24 ?_; intro gb403 hg w24 hbox hb; have BK403 := am (hbox); have GW403 := gW hg HB; have GE403 := gW hg HB; replace HB := hYb HB hb; clear hb hbox hg) | ((with_reducible refine gate_dst (N := 3) rfl ?_); refine boxE (N := 3) #[.int .i64 a1_0, .int .i64 a1_1] 47 ?_; intro gb404 hg w25 hbox hb; have BK404 := am (hbox); have GW404 := gW hg HB; have GE404 := gW hg HB; have NB403_404 := nL hg BK403; have NB404_403 := nG hg BK403; replace BK403 := bY BK403 hb; replace HB := hYb HB hb; clear hb hbox hg; have hnb26 := NB403_404.out; have hnc26 := NB404_403.out; have hcz27_0 := blk_cell BK403.out; have hfz27_0 := blk_frozen BK403.out) | ((with_reducible refine gate_callee (f := 35) rfl ?_); refine goesP (some 11) Try.func35 #[.agg #[.int .i64 a0_0, .int .i64 a0_1, .int .i64 a0_2, .int .i64 a0_3], .int .i64 0] ?_; (with_reducible refine (imageeditorref02_span.calls k a0_0 a0_1 a0_2 a0_3 0 t405 t406 _ A3.out).mono ?_); rintro e w28 ⟨rfl, hb⟩; refine ⟨_, rfl, ?_⟩; replace BK403 := bY BK403 hb; replace BK404 := bY BK404 hb; replace HB := hYb HB hb; (try clear hb); (try clear hb2); (try clear hk); (try clear hi); have hcz29_0 := blk_cell BK403.out; have hfz29_0 := blk_frozen BK403.out) | ((with_reducible refine gate_callee (f := 35) rfl ?_); refine goesP (some 16) Try.func35 #[.agg #[.int .i64 a0_0, .int .i64 a0_1, .int .i64 a0_2, .int .i64 a0_3], .int .i64 1] ?_; (with_reducible refine (imageeditorref02_span.calls k a0_0 a0_1 a0_2 a0_3 1 t407 t408 _ A4.out).mono ?_); rintro e w30 ⟨rfl, hb⟩; refine ⟨_, rfl, ?_⟩; replace BK403 := bY BK403 hb; replace BK404 := bY BK404 hb; replace HB := hYb HB hb; (try clear hb); (try clear hb2); (try clear hk); (try clear hi); have hcz31_0 := blk_cell BK404.out; have hfz31_0 := blk_frozen BK404.out))
   go_ret
   exact ⟨by first | rfl | (simp [errW_none, errW_some] <;> rfl) | (simp [*, errW_none, errW_some] <;> rfl), by exact beX HB.out⟩
 ·rw [if_neg c5] at H
  have c5b0 : decide (t405 ≤ a1_0) = false := decide_eq_false c5
  clear c5
  obtain rfl := Option.some.inj H
  go_enter Try.func36, Try.ntmps36
  go_wp2_with (first | ((with_reducible refine gate_dst (N := 2) rfl ?_); refine boxE (N := 2) #[.int .i64 a0_0, .int .i64 a0_1, .int .i64 a0_2, .int .i64 a0_3] 24 ?_; intro gb403 hg w32 hbox hb; have BK403 := am (hbox); have GW403 := gW hg HB; have GE403 := gW hg HB; replace HB := hYb HB hb; clear hb hbox hg) | ((with_reducible refine gate_dst (N := 3) rfl ?_); refine boxE (N := 3) #[.int .i64 a1_0, .int .i64 a1_1] 47 ?_; intro gb404 hg w33 hbox hb; have BK404 := am (hbox); have GW404 := gW hg HB; have GE404 := gW hg HB; have NB403_404 := nL hg BK403; have NB404_403 := nG hg BK403; replace BK403 := bY BK403 hb; replace HB := hYb HB hb; clear hb hbox hg; have hnb34 := NB403_404.out; have hnc34 := NB404_403.out; have hcz35_0 := blk_cell BK403.out; have hfz35_0 := blk_frozen BK403.out) | ((with_reducible refine gate_callee (f := 35) rfl ?_); refine goesP (some 11) Try.func35 #[.agg #[.int .i64 a0_0, .int .i64 a0_1, .int .i64 a0_2, .int .i64 a0_3], .int .i64 0] ?_; (with_reducible refine (imageeditorref02_span.calls k a0_0 a0_1 a0_2 a0_3 0 t405 t406 _ A3.out).mono ?_); rintro e w36 ⟨rfl, hb⟩; refine ⟨_, rfl, ?_⟩; replace BK403 := bY BK403 hb; replace BK404 := bY BK404 hb; replace HB := hYb HB hb; (try clear hb); (try clear hb2); (try clear hk); (try clear hi); have hcz37_0 := blk_cell BK403.out; have hfz37_0 := blk_frozen BK403.out) | ((with_reducible refine gate_callee (f := 35) rfl ?_); refine goesP (some 16) Try.func35 #[.agg #[.int .i64 a0_0, .int .i64 a0_1, .int .i64 a0_2, .int .i64 a0_3], .int .i64 1] ?_; (with_reducible refine (imageeditorref02_span.calls k a0_0 a0_1 a0_2 a0_3 1 t407 t408 _ A4.out).mono ?_); rintro e w38 ⟨rfl, hb⟩; refine ⟨_, rfl, ?_⟩; replace BK403 := bY BK403 hb; replace BK404 := bY BK404 hb; replace HB := hYb HB hb; (try clear hb); (try clear hb2); (try clear hk); (try clear hi); have hcz39_0 := blk_cell BK404.out; have hfz39_0 := blk_frozen BK404.out))
  go_ret
  exact ⟨by first | rfl | (simp [errW_none, errW_some] <;> rfl) | (simp [*, errW_none, errW_some] <;> rfl), by exact beX HB.out⟩

/-! ### imageeditorref02_Within: function 17 -/
def imageeditorref02_Within.f (k : Nat) (a0_0 : Int) (a0_1 : Int) (a0_2 : Int) (a0_3 : Int) (a1_0 : Int) (a1_1 : Int) (a1_2 : Int) (a1_3 : Int) : Option (Bool) := (imageeditorref02_Empty.f a0_0 a0_1 a0_2 a0_3).bind fun t411 => (if t411 = true then (some true) else ((imageeditorref02_span.f k a0_0 a0_1 a0_2 a0_3 0).bind fun bt412 => ((imageeditorref02_span.f k a0_0 a0_1 a0_2 a0_3 1).bind fun bt414 => ((imageeditorref02_Has.f k a1_0 a1_1 a1_2 a1_3 bt412.1 bt414.1).bind fun t416 => (if t416 = true then ((imageeditorref02_Has.f k a1_0 a1_1 a1_2 a1_3 bt412.2 bt414.2).bind fun t417 => (some t417)) else (some false))))))
theorem imageeditorref02_Within.mono : ∀ a0 a1 a2 a3 a4 a5 a6 a7 k, LeO (imageeditorref02_Within.f k a0 a1 a2 a3 a4 a5 a6 a7) (imageeditorref02_Within.f (k + 1) a0 a1 a2 a3 a4 a5 a6 a7) := by
 intro a0 a1 a2 a3 a4 a5 a6 a7 k
 unfold imageeditorref02_Within.f
 repeat' first
   | (with_reducible exact imageeditorref02_Has.mono _ _ _ _ _ _ _)
   | (with_reducible exact imageeditorref02_span.mono _ _ _ _ _ _)
   | (with_reducible exact LeO.refl _)
   | (with_reducible exact LeO.none _)
   | (with_reducible refine LeO.ite ?_ ?_)
   | (with_reducible refine LeO.bind ?_ (fun _ => ?_))
   | exact imageeditorref02_Has.mono _ _ _ _ _ _ _
   | exact imageeditorref02_span.mono _ _ _ _ _ _
   | exact LeO.none _
   | refine LeO.ite ?_ ?_
   | refine LeO.bind ?_ (fun _ => ?_)
set_option maxHeartbeats 8000000 in
set_option maxRecDepth 100000 in
theorem imageeditorref02_Within.calls (k : Nat) (a0_0 : Int) (a0_1 : Int) (a0_2 : Int) (a0_3 : Int) (a1_0 : Int) (a1_1 : Int) (a1_2 : Int) (a1_3 : Int) (r : Bool) (w : World) (h : imageeditorref02_Within.f k a0_0 a0_1 a0_2 a0_3 a1_0 a1_1 a1_2 a1_3 = some r) :
  Calls Try.prog 17 #[.agg #[.int .i64 a0_0, .int .i64 a0_1, .int .i64 a0_2, .int .i64 a0_3], .agg #[.int .i64 a1_0, .int .i64 a1_1, .int .i64 a1_2, .int .i64 a1_3]] w fun e w' => e = .returned (.bool r) ∧ Below w.heap.size w w' := by
 have hu24 := Try.underlying24
 have hu47 := Try.underlying47
 have HB := am (Below.refl w.heap.size w)
 have H : ((imageeditorref02_Empty.f a0_0 a0_1 a0_2 a0_3).bind fun t411 => (if t411 = true then (some true) else ((imageeditorref02_span.f k a0_0 a0_1 a0_2 a0_3 0).bind fun bt412 => ((imageeditorref02_span.f k a0_0 a0_1 a0_2 a0_3 1).bind fun bt414 => ((imageeditorref02_Has.f k a1_0 a1_1 a1_2 a1_3 bt412.1 bt414.1).bind fun t416 => (if t416 = true then ((imageeditorref02_Has.f k a1_0 a1_1 a1_2 a1_3 bt412.2 bt414.2).bind fun t417 => (some t417)) else (some false))))))) = some r := h
 clear h
 replace H := Option.bind_eq_some_iff.mp H
 obtain ⟨t411, A30, H⟩ := H
 replace H : (if t411 = true then (some true) else ((imageeditorref02_span.f k a0_0 a0_1 a0_2 a0_3 0).bind fun bt412 => ((imageeditorref02_span.f k a0_0 a0_1 a0_2 a0_3 1).bind fun bt414 => ((imageeditorref02_Has.f k a1_0 a1_1 a1_2 a1_3 bt412.1 bt414.1).bind fun t416 => (if t416 = true then ((imageeditorref02_Has.f k a1_0 a1_1 a1_2 a1_3 bt412.2 bt414.2).bind fun t417 => (some t417)) else (some false)))))) = some r := H
 have A3 := Aside0.mk A30
 clear A30
 by_cases c4 : t411 = true
 ·subst c4
  have H1 : (some true) = some r := by rw [if_pos rfl] at H; exact H
  clear H
  have H := H1
  clear H1
  obtain rfl := Option.some.inj H
  go_enter Try.func17, Try.ntmps17
  go_wp2_with (first | ((with_reducible refine gate_dst (N := 2) rfl ?_); refine boxE (N := 2) #[.int .i64 a0_0, .int .i64 a0_1, .int .i64 a0_2, .int .i64 a0_3] 24 ?_; intro gb409 hg w5 hbox hb; have BK409 := am (hbox); have GW409 := gW hg HB; have GE409 := gW hg HB; replace HB := hYb HB hb; clear hb hbox hg) | ((with_reducible refine gate_dst (N := 3) rfl ?_); refine boxE (N := 3) #[.int .i64 a1_0, .int .i64 a1_1, .int .i64 a1_2, .int .i64 a1_3] 24 ?_; intro gb410 hg w6 hbox hb; have BK410 := am (hbox); have GW410 := gW hg HB; have GE410 := gW hg HB; have NB409_410 := nL hg BK409; have NB410_409 := nG hg BK409; replace BK409 := bY BK409 hb; replace HB := hYb HB hb; clear hb hbox hg; have hnb7 := NB409_410.out; have hnc7 := NB410_409.out; have hcz8_0 := blk_cell BK409.out; have hfz8_0 := blk_frozen BK409.out) | ((with_reducible refine gate_callee (f := 16) rfl ?_); refine goesP (some 10) Try.func16 #[.agg #[.int .i64 a0_0, .int .i64 a0_1, .int .i64 a0_2, .int .i64 a0_3]] ?_; (with_reducible refine (imageeditorref02_Empty.calls a0_0 a0_1 a0_2 a0_3 true _ A3.out).mono ?_); rintro e w9 ⟨rfl, hb⟩; refine ⟨_, rfl, ?_⟩; replace BK409 := bY BK409 hb; replace BK410 := bY BK410 hb; replace HB := hYb HB hb; (try clear hb); (try clear hb2); (try clear hk); (try clear hi)))
  go_ret
  exact ⟨by first | rfl | (simp [errW_none, errW_some] <;> rfl) | (simp [*, errW_none, errW_some] <;> rfl), by exact beX HB.out⟩
 ·replace c4 := Bool.eq_false_iff.mpr c4
  subst c4
  have H1 : ((imageeditorref02_span.f k a0_0 a0_1 a0_2 a0_3 0).bind fun bt412 => ((imageeditorref02_span.f k a0_0 a0_1 a0_2 a0_3 1).bind fun bt414 => ((imageeditorref02_Has.f k a1_0 a1_1 a1_2 a1_3 bt412.1 bt414.1).bind fun t416 => (if t416 = true then ((imageeditorref02_Has.f k a1_0 a1_1 a1_2 a1_3 bt412.2 bt414.2).bind fun t417 => (some t417)) else (some false))))) = some r := by rw [if_neg (show ¬ (false = true) by decide)] at H; exact H
  clear H
  have H := H1
  clear H1
  replace H := Option.bind_eq_some_iff.mp H
  obtain ⟨⟨t412, t413⟩, A100, H⟩ := H
  replace H : ((imageeditorref02_span.f k a0_0 a0_1 a0_2 a0_3 1).bind fun bt414 => ((imageeditorref02_Has.f k a1_0 a1_1 a1_2 a1_3 t412 bt414.1).bind fun t416 => (if t416 = true then ((imageeditorref02_Has.f k a1_0 a1_1 a1_2 a1_3 t413 bt414.2).bind fun t417 => (some t417)) else (some false)))) = some r := H
  have A10 := Aside0.mk A100
  clear A100
  replace H := Option.bind_eq_some_iff.mp H
  obtain ⟨⟨t414, t415⟩, A110, H⟩ := H
  replace H : ((imageeditorref02_Has.f k a1_0 a1_1 a1_2 a1_3 t412 t414).bind fun t416 => (if t416 = true then ((imageeditorref02_Has.f k a1_0 a1_1 a1_2 a1_3 t413 t415).bind fun t417 => (some t417)) else (some false))) = some r := H
  have A11 := Aside0.mk A110
  clear A110
  replace H := Option.bind_eq_some_iff.mp H
  obtain ⟨t416, A120, H⟩ := H
  replace H : (if t416 = true then ((imageeditorref02_Has.f k a1_0 a1_1 a1_2 a1_3 t413 t415).bind fun t417 => (some t417)) else (some false)) = some r := H
  have A12 := Aside0.mk A120
  clear A120
  by_cases c13 : t416 = true
  ·subst c13
   have H1 : ((imageeditorref02_Has.f k a1_0 a1_1 a1_2 a1_3 t413 t415).bind fun t417 => (some t417)) = some r := by rw [if_pos rfl] at H; exact H
   clear H
   have H := H1
   clear H1
   replace H := Option.bind_eq_some_iff.mp H
   obtain ⟨t417, A140, H⟩ := H
   replace H : (some t417) = some r := H
   have A14 := Aside0.mk A140
   clear A140
   obtain rfl := Option.some.inj H
   go_enter Try.func17, Try.ntmps17
   go_wp2_with (first | ((with_reducible refine gate_dst (N := 2) rfl ?_); refine boxE (N := 2) #[.int .i64 a0_0, .int .i64 a0_1, .int .i64 a0_2, .int .i64 a0_3] 24 ?_; intro gb409 hg w15 hbox hb; have BK409 := am (hbox); have GW409 := gW hg HB; have GE409 := gW hg HB; replace HB := hYb HB hb; clear hb hbox hg) | ((with_reducible refine gate_dst (N := 3) rfl ?_); refine boxE (N := 3) #[.int .i64 a1_0, .int .i64 a1_1, .int .i64 a1_2, .int .i64 a1_3] 24 ?_; intro gb410 hg w16 hbox hb; have BK410 := am (hbox); have GW410 := gW hg HB; have GE410 := gW hg HB; have NB409_410 := nL hg BK409; have NB410_409 := nG hg BK409; replace BK409 := bY BK409 hb; replace HB := hYb HB hb; clear hb hbox hg; have hnb17 := NB409_410.out; have hnc17 := NB410_409.out; have hcz18_0 := blk_cell BK409.out; have hfz18_0 := blk_frozen BK409.out) | ((with_reducible refine gate_callee (f := 16) rfl ?_); refine goesP (some 10) Try.func16 #[.agg #[.int .i64 a0_0, .int .i64 a0_1, .int .i64 a0_2, .int .i64 a0_3]] ?_; (with_reducible refine (imageeditorref02_Empty.calls a0_0 a0_1 a0_2 a0_3 false _ A3.out).mono ?_); rintro e w19 ⟨rfl, hb⟩; refine ⟨_, rfl, ?_⟩; replace BK409 := bY BK409 hb; replace BK410 := bY BK410 hb; replace HB := hYb HB hb; (try clear hb); (try clear hb2); (try clear hk); (try clear hi); have hcz20_0 := blk_cell BK409.out; have hfz20_0 := blk_frozen BK409.out) | ((with_reducible refine gate_callee (f := 35) rfl ?_); refine goesP (some 13) Try.func35 #[.agg #[.int .i64 a0_0, .int .i64 a0_1, .int .i64 a0_2, .int .i64 a0_3], .int .i64 0] ?_; (with_reducible refine (imageeditorref02_span.calls k a0_0 a0_1 a0_2 a0_3 0 t412 t413 _ A10.out).mono ?_); rintro e w21 ⟨rfl, hb⟩; refine ⟨_, rfl, ?_⟩; replace BK409 := bY BK409 hb; replace BK410 := bY BK410 hb; replace HB := hYb HB hb; (try clear hb); (try clear hb2); (try clear hk); (try clear hi); have hcz22_0 := blk_cell BK409.out; have hfz22_0 := blk_frozen BK409.out) | ((with_reducible refine gate_callee (f := 35) rfl ?_); refine goesP (some 18) Try.func35 #[.agg #[.int .i64 a0_0, .int .i64 a0_1, .int .i64 a0_2, .int .i64 a0_3], .int .i64 1] ?_; (with_reducible refine (imageeditorref02_span.calls k a0_0 a0_1 a0_2 a0_3 1 t414 t415 _ A11.out).mono ?_); rintro e w23 ⟨rfl, hb⟩; refine ⟨_, rfl, ?_⟩; replace BK409 := bY BK409 hb; replace BK410 := bY BK410 hb; replace HB := hYb HB hb; (try clear hb); (try clear hb2); (try clear hk); (try clear hi); have hcz24_0 := blk_cell BK410.out; have hfz24_0 := blk_frozen BK410.out) | ((with_reducible refine gate_callee (f := 36) rfl ?_); refine goesP (some 25) Try.func36 #[.agg #[.int .i64 a1_0, .int .i64 a1_1, .int .i64 a1_2, .int .i64 a1_3], .agg #[.int .i64 t412, .int .i64 t414]] ?_; (with_reducible refine (imageeditorref02_Has.calls k a1_0 a1_1 a1_2 a1_3 t412 t414 true _ A12.out).mono ?_); rintro e w25 ⟨rfl, hb⟩; refine ⟨_, rfl, ?_⟩; replace BK409 := bY BK409 hb; replace BK410 := bY BK410 hb; replace HB := hYb HB hb; (try clear hb); (try clear hb2); (try clear hk); (try clear hi); have hcz26_0 := blk_cell BK410.out; have hfz26_0 := blk_frozen BK410.out) | (go_at_call 36; (with_reducible refine (imageeditorref02_Has.calls k a1_0 a1_1 a1_2 a1_3 t413 t415 t417 _ A14.out).mono ?_); rintro e w27 ⟨rfl, hb⟩; replace BK409 := bY BK409 hb; replace BK410 := bY BK410 hb; replace HB := hYb HB hb; (try clear hb); (try clear hb2); (try clear hk); (try clear hi)))
   go_ret
   exact ⟨by first | rfl | (simp [errW_none, errW_some] <;> rfl) | (simp [*, errW_none, errW_some] <;> rfl), by exact beX HB.out⟩
  ·replace c13 := Bool.eq_false_iff.mpr c13
   subst c13
   have H1 : (some false) = some r := by rw [if_neg (show ¬ (false = true) by decide)] at H; exact H
   clear H
   have H := H1
   clear H1
   obtain rfl := Option.some.inj H
   go_enter Try.func17, Try.ntmps17
   go_wp2_with (first | ((with_reducible refine gate_dst (N := 2) rfl ?_); refine boxE (N := 2) #[.int .i64 a0_0, .int .i64 a0_1, .int .i64 a0_2, .int .i64 a0_3] 24 ?_; intro gb409 hg w28 hbox hb; have BK409 := am (hbox); have GW409 := gW hg HB; have GE409 := gW hg HB; replace HB := hYb HB hb; clear hb hbox hg) | ((with_reducible refine gate_dst (N := 3) rfl ?_); refine boxE (N := 3) #[.int .i64 a1_0, .int .i64 a1_1, .int .i64 a1_2, .int .i64 a1_3] 24 ?_; intro gb410 hg w29 hbox hb; have BK410 := am (hbox); have GW410 := gW hg HB; have GE410 := gW hg HB; have NB409_410 := nL hg BK409; have NB410_409 := nG hg BK409; replace BK409 := bY BK409 hb; replace HB := hYb HB hb; clear hb hbox hg; have hnb30 := NB409_410.out; have hnc30 := NB410_409.out; have hcz31_0 := blk_cell BK409.out; have hfz31_0 := blk_frozen BK409.out) | ((with_reducible refine gate_callee (f := 16) rfl ?_); refine goesP (some 10) Try.func16 #[.agg #[.int .i64 a0_0, .int .i64 a0_1, .int .i64 a0_2, .int .i64 a0_3]] ?_; (with_reducible refine (imageeditorref02_Empty.calls a0_0 a0_1 a0_2 a0_3 false _ A3.out).mono ?_); rintro e w32 ⟨rfl, hb⟩; refine ⟨_, rfl, ?_⟩; replace BK409 := bY BK409 hb; replace BK410 := bY BK410 hb; replace HB := hYb HB hb; (try clear hb); (try clear hb2); (try clear hk); (try clear hi); have hcz33_0 := blk_cell BK409.out; have hfz33_0 := blk_frozen BK409.out) | ((with_reducible refine gate_callee (f := 35) rfl ?_); refine goesP (some 13) Try.func35 #[.agg #[.int .i64 a0_0, .int .i64 a0_1, .int .i64 a0_2, .int .i64 a0_3], .int .i64 0] ?_; (with_reducible refine (imageeditorref02_span.calls k a0_0 a0_1 a0_2 a0_3 0 t412 t413 _ A10.out).mono ?_); rintro e w34 ⟨rfl, hb⟩; refine ⟨_, rfl, ?_⟩; replace BK409 := bY BK409 hb; replace BK410 := bY BK410 hb; replace HB := hYb HB hb; (try clear hb); (try clear hb2); (try clear hk); (try clear hi); have hcz35_0 := blk_cell BK409.out; have hfz35_0 := blk_frozen BK409.out) | ((with_reducible refine gate_callee (f := 35) rfl ?_); refine goesP (some 18) Try.func35 #[.agg #[.int .i64 a0_0, .int .i64 a0_1, .int .i64 a0_2, .int .i64 a0_3], .int .i64 1] ?_; (with_reducible refine (imageeditorref02_span.calls k a0_0 a0_1 a0_2 a0_3 1 t414 t415 _ A11.out).mono ?_); rintro e w36 ⟨rfl, hb⟩; refine ⟨_, rfl, ?_⟩; replace BK409 := bY BK409 hb; replace BK410 := bY BK410 hb; replace HB := hYb HB hb; (try clear hb); (try clear hb2); (try clear hk); (try clear hi); have hcz37_0 := blk_cell BK410.out; have hfz37_0 := blk_frozen BK410.out) | ((with_reducible refine gate_callee (f := 36) rfl ?_); refine goesP (some 25) Try.func36 #[.agg #[.int .i64 a1_0, .int .i64 a1_1, .int .i64 a1_2, .int .i64 a1_3], .agg #[.int .i64 t412, .int .i64 t414]] ?_; (with_reducible refine (imageeditorref02_Has.calls k a1_0 a1_1 a1_2 a1_3 t412 t414 false _ A12.out).mono ?_); rintro e w38 ⟨rfl, hb⟩; refine ⟨_, rfl, ?_⟩; replace BK409 := bY BK409 hb; replace BK410 := bY BK410 hb; replace HB := hYb HB hb; (try clear hb); (try clear hb2); (try clear hk); (try clear hi)))
   go_ret
   exact ⟨by first | rfl | (simp [errW_none, errW_some] <;> rfl) | (simp [*, errW_none, errW_some] <;> rfl), by exact beX HB.out⟩

/-! ### imageeditorref11_Pick: function 38 -/
def imageeditorref11_Pick.f (a0_0 : Int) (a0_1 : Int) (l0_2 : List (S51)) (a1 : Int) (a2 : Int) : Option (Int × Int × Int × Int) := if a1 < 0 then (some (0, 0, 0, 0)) else (if a1 ≥ a0_0 then (some (0, 0, 0, 0)) else (if a2 < 0 then (some (0, 0, 0, 0)) else (if a2 ≥ a0_1 then (some (0, 0, 0, 0)) else (if 0 ≤ (wrap64 ((wrap64 (a2 * a0_0)) + a1)) then (if (wrap64 ((wrap64 (a2 * a0_0)) + a1)) < (l0_2.length : Int) then (some ((rd_T51 l0_2 (wrap64 ((wrap64 (a2 * a0_0)) + a1))).f0, (rd_T51 l0_2 (wrap64 ((wrap64 (a2 * a0_0)) + a1))).f1, (rd_T51 l0_2 (wrap64 ((wrap64 (a2 * a0_0)) + a1))).f2, (rd_T51 l0_2 (wrap64 ((wrap64 (a2 * a0_0)) + a1))).f3)) else (none)) else (none)))))
set_option maxHeartbeats 8000000 in
set_option maxRecDepth 100000 in
theorem imageeditorref11_Pick.calls (a0_0 : Int) (a0_1 : Int) (A0_2 : Option Addr) (c0_2 : Nat) (l0_2 : List (S51)) (a1 : Int) (a2 : Int) (r1 : Int) (r2 : Int) (r3 : Int) (r4 : Int) (w : World) (hr0_2 : Kd.C k51 w A0_2 l0_2.length l0_2) (hc0_2 : l0_2.length ≤ c0_2) (h : imageeditorref11_Pick.f a0_0 a0_1 l0_2 a1 a2 = some (r1, r2, r3, r4)) :
  Calls Try.prog 38 #[.agg #[.int .i64 a0_0, .int .i64 a0_1, .slice A0_2 l0_2.length c0_2], .int .i64 a1, .int .i64 a2] w fun e w' => e = .returned (.agg #[.int .i64 r1, .int .i64 r2, .int .i64 r3, .int .i64 r4]) ∧ Below w.heap.size w w' := by
 have hu36 := Try.underlying36
 have hu51 := Try.underlying51
 have HR0_2 := Aside0.mk hr0_2
 have HC0_2 := Aside0.mk hc0_2
 clear hr0_2 hc0_2
 have HB := am (Below.refl w.heap.size w)
 have H : (if a1 < 0 then (some (0, 0, 0, 0)) else (if a1 ≥ a0_0 then (some (0, 0, 0, 0)) else (if a2 < 0 then (some (0, 0, 0, 0)) else (if a2 ≥ a0_1 then (some (0, 0, 0, 0)) else (if 0 ≤ (wrap64 ((wrap64 (a2 * a0_0)) + a1)) then (if (wrap64 ((wrap64 (a2 * a0_0)) + a1)) < (l0_2.length : Int) then (some ((rd_T51 l0_2 (wrap64 ((wrap64 (a2 * a0_0)) + a1))).f0, (rd_T51 l0_2 (wrap64 ((wrap64 (a2 * a0_0)) + a1))).f1, (rd_T51 l0_2 (wrap64 ((wrap64 (a2 * a0_0)) + a1))).f2, (rd_T51 l0_2 (wrap64 ((wrap64 (a2 * a0_0)) + a1))).f3)) else (none)) else (none)))))) = some (r1, r2, r3, r4) := h
 clear h
 by_cases c4 : a1 < 0
 ·rw [if_pos c4] at H
  have c4b0 : decide (a1 < 0) = true := decide_eq_true c4
  clear c4
  simp only [Option.some.injEq, Prod.mk.injEq] at H
  obtain ⟨rfl, rfl, rfl, rfl⟩ := H
  go_enter Try.func38, Try.ntmps38
  go_wp2_with (first | ((with_reducible refine gate_dst (N := 3) rfl ?_); refine boxE (N := 3) #[.int .i64 a0_0, .int .i64 a0_1, .slice A0_2 l0_2.length c0_2] 36 ?_; intro gb418 hg w5 hbox hb; have BK418 := am (hbox); have GW418 := gW hg HB; have GE418 := gW hg HB; replace HB := hYb HB hb; clear hb hbox hg) | ((with_reducible refine gate_dst (N := 6) rfl ?_); refine boxE (N := 6) #[.int .i64 0, .int .i64 0, .int .i64 0, .int .i64 0] 51 ?_; intro gb419 hg w6 hbox hb; have BK419 := am (hbox); have GW419 := gW hg HB; have GE419 := gW hg HB; have NB418_419 := nL hg BK418; have NB419_418 := nG hg BK418; replace BK418 := bY BK418 hb; replace HB := hYb HB hb; clear hb hbox hg; have hnb7 := NB419_418.out; have hnc7 := NB418_419.out; have hcz8_0 := blk_cell BK419.out; have hfz8_0 := blk_frozen BK419.out))
  refine bodyPost_ret (results_cell_row rfl _ _ gb419 51 #[.int .i64 0, .int .i64 0, .int .i64 0, .int .i64 0] (0, 0) _ rfl (by refine bO ?_; refine blk_put (cs := #[.int .i64 0, .int .i64 0, .int .i64 0, .int .i64 0]) ?_ 3 _ rfl; refine bO ?_; refine blk_put (cs := #[.int .i64 0, .int .i64 0, .int .i64 0, .int .i64 0]) ?_ 2 _ rfl; refine bO ?_; refine blk_put (cs := #[.int .i64 0, .int .i64 0, .int .i64 0, .int .i64 0]) ?_ 1 _ rfl; refine bO ?_; refine blk_put (cs := #[.int .i64 0, .int .i64 0, .int .i64 0, .int .i64 0]) ?_ 0 _ rfl; refine bO ?_; exact BK419.out) Try.underlying51 rfl (by kernel_rfl)) rfl ?_
  exact ⟨by first | rfl | (simp [errW_none, errW_some] <;> rfl) | (simp [*, errW_none, errW_some] <;> rfl), by repeat (first | (with_reducible first | exact HB.out | apply below_alloc | apply pw_below_drewN | apply below_drew1 | refine below_set ?_ GE418.out | refine below_set ?_ GE419.out) | exact HB.out)⟩
 ·rw [if_neg c4] at H
  have c4b0 : decide (a1 < 0) = false := decide_eq_false c4
  clear c4
  by_cases c9 : a1 ≥ a0_0
  ·rw [if_pos c9] at H
   have c9b0 : decide (a0_0 ≤ a1) = true := decide_eq_true c9
   clear c9
   simp only [Option.some.injEq, Prod.mk.injEq] at H
   obtain ⟨rfl, rfl, rfl, rfl⟩ := H
   go_enter Try.func38, Try.ntmps38
   go_wp2_with (first | ((with_reducible refine gate_dst (N := 3) rfl ?_); refine boxE (N := 3) #[.int .i64 a0_0, .int .i64 a0_1, .slice A0_2 l0_2.length c0_2] 36 ?_; intro gb418 hg w10 hbox hb; have BK418 := am (hbox); have GW418 := gW hg HB; have GE418 := gW hg HB; replace HB := hYb HB hb; clear hb hbox hg) | ((with_reducible refine gate_dst (N := 6) rfl ?_); refine boxE (N := 6) #[.int .i64 0, .int .i64 0, .int .i64 0, .int .i64 0] 51 ?_; intro gb419 hg w11 hbox hb; have BK419 := am (hbox); have GW419 := gW hg HB; have GE419 := gW hg HB; have NB418_419 := nL hg BK418; have NB419_418 := nG hg BK418; replace BK418 := bY BK418 hb; replace HB := hYb HB hb; clear hb hbox hg; have hnb12 := NB418_419.out; have hnc12 := NB419_418.out; have hcz13_0 := blk_cell BK418.out; have hfz13_0 := blk_frozen BK418.out; have hcz14_0 := blk_cell BK419.out; have hfz14_0 := blk_frozen BK419.out))
   refine bodyPost_ret (results_cell_row rfl _ _ gb419 51 #[.int .i64 0, .int .i64 0, .int .i64 0, .int .i64 0] (0, 0) _ rfl (by refine bO ?_; refine blk_put (cs := #[.int .i64 0, .int .i64 0, .int .i64 0, .int .i64 0]) ?_ 3 _ rfl; refine bO ?_; refine blk_put (cs := #[.int .i64 0, .int .i64 0, .int .i64 0, .int .i64 0]) ?_ 2 _ rfl; refine bO ?_; refine blk_put (cs := #[.int .i64 0, .int .i64 0, .int .i64 0, .int .i64 0]) ?_ 1 _ rfl; refine bO ?_; refine blk_put (cs := #[.int .i64 0, .int .i64 0, .int .i64 0, .int .i64 0]) ?_ 0 _ rfl; refine bO ?_; exact BK419.out) Try.underlying51 rfl (by kernel_rfl)) rfl ?_
   exact ⟨by first | rfl | (simp [errW_none, errW_some] <;> rfl) | (simp [*, errW_none, errW_some] <;> rfl), by repeat (first | (with_reducible first | exact HB.out | apply below_alloc | apply pw_below_drewN | apply below_drew1 | refine below_set ?_ GE418.out | refine below_set ?_ GE419.out) | exact HB.out)⟩
  ·rw [if_neg c9] at H
   have c9b0 : decide (a0_0 ≤ a1) = false := decide_eq_false c9
   clear c9
   by_cases c15 : a2 < 0
   ·rw [if_pos c15] at H
    have c15b0 : decide (a2 < 0) = true := decide_eq_true c15
    clear c15
    simp only [Option.some.injEq, Prod.mk.injEq] at H
    obtain ⟨rfl, rfl, rfl, rfl⟩ := H
    go_enter Try.func38, Try.ntmps38
    go_wp2_with (first | ((with_reducible refine gate_dst (N := 3) rfl ?_); refine boxE (N := 3) #[.int .i64 a0_0, .int .i64 a0_1, .slice A0_2 l0_2.length c0_2] 36 ?_; intro gb418 hg w16 hbox hb; have BK418 := am (hbox); have GW418 := gW hg HB; have GE418 := gW hg HB; replace HB := hYb HB hb; clear hb hbox hg) | ((with_reducible refine gate_dst (N := 6) rfl ?_); refine boxE (N := 6) #[.int .i64 0, .int .i64 0, .int .i64 0, .int .i64 0] 51 ?_; intro gb419 hg w17 hbox hb; have BK419 := am (hbox); have GW419 := gW hg HB; have GE419 := gW hg HB; have NB418_419 := nL hg BK418; have NB419_418 := nG hg BK418; replace BK418 := bY BK418 hb; replace HB := hYb HB hb; clear hb hbox hg; have hnb18 := NB418_419.out; have hnc18 := NB419_418.out; have hcz19_0 := blk_cell BK418.out; have hfz19_0 := blk_frozen BK418.out; have hcz20_0 := blk_cell BK419.out; have hfz20_0 := blk_frozen BK419.out))
    refine bodyPost_ret (results_cell_row rfl _ _ gb419 51 #[.int .i64 0, .int .i64 0, .int .i64 0, .int .i64 0] (0, 0) _ rfl (by refine bO ?_; refine blk_put (cs := #[.int .i64 0, .int .i64 0, .int .i64 0, .int .i64 0]) ?_ 3 _ rfl; refine bO ?_; refine blk_put (cs := #[.int .i64 0, .int .i64 0, .int .i64 0, .int .i64 0]) ?_ 2 _ rfl; refine bO ?_; refine blk_put (cs := #[.int .i64 0, .int .i64 0, .int .i64 0, .int .i64 0]) ?_ 1 _ rfl; refine bO ?_; refine blk_put (cs := #[.int .i64 0, .int .i64 0, .int .i64 0, .int .i64 0]) ?_ 0 _ rfl; refine bO ?_; exact BK419.out) Try.underlying51 rfl (by kernel_rfl)) rfl ?_
    exact ⟨by first | rfl | (simp [errW_none, errW_some] <;> rfl) | (simp [*, errW_none, errW_some] <;> rfl), by repeat (first | (with_reducible first | exact HB.out | apply below_alloc | apply pw_below_drewN | apply below_drew1 | refine below_set ?_ GE418.out | refine below_set ?_ GE419.out) | exact HB.out)⟩
   ·rw [if_neg c15] at H
    have c15b0 : decide (a2 < 0) = false := decide_eq_false c15
    clear c15
    by_cases c21 : a2 ≥ a0_1
    ·rw [if_pos c21] at H
     have c21b0 : decide (a0_1 ≤ a2) = true := decide_eq_true c21
     clear c21
     simp only [Option.some.injEq, Prod.mk.injEq] at H
     obtain ⟨rfl, rfl, rfl, rfl⟩ := H
     go_enter Try.func38, Try.ntmps38
     go_wp2_with (first | ((with_reducible refine gate_dst (N := 3) rfl ?_); refine boxE (N := 3) #[.int .i64 a0_0, .int .i64 a0_1, .slice A0_2 l0_2.length c0_2] 36 ?_; intro gb418 hg w22 hbox hb; have BK418 := am (hbox); have GW418 := gW hg HB; have GE418 := gW hg HB; replace HB := hYb HB hb; clear hb hbox hg) | ((with_reducible refine gate_dst (N := 6) rfl ?_); refine boxE (N := 6) #[.int .i64 0, .int .i64 0, .int .i64 0, .int .i64 0] 51 ?_; intro gb419 hg w23 hbox hb; have BK419 := am (hbox); have GW419 := gW hg HB; have GE419 := gW hg HB; have NB418_419 := nL hg BK418; have NB419_418 := nG hg BK418; replace BK418 := bY BK418 hb; replace HB := hYb HB hb; clear hb hbox hg; have hnb24 := NB418_419.out; have hnc24 := NB419_418.out; have hcz25_0 := blk_cell BK418.out; have hfz25_0 := blk_frozen BK418.out; have hcz26_0 := blk_cell BK419.out; have hfz26_0 := blk_frozen BK419.out))
     refine bodyPost_ret (results_cell_row rfl _ _ gb419 51 #[.int .i64 0, .int .i64 0, .int .i64 0, .int .i64 0] (0, 0) _ rfl (by refine bO ?_; refine blk_put (cs := #[.int .i64 0, .int .i64 0, .int .i64 0, .int .i64 0]) ?_ 3 _ rfl; refine bO ?_; refine blk_put (cs := #[.int .i64 0, .int .i64 0, .int .i64 0, .int .i64 0]) ?_ 2 _ rfl; refine bO ?_; refine blk_put (cs := #[.int .i64 0, .int .i64 0, .int .i64 0, .int .i64 0]) ?_ 1 _ rfl; refine bO ?_; refine blk_put (cs := #[.int .i64 0, .int .i64 0, .int .i64 0, .int .i64 0]) ?_ 0 _ rfl; refine bO ?_; exact BK419.out) Try.underlying51 rfl (by kernel_rfl)) rfl ?_
     exact ⟨by first | rfl | (simp [errW_none, errW_some] <;> rfl) | (simp [*, errW_none, errW_some] <;> rfl), by repeat (first | (with_reducible first | exact HB.out | apply below_alloc | apply pw_below_drewN | apply below_drew1 | refine below_set ?_ GE418.out | refine below_set ?_ GE419.out) | exact HB.out)⟩
    ·rw [if_neg c21] at H
     have c21b0 : decide (a0_1 ≤ a2) = false := decide_eq_false c21
     clear c21
     obtain ⟨ji27, hji27⟩ : ∃ j_ : Int, (wrap64 ((wrap64 (a2 * a0_0)) + a1)) = j_ := ⟨_, rfl⟩
     replace H : (if 0 ≤ (ji27) then (if (ji27) < (l0_2.length : Int) then (some ((rd_T51 l0_2 (ji27)).f0, (rd_T51 l0_2 (ji27)).f1, (rd_T51 l0_2 (ji27)).f2, (rd_T51 l0_2 (ji27)).f3)) else (none)) else (none)) = some (r1, r2, r3, r4) := by first | (rw [hji27] at H; exact H) | (simp only [hji27] at H ⊢; exact H)
     have hji27w : (IntKind.i64.wrap ((wrap64 (a2 * a0_0)) + a1)) = ji27 := (i64_w _).trans hji27
     by_cases c28 : 0 ≤ (ji27)
     ·rw [if_pos c28] at H
      have c28b0 : decide (0 ≤ (ji27)) = true := decide_eq_true c28
      clear c28
      by_cases c29 : (ji27) < (l0_2.length : Int)
      ·rw [if_pos c29] at H
       have c29b0 : decide ((ji27) < (l0_2.length : Int)) = true := decide_eq_true c29
       clear c29
       simp only [Option.some.injEq, Prod.mk.injEq] at H
       obtain ⟨rfl, rfl, rfl, rfl⟩ := H
       go_enter Try.func38, Try.ntmps38
       go_wp2_with (first | ((with_reducible refine gate_dst (N := 3) rfl ?_); refine boxE (N := 3) #[.int .i64 a0_0, .int .i64 a0_1, .slice A0_2 l0_2.length c0_2] 36 ?_; intro gb418 hg w30 hbox hb; have BK418 := am (hbox); have GW418 := gW hg HB; have GE418 := gW hg HB; replace HB := hYb HB hb; clear hb hbox hg) | ((with_reducible refine gate_dst (N := 6) rfl ?_); refine boxE (N := 6) #[.int .i64 0, .int .i64 0, .int .i64 0, .int .i64 0] 51 ?_; intro gb419 hg w31 hbox hb; have BK419 := am (hbox); have GW419 := gW hg HB; have GE419 := gW hg HB; have NB418_419 := nL hg BK418; have NB419_418 := nG hg BK418; replace BK418 := bY BK418 hb; replace HB := hYb HB hb; clear hb hbox hg; have hnb32 := NB418_419.out; have hnc32 := NB419_418.out; have hcz33_0 := blk_cell BK418.out; have hfz33_0 := blk_frozen BK418.out; have p420 : 0 ≤ ((ji27) : Int) := of_decide_eq_true (by first | (with_reducible assumption) | assumption); have q420 : (ji27) < (l0_2.length : Int) := of_decide_eq_true (by first | (with_reducible assumption) | assumption); obtain ⟨ad420, e420, hx420_0, hx420_1, hx420_2, hx420_3⟩ := at_T51 HR0_2.out (ji27) p420 q420; cases e420; replace hx420_0 := (HB.out.cell (World.block_lt_of_cell? w _ hx420_0)).trans hx420_0; replace hx420_1 := (HB.out.cell (World.block_lt_of_cell? w _ hx420_1)).trans hx420_1; replace hx420_2 := (HB.out.cell (World.block_lt_of_cell? w _ hx420_2)).trans hx420_2; replace hx420_3 := (HB.out.cell (World.block_lt_of_cell? w _ hx420_3)).trans hx420_3; replace p420 := eq_true p420; replace q420 := eq_true q420; have hcz34_0 := blk_cell BK419.out; have hfz34_0 := blk_frozen BK419.out))
       refine bodyPost_ret (results_cell_row rfl _ _ gb419 51 #[.int .i64 ((rd_T51 l0_2 (ji27)).f0), .int .i64 ((rd_T51 l0_2 (ji27)).f1), .int .i64 ((rd_T51 l0_2 (ji27)).f2), .int .i64 ((rd_T51 l0_2 (ji27)).f3)] (0, 0) _ rfl (by refine bO ?_; refine blk_put (cs := #[.int .i64 ((rd_T51 l0_2 (ji27)).f0), .int .i64 ((rd_T51 l0_2 (ji27)).f1), .int .i64 ((rd_T51 l0_2 (ji27)).f2), .int .i64 0]) ?_ 3 _ rfl; refine bO ?_; refine blk_put (cs := #[.int .i64 ((rd_T51 l0_2 (ji27)).f0), .int .i64 ((rd_T51 l0_2 (ji27)).f1), .int .i64 0, .int .i64 0]) ?_ 2 _ rfl; refine bO ?_; refine blk_put (cs := #[.int .i64 ((rd_T51 l0_2 (ji27)).f0), .int .i64 0, .int .i64 0, .int .i64 0]) ?_ 1 _ rfl; refine bO ?_; refine blk_put (cs := #[.int .i64 0, .int .i64 0, .int .i64 0, .int .i64 0]) ?_ 0 _ rfl; refine bO ?_; exact BK419.out) Try.underlying51 rfl (by kernel_rfl)) rfl ?_
       exact ⟨by first | rfl | (simp [errW_none, errW_some] <;> rfl) | (simp only [← hji27]; first | rfl | (simp [errW_none, errW_some] <;> rfl)) | (simp [*, errW_none, errW_some] <;> rfl), by repeat (first | (with_reducible first | exact HB.out | apply below_alloc | apply pw_below_drewN | apply below_drew1 | refine below_set ?_ GE418.out | refine below_set ?_ GE419.out) | exact HB.out)⟩
      ·rw [if_neg c29] at H
       exact absurd H (by simp)
     ·rw [if_neg c28] at H
      exact absurd H (by simp)

end Go.Proofs.Ytocefehnemahhaa.G
