-- laid by gprint.py (a program of this proof's writer) out of the translation; Lean checks it.
import Derived.Test.YtocefehnemahhaaG0
import Derived.Test.YtocefehnemahhaaG1
import Derived.Test.YtocefehnemahhaaG2
import Derived.Test.YtocefehnemahhaaG12
import Derived.Test.YtocefehnemahhaaG13
namespace Go.Proofs.Ytocefehnemahhaa.G
open Go.RowKit Go.Proofs.YtocefehnemahhaaW.PrintWords Go.Proofs.YtocefehnemahhaaW.PrintLast Go.Proofs.YtocefehnemahhaaW.PrintMore
attribute [local go_sem] max2_int min2_int max_two min_two max_three min_three max_four min_four   -- for this text's walks alone
set_option linter.unusedVariables false
set_option linter.unusedSimpArgs false

attribute [local go_sem high] eqA51
/-! ### imageeditorlaw16_FilterUniform: function 5 -/
mutual
def imageeditorlaw16_FilterUniform.j0 : Nat → Int → List Int → Bool → Int → Int → Int → Int → Int → Int → List (S51) → Option (Bool)
 | 0, _, _, _, _, _, _, _, _, _, _ => none
 | k + 1, x6, x7, x47, x398000, x398001, x398002, x398003, x405000, x405001, x405002 => if x47 = true then (some true) else ((filter_Whole.f k x405000 x405001 x405002 x6 x7).bind fun bt406 => (if bt406.2.2.2 = 0 then (imageeditorlaw16_FilterUniform.j1 k x6 ((bt406.2.2.1.length : Int) != (x405002.length : Int)) x398000 x398001 x398002 x398003 bt406.1 bt406.2.1 bt406.2.2.1) else (imageeditorlaw16_FilterUniform.j1 k x6 true x398000 x398001 x398002 x398003 bt406.1 bt406.2.1 bt406.2.2.1)))
def imageeditorlaw16_FilterUniform.j1 : Nat → Int → Bool → Int → Int → Int → Int → Int → Int → List (S51) → Option (Bool)
 | 0, _, _, _, _, _, _, _, _, _ => none
 | k + 1, x6, x65, x398000, x398001, x398002, x398003, x413000, x413001, x413002 => if x65 = true then (some false) else (if x6 = 5 then (imageeditorlaw16_FilterUniform.j2 k x6 0 0 0 x398003 x413000 x413001 x413002) else (imageeditorlaw16_FilterUniform.j2 k x6 x398000 x398001 x398002 x398003 x413000 x413001 x413002))
def imageeditorlaw16_FilterUniform.j2 : Nat → Int → Int → Int → Int → Int → Int → Int → List (S51) → Option (Bool)
 | 0, _, _, _, _, _, _, _, _ => none
 | k + 1, x6, x398000, x398001, x398002, x398003, x413000, x413001, x413002 => if x6 = 6 then (imageeditorlaw16_FilterUniform.j3 k 32768 32768 32768 x398003 x413000 x413001 x413002) else (imageeditorlaw16_FilterUniform.j3 k x398000 x398001 x398002 x398003 x413000 x413001 x413002)
def imageeditorlaw16_FilterUniform.j3 : Nat → Int → Int → Int → Int → Int → Int → List (S51) → Option (Bool)
 | 0, _, _, _, _, _, _, _ => none
 | k + 1, x398000, x398001, x398002, x398003, x413000, x413001, x413002 => imageeditorlaw16_FilterUniform.l0 k 0 x398000 x398001 x398002 x398003 x413000 x413001 x413002
def imageeditorlaw16_FilterUniform.l0 : Nat → Int → Int → Int → Int → Int → Int → Int → List (S51) → Option (Bool)
 | 0, _, _, _, _, _, _, _, _ => none
 | k + 1, x11, x398000, x398001, x398002, x398003, x413000, x413001, x413002 => if x11 < (x413002.length : Int) then (if 0 ≤ x11 then (if (!(((rd_T51 x413002 x11).f0) == x398000) || (!(((rd_T51 x413002 x11).f1) == x398001) || (!(((rd_T51 x413002 x11).f2) == x398002) || (!(((rd_T51 x413002 x11).f3) == x398003))))) = true then (some false) else (imageeditorlaw16_FilterUniform.l0 k (wrap64 (x11 + 1)) x398000 x398001 x398002 x398003 x413000 x413001 x413002)) else (none)) else ((imageeditorlaw16_example.f).bind fun t414 => (some t414))
end
def imageeditorlaw16_FilterUniform.f (k : Nat) (a0_0 : Int) (a0_1 : Int) (a0_2 : Int) (a0_3 : Int) (a0_4 : Int) (a0_5 : Int) (a0_6 : Int) (l0_7 : List Int) : Option (Bool) := (imageeditorref11_New.f k a0_4 a0_5 a0_0 a0_1 a0_2 a0_3).bind fun bt398 => (if bt398.2.2.2 = 0 then (if a0_3 = 0 then (imageeditorlaw16_FilterUniform.j0 k a0_6 l0_7 true a0_0 a0_1 a0_2 a0_3 bt398.1 bt398.2.1 bt398.2.2.1) else (if (wrap64 (a0_4 * a0_5)) > 1024 then (imageeditorlaw16_FilterUniform.j0 k a0_6 l0_7 true a0_0 a0_1 a0_2 a0_3 bt398.1 bt398.2.1 bt398.2.2.1) else ((imageeditorref16_Check.f k a0_6 l0_7).bind fun t405 => (imageeditorlaw16_FilterUniform.j0 k a0_6 l0_7 (t405 != 0) a0_0 a0_1 a0_2 a0_3 bt398.1 bt398.2.1 bt398.2.2.1)))) else (imageeditorlaw16_FilterUniform.j0 k a0_6 l0_7 true a0_0 a0_1 a0_2 a0_3 bt398.1 bt398.2.1 bt398.2.2.1))
theorem imageeditorlaw16_FilterUniform.mono_l : ∀ k, (∀ y0 y1 y2 y3 y4 y5 y6 y7 y8 y9, LeO (imageeditorlaw16_FilterUniform.j0 k y0 y1 y2 y3 y4 y5 y6 y7 y8 y9) (imageeditorlaw16_FilterUniform.j0 (k + 1) y0 y1 y2 y3 y4 y5 y6 y7 y8 y9)) ∧ (∀ y0 y1 y2 y3 y4 y5 y6 y7 y8, LeO (imageeditorlaw16_FilterUniform.j1 k y0 y1 y2 y3 y4 y5 y6 y7 y8) (imageeditorlaw16_FilterUniform.j1 (k + 1) y0 y1 y2 y3 y4 y5 y6 y7 y8)) ∧ (∀ y0 y1 y2 y3 y4 y5 y6 y7, LeO (imageeditorlaw16_FilterUniform.j2 k y0 y1 y2 y3 y4 y5 y6 y7) (imageeditorlaw16_FilterUniform.j2 (k + 1) y0 y1 y2 y3 y4 y5 y6 y7)) ∧ (∀ y0 y1 y2 y3 y4 y5 y6, LeO (imageeditorlaw16_FilterUniform.j3 k y0 y1 y2 y3 y4 y5 y6) (imageeditorlaw16_FilterUniform.j3 (k + 1) y0 y1 y2 y3 y4 y5 y6)) ∧ (∀ y0 y1 y2 y3 y4 y5 y6 y7, LeO (imageeditorlaw16_FilterUniform.l0 k y0 y1 y2 y3 y4 y5 y6 y7) (imageeditorlaw16_FilterUniform.l0 (k + 1) y0 y1 y2 y3 y4 y5 y6 y7))
 | 0 => ⟨fun _ _ _ _ _ _ _ _ _ _ r h => by simp [imageeditorlaw16_FilterUniform.j0] at h, fun _ _ _ _ _ _ _ _ _ r h => by simp [imageeditorlaw16_FilterUniform.j1] at h, fun _ _ _ _ _ _ _ _ r h => by simp [imageeditorlaw16_FilterUniform.j2] at h, fun _ _ _ _ _ _ _ r h => by simp [imageeditorlaw16_FilterUniform.j3] at h, fun _ _ _ _ _ _ _ _ r h => by simp [imageeditorlaw16_FilterUniform.l0] at h⟩
 | k + 1 => by
  obtain ⟨ih0, ih1, ih2, ih3, ih4⟩ := imageeditorlaw16_FilterUniform.mono_l k
  refine ⟨?_, ?_, ?_, ?_, ?_⟩
  ·intro y0 y1 y2 y3 y4 y5 y6 y7 y8 y9
   unfold imageeditorlaw16_FilterUniform.j0
   repeat' first
   | (with_reducible exact ih0 _ _ _ _ _ _ _ _ _ _)
   | (with_reducible exact ih1 _ _ _ _ _ _ _ _ _)
   | (with_reducible exact ih2 _ _ _ _ _ _ _ _)
   | (with_reducible exact ih3 _ _ _ _ _ _ _)
   | (with_reducible exact ih4 _ _ _ _ _ _ _ _)
   | (with_reducible exact filter_Whole.mono _ _ _ _ _ _)
   | (with_reducible exact imageeditorref11_New.mono _ _ _ _ _ _ _)
   | (with_reducible exact imageeditorref16_Check.mono _ _ _)
   | (with_reducible exact LeO.refl _)
   | (with_reducible exact LeO.none _)
   | (with_reducible refine LeO.ite ?_ ?_)
   | (with_reducible refine LeO.bind ?_ (fun _ => ?_))
   | exact ih0 _ _ _ _ _ _ _ _ _ _
   | exact ih1 _ _ _ _ _ _ _ _ _
   | exact ih2 _ _ _ _ _ _ _ _
   | exact ih3 _ _ _ _ _ _ _
   | exact ih4 _ _ _ _ _ _ _ _
   | exact filter_Whole.mono _ _ _ _ _ _
   | exact imageeditorref11_New.mono _ _ _ _ _ _ _
   | exact imageeditorref16_Check.mono _ _ _
   | exact LeO.none _
   | refine LeO.ite ?_ ?_
   | refine LeO.bind ?_ (fun _ => ?_)
  ·intro y0 y1 y2 y3 y4 y5 y6 y7 y8
   unfold imageeditorlaw16_FilterUniform.j1
   repeat' first
   | (with_reducible exact ih0 _ _ _ _ _ _ _ _ _ _)
   | (with_reducible exact ih1 _ _ _ _ _ _ _ _ _)
   | (with_reducible exact ih2 _ _ _ _ _ _ _ _)
   | (with_reducible exact ih3 _ _ _ _ _ _ _)
   | (with_reducible exact ih4 _ _ _ _ _ _ _ _)
   | (with_reducible exact filter_Whole.mono _ _ _ _ _ _)
   | (with_reducible exact imageeditorref11_New.mono _ _ _ _ _ _ _)
   | (with_reducible exact imageeditorref16_Check.mono _ _ _)
   | (with_reducible exact LeO.refl _)
   | (with_reducible exact LeO.none _)
   | (with_reducible refine LeO.ite ?_ ?_)
   | (with_reducible refine LeO.bind ?_ (fun _ => ?_))
   | exact ih0 _ _ _ _ _ _ _ _ _ _
   | exact ih1 _ _ _ _ _ _ _ _ _
   | exact ih2 _ _ _ _ _ _ _ _
   | exact ih3 _ _ _ _ _ _ _
   | exact ih4 _ _ _ _ _ _ _ _
   | exact filter_Whole.mono _ _ _ _ _ _
   | exact imageeditorref11_New.mono _ _ _ _ _ _ _
   | exact imageeditorref16_Check.mono _ _ _
   | exact LeO.none _
   | refine LeO.ite ?_ ?_
   | refine LeO.bind ?_ (fun _ => ?_)
  ·intro y0 y1 y2 y3 y4 y5 y6 y7
   unfold imageeditorlaw16_FilterUniform.j2
   repeat' first
   | (with_reducible exact ih0 _ _ _ _ _ _ _ _ _ _)
   | (with_reducible exact ih1 _ _ _ _ _ _ _ _ _)
   | (with_reducible exact ih2 _ _ _ _ _ _ _ _)
   | (with_reducible exact ih3 _ _ _ _ _ _ _)
   | (with_reducible exact ih4 _ _ _ _ _ _ _ _)
   | (with_reducible exact filter_Whole.mono _ _ _ _ _ _)
   | (with_reducible exact imageeditorref11_New.mono _ _ _ _ _ _ _)
   | (with_reducible exact imageeditorref16_Check.mono _ _ _)
   | (with_reducible exact LeO.refl _)
   | (with_reducible exact LeO.none _)
   | (with_reducible refine LeO.ite ?_ ?_)
   | (with_reducible refine LeO.bind ?_ (fun _ => ?_))
   | exact ih0 _ _ _ _ _ _ _ _ _ _
   | exact ih1 _ _ _ _ _ _ _ _ _
   | exact ih2 _ _ _ _ _ _ _ _
   | exact ih3 _ _ _ _ _ _ _
   | exact ih4 _ _ _ _ _ _ _ _
   | exact filter_Whole.mono _ _ _ _ _ _
   | exact imageeditorref11_New.mono _ _ _ _ _ _ _
   | exact imageeditorref16_Check.mono _ _ _
   | exact LeO.none _
   | refine LeO.ite ?_ ?_
   | refine LeO.bind ?_ (fun _ => ?_)
  ·intro y0 y1 y2 y3 y4 y5 y6
   unfold imageeditorlaw16_FilterUniform.j3
   repeat' first
   | (with_reducible exact ih0 _ _ _ _ _ _ _ _ _ _)
   | (with_reducible exact ih1 _ _ _ _ _ _ _ _ _)
   | (with_reducible exact ih2 _ _ _ _ _ _ _ _)
   | (with_reducible exact ih3 _ _ _ _ _ _ _)
   | (with_reducible exact ih4 _ _ _ _ _ _ _ _)
   | (with_reducible exact filter_Whole.mono _ _ _ _ _ _)
   | (with_reducible exact imageeditorref11_New.mono _ _ _ _ _ _ _)
   | (with_reducible exact imageeditorref16_Check.mono _ _ _)
   | (with_reducible exact LeO.refl _)
   | (with_reducible exact LeO.none _)
   | (with_reducible refine LeO.ite ?_ ?_)
   | (with_reducible refine LeO.bind ?_ (fun _ => ?_))
   | exact ih0 _ _ _ _ _ _ _ _ _ _
   | exact ih1 _ _ _ _ _ _ _ _ _
   | exact ih2 _ _ _ _ _ _ _ _
   | exact ih3 _ _ _ _ _ _ _
   | exact ih4 _ _ _ _ _ _ _ _
   | exact filter_Whole.mono _ _ _ _ _ _
   | exact imageeditorref11_New.mono _ _ _ _ _ _ _
   | exact imageeditorref16_Check.mono _ _ _
   | exact LeO.none _
   | refine LeO.ite ?_ ?_
   | refine LeO.bind ?_ (fun _ => ?_)
  ·intro y0 y1 y2 y3 y4 y5 y6 y7
   unfold imageeditorlaw16_FilterUniform.l0
   repeat' first
   | (with_reducible exact ih0 _ _ _ _ _ _ _ _ _ _)
   | (with_reducible exact ih1 _ _ _ _ _ _ _ _ _)
   | (with_reducible exact ih2 _ _ _ _ _ _ _ _)
   | (with_reducible exact ih3 _ _ _ _ _ _ _)
   | (with_reducible exact ih4 _ _ _ _ _ _ _ _)
   | (with_reducible exact filter_Whole.mono _ _ _ _ _ _)
   | (with_reducible exact imageeditorref11_New.mono _ _ _ _ _ _ _)
   | (with_reducible exact imageeditorref16_Check.mono _ _ _)
   | (with_reducible exact LeO.refl _)
   | (with_reducible exact LeO.none _)
   | (with_reducible refine LeO.ite ?_ ?_)
   | (with_reducible refine LeO.bind ?_ (fun _ => ?_))
   | exact ih0 _ _ _ _ _ _ _ _ _ _
   | exact ih1 _ _ _ _ _ _ _ _ _
   | exact ih2 _ _ _ _ _ _ _ _
   | exact ih3 _ _ _ _ _ _ _
   | exact ih4 _ _ _ _ _ _ _ _
   | exact filter_Whole.mono _ _ _ _ _ _
   | exact imageeditorref11_New.mono _ _ _ _ _ _ _
   | exact imageeditorref16_Check.mono _ _ _
   | exact LeO.none _
   | refine LeO.ite ?_ ?_
   | refine LeO.bind ?_ (fun _ => ?_)
theorem imageeditorlaw16_FilterUniform.mono : ∀ a0 a1 a2 a3 a4 a5 a6 a7 k, LeO (imageeditorlaw16_FilterUniform.f k a0 a1 a2 a3 a4 a5 a6 a7) (imageeditorlaw16_FilterUniform.f (k + 1) a0 a1 a2 a3 a4 a5 a6 a7) := by
 intro a0 a1 a2 a3 a4 a5 a6 a7 k
 obtain ⟨ih0, ih1, ih2, ih3, ih4⟩ := imageeditorlaw16_FilterUniform.mono_l k
 unfold imageeditorlaw16_FilterUniform.f
 repeat' first
   | (with_reducible exact ih0 _ _ _ _ _ _ _ _ _ _)
   | (with_reducible exact ih1 _ _ _ _ _ _ _ _ _)
   | (with_reducible exact ih2 _ _ _ _ _ _ _ _)
   | (with_reducible exact ih3 _ _ _ _ _ _ _)
   | (with_reducible exact ih4 _ _ _ _ _ _ _ _)
   | (with_reducible exact filter_Whole.mono _ _ _ _ _ _)
   | (with_reducible exact imageeditorref11_New.mono _ _ _ _ _ _ _)
   | (with_reducible exact imageeditorref16_Check.mono _ _ _)
   | (with_reducible exact LeO.refl _)
   | (with_reducible exact LeO.none _)
   | (with_reducible refine LeO.ite ?_ ?_)
   | (with_reducible refine LeO.bind ?_ (fun _ => ?_))
   | exact ih0 _ _ _ _ _ _ _ _ _ _
   | exact ih1 _ _ _ _ _ _ _ _ _
   | exact ih2 _ _ _ _ _ _ _ _
   | exact ih3 _ _ _ _ _ _ _
   | exact ih4 _ _ _ _ _ _ _ _
   | exact filter_Whole.mono _ _ _ _ _ _
   | exact imageeditorref11_New.mono _ _ _ _ _ _ _
   | exact imageeditorref16_Check.mono _ _ _
   | exact LeO.none _
   | refine LeO.ite ?_ ?_
   | refine LeO.bind ?_ (fun _ => ?_)
def imageeditorlaw16_FilterUniform.T1 : Bool × List (List Nat × List Nat) := (true, [([], []), ([0], [0]), ([], []), ([2], [2]), ([], []), ([4], [4]), ([], []), ([6], [6]), ([], []), ([8], [8]), ([], []), ([10, 1, 0, 1, 10], [1, 10]), ([3, 11, 0, 1, 2, 3, 10, 11], [3]), ([5, 12, 0, 1, 2, 3, 4, 5, 10, 11, 12], [5]), ([7, 13, 0, 1, 2, 3, 4, 5, 6, 7, 10, 11, 12, 13], [7]), ([9, 14, 0, 1, 2, 3, 4, 5, 6, 7, 8, 9, 10, 11, 12, 13, 14], [9])])
def imageeditorlaw16_FilterUniform.B1 : List Nat := [0, 1, 0, 4, 0, 16, 0, 64, 0, 256, 0, 1027, 3087, 7231, 15615, 32767]
theorem imageeditorlaw16_FilterUniform.tab1 : rtab .any (opsOf Try.f5 1) = imageeditorlaw16_FilterUniform.T1 := by kernel_rfl
theorem imageeditorlaw16_FilterUniform.bits1 : waitsOk imageeditorlaw16_FilterUniform.T1.2 imageeditorlaw16_FilterUniform.B1 = true := by kernel_rfl
set_option maxHeartbeats 8000000 in
set_option maxRecDepth 100000 in
theorem imageeditorlaw16_FilterUniform.calls (k : Nat) (a0_0 : Int) (a0_1 : Int) (a0_2 : Int) (a0_3 : Int) (a0_4 : Int) (a0_5 : Int) (a0_6 : Int) (A0_7 : Option Addr) (c0_7 : Nat) (l0_7 : List Int) (r : Bool) (w : World) (hr0_7 : Kd.C (Kd.int .i64) w A0_7 l0_7.length l0_7) (hc0_7 : l0_7.length ≤ c0_7) (h : imageeditorlaw16_FilterUniform.f k a0_0 a0_1 a0_2 a0_3 a0_4 a0_5 a0_6 l0_7 = some r) :
  Calls Try.prog 5 #[.agg #[.int .i64 a0_0, .int .i64 a0_1, .int .i64 a0_2, .int .i64 a0_3, .int .i64 a0_4, .int .i64 a0_5, .int .i64 a0_6, .slice A0_7 l0_7.length c0_7]] w fun e w' => e = .returned (.bool r) ∧ Below w.heap.size w w' := by
 have hu53 := Try.underlying53
 have hu51 := Try.underlying51
 have hu36 := Try.underlying36
 have HR0_7 := Aside0.mk hr0_7
 have HC0_7 := Aside0.mk hc0_7
 clear hr0_7 hc0_7
 have HB := am (Below.refl w.heap.size w)
 have H : ((imageeditorref11_New.f k a0_4 a0_5 a0_0 a0_1 a0_2 a0_3).bind fun bt398 => (if bt398.2.2.2 = 0 then (if a0_3 = 0 then (imageeditorlaw16_FilterUniform.j0 k a0_6 l0_7 true a0_0 a0_1 a0_2 a0_3 bt398.1 bt398.2.1 bt398.2.2.1) else (if (wrap64 (a0_4 * a0_5)) > 1024 then (imageeditorlaw16_FilterUniform.j0 k a0_6 l0_7 true a0_0 a0_1 a0_2 a0_3 bt398.1 bt398.2.1 bt398.2.2.1) else ((imageeditorref16_Check.f k a0_6 l0_7).bind fun t405 => (imageeditorlaw16_FilterUniform.j0 k a0_6 l0_7 (t405 != 0) a0_0 a0_1 a0_2 a0_3 bt398.1 bt398.2.1 bt398.2.2.1)))) else (imageeditorlaw16_FilterUniform.j0 k a0_6 l0_7 true a0_0 a0_1 a0_2 a0_3 bt398.1 bt398.2.1 bt398.2.2.1))) = some r := h
 clear h
 replace H := Option.bind_eq_some_iff.mp H
 obtain ⟨⟨t398, t399, t400, t403⟩, A20, H⟩ := H
 replace H : (if t403 = 0 then (if a0_3 = 0 then (imageeditorlaw16_FilterUniform.j0 k a0_6 l0_7 true a0_0 a0_1 a0_2 a0_3 t398 t399 t400) else (if (wrap64 (a0_4 * a0_5)) > 1024 then (imageeditorlaw16_FilterUniform.j0 k a0_6 l0_7 true a0_0 a0_1 a0_2 a0_3 t398 t399 t400) else ((imageeditorref16_Check.f k a0_6 l0_7).bind fun t405 => (imageeditorlaw16_FilterUniform.j0 k a0_6 l0_7 (t405 != 0) a0_0 a0_1 a0_2 a0_3 t398 t399 t400)))) else (imageeditorlaw16_FilterUniform.j0 k a0_6 l0_7 true a0_0 a0_1 a0_2 a0_3 t398 t399 t400)) = some r := H
 have A2 := Aside0.mk A20
 clear A20
 have HC3 := Aside0.mk H
 clear H
 go_enter Try.func5, Try.ntmps5
 try go_wp2_with (first | ((with_reducible refine gate_dst (N := 1) rfl ?_); (try (refine gate_guard (by rfl) ?_; dsimp only)); refine box_event ?hg (N := 1) ?hd (cs := #[.int .i64 a0_0, .int .i64 a0_1, .int .i64 a0_2, .int .i64 a0_3, .int .i64 a0_4, .int .i64 a0_5, .int .i64 a0_6, .slice A0_7 l0_7.length c0_7]) (t := 53) ?hr ?_; (case hd => rfl); (case hg => rfl); (case hr => first | (go_simp; done) | (go_simp; rfl)); intro gb396 hg w4 hbox hb; have BK396 := am (hbox); have GW396 := am ((by rw [hg]; exact (below_size (beX HB.out)) : w.heap.size ≤ gb396)); have GE396 := am ((by rw [hg]; exact (below_size (beX HB.out)) : w.heap.size ≤ gb396)); replace HB := am (below_step (beX HB.out) hb); clear hb hbox hg))
 replace BK396 := am (blk_drew BK396.out)
 replace HB := am (below_drew1 HB.out)
 refine start_ (n := 16) (S := fun w' => w'.cell? ⟨gb396, 0, none⟩ = some (.int .i64 a0_0) ∧ w'.cell? ⟨gb396, 1, none⟩ = some (.int .i64 a0_1) ∧ w'.cell? ⟨gb396, 2, none⟩ = some (.int .i64 a0_2) ∧ w'.cell? ⟨gb396, 3, none⟩ = some (.int .i64 a0_3) ∧ w'.cell? ⟨gb396, 4, none⟩ = some (.int .i64 a0_4) ∧ w'.cell? ⟨gb396, 5, none⟩ = some (.int .i64 a0_5) ∧ w'.cell? ⟨gb396, 6, none⟩ = some (.int .i64 a0_6) ∧ w'.cell? ⟨gb396, 7, none⟩ = some (.slice A0_7 l0_7.length c0_7)) (ds := []) #[false, false, false, false, false, false, false, false, false, false, false, false, false, false, false, false] (by kernel_rfl) rfl rfl ⟨(blk_cell BK396.out 0).trans rfl, (blk_cell BK396.out 1).trans rfl, (blk_cell BK396.out 2).trans rfl, (blk_cell BK396.out 3).trans rfl, (blk_cell BK396.out 4).trans rfl, (blk_cell BK396.out 5).trans rfl, (blk_cell BK396.out 6).trans rfl, (blk_cell BK396.out 7).trans rfl⟩ (fun hHeld => ?_); refine with_tabW imageeditorlaw16_FilterUniform.tab1 imageeditorlaw16_FilterUniform.bits1 (fun HT_ HW_ => ?_)
 generalize w4.drew = w5 at BK396 HB hHeld ⊢
 refine pure_ (i := 0) (N := some 12) (v := ?_) (a' := ?_) #[true, false, false, false, false, false, false, false, false, false, false, false, false, false, false, false] rfl rfl (any_of HT_.out (by kernel_rfl)) (fun _ _ _ h => h) (Or.inl ⟨by rfl, ?_⟩) ?_ ?_
 rotate_left
 ·intro w'
  go_simp
  with_reducible rfl
 rotate_left
 ·simp only [Act.put, List.setIfInBounds_toArray, List.set_cons_zero, List.set_cons_succ, i64_w, i32_w]
  rfl
 refine pure_ (i := 2) (N := some 14) (v := ?_) (a' := ?_) #[true, false, true, false, false, false, false, false, false, false, false, false, false, false, false, false] rfl rfl (any_of HT_.out (by kernel_rfl)) (fun _ _ _ h => h) (Or.inl ⟨by rfl, ?_⟩) ?_ ?_
 rotate_left
 ·intro w'
  go_simp
  with_reducible rfl
 rotate_left
 ·simp only [Act.put, List.setIfInBounds_toArray, List.set_cons_zero, List.set_cons_succ, i64_w, i32_w]
  rfl
 refine pure_ (i := 4) (N := some 16) (v := ?_) (a' := ?_) #[true, false, true, false, true, false, false, false, false, false, false, false, false, false, false, false] rfl rfl (any_of HT_.out (by kernel_rfl)) (fun _ _ _ h => h) (Or.inl ⟨by rfl, ?_⟩) ?_ ?_
 rotate_left
 ·intro w'
  go_simp
  with_reducible rfl
 rotate_left
 ·simp only [Act.put, List.setIfInBounds_toArray, List.set_cons_zero, List.set_cons_succ, i64_w, i32_w]
  rfl
 refine pure_ (i := 6) (N := some 18) (v := ?_) (a' := ?_) #[true, false, true, false, true, false, true, false, false, false, false, false, false, false, false, false] rfl rfl (any_of HT_.out (by kernel_rfl)) (fun _ _ _ h => h) (Or.inl ⟨by rfl, ?_⟩) ?_ ?_
 rotate_left
 ·intro w'
  go_simp
  with_reducible rfl
 rotate_left
 ·simp only [Act.put, List.setIfInBounds_toArray, List.set_cons_zero, List.set_cons_succ, i64_w, i32_w]
  rfl
 refine pure_ (i := 8) (N := some 20) (v := ?_) (a' := ?_) #[true, false, true, false, true, false, true, false, true, false, false, false, false, false, false, false] rfl rfl (any_of HT_.out (by kernel_rfl)) (fun _ _ _ h => h) (Or.inl ⟨by rfl, ?_⟩) ?_ ?_
 rotate_left
 ·intro w'
  go_simp
  with_reducible rfl
 rotate_left
 ·simp only [Act.put, List.setIfInBounds_toArray, List.set_cons_zero, List.set_cons_succ, i64_w, i32_w]
  rfl
 refine take_ (i := 1) (N := some 13) (v := ?_) (a' := ?_) #[true, true, true, false, true, false, true, false, true, false, false, false, false, false, false, false] rfl rfl (take_ofW HT_.out HW_.out (by kernel_rfl)) (fun _ _ _ h => h) (Or.inl ⟨by rfl, ?_⟩) hHeld ?_ ?_
 rotate_left
 ·rintro w' ⟨s0, s1, s2, s3, s4, s5, s6, s7⟩
  go_simp
  with_reducible rfl
 rotate_left
 ·simp only [Act.put, List.setIfInBounds_toArray, List.set_cons_zero, List.set_cons_succ, i64_w, i32_w]
  rfl
 refine take_ (i := 3) (N := some 15) (v := ?_) (a' := ?_) #[true, true, true, true, true, false, true, false, true, false, false, false, false, false, false, false] rfl rfl (take_ofW HT_.out HW_.out (by kernel_rfl)) (fun _ _ _ h => h) (Or.inl ⟨by rfl, ?_⟩) hHeld ?_ ?_
 rotate_left
 ·rintro w' ⟨s0, s1, s2, s3, s4, s5, s6, s7⟩
  go_simp
  with_reducible rfl
 rotate_left
 ·simp only [Act.put, List.setIfInBounds_toArray, List.set_cons_zero, List.set_cons_succ, i64_w, i32_w]
  rfl
 refine take_ (i := 5) (N := some 17) (v := ?_) (a' := ?_) #[true, true, true, true, true, true, true, false, true, false, false, false, false, false, false, false] rfl rfl (take_ofW HT_.out HW_.out (by kernel_rfl)) (fun _ _ _ h => h) (Or.inl ⟨by rfl, ?_⟩) hHeld ?_ ?_
 rotate_left
 ·rintro w' ⟨s0, s1, s2, s3, s4, s5, s6, s7⟩
  go_simp
  with_reducible rfl
 rotate_left
 ·simp only [Act.put, List.setIfInBounds_toArray, List.set_cons_zero, List.set_cons_succ, i64_w, i32_w]
  rfl
 refine take_ (i := 7) (N := some 19) (v := ?_) (a' := ?_) #[true, true, true, true, true, true, true, true, true, false, false, false, false, false, false, false] rfl rfl (take_ofW HT_.out HW_.out (by kernel_rfl)) (fun _ _ _ h => h) (Or.inl ⟨by rfl, ?_⟩) hHeld ?_ ?_
 rotate_left
 ·rintro w' ⟨s0, s1, s2, s3, s4, s5, s6, s7⟩
  go_simp
  with_reducible rfl
 rotate_left
 ·simp only [Act.put, List.setIfInBounds_toArray, List.set_cons_zero, List.set_cons_succ, i64_w, i32_w]
  rfl
 refine take_ (i := 9) (N := some 21) (v := ?_) (a' := ?_) #[true, true, true, true, true, true, true, true, true, true, false, false, false, false, false, false] rfl rfl (take_ofW HT_.out HW_.out (by kernel_rfl)) (fun _ _ _ h => h) (Or.inl ⟨by rfl, ?_⟩) hHeld ?_ ?_
 rotate_left
 ·rintro w' ⟨s0, s1, s2, s3, s4, s5, s6, s7⟩
  go_simp
  with_reducible rfl
 rotate_left
 ·simp only [Act.put, List.setIfInBounds_toArray, List.set_cons_zero, List.set_cons_succ, i64_w, i32_w]
  rfl
 refine one_ (i := 10) (N := some 3) #[true, true, true, true, true, true, true, true, true, true, true, false, false, false, false, false] rfl rfl (one_of HT_.out (by kernel_rfl)) (by decide) (fun K hK => ?_)
 refine box_step ?hg (N := 3) ?hd (cs := #[.int .i64 0, .int .i64 0, .int .i64 0, .int .i64 0]) (t := 51) ?hr ?_; (case hd => rfl); (case hg => rfl); (case hr => first | (go_simp; done) | (go_simp; rfl))
 intro gb397 hg w6 hbox hb
 have BK397 := am (hbox)
 have GW397 := am ((by rw [hg]; exact (below_size (beX HB.out)) : w.heap.size ≤ gb397))
 have GE397 := am ((by rw [hg]; exact (below_size (beX HB.out)) : w.heap.size ≤ gb397))
 have NB396_397 := am ((by rw [hg]; exact Nat.ne_of_lt (blk_lt (bX BK396.out)) : gb396 ≠ gb397))
 have NB397_396 := am ((by rw [hg]; exact Nat.ne_of_gt (blk_lt (bX BK396.out)) : gb397 ≠ gb396))
 replace BK396 := am (blk_below (bX BK396.out) hb)
 replace HB := am (below_step (beX HB.out) hb)
 clear hb hbox hg
 refine hK.out _ _ ⟨(blk_cell BK396.out 0).trans rfl, (blk_cell BK396.out 1).trans rfl, (blk_cell BK396.out 2).trans rfl, (blk_cell BK396.out 3).trans rfl, (blk_cell BK396.out 4).trans rfl, (blk_cell BK396.out 5).trans rfl, (blk_cell BK396.out 6).trans rfl, (blk_cell BK396.out 7).trans rfl⟩ (fun hHeld => ?_)
 clear hK K
 refine norm_ (a' := ?_) ?_ ?_
 rotate_left
 ·show Act.put _ (some 3) _ = _
  simp only [Act.put, List.setIfInBounds_toArray, List.set_cons_zero, List.set_cons_succ, i64_w, i32_w]
  rfl
 refine one_ (i := 11) (N := none) #[true, true, true, true, true, true, true, true, true, true, true, true, false, false, false, false] rfl rfl (one_of HT_.out (by kernel_rfl)) (by decide) (fun K hK => ?_)
 have hs7 : w6.cell? ⟨gb397, 0, none⟩ = some (.int .i64 0) := (blk_cell BK397.out 0).trans rfl
 have hfs7 := blk_frozen BK397.out 0
 have hns7_0 := NB396_397.out
 have hms7_0 := NB397_396.out
 have hs8 : w6.cell? ⟨gb397, 1, none⟩ = some (.int .i64 0) := (blk_cell BK397.out 1).trans rfl
 have hfs8 := blk_frozen BK397.out 1
 have hns8_0 := NB396_397.out
 have hms8_0 := NB397_396.out
 have hs9 : w6.cell? ⟨gb397, 2, none⟩ = some (.int .i64 0) := (blk_cell BK397.out 2).trans rfl
 have hfs9 := blk_frozen BK397.out 2
 have hns9_0 := NB396_397.out
 have hms9_0 := NB397_396.out
 have hs10 : w6.cell? ⟨gb397, 3, none⟩ = some (.int .i64 0) := (blk_cell BK397.out 3).trans rfl
 have hfs10 := blk_frozen BK397.out 3
 have hns10_0 := NB396_397.out
 have hms10_0 := NB397_396.out
 refine skip_ (w1 := ?_) (by rfl) rfl ?_ ?_
 rotate_left
 ·go_simp
  rfl
 refine hK.out _ _ ⟨((cell_far (p := ⟨gb397, _, none⟩) NB396_397.out _).trans (((cell_far (p := ⟨gb397, _, none⟩) NB396_397.out _).trans (((cell_far (p := ⟨gb397, _, none⟩) NB396_397.out _).trans (((cell_far (p := ⟨gb397, _, none⟩) NB396_397.out _).trans (hHeld.1)))))))), ((cell_far (p := ⟨gb397, _, none⟩) NB396_397.out _).trans (((cell_far (p := ⟨gb397, _, none⟩) NB396_397.out _).trans (((cell_far (p := ⟨gb397, _, none⟩) NB396_397.out _).trans (((cell_far (p := ⟨gb397, _, none⟩) NB396_397.out _).trans (hHeld.2.1)))))))), ((cell_far (p := ⟨gb397, _, none⟩) NB396_397.out _).trans (((cell_far (p := ⟨gb397, _, none⟩) NB396_397.out _).trans (((cell_far (p := ⟨gb397, _, none⟩) NB396_397.out _).trans (((cell_far (p := ⟨gb397, _, none⟩) NB396_397.out _).trans (hHeld.2.2.1)))))))), ((cell_far (p := ⟨gb397, _, none⟩) NB396_397.out _).trans (((cell_far (p := ⟨gb397, _, none⟩) NB396_397.out _).trans (((cell_far (p := ⟨gb397, _, none⟩) NB396_397.out _).trans (((cell_far (p := ⟨gb397, _, none⟩) NB396_397.out _).trans (hHeld.2.2.2.1)))))))), ((cell_far (p := ⟨gb397, _, none⟩) NB396_397.out _).trans (((cell_far (p := ⟨gb397, _, none⟩) NB396_397.out _).trans (((cell_far (p := ⟨gb397, _, none⟩) NB396_397.out _).trans (((cell_far (p := ⟨gb397, _, none⟩) NB396_397.out _).trans (hHeld.2.2.2.2.1)))))))), ((cell_far (p := ⟨gb397, _, none⟩) NB396_397.out _).trans (((cell_far (p := ⟨gb397, _, none⟩) NB396_397.out _).trans (((cell_far (p := ⟨gb397, _, none⟩) NB396_397.out _).trans (((cell_far (p := ⟨gb397, _, none⟩) NB396_397.out _).trans (hHeld.2.2.2.2.2.1)))))))), ((cell_far (p := ⟨gb397, _, none⟩) NB396_397.out _).trans (((cell_far (p := ⟨gb397, _, none⟩) NB396_397.out _).trans (((cell_far (p := ⟨gb397, _, none⟩) NB396_397.out _).trans (((cell_far (p := ⟨gb397, _, none⟩) NB396_397.out _).trans (hHeld.2.2.2.2.2.2.1)))))))), ((cell_far (p := ⟨gb397, _, none⟩) NB396_397.out _).trans (((cell_far (p := ⟨gb397, _, none⟩) NB396_397.out _).trans (((cell_far (p := ⟨gb397, _, none⟩) NB396_397.out _).trans (((cell_far (p := ⟨gb397, _, none⟩) NB396_397.out _).trans (hHeld.2.2.2.2.2.2.2))))))))⟩ (fun hHeld => ?_)
 clear hK K
 refine pure_ (i := 12) (N := some 4) (v := ?_) (a' := ?_) #[true, true, true, true, true, true, true, true, true, true, true, true, true, false, false, false] rfl rfl (any_of HT_.out (by kernel_rfl)) (fun _ _ _ h => h) (Or.inl ⟨by rfl, ?_⟩) ?_ ?_
 rotate_left
 ·intro w'
  go_simp
  with_reducible rfl
 rotate_left
 ·simp only [Act.put, List.setIfInBounds_toArray, List.set_cons_zero, List.set_cons_succ, i64_w, i32_w]
  rfl
 refine pure_ (i := 13) (N := some 5) (v := ?_) (a' := ?_) #[true, true, true, true, true, true, true, true, true, true, true, true, true, true, false, false] rfl rfl (any_of HT_.out (by kernel_rfl)) (fun _ _ _ h => h) (Or.inl ⟨by rfl, ?_⟩) ?_ ?_
 rotate_left
 ·intro w'
  go_simp
  with_reducible rfl
 rotate_left
 ·simp only [Act.put, List.setIfInBounds_toArray, List.set_cons_zero, List.set_cons_succ, i64_w, i32_w]
  rfl
 refine pure_ (i := 14) (N := some 6) (v := ?_) (a' := ?_) #[true, true, true, true, true, true, true, true, true, true, true, true, true, true, true, false] rfl rfl (any_of HT_.out (by kernel_rfl)) (fun _ _ _ h => h) (Or.inl ⟨by rfl, ?_⟩) ?_ ?_
 rotate_left
 ·intro w'
  go_simp
  with_reducible rfl
 rotate_left
 ·simp only [Act.put, List.setIfInBounds_toArray, List.set_cons_zero, List.set_cons_succ, i64_w, i32_w]
  rfl
 refine pure_ (i := 15) (N := some 7) (v := ?_) (a' := ?_) #[true, true, true, true, true, true, true, true, true, true, true, true, true, true, true, true] rfl rfl (any_of HT_.out (by kernel_rfl)) (fun _ _ _ h => h) (Or.inl ⟨by rfl, ?_⟩) ?_ ?_
 rotate_left
 ·intro w'
  go_simp
  with_reducible rfl
 rotate_left
 ·simp only [Act.put, List.setIfInBounds_toArray, List.set_cons_zero, List.set_cons_succ, i64_w, i32_w]
  rfl
 refine done_ (done_of HT_.out (by kernel_rfl)) ?_
 have hnb11 := NB397_396.out
 have hnc11 := NB396_397.out
 have hcz12_0 := blk_cell BK397.out
 have hfz12_0 := blk_frozen BK397.out
 go_upto_region 3 with (first | ((with_reducible refine gate_callee (f := 22) rfl ?_); refine goesL_ (some 26) rfl rfl Try.func22 (by kernel_rfl) rfl #[.int .i64 a0_4, .int .i64 a0_5, .agg #[.int .i64 a0_0, .int .i64 a0_1, .int .i64 a0_2, .int .i64 a0_3]] rfl (by (try simp only [List.map_toArray, List.map_cons, List.map_nil]); first | done | rfl | (simp only [List.length_drop, List.length_take]; rfl)) ?_; (with_reducible refine (imageeditorref11_New.calls k a0_4 a0_5 a0_0 a0_1 a0_2 a0_3 t398 t399 t400 t403 _ A2.out).mono ?_); rintro e w13 ⟨v401, rfl, ho0, hb⟩; refine ⟨_, rfl, ?_⟩; have HO402 := am (Kd.R_lower (Kd.R_newB ho0 (g := gb397) (o := .cells #[.int .i64 a0_0, .int .i64 a0_1, .int .i64 a0_2, .int .i64 a0_3] 51 (0, 0)) (by (with_reducible repeat (first | refine blk_drewN ?_ _ | refine blk_drew ?_ | refine blk_alloc ?_ _)); refine blk_put (cs := #[.int .i64 a0_0, .int .i64 a0_1, .int .i64 a0_2, .int .i64 0]) ?_ 3 _ rfl; (with_reducible repeat (first | refine blk_drewN ?_ _ | refine blk_drew ?_ | refine blk_alloc ?_ _)); refine blk_put (cs := #[.int .i64 a0_0, .int .i64 a0_1, .int .i64 0, .int .i64 0]) ?_ 2 _ rfl; (with_reducible repeat (first | refine blk_drewN ?_ _ | refine blk_drew ?_ | refine blk_alloc ?_ _)); refine blk_put (cs := #[.int .i64 a0_0, .int .i64 0, .int .i64 0, .int .i64 0]) ?_ 1 _ rfl; (with_reducible repeat (first | refine blk_drewN ?_ _ | refine blk_drew ?_ | refine blk_alloc ?_ _)); refine blk_put (cs := #[.int .i64 0, .int .i64 0, .int .i64 0, .int .i64 0]) ?_ 0 _ rfl; (with_reducible repeat (first | refine blk_drewN ?_ _ | refine blk_drew ?_ | refine blk_alloc ?_ _)); exact BK397.out)) (below_size (by repeat (first | (with_reducible first | exact HB.out | apply below_alloc | apply pw_below_drewN | apply below_drew1 | refine below_set ?_ GE396.out | refine below_set ?_ GE397.out) | exact HB.out)))); replace BK396 := am (blk_below (g := gb396) (o := .cells #[.int .i64 a0_0, .int .i64 a0_1, .int .i64 a0_2, .int .i64 a0_3, .int .i64 a0_4, .int .i64 a0_5, .int .i64 a0_6, .slice A0_7 l0_7.length c0_7] 53 (0, 0)) (by (with_reducible repeat (first | refine blk_drewN ?_ _ | refine blk_drew ?_ | refine blk_alloc ?_ _)); refine blk_far ?_ NB396_397.out _; (with_reducible repeat (first | refine blk_drewN ?_ _ | refine blk_drew ?_ | refine blk_alloc ?_ _)); refine blk_far ?_ NB396_397.out _; (with_reducible repeat (first | refine blk_drewN ?_ _ | refine blk_drew ?_ | refine blk_alloc ?_ _)); refine blk_far ?_ NB396_397.out _; (with_reducible repeat (first | refine blk_drewN ?_ _ | refine blk_drew ?_ | refine blk_alloc ?_ _)); refine blk_far ?_ NB396_397.out _; (with_reducible repeat (first | refine blk_drewN ?_ _ | refine blk_drew ?_ | refine blk_alloc ?_ _)); exact BK396.out) hb); replace BK397 := am (blk_below (g := gb397) (o := .cells #[.int .i64 a0_0, .int .i64 a0_1, .int .i64 a0_2, .int .i64 a0_3] 51 (0, 0)) (by (with_reducible repeat (first | refine blk_drewN ?_ _ | refine blk_drew ?_ | refine blk_alloc ?_ _)); refine blk_put (cs := #[.int .i64 a0_0, .int .i64 a0_1, .int .i64 a0_2, .int .i64 0]) ?_ 3 _ rfl; (with_reducible repeat (first | refine blk_drewN ?_ _ | refine blk_drew ?_ | refine blk_alloc ?_ _)); refine blk_put (cs := #[.int .i64 a0_0, .int .i64 a0_1, .int .i64 0, .int .i64 0]) ?_ 2 _ rfl; (with_reducible repeat (first | refine blk_drewN ?_ _ | refine blk_drew ?_ | refine blk_alloc ?_ _)); refine blk_put (cs := #[.int .i64 a0_0, .int .i64 0, .int .i64 0, .int .i64 0]) ?_ 1 _ rfl; (with_reducible repeat (first | refine blk_drewN ?_ _ | refine blk_drew ?_ | refine blk_alloc ?_ _)); refine blk_put (cs := #[.int .i64 0, .int .i64 0, .int .i64 0, .int .i64 0]) ?_ 0 _ rfl; (with_reducible repeat (first | refine blk_drewN ?_ _ | refine blk_drew ?_ | refine blk_alloc ?_ _)); exact BK397.out) hb); replace HB := am (below_step (by repeat (first | (with_reducible first | exact HB.out | apply below_alloc | apply pw_below_drewN | apply below_drew1 | refine below_set ?_ GE396.out | refine below_set ?_ GE397.out) | exact HB.out)) hb); (try clear hb); (try clear hb2); (try clear hk); (try clear hi); (try clear ho0)) | ((with_reducible refine gate_dst (N := 8) rfl ?_); (try (refine gate_guard (by rfl) ?_; dsimp only)); refine box_event ?hg (N := 8) ?hd (cs := #[.int .i64 0, .int .i64 0, .slice none 0 0]) (t := 36) ?hr ?_; (case hd => rfl); (case hg => rfl); (case hr => first | (go_simp; done) | (go_simp; rfl)); intro gb404 hg w14 hbox hb; have BK404 := am (hbox); have GW404 := am ((by rw [hg]; exact (below_size (beX HB.out)) : w.heap.size ≤ gb404)); have GE404 := am ((by rw [hg]; exact (below_size (beX HB.out)) : w.heap.size ≤ gb404)); have NB396_404 := am ((by rw [hg]; exact Nat.ne_of_lt (blk_lt (bX BK396.out)) : gb396 ≠ gb404)); have NB404_396 := am ((by rw [hg]; exact Nat.ne_of_gt (blk_lt (bX BK396.out)) : gb404 ≠ gb396)); have NB397_404 := am ((by rw [hg]; exact Nat.ne_of_lt (blk_lt (bX BK397.out)) : gb397 ≠ gb404)); have NB404_397 := am ((by rw [hg]; exact Nat.ne_of_gt (blk_lt (bX BK397.out)) : gb404 ≠ gb397)); replace HO402 := am (Kd.R_below (rX HO402.out) hb); replace BK396 := am (blk_below (bX BK396.out) hb); replace BK397 := am (blk_below (bX BK397.out) hb); replace HB := am (below_step (beX HB.out) hb); clear hb hbox hg; have hnb15 := NB404_396.out; have hnc15 := NB396_404.out; have hnb16 := NB404_397.out; have hnc16 := NB397_404.out; have hcz17_0 := blk_cell BK404.out; have hfz17_0 := blk_frozen BK404.out; obtain ⟨Ao18, co18, eo18⟩ := Kd.R_slice HO402.out; subst eo18))
 (try simp only [Act.put, List.setIfInBounds_toArray, List.set_cons_zero, List.set_cons_succ])
 go_cut [47] (fun v47 wc => ∃ (kq : Nat) (x47_2 : Bool), v47 = .bool x47_2 ∧ Aside0 (imageeditorlaw16_FilterUniform.j0 kq a0_6 l0_7 x47_2 a0_0 a0_1 a0_2 a0_3 t398 t399 t400 = some r) ∧ Aside0 (kq ≤ k) ∧ Aside0 (Kd.R k51 51 wc w.heap.size (fun k_ => k_ ≠ gb397) (.slice Ao18 t400.length co18) t400) ∧ Aside0 (wc.heap[gb396]? = some (.cells #[.int .i64 a0_0, .int .i64 a0_1, .int .i64 a0_2, .int .i64 a0_3, .int .i64 a0_4, .int .i64 a0_5, .int .i64 a0_6, (.slice A0_7 l0_7.length c0_7)] 53 (0, 0))) ∧ Aside0 (wc.heap[gb397]? = some (.cells #[.int .i64 a0_0, .int .i64 a0_1, .int .i64 a0_2, .int .i64 a0_3] 51 (0, 0))) ∧ Aside0 (wc.heap[gb404]? = some (.cells #[.int .i64 t398, .int .i64 t399, (.slice Ao18 t400.length co18)] 36 (0, 0))) ∧ Aside0 (Below w.heap.size w wc))
 case first =>
  have H := HC3.out
  clear HC3
  by_cases c19 : t403 = 0
  ·rw [if_pos c19] at H
   have c19b0 : (t403 == 0) = true := beq_iff_eq.mpr c19
   have c19b1 : (t403 != 0) = false := bne_eq_false_iff_eq.mpr c19
   clear c19
   (first | rw [c19b0] | (simp only [i64_w, i32_w]; rw [c19b0]) | skip)
   by_cases c20 : a0_3 = 0
   ·rw [if_pos c20] at H
    have c20b0 : (a0_3 == 0) = true := beq_iff_eq.mpr c20
    have c20b1 : (a0_3 != 0) = false := bne_eq_false_iff_eq.mpr c20
    clear c20
    have H' := Aside0.mk H
    clear H
    have hnb21 := NB397_396.out
    have hnc21 := NB396_397.out
    have hnb22 := NB397_404.out
    have hnc22 := NB404_397.out
    have hcz23_0 := blk_cell BK397.out
    have hfz23_0 := blk_frozen BK397.out
    go_wp2
    go_meet
    case rel => exact ⟨_, (true), (by first | rfl | (simp; done) | (simp [*]; done)), H', ⟨by first | omega | exact Nat.le_refl _⟩, ⟨by (with_reducible repeat (first | apply Kd.R_alloc | apply Kd.R_drewN | apply Kd.R_drew)); exact Kd.R_mono (Kd.R_far (p := ⟨gb404, 2, none⟩) (Kd.R_far (p := ⟨gb404, 1, none⟩) (Kd.R_far (p := ⟨gb404, 0, none⟩) (Kd.R_types HO402.out BK404.out (by decide)) (fun _ hk => hk.2) (.int .i64 t398)) (fun _ hk => hk.2) (.int .i64 t399)) (fun _ hk => hk.2) (.slice Ao18 t400.length co18)) (fun _ hk => hk.1.2)⟩, ⟨by (with_reducible repeat (first | refine blk_drewN ?_ _ | refine blk_drew ?_ | refine blk_alloc ?_ _)); refine blk_far ?_ NB396_404.out _; (with_reducible repeat (first | refine blk_drewN ?_ _ | refine blk_drew ?_ | refine blk_alloc ?_ _)); refine blk_far ?_ NB396_404.out _; (with_reducible repeat (first | refine blk_drewN ?_ _ | refine blk_drew ?_ | refine blk_alloc ?_ _)); refine blk_far ?_ NB396_404.out _; (with_reducible repeat (first | refine blk_drewN ?_ _ | refine blk_drew ?_ | refine blk_alloc ?_ _)); exact BK396.out⟩, ⟨by (with_reducible repeat (first | refine blk_drewN ?_ _ | refine blk_drew ?_ | refine blk_alloc ?_ _)); refine blk_far ?_ NB397_404.out _; (with_reducible repeat (first | refine blk_drewN ?_ _ | refine blk_drew ?_ | refine blk_alloc ?_ _)); refine blk_far ?_ NB397_404.out _; (with_reducible repeat (first | refine blk_drewN ?_ _ | refine blk_drew ?_ | refine blk_alloc ?_ _)); refine blk_far ?_ NB397_404.out _; (with_reducible repeat (first | refine blk_drewN ?_ _ | refine blk_drew ?_ | refine blk_alloc ?_ _)); exact BK397.out⟩, ⟨by (with_reducible repeat (first | refine blk_drewN ?_ _ | refine blk_drew ?_ | refine blk_alloc ?_ _)); refine blk_put (cs := #[.int .i64 t398, .int .i64 t399, .slice none 0 0]) ?_ 2 _ rfl; (with_reducible repeat (first | refine blk_drewN ?_ _ | refine blk_drew ?_ | refine blk_alloc ?_ _)); refine blk_put (cs := #[.int .i64 t398, .int .i64 0, .slice none 0 0]) ?_ 1 _ rfl; (with_reducible repeat (first | refine blk_drewN ?_ _ | refine blk_drew ?_ | refine blk_alloc ?_ _)); refine blk_put (cs := #[.int .i64 0, .int .i64 0, .slice none 0 0]) ?_ 0 _ rfl; (with_reducible repeat (first | refine blk_drewN ?_ _ | refine blk_drew ?_ | refine blk_alloc ?_ _)); exact BK404.out⟩, ⟨by repeat (first | (with_reducible first | exact HB.out | apply below_alloc | apply pw_below_drewN | apply below_drew1 | refine below_set ?_ GE396.out | refine below_set ?_ GE397.out | refine below_set ?_ GE404.out) | exact HB.out)⟩⟩
   ·rw [if_neg c20] at H
    have c20b0 : (a0_3 == 0) = false := beq_eq_false_iff_ne.mpr c20
    have c20b1 : (a0_3 != 0) = true := bne_iff_ne.mpr c20
    by_cases c24 : (wrap64 (a0_4 * a0_5)) > 1024
    ·rw [if_pos c24] at H
     have c24b0 : decide (1024 < (wrap64 (a0_4 * a0_5))) = true := decide_eq_true c24
     clear c24
     have H' := Aside0.mk H
     clear H
     have hnb25 := NB397_396.out
     have hnc25 := NB396_397.out
     have hnb26 := NB397_404.out
     have hnc26 := NB404_397.out
     have hcz27_0 := blk_cell BK397.out
     have hfz27_0 := blk_frozen BK397.out
     go_wp2
     go_meet
     case rel => exact ⟨_, (true), (by first | rfl | (simp; done) | (simp [*]; done)), H', ⟨by first | omega | exact Nat.le_refl _⟩, ⟨by (with_reducible repeat (first | apply Kd.R_alloc | apply Kd.R_drewN | apply Kd.R_drew)); exact Kd.R_mono (Kd.R_far (p := ⟨gb404, 2, none⟩) (Kd.R_far (p := ⟨gb404, 1, none⟩) (Kd.R_far (p := ⟨gb404, 0, none⟩) (Kd.R_types HO402.out BK404.out (by decide)) (fun _ hk => hk.2) (.int .i64 t398)) (fun _ hk => hk.2) (.int .i64 t399)) (fun _ hk => hk.2) (.slice Ao18 t400.length co18)) (fun _ hk => hk.1.2)⟩, ⟨by (with_reducible repeat (first | refine blk_drewN ?_ _ | refine blk_drew ?_ | refine blk_alloc ?_ _)); refine blk_far ?_ NB396_404.out _; (with_reducible repeat (first | refine blk_drewN ?_ _ | refine blk_drew ?_ | refine blk_alloc ?_ _)); refine blk_far ?_ NB396_404.out _; (with_reducible repeat (first | refine blk_drewN ?_ _ | refine blk_drew ?_ | refine blk_alloc ?_ _)); refine blk_far ?_ NB396_404.out _; (with_reducible repeat (first | refine blk_drewN ?_ _ | refine blk_drew ?_ | refine blk_alloc ?_ _)); exact BK396.out⟩, ⟨by (with_reducible repeat (first | refine blk_drewN ?_ _ | refine blk_drew ?_ | refine blk_alloc ?_ _)); refine blk_far ?_ NB397_404.out _; (with_reducible repeat (first | refine blk_drewN ?_ _ | refine blk_drew ?_ | refine blk_alloc ?_ _)); refine blk_far ?_ NB397_404.out _; (with_reducible repeat (first | refine blk_drewN ?_ _ | refine blk_drew ?_ | refine blk_alloc ?_ _)); refine blk_far ?_ NB397_404.out _; (with_reducible repeat (first | refine blk_drewN ?_ _ | refine blk_drew ?_ | refine blk_alloc ?_ _)); exact BK397.out⟩, ⟨by (with_reducible repeat (first | refine blk_drewN ?_ _ | refine blk_drew ?_ | refine blk_alloc ?_ _)); refine blk_put (cs := #[.int .i64 t398, .int .i64 t399, .slice none 0 0]) ?_ 2 _ rfl; (with_reducible repeat (first | refine blk_drewN ?_ _ | refine blk_drew ?_ | refine blk_alloc ?_ _)); refine blk_put (cs := #[.int .i64 t398, .int .i64 0, .slice none 0 0]) ?_ 1 _ rfl; (with_reducible repeat (first | refine blk_drewN ?_ _ | refine blk_drew ?_ | refine blk_alloc ?_ _)); refine blk_put (cs := #[.int .i64 0, .int .i64 0, .slice none 0 0]) ?_ 0 _ rfl; (with_reducible repeat (first | refine blk_drewN ?_ _ | refine blk_drew ?_ | refine blk_alloc ?_ _)); exact BK404.out⟩, ⟨by repeat (first | (with_reducible first | exact HB.out | apply below_alloc | apply pw_below_drewN | apply below_drew1 | refine below_set ?_ GE396.out | refine below_set ?_ GE397.out | refine below_set ?_ GE404.out) | exact HB.out)⟩⟩
    ·rw [if_neg c24] at H
     have c24b0 : decide (1024 < (wrap64 (a0_4 * a0_5))) = false := decide_eq_false c24
     clear c24
     replace H := Option.bind_eq_some_iff.mp H
     obtain ⟨t405, A280, H⟩ := H
     replace H : (imageeditorlaw16_FilterUniform.j0 k a0_6 l0_7 (t405 != 0) a0_0 a0_1 a0_2 a0_3 t398 t399 t400) = some r := H
     have A28 := Aside0.mk A280
     clear A280
     have H' := Aside0.mk H
     clear H
     have hnb29 := NB397_396.out
     have hnc29 := NB396_397.out
     have hnb30 := NB397_404.out
     have hnc30 := NB404_397.out
     have hcz31_0 := blk_cell BK397.out
     have hfz31_0 := blk_frozen BK397.out
     go_wp2_with (first | (go_at_call 10; (with_reducible refine (imageeditorref16_Check.calls k a0_6 _ _ l0_7 t405 _ ?side1 ?side2 A28.out).mono ?_); (case side1 => exact Kd.C_below HR0_7.out (by repeat (first | (with_reducible first | exact HB.out | apply below_alloc | apply pw_below_drewN | apply below_drew1 | refine below_set ?_ GE396.out | refine below_set ?_ GE397.out | refine below_set ?_ GE404.out) | exact HB.out))); (case side2 => exact HC0_7.out); rintro e w' ⟨rfl, ⟨nd, rfl⟩⟩))
     go_meet
     case rel => exact ⟨_, ((t405 != 0)), (by first | rfl | (simp; done) | (simp [*]; done)), H', ⟨by first | omega | exact Nat.le_refl _⟩, ⟨by (with_reducible repeat (first | apply Kd.R_alloc | apply Kd.R_drewN | apply Kd.R_drew)); exact Kd.R_mono (Kd.R_far (p := ⟨gb404, 2, none⟩) (Kd.R_far (p := ⟨gb404, 1, none⟩) (Kd.R_far (p := ⟨gb404, 0, none⟩) (Kd.R_types HO402.out BK404.out (by decide)) (fun _ hk => hk.2) (.int .i64 t398)) (fun _ hk => hk.2) (.int .i64 t399)) (fun _ hk => hk.2) (.slice Ao18 t400.length co18)) (fun _ hk => hk.1.2)⟩, ⟨by (with_reducible repeat (first | refine blk_drewN ?_ _ | refine blk_drew ?_ | refine blk_alloc ?_ _)); refine blk_far ?_ NB396_404.out _; (with_reducible repeat (first | refine blk_drewN ?_ _ | refine blk_drew ?_ | refine blk_alloc ?_ _)); refine blk_far ?_ NB396_404.out _; (with_reducible repeat (first | refine blk_drewN ?_ _ | refine blk_drew ?_ | refine blk_alloc ?_ _)); refine blk_far ?_ NB396_404.out _; (with_reducible repeat (first | refine blk_drewN ?_ _ | refine blk_drew ?_ | refine blk_alloc ?_ _)); exact BK396.out⟩, ⟨by (with_reducible repeat (first | refine blk_drewN ?_ _ | refine blk_drew ?_ | refine blk_alloc ?_ _)); refine blk_far ?_ NB397_404.out _; (with_reducible repeat (first | refine blk_drewN ?_ _ | refine blk_drew ?_ | refine blk_alloc ?_ _)); refine blk_far ?_ NB397_404.out _; (with_reducible repeat (first | refine blk_drewN ?_ _ | refine blk_drew ?_ | refine blk_alloc ?_ _)); refine blk_far ?_ NB397_404.out _; (with_reducible repeat (first | refine blk_drewN ?_ _ | refine blk_drew ?_ | refine blk_alloc ?_ _)); exact BK397.out⟩, ⟨by (with_reducible repeat (first | refine blk_drewN ?_ _ | refine blk_drew ?_ | refine blk_alloc ?_ _)); refine blk_put (cs := #[.int .i64 t398, .int .i64 t399, .slice none 0 0]) ?_ 2 _ rfl; (with_reducible repeat (first | refine blk_drewN ?_ _ | refine blk_drew ?_ | refine blk_alloc ?_ _)); refine blk_put (cs := #[.int .i64 t398, .int .i64 0, .slice none 0 0]) ?_ 1 _ rfl; (with_reducible repeat (first | refine blk_drewN ?_ _ | refine blk_drew ?_ | refine blk_alloc ?_ _)); refine blk_put (cs := #[.int .i64 0, .int .i64 0, .slice none 0 0]) ?_ 0 _ rfl; (with_reducible repeat (first | refine blk_drewN ?_ _ | refine blk_drew ?_ | refine blk_alloc ?_ _)); exact BK404.out⟩, ⟨by repeat (first | (with_reducible first | exact HB.out | apply below_alloc | apply pw_below_drewN | apply below_drew1 | refine below_set ?_ GE396.out | refine below_set ?_ GE397.out | refine below_set ?_ GE404.out) | exact HB.out)⟩⟩
  ·rw [if_neg c19] at H
   have c19b0 : (t403 == 0) = false := beq_eq_false_iff_ne.mpr c19
   have c19b1 : (t403 != 0) = true := bne_iff_ne.mpr c19
   (first | rw [c19b0] | (simp only [i64_w, i32_w]; rw [c19b0]) | skip)
   have H' := Aside0.mk H
   clear H
   go_wp2
   go_meet
   case rel => exact ⟨_, (true), (by first | rfl | (simp; done) | (simp [*]; done)), H', ⟨by first | omega | exact Nat.le_refl _⟩, ⟨by (with_reducible repeat (first | apply Kd.R_alloc | apply Kd.R_drewN | apply Kd.R_drew)); exact Kd.R_mono (Kd.R_far (p := ⟨gb404, 2, none⟩) (Kd.R_far (p := ⟨gb404, 1, none⟩) (Kd.R_far (p := ⟨gb404, 0, none⟩) (Kd.R_types HO402.out BK404.out (by decide)) (fun _ hk => hk.2) (.int .i64 t398)) (fun _ hk => hk.2) (.int .i64 t399)) (fun _ hk => hk.2) (.slice Ao18 t400.length co18)) (fun _ hk => hk.1.2)⟩, ⟨by (with_reducible repeat (first | refine blk_drewN ?_ _ | refine blk_drew ?_ | refine blk_alloc ?_ _)); refine blk_far ?_ NB396_404.out _; (with_reducible repeat (first | refine blk_drewN ?_ _ | refine blk_drew ?_ | refine blk_alloc ?_ _)); refine blk_far ?_ NB396_404.out _; (with_reducible repeat (first | refine blk_drewN ?_ _ | refine blk_drew ?_ | refine blk_alloc ?_ _)); refine blk_far ?_ NB396_404.out _; (with_reducible repeat (first | refine blk_drewN ?_ _ | refine blk_drew ?_ | refine blk_alloc ?_ _)); exact BK396.out⟩, ⟨by (with_reducible repeat (first | refine blk_drewN ?_ _ | refine blk_drew ?_ | refine blk_alloc ?_ _)); refine blk_far ?_ NB397_404.out _; (with_reducible repeat (first | refine blk_drewN ?_ _ | refine blk_drew ?_ | refine blk_alloc ?_ _)); refine blk_far ?_ NB397_404.out _; (with_reducible repeat (first | refine blk_drewN ?_ _ | refine blk_drew ?_ | refine blk_alloc ?_ _)); refine blk_far ?_ NB397_404.out _; (with_reducible repeat (first | refine blk_drewN ?_ _ | refine blk_drew ?_ | refine blk_alloc ?_ _)); exact BK397.out⟩, ⟨by (with_reducible repeat (first | refine blk_drewN ?_ _ | refine blk_drew ?_ | refine blk_alloc ?_ _)); refine blk_put (cs := #[.int .i64 t398, .int .i64 t399, .slice none 0 0]) ?_ 2 _ rfl; (with_reducible repeat (first | refine blk_drewN ?_ _ | refine blk_drew ?_ | refine blk_alloc ?_ _)); refine blk_put (cs := #[.int .i64 t398, .int .i64 0, .slice none 0 0]) ?_ 1 _ rfl; (with_reducible repeat (first | refine blk_drewN ?_ _ | refine blk_drew ?_ | refine blk_alloc ?_ _)); refine blk_put (cs := #[.int .i64 0, .int .i64 0, .slice none 0 0]) ?_ 0 _ rfl; (with_reducible repeat (first | refine blk_drewN ?_ _ | refine blk_drew ?_ | refine blk_alloc ?_ _)); exact BK404.out⟩, ⟨by repeat (first | (with_reducible first | exact HB.out | apply below_alloc | apply pw_below_drewN | apply below_drew1 | refine below_set ?_ GE396.out | refine below_set ?_ GE397.out | refine below_set ?_ GE404.out) | exact HB.out)⟩⟩
 case rest =>
  clear HC3
  try clear c1
  try clear c2
  try clear p2
  try clear c3
  try clear c5
  try clear p6
  try clear c11
  try clear c15
  try clear c16
  try clear c19
  try clear c19b0
  try clear c19b1
  try clear c20
  try clear c20b0
  try clear c20b1
  try clear c21
  try clear c22
  try clear c24
  try clear c24b0
  try clear c25
  try clear c26
  try clear c29
  try clear c30
  try clear hcz12_0
  try clear hcz12_1
  try clear hcz12_2
  try clear hcz12_3
  try clear hcz17_0
  try clear hcz17_1
  try clear hcz17_2
  try clear hcz23_0
  try clear hcz23_1
  try clear hcz23_2
  try clear hcz23_3
  try clear hcz27_0
  try clear hcz27_1
  try clear hcz27_2
  try clear hcz27_3
  try clear hcz31_0
  try clear hcz31_1
  try clear hcz31_2
  try clear hcz31_3
  try clear hfz12_0
  try clear hfz12_1
  try clear hfz12_2
  try clear hfz12_3
  try clear hfz17_0
  try clear hfz17_1
  try clear hfz17_2
  try clear hfz23_0
  try clear hfz23_1
  try clear hfz23_2
  try clear hfz23_3
  try clear hfz27_0
  try clear hfz27_1
  try clear hfz27_2
  try clear hfz27_3
  try clear hfz31_0
  try clear hfz31_1
  try clear hfz31_2
  try clear hfz31_3
  obtain ⟨kq, x47_2, rfl, HA, HJ2, HO_405002, BK396, BK397, BK404, HB⟩ := hcut
  cases kq with
  | zero => exact absurd HA.out (by simp [imageeditorlaw16_FilterUniform.j0])
  | succ kj2 =>
   have H := HA.out
   clear HA
   simp only [imageeditorlaw16_FilterUniform.j0] at H
   by_cases c32 : x47_2 = true
   ·subst c32
    have H1 : (some true) = some r := by rw [if_pos rfl] at H; exact H
    clear H
    have H := H1
    clear H1
    obtain rfl := Option.some.inj H
    go_wp2
    go_ret
    exact ⟨by first | rfl | (simp [errW_none, errW_some] <;> rfl) | (simp [*, errW_none, errW_some] <;> rfl), by exact beX HB.out⟩
   ·replace c32 := Bool.eq_false_iff.mpr c32
    subst c32
    have H1 : ((filter_Whole.f kj2 t398 t399 t400 a0_6 l0_7).bind fun bt406 => (if bt406.2.2.2 = 0 then (imageeditorlaw16_FilterUniform.j1 kj2 a0_6 ((bt406.2.2.1.length : Int) != (t400.length : Int)) a0_0 a0_1 a0_2 a0_3 bt406.1 bt406.2.1 bt406.2.2.1) else (imageeditorlaw16_FilterUniform.j1 kj2 a0_6 true a0_0 a0_1 a0_2 a0_3 bt406.1 bt406.2.1 bt406.2.2.1))) = some r := by rw [if_neg (show ¬ (false = true) by decide)] at H; exact H
    clear H
    have H := H1
    clear H1
    replace H := Option.bind_eq_some_iff.mp H
    obtain ⟨⟨t406, t407, t408, t411⟩, A330, H⟩ := H
    replace H : (if t411 = 0 then (imageeditorlaw16_FilterUniform.j1 kj2 a0_6 ((t408.length : Int) != (t400.length : Int)) a0_0 a0_1 a0_2 a0_3 t406 t407 t408) else (imageeditorlaw16_FilterUniform.j1 kj2 a0_6 true a0_0 a0_1 a0_2 a0_3 t406 t407 t408)) = some r := H
    have A33 := Aside0.mk A330
    clear A330
    have HC34 := Aside0.mk H
    clear H
    have hnb35 := NB404_396.out
    have hnc35 := NB396_404.out
    have hnb36 := NB404_397.out
    have hnc36 := NB397_404.out
    have hcz37_0 := blk_cell BK404.out
    have hfz37_0 := blk_frozen BK404.out
    go_upto_region 6 with (first | ((with_reducible refine gate_callee (f := 18) rfl ?_); refine goesL_ (some 52) rfl rfl Try.func18 (by kernel_rfl) rfl #[.agg #[.int .i64 t398, .int .i64 t399, .slice Ao18 t400.length co18], .int .i64 a0_6, .slice A0_7 l0_7.length c0_7] rfl (by (try simp only [List.map_toArray, List.map_cons, List.map_nil]); first | done | rfl | (simp only [List.length_drop, List.length_take]; rfl)) ?_; (with_reducible refine (filter_Whole.calls kj2 t398 t399 _ _ t400 a0_6 _ _ l0_7 t406 t407 t408 t411 _ ?side1 ?side2 ?side3 ?side4 A33.out).mono ?_); (case side1 => repeat (first | exact (Kd.R_reads' HO_405002.out).2.2 | (with_reducible refine Kd.C_alloc ?_ _) | (with_reducible refine Kd.C_drewN ?_ _) | (with_reducible refine Kd.C_drew ?_))); (case side2 => exact (Kd.R_reads' HO_405002.out).2.1); (case side3 => repeat (first | exact (Kd.C_below HR0_7.out HB.out) | (with_reducible refine Kd.C_alloc ?_ _) | (with_reducible refine Kd.C_drewN ?_ _) | (with_reducible refine Kd.C_drew ?_))); (case side4 => exact HC0_7.out); rintro e w38 ⟨v409, rfl, ho0, hb⟩; refine ⟨_, rfl, ?_⟩; have HO410 := am (Kd.R_lower (Kd.R_newB (Kd.R_new' ho0 (Kd.R_lt (rX HO_405002.out))) (bX BK397.out)) (below_size (beX HB.out))); replace HO_405002 := am (Kd.R_elder' (rX HO_405002.out) (Kd.R_base ho0) hb); replace BK396 := am (blk_below (bX BK396.out) hb); replace BK397 := am (blk_below (bX BK397.out) hb); replace BK404 := am (blk_below (bX BK404.out) hb); replace HB := am (below_step (beX HB.out) hb); (try clear hb); (try clear hb2); (try clear hk); (try clear hi); (try clear ho0)) | ((with_reducible refine gate_dst (N := 10) rfl ?_); (try (refine gate_guard (by rfl) ?_; dsimp only)); refine box_event ?hg (N := 10) ?hd (cs := #[.int .i64 0, .int .i64 0, .slice none 0 0]) (t := 36) ?hr ?_; (case hd => rfl); (case hg => rfl); (case hr => first | (go_simp; done) | (go_simp; rfl)); intro gb412 hg w39 hbox hb; have BK412 := am (hbox); have GW412 := am ((by rw [hg]; exact (below_size (beX HB.out)) : w.heap.size ≤ gb412)); have GE412 := am ((by rw [hg]; exact (below_size (beX HB.out)) : w.heap.size ≤ gb412)); have NB396_412 := am ((by rw [hg]; exact Nat.ne_of_lt (blk_lt (bX BK396.out)) : gb396 ≠ gb412)); have NB412_396 := am ((by rw [hg]; exact Nat.ne_of_gt (blk_lt (bX BK396.out)) : gb412 ≠ gb396)); have NB397_412 := am ((by rw [hg]; exact Nat.ne_of_lt (blk_lt (bX BK397.out)) : gb397 ≠ gb412)); have NB412_397 := am ((by rw [hg]; exact Nat.ne_of_gt (blk_lt (bX BK397.out)) : gb412 ≠ gb397)); have NB404_412 := am ((by rw [hg]; exact Nat.ne_of_lt (blk_lt (bX BK404.out)) : gb404 ≠ gb412)); have NB412_404 := am ((by rw [hg]; exact Nat.ne_of_gt (blk_lt (bX BK404.out)) : gb412 ≠ gb404)); replace HO_405002 := am (Kd.R_below (rX HO_405002.out) hb); replace HO410 := am (Kd.R_below (rX HO410.out) hb); replace BK396 := am (blk_below (bX BK396.out) hb); replace BK397 := am (blk_below (bX BK397.out) hb); replace BK404 := am (blk_below (bX BK404.out) hb); replace HB := am (below_step (beX HB.out) hb); clear hb hbox hg; have hnb40 := NB412_396.out; have hnc40 := NB396_412.out; have hnb41 := NB412_397.out; have hnc41 := NB397_412.out; have hnb42 := NB412_404.out; have hnc42 := NB404_412.out; have hcz43_0 := blk_cell BK412.out; have hfz43_0 := blk_frozen BK412.out; obtain ⟨Ao44, co44, eo44⟩ := Kd.R_slice HO410.out; subst eo44))
    (try simp only [Act.put, List.setIfInBounds_toArray, List.set_cons_zero, List.set_cons_succ])
    go_cut [65] (fun v65 wc => ∃ (kq : Nat) (x65_33 : Bool), v65 = .bool x65_33 ∧ Aside0 (imageeditorlaw16_FilterUniform.j1 kq a0_6 x65_33 a0_0 a0_1 a0_2 a0_3 t406 t407 t408 = some r) ∧ Aside0 (kq ≤ kj2) ∧ Aside0 (Kd.R k51 51 wc w.heap.size (fun k_ => some k_ ≠ ((.slice Ao44 t408.length co44) : Value).ownBlock ∧ k_ ≠ gb397) (.slice Ao18 t400.length co18) t400) ∧ Aside0 (Kd.R k51 51 wc w.heap.size (fun k_ => some k_ ≠ ((.slice Ao18 t400.length co18) : Value).ownBlock ∧ k_ ≠ gb397) (.slice Ao44 t408.length co44) t408) ∧ Aside0 (wc.heap[gb396]? = some (.cells #[.int .i64 a0_0, .int .i64 a0_1, .int .i64 a0_2, .int .i64 a0_3, .int .i64 a0_4, .int .i64 a0_5, .int .i64 a0_6, (.slice A0_7 l0_7.length c0_7)] 53 (0, 0))) ∧ Aside0 (wc.heap[gb397]? = some (.cells #[.int .i64 a0_0, .int .i64 a0_1, .int .i64 a0_2, .int .i64 a0_3] 51 (0, 0))) ∧ Aside0 (wc.heap[gb404]? = some (.cells #[.int .i64 t398, .int .i64 t399, (.slice Ao18 t400.length co18)] 36 (0, 0))) ∧ Aside0 (wc.heap[gb412]? = some (.cells #[.int .i64 t406, .int .i64 t407, (.slice Ao44 t408.length co44)] 36 (0, 0))) ∧ Aside0 (Below w.heap.size w wc))
    case first =>
     have H := HC34.out
     clear HC34
     by_cases c45 : t411 = 0
     ·rw [if_pos c45] at H
      have c45b0 : (t411 == 0) = true := beq_iff_eq.mpr c45
      have c45b1 : (t411 != 0) = false := bne_eq_false_iff_eq.mpr c45
      clear c45
      (first | rw [c45b0] | (simp only [i64_w, i32_w]; rw [c45b0]) | skip)
      have H' := Aside0.mk H
      clear H
      have hnb46 := NB412_396.out
      have hnc46 := NB396_412.out
      have hnb47 := NB412_397.out
      have hnc47 := NB397_412.out
      have hnb48 := NB412_404.out
      have hnc48 := NB404_412.out
      have hcz49_0 := blk_cell BK412.out
      have hfz49_0 := blk_frozen BK412.out
      have hnb50 := NB404_396.out
      have hnc50 := NB396_404.out
      have hnb51 := NB404_397.out
      have hnc51 := NB397_404.out
      have hcz52_0 := blk_cell BK404.out
      have hfz52_0 := blk_frozen BK404.out
      go_wp2
      go_meet
      case rel => exact ⟨_, (((t408.length : Int) != (t400.length : Int))), (by first | rfl | (simp; done) | (simp [*]; done)), H', ⟨by have := HJ2.out; first | omega | exact Nat.le_refl _⟩, ⟨by (with_reducible repeat (first | apply Kd.R_alloc | apply Kd.R_drewN | apply Kd.R_drew)); exact Kd.R_mono (Kd.R_far (p := ⟨gb412, 2, none⟩) (Kd.R_far (p := ⟨gb412, 1, none⟩) (Kd.R_far (p := ⟨gb412, 0, none⟩) (Kd.R_types HO_405002.out BK412.out (by decide)) (fun _ hk => hk.2) (.int .i64 t406)) (fun _ hk => hk.2) (.int .i64 t407)) (fun _ hk => hk.2) (.slice Ao44 t408.length co44)) (fun _ hk => ⟨hk.1.2, hk.1.1⟩)⟩, ⟨by (with_reducible repeat (first | apply Kd.R_alloc | apply Kd.R_drewN | apply Kd.R_drew)); exact Kd.R_mono (Kd.R_far (p := ⟨gb412, 2, none⟩) (Kd.R_far (p := ⟨gb412, 1, none⟩) (Kd.R_far (p := ⟨gb412, 0, none⟩) (Kd.R_types HO410.out BK412.out (by decide)) (fun _ hk => hk.2) (.int .i64 t406)) (fun _ hk => hk.2) (.int .i64 t407)) (fun _ hk => hk.2) (.slice Ao44 t408.length co44)) (fun _ hk => ⟨hk.1.1.2, hk.1.2⟩)⟩, ⟨by (with_reducible repeat (first | refine blk_drewN ?_ _ | refine blk_drew ?_ | refine blk_alloc ?_ _)); refine blk_far ?_ NB396_412.out _; (with_reducible repeat (first | refine blk_drewN ?_ _ | refine blk_drew ?_ | refine blk_alloc ?_ _)); refine blk_far ?_ NB396_412.out _; (with_reducible repeat (first | refine blk_drewN ?_ _ | refine blk_drew ?_ | refine blk_alloc ?_ _)); refine blk_far ?_ NB396_412.out _; (with_reducible repeat (first | refine blk_drewN ?_ _ | refine blk_drew ?_ | refine blk_alloc ?_ _)); exact BK396.out⟩, ⟨by (with_reducible repeat (first | refine blk_drewN ?_ _ | refine blk_drew ?_ | refine blk_alloc ?_ _)); refine blk_far ?_ NB397_412.out _; (with_reducible repeat (first | refine blk_drewN ?_ _ | refine blk_drew ?_ | refine blk_alloc ?_ _)); refine blk_far ?_ NB397_412.out _; (with_reducible repeat (first | refine blk_drewN ?_ _ | refine blk_drew ?_ | refine blk_alloc ?_ _)); refine blk_far ?_ NB397_412.out _; (with_reducible repeat (first | refine blk_drewN ?_ _ | refine blk_drew ?_ | refine blk_alloc ?_ _)); exact BK397.out⟩, ⟨by (with_reducible repeat (first | refine blk_drewN ?_ _ | refine blk_drew ?_ | refine blk_alloc ?_ _)); refine blk_far ?_ NB404_412.out _; (with_reducible repeat (first | refine blk_drewN ?_ _ | refine blk_drew ?_ | refine blk_alloc ?_ _)); refine blk_far ?_ NB404_412.out _; (with_reducible repeat (first | refine blk_drewN ?_ _ | refine blk_drew ?_ | refine blk_alloc ?_ _)); refine blk_far ?_ NB404_412.out _; (with_reducible repeat (first | refine blk_drewN ?_ _ | refine blk_drew ?_ | refine blk_alloc ?_ _)); exact BK404.out⟩, ⟨by (with_reducible repeat (first | refine blk_drewN ?_ _ | refine blk_drew ?_ | refine blk_alloc ?_ _)); refine blk_put (cs := #[.int .i64 t406, .int .i64 t407, .slice none 0 0]) ?_ 2 _ rfl; (with_reducible repeat (first | refine blk_drewN ?_ _ | refine blk_drew ?_ | refine blk_alloc ?_ _)); refine blk_put (cs := #[.int .i64 t406, .int .i64 0, .slice none 0 0]) ?_ 1 _ rfl; (with_reducible repeat (first | refine blk_drewN ?_ _ | refine blk_drew ?_ | refine blk_alloc ?_ _)); refine blk_put (cs := #[.int .i64 0, .int .i64 0, .slice none 0 0]) ?_ 0 _ rfl; (with_reducible repeat (first | refine blk_drewN ?_ _ | refine blk_drew ?_ | refine blk_alloc ?_ _)); exact BK412.out⟩, ⟨by repeat (first | (with_reducible first | exact HB.out | apply below_alloc | apply pw_below_drewN | apply below_drew1 | refine below_set ?_ GE396.out | refine below_set ?_ GE397.out | refine below_set ?_ GE404.out | refine below_set ?_ GE412.out) | exact HB.out)⟩⟩
     ·rw [if_neg c45] at H
      have c45b0 : (t411 == 0) = false := beq_eq_false_iff_ne.mpr c45
      have c45b1 : (t411 != 0) = true := bne_iff_ne.mpr c45
      (first | rw [c45b0] | (simp only [i64_w, i32_w]; rw [c45b0]) | skip)
      have H' := Aside0.mk H
      clear H
      go_wp2
      go_meet
      case rel => exact ⟨_, (true), (by first | rfl | (simp; done) | (simp [*]; done)), H', ⟨by have := HJ2.out; first | omega | exact Nat.le_refl _⟩, ⟨by (with_reducible repeat (first | apply Kd.R_alloc | apply Kd.R_drewN | apply Kd.R_drew)); exact Kd.R_mono (Kd.R_far (p := ⟨gb412, 2, none⟩) (Kd.R_far (p := ⟨gb412, 1, none⟩) (Kd.R_far (p := ⟨gb412, 0, none⟩) (Kd.R_types HO_405002.out BK412.out (by decide)) (fun _ hk => hk.2) (.int .i64 t406)) (fun _ hk => hk.2) (.int .i64 t407)) (fun _ hk => hk.2) (.slice Ao44 t408.length co44)) (fun _ hk => ⟨hk.1.2, hk.1.1⟩)⟩, ⟨by (with_reducible repeat (first | apply Kd.R_alloc | apply Kd.R_drewN | apply Kd.R_drew)); exact Kd.R_mono (Kd.R_far (p := ⟨gb412, 2, none⟩) (Kd.R_far (p := ⟨gb412, 1, none⟩) (Kd.R_far (p := ⟨gb412, 0, none⟩) (Kd.R_types HO410.out BK412.out (by decide)) (fun _ hk => hk.2) (.int .i64 t406)) (fun _ hk => hk.2) (.int .i64 t407)) (fun _ hk => hk.2) (.slice Ao44 t408.length co44)) (fun _ hk => ⟨hk.1.1.2, hk.1.2⟩)⟩, ⟨by (with_reducible repeat (first | refine blk_drewN ?_ _ | refine blk_drew ?_ | refine blk_alloc ?_ _)); refine blk_far ?_ NB396_412.out _; (with_reducible repeat (first | refine blk_drewN ?_ _ | refine blk_drew ?_ | refine blk_alloc ?_ _)); refine blk_far ?_ NB396_412.out _; (with_reducible repeat (first | refine blk_drewN ?_ _ | refine blk_drew ?_ | refine blk_alloc ?_ _)); refine blk_far ?_ NB396_412.out _; (with_reducible repeat (first | refine blk_drewN ?_ _ | refine blk_drew ?_ | refine blk_alloc ?_ _)); exact BK396.out⟩, ⟨by (with_reducible repeat (first | refine blk_drewN ?_ _ | refine blk_drew ?_ | refine blk_alloc ?_ _)); refine blk_far ?_ NB397_412.out _; (with_reducible repeat (first | refine blk_drewN ?_ _ | refine blk_drew ?_ | refine blk_alloc ?_ _)); refine blk_far ?_ NB397_412.out _; (with_reducible repeat (first | refine blk_drewN ?_ _ | refine blk_drew ?_ | refine blk_alloc ?_ _)); refine blk_far ?_ NB397_412.out _; (with_reducible repeat (first | refine blk_drewN ?_ _ | refine blk_drew ?_ | refine blk_alloc ?_ _)); exact BK397.out⟩, ⟨by (with_reducible repeat (first | refine blk_drewN ?_ _ | refine blk_drew ?_ | refine blk_alloc ?_ _)); refine blk_far ?_ NB404_412.out _; (with_reducible repeat (first | refine blk_drewN ?_ _ | refine blk_drew ?_ | refine blk_alloc ?_ _)); refine blk_far ?_ NB404_412.out _; (with_reducible repeat (first | refine blk_drewN ?_ _ | refine blk_drew ?_ | refine blk_alloc ?_ _)); refine blk_far ?_ NB404_412.out _; (with_reducible repeat (first | refine blk_drewN ?_ _ | refine blk_drew ?_ | refine blk_alloc ?_ _)); exact BK404.out⟩, ⟨by (with_reducible repeat (first | refine blk_drewN ?_ _ | refine blk_drew ?_ | refine blk_alloc ?_ _)); refine blk_put (cs := #[.int .i64 t406, .int .i64 t407, .slice none 0 0]) ?_ 2 _ rfl; (with_reducible repeat (first | refine blk_drewN ?_ _ | refine blk_drew ?_ | refine blk_alloc ?_ _)); refine blk_put (cs := #[.int .i64 t406, .int .i64 0, .slice none 0 0]) ?_ 1 _ rfl; (with_reducible repeat (first | refine blk_drewN ?_ _ | refine blk_drew ?_ | refine blk_alloc ?_ _)); refine blk_put (cs := #[.int .i64 0, .int .i64 0, .slice none 0 0]) ?_ 0 _ rfl; (with_reducible repeat (first | refine blk_drewN ?_ _ | refine blk_drew ?_ | refine blk_alloc ?_ _)); exact BK412.out⟩, ⟨by repeat (first | (with_reducible first | exact HB.out | apply below_alloc | apply pw_below_drewN | apply below_drew1 | refine below_set ?_ GE396.out | refine below_set ?_ GE397.out | refine below_set ?_ GE404.out | refine below_set ?_ GE412.out) | exact HB.out)⟩⟩
    case rest =>
     clear HC34
     try clear c1
     try clear c2
     try clear p2
     try clear c3
     try clear c4
     try clear c5
     try clear p6
     try clear c11
     try clear c15
     try clear c16
     try clear c18
     try clear c19
     try clear c19b0
     try clear c19b1
     try clear c20
     try clear c20b0
     try clear c20b1
     try clear c21
     try clear c22
     try clear c24
     try clear c24b0
     try clear c25
     try clear c26
     try clear c29
     try clear c30
     try clear c32
     try clear c35
     try clear c36
     try clear c40
     try clear c41
     try clear c42
     try clear c45
     try clear c45b0
     try clear c45b1
     try clear c46
     try clear c47
     try clear c48
     try clear c50
     try clear c51
     try clear hcz12_0
     try clear hcz12_1
     try clear hcz12_2
     try clear hcz12_3
     try clear hcz17_0
     try clear hcz17_1
     try clear hcz17_2
     try clear hcz23_0
     try clear hcz23_1
     try clear hcz23_2
     try clear hcz23_3
     try clear hcz27_0
     try clear hcz27_1
     try clear hcz27_2
     try clear hcz27_3
     try clear hcz31_0
     try clear hcz31_1
     try clear hcz31_2
     try clear hcz31_3
     try clear hcz37_0
     try clear hcz37_1
     try clear hcz37_2
     try clear hcz43_0
     try clear hcz43_1
     try clear hcz43_2
     try clear hcz49_0
     try clear hcz49_1
     try clear hcz49_2
     try clear hcz52_0
     try clear hcz52_1
     try clear hcz52_2
     try clear hfz12_0
     try clear hfz12_1
     try clear hfz12_2
     try clear hfz12_3
     try clear hfz17_0
     try clear hfz17_1
     try clear hfz17_2
     try clear hfz23_0
     try clear hfz23_1
     try clear hfz23_2
     try clear hfz23_3
     try clear hfz27_0
     try clear hfz27_1
     try clear hfz27_2
     try clear hfz27_3
     try clear hfz31_0
     try clear hfz31_1
     try clear hfz31_2
     try clear hfz31_3
     try clear hfz37_0
     try clear hfz37_1
     try clear hfz37_2
     try clear hfz43_0
     try clear hfz43_1
     try clear hfz43_2
     try clear hfz49_0
     try clear hfz49_1
     try clear hfz49_2
     try clear hfz52_0
     try clear hfz52_1
     try clear hfz52_2
     try clear p2
     try clear p6
     obtain ⟨kq, x65_33, rfl, HA, HJ33, HO_405002, HO_413002, BK396, BK397, BK404, BK412, HB⟩ := hcut
     cases kq with
     | zero => exact absurd HA.out (by simp [imageeditorlaw16_FilterUniform.j1])
     | succ kj33 =>
      have H := HA.out
      clear HA
      simp only [imageeditorlaw16_FilterUniform.j1] at H
      by_cases c53 : x65_33 = true
      ·subst c53
       have H1 : (some false) = some r := by rw [if_pos rfl] at H; exact H
       clear H
       have H := H1
       clear H1
       obtain rfl := Option.some.inj H
       go_wp2
       go_ret
       exact ⟨by first | rfl | (simp [errW_none, errW_some] <;> rfl) | (simp [*, errW_none, errW_some] <;> rfl), by exact beX HB.out⟩
      ·replace c53 := Bool.eq_false_iff.mpr c53
       subst c53
       have H1 : (if a0_6 = 5 then (imageeditorlaw16_FilterUniform.j2 kj33 a0_6 0 0 0 a0_3 t406 t407 t408) else (imageeditorlaw16_FilterUniform.j2 kj33 a0_6 a0_0 a0_1 a0_2 a0_3 t406 t407 t408)) = some r := by rw [if_neg (show ¬ (false = true) by decide)] at H; exact H
       clear H
       have H := H1
       clear H1
       have HC54 := Aside0.mk H
       clear H
       go_upto_if 67 with (fail)
       go_cut [] (fun wc => ∃ (kq : Nat) (x398000_53 : Int) (x398001_53 : Int) (x398002_53 : Int), Aside0 (imageeditorlaw16_FilterUniform.j2 kq a0_6 x398000_53 x398001_53 x398002_53 a0_3 t406 t407 t408 = some r) ∧ Aside0 (kq ≤ kj33) ∧ Aside0 (Kd.R k51 51 wc w.heap.size (fun k_ => some k_ ≠ ((.slice Ao44 t408.length co44) : Value).ownBlock ∧ k_ ≠ gb397) (.slice Ao18 t400.length co18) t400) ∧ Aside0 (Kd.R k51 51 wc w.heap.size (fun k_ => some k_ ≠ ((.slice Ao18 t400.length co18) : Value).ownBlock ∧ k_ ≠ gb397) (.slice Ao44 t408.length co44) t408) ∧ Aside0 (wc.heap[gb396]? = some (.cells #[.int .i64 a0_0, .int .i64 a0_1, .int .i64 a0_2, .int .i64 a0_3, .int .i64 a0_4, .int .i64 a0_5, .int .i64 a0_6, (.slice A0_7 l0_7.length c0_7)] 53 (0, 0))) ∧ Aside0 (wc.heap[gb397]? = some (.cells #[.int .i64 x398000_53, .int .i64 x398001_53, .int .i64 x398002_53, .int .i64 a0_3] 51 (0, 0))) ∧ Aside0 (wc.heap[gb404]? = some (.cells #[.int .i64 t398, .int .i64 t399, (.slice Ao18 t400.length co18)] 36 (0, 0))) ∧ Aside0 (wc.heap[gb412]? = some (.cells #[.int .i64 t406, .int .i64 t407, (.slice Ao44 t408.length co44)] 36 (0, 0))) ∧ Aside0 (Below w.heap.size w wc))
       case first =>
        have H := HC54.out
        clear HC54
        by_cases c55 : a0_6 = 5
        ·rw [if_pos c55] at H
         have c55b0 : (a0_6 == 5) = true := beq_iff_eq.mpr c55
         have c55b1 : (a0_6 != 5) = false := bne_eq_false_iff_eq.mpr c55
         clear c55
         (first | rw [c55b0] | (simp only [i64_w, i32_w]; rw [c55b0]) | skip)
         have H' := Aside0.mk H
         clear H
         have hnb56 := NB397_396.out
         have hnc56 := NB396_397.out
         have hnb57 := NB397_404.out
         have hnc57 := NB404_397.out
         have hnb58 := NB397_412.out
         have hnc58 := NB412_397.out
         have hcz59_0 := blk_cell BK397.out
         have hfz59_0 := blk_frozen BK397.out
         go_wp2
         go_meet
         case rel => exact ⟨_, (0), (0), (0), H', ⟨by have := HJ2.out; have := HJ33.out; first | omega | exact Nat.le_refl _⟩, ⟨by (with_reducible repeat (first | apply Kd.R_alloc | apply Kd.R_drewN | apply Kd.R_drew)); exact Kd.R_mono (Kd.R_far (p := ⟨gb397, 2, none⟩) (Kd.R_far (p := ⟨gb397, 1, none⟩) (Kd.R_far (p := ⟨gb397, 0, none⟩) (Kd.R_mono HO_405002.out (fun k_ hk => (⟨hk, hk.2⟩ : _ ∧ k_ ≠ gb397))) (fun _ hk => hk.2) (.int .i64 0)) (fun _ hk => hk.2) (.int .i64 0)) (fun _ hk => hk.2) (.int .i64 0)) (fun _ hk => ⟨hk.1.1, hk.1.2⟩)⟩, ⟨by (with_reducible repeat (first | apply Kd.R_alloc | apply Kd.R_drewN | apply Kd.R_drew)); exact Kd.R_mono (Kd.R_far (p := ⟨gb397, 2, none⟩) (Kd.R_far (p := ⟨gb397, 1, none⟩) (Kd.R_far (p := ⟨gb397, 0, none⟩) (Kd.R_mono HO_413002.out (fun k_ hk => (⟨hk, hk.2⟩ : _ ∧ k_ ≠ gb397))) (fun _ hk => hk.2) (.int .i64 0)) (fun _ hk => hk.2) (.int .i64 0)) (fun _ hk => hk.2) (.int .i64 0)) (fun _ hk => ⟨hk.1.1, hk.1.2⟩)⟩, ⟨by (with_reducible repeat (first | refine blk_drewN ?_ _ | refine blk_drew ?_ | refine blk_alloc ?_ _)); refine blk_far ?_ NB396_397.out _; (with_reducible repeat (first | refine blk_drewN ?_ _ | refine blk_drew ?_ | refine blk_alloc ?_ _)); refine blk_far ?_ NB396_397.out _; (with_reducible repeat (first | refine blk_drewN ?_ _ | refine blk_drew ?_ | refine blk_alloc ?_ _)); refine blk_far ?_ NB396_397.out _; (with_reducible repeat (first | refine blk_drewN ?_ _ | refine blk_drew ?_ | refine blk_alloc ?_ _)); exact BK396.out⟩, ⟨by (with_reducible repeat (first | refine blk_drewN ?_ _ | refine blk_drew ?_ | refine blk_alloc ?_ _)); refine blk_put (cs := #[.int .i64 0, .int .i64 0, .int .i64 a0_2, .int .i64 a0_3]) ?_ 2 _ rfl; (with_reducible repeat (first | refine blk_drewN ?_ _ | refine blk_drew ?_ | refine blk_alloc ?_ _)); refine blk_put (cs := #[.int .i64 0, .int .i64 a0_1, .int .i64 a0_2, .int .i64 a0_3]) ?_ 1 _ rfl; (with_reducible repeat (first | refine blk_drewN ?_ _ | refine blk_drew ?_ | refine blk_alloc ?_ _)); refine blk_put (cs := #[.int .i64 a0_0, .int .i64 a0_1, .int .i64 a0_2, .int .i64 a0_3]) ?_ 0 _ rfl; (with_reducible repeat (first | refine blk_drewN ?_ _ | refine blk_drew ?_ | refine blk_alloc ?_ _)); exact BK397.out⟩, ⟨by (with_reducible repeat (first | refine blk_drewN ?_ _ | refine blk_drew ?_ | refine blk_alloc ?_ _)); refine blk_far ?_ NB404_397.out _; (with_reducible repeat (first | refine blk_drewN ?_ _ | refine blk_drew ?_ | refine blk_alloc ?_ _)); refine blk_far ?_ NB404_397.out _; (with_reducible repeat (first | refine blk_drewN ?_ _ | refine blk_drew ?_ | refine blk_alloc ?_ _)); refine blk_far ?_ NB404_397.out _; (with_reducible repeat (first | refine blk_drewN ?_ _ | refine blk_drew ?_ | refine blk_alloc ?_ _)); exact BK404.out⟩, ⟨by (with_reducible repeat (first | refine blk_drewN ?_ _ | refine blk_drew ?_ | refine blk_alloc ?_ _)); refine blk_far ?_ NB412_397.out _; (with_reducible repeat (first | refine blk_drewN ?_ _ | refine blk_drew ?_ | refine blk_alloc ?_ _)); refine blk_far ?_ NB412_397.out _; (with_reducible repeat (first | refine blk_drewN ?_ _ | refine blk_drew ?_ | refine blk_alloc ?_ _)); refine blk_far ?_ NB412_397.out _; (with_reducible repeat (first | refine blk_drewN ?_ _ | refine blk_drew ?_ | refine blk_alloc ?_ _)); exact BK412.out⟩, ⟨by repeat (first | (with_reducible first | exact HB.out | apply below_alloc | apply pw_below_drewN | apply below_drew1 | refine below_set ?_ GE396.out | refine below_set ?_ GE397.out | refine below_set ?_ GE404.out | refine below_set ?_ GE412.out) | exact HB.out)⟩⟩
        ·rw [if_neg c55] at H
         have c55b0 : (a0_6 == 5) = false := beq_eq_false_iff_ne.mpr c55
         have c55b1 : (a0_6 != 5) = true := bne_iff_ne.mpr c55
         (first | rw [c55b0] | (simp only [i64_w, i32_w]; rw [c55b0]) | skip)
         have H' := Aside0.mk H
         clear H
         go_wp2
         go_meet
         case rel => exact ⟨_, (a0_0), (a0_1), (a0_2), H', ⟨by have := HJ2.out; have := HJ33.out; first | omega | exact Nat.le_refl _⟩, ⟨rX HO_405002.out⟩, ⟨rX HO_413002.out⟩, ⟨bX BK396.out⟩, ⟨bX BK397.out⟩, ⟨bX BK404.out⟩, ⟨bX BK412.out⟩, ⟨beX HB.out⟩⟩
       case rest =>
        clear HC54
        try clear c1
        try clear c2
        try clear p2
        try clear c3
        try clear c4
        try clear c5
        try clear p6
        try clear c11
        try clear c15
        try clear c16
        try clear c18
        try clear c19
        try clear c19b0
        try clear c19b1
        try clear c20
        try clear c20b0
        try clear c20b1
        try clear c21
        try clear c22
        try clear c24
        try clear c24b0
        try clear c25
        try clear c26
        try clear c29
        try clear c30
        try clear c32
        try clear c35
        try clear c36
        try clear c40
        try clear c41
        try clear c42
        try clear c45
        try clear c45b0
        try clear c45b1
        try clear c46
        try clear c47
        try clear c48
        try clear c50
        try clear c51
        try clear c53
        try clear c55
        try clear c55b0
        try clear c55b1
        try clear c56
        try clear c57
        try clear c58
        try clear hcz12_0
        try clear hcz12_1
        try clear hcz12_2
        try clear hcz12_3
        try clear hcz17_0
        try clear hcz17_1
        try clear hcz17_2
        try clear hcz23_0
        try clear hcz23_1
        try clear hcz23_2
        try clear hcz23_3
        try clear hcz27_0
        try clear hcz27_1
        try clear hcz27_2
        try clear hcz27_3
        try clear hcz31_0
        try clear hcz31_1
        try clear hcz31_2
        try clear hcz31_3
        try clear hcz37_0
        try clear hcz37_1
        try clear hcz37_2
        try clear hcz43_0
        try clear hcz43_1
        try clear hcz43_2
        try clear hcz49_0
        try clear hcz49_1
        try clear hcz49_2
        try clear hcz52_0
        try clear hcz52_1
        try clear hcz52_2
        try clear hcz59_0
        try clear hcz59_1
        try clear hcz59_2
        try clear hcz59_3
        try clear hfz12_0
        try clear hfz12_1
        try clear hfz12_2
        try clear hfz12_3
        try clear hfz17_0
        try clear hfz17_1
        try clear hfz17_2
        try clear hfz23_0
        try clear hfz23_1
        try clear hfz23_2
        try clear hfz23_3
        try clear hfz27_0
        try clear hfz27_1
        try clear hfz27_2
        try clear hfz27_3
        try clear hfz31_0
        try clear hfz31_1
        try clear hfz31_2
        try clear hfz31_3
        try clear hfz37_0
        try clear hfz37_1
        try clear hfz37_2
        try clear hfz43_0
        try clear hfz43_1
        try clear hfz43_2
        try clear hfz49_0
        try clear hfz49_1
        try clear hfz49_2
        try clear hfz52_0
        try clear hfz52_1
        try clear hfz52_2
        try clear hfz59_0
        try clear hfz59_1
        try clear hfz59_2
        try clear hfz59_3
        try clear p2
        try clear p6
        obtain ⟨kq, x398000_53, x398001_53, x398002_53, HA, HJ53, HO_405002, HO_413002, BK396, BK397, BK404, BK412, HB⟩ := hcut
        cases kq with
        | zero => exact absurd HA.out (by simp [imageeditorlaw16_FilterUniform.j2])
        | succ kj53 =>
         have H := HA.out
         clear HA
         simp only [imageeditorlaw16_FilterUniform.j2] at H
         have HC60 := Aside0.mk H
         clear H
         go_upto_if 72 with (fail)
         go_cut [] (fun wc => ∃ (kq : Nat) (x398000_59 : Int) (x398001_59 : Int) (x398002_59 : Int), Aside0 (imageeditorlaw16_FilterUniform.j3 kq x398000_59 x398001_59 x398002_59 a0_3 t406 t407 t408 = some r) ∧ Aside0 (kq ≤ kj53) ∧ Aside0 (Kd.R k51 51 wc w.heap.size (fun k_ => some k_ ≠ ((.slice Ao44 t408.length co44) : Value).ownBlock ∧ k_ ≠ gb397) (.slice Ao18 t400.length co18) t400) ∧ Aside0 (Kd.R k51 51 wc w.heap.size (fun k_ => some k_ ≠ ((.slice Ao18 t400.length co18) : Value).ownBlock ∧ k_ ≠ gb397) (.slice Ao44 t408.length co44) t408) ∧ Aside0 (wc.heap[gb396]? = some (.cells #[.int .i64 a0_0, .int .i64 a0_1, .int .i64 a0_2, .int .i64 a0_3, .int .i64 a0_4, .int .i64 a0_5, .int .i64 a0_6, (.slice A0_7 l0_7.length c0_7)] 53 (0, 0))) ∧ Aside0 (wc.heap[gb397]? = some (.cells #[.int .i64 x398000_59, .int .i64 x398001_59, .int .i64 x398002_59, .int .i64 a0_3] 51 (0, 0))) ∧ Aside0 (wc.heap[gb404]? = some (.cells #[.int .i64 t398, .int .i64 t399, (.slice Ao18 t400.length co18)] 36 (0, 0))) ∧ Aside0 (wc.heap[gb412]? = some (.cells #[.int .i64 t406, .int .i64 t407, (.slice Ao44 t408.length co44)] 36 (0, 0))) ∧ Aside0 (Below w.heap.size w wc))
         case first =>
          have H := HC60.out
          clear HC60
          by_cases c61 : a0_6 = 6
          ·rw [if_pos c61] at H
           have c61b0 : (a0_6 == 6) = true := beq_iff_eq.mpr c61
           have c61b1 : (a0_6 != 6) = false := bne_eq_false_iff_eq.mpr c61
           clear c61
           (first | rw [c61b0] | (simp only [i64_w, i32_w]; rw [c61b0]) | skip)
           have H' := Aside0.mk H
           clear H
           have hnb62 := NB397_396.out
           have hnc62 := NB396_397.out
           have hnb63 := NB397_404.out
           have hnc63 := NB404_397.out
           have hnb64 := NB397_412.out
           have hnc64 := NB412_397.out
           have hcz65_0 := blk_cell BK397.out
           have hfz65_0 := blk_frozen BK397.out
           go_wp2
           go_meet
           case rel => exact ⟨_, (32768), (32768), (32768), H', ⟨by have := HJ2.out; have := HJ33.out; have := HJ53.out; first | omega | exact Nat.le_refl _⟩, ⟨by (with_reducible repeat (first | apply Kd.R_alloc | apply Kd.R_drewN | apply Kd.R_drew)); exact Kd.R_mono (Kd.R_far (p := ⟨gb397, 2, none⟩) (Kd.R_far (p := ⟨gb397, 1, none⟩) (Kd.R_far (p := ⟨gb397, 0, none⟩) (Kd.R_mono HO_405002.out (fun k_ hk => (⟨hk, hk.2⟩ : _ ∧ k_ ≠ gb397))) (fun _ hk => hk.2) (.int .i64 32768)) (fun _ hk => hk.2) (.int .i64 32768)) (fun _ hk => hk.2) (.int .i64 32768)) (fun _ hk => ⟨hk.1.1, hk.1.2⟩)⟩, ⟨by (with_reducible repeat (first | apply Kd.R_alloc | apply Kd.R_drewN | apply Kd.R_drew)); exact Kd.R_mono (Kd.R_far (p := ⟨gb397, 2, none⟩) (Kd.R_far (p := ⟨gb397, 1, none⟩) (Kd.R_far (p := ⟨gb397, 0, none⟩) (Kd.R_mono HO_413002.out (fun k_ hk => (⟨hk, hk.2⟩ : _ ∧ k_ ≠ gb397))) (fun _ hk => hk.2) (.int .i64 32768)) (fun _ hk => hk.2) (.int .i64 32768)) (fun _ hk => hk.2) (.int .i64 32768)) (fun _ hk => ⟨hk.1.1, hk.1.2⟩)⟩, ⟨by (with_reducible repeat (first | refine blk_drewN ?_ _ | refine blk_drew ?_ | refine blk_alloc ?_ _)); refine blk_far ?_ NB396_397.out _; (with_reducible repeat (first | refine blk_drewN ?_ _ | refine blk_drew ?_ | refine blk_alloc ?_ _)); refine blk_far ?_ NB396_397.out _; (with_reducible repeat (first | refine blk_drewN ?_ _ | refine blk_drew ?_ | refine blk_alloc ?_ _)); refine blk_far ?_ NB396_397.out _; (with_reducible repeat (first | refine blk_drewN ?_ _ | refine blk_drew ?_ | refine blk_alloc ?_ _)); exact BK396.out⟩, ⟨by (with_reducible repeat (first | refine blk_drewN ?_ _ | refine blk_drew ?_ | refine blk_alloc ?_ _)); refine blk_put (cs := #[.int .i64 32768, .int .i64 32768, .int .i64 x398002_53, .int .i64 a0_3]) ?_ 2 _ rfl; (with_reducible repeat (first | refine blk_drewN ?_ _ | refine blk_drew ?_ | refine blk_alloc ?_ _)); refine blk_put (cs := #[.int .i64 32768, .int .i64 x398001_53, .int .i64 x398002_53, .int .i64 a0_3]) ?_ 1 _ rfl; (with_reducible repeat (first | refine blk_drewN ?_ _ | refine blk_drew ?_ | refine blk_alloc ?_ _)); refine blk_put (cs := #[.int .i64 x398000_53, .int .i64 x398001_53, .int .i64 x398002_53, .int .i64 a0_3]) ?_ 0 _ rfl; (with_reducible repeat (first | refine blk_drewN ?_ _ | refine blk_drew ?_ | refine blk_alloc ?_ _)); exact BK397.out⟩, ⟨by (with_reducible repeat (first | refine blk_drewN ?_ _ | refine blk_drew ?_ | refine blk_alloc ?_ _)); refine blk_far ?_ NB404_397.out _; (with_reducible repeat (first | refine blk_drewN ?_ _ | refine blk_drew ?_ | refine blk_alloc ?_ _)); refine blk_far ?_ NB404_397.out _; (with_reducible repeat (first | refine blk_drewN ?_ _ | refine blk_drew ?_ | refine blk_alloc ?_ _)); refine blk_far ?_ NB404_397.out _; (with_reducible repeat (first | refine blk_drewN ?_ _ | refine blk_drew ?_ | refine blk_alloc ?_ _)); exact BK404.out⟩, ⟨by (with_reducible repeat (first | refine blk_drewN ?_ _ | refine blk_drew ?_ | refine blk_alloc ?_ _)); refine blk_far ?_ NB412_397.out _; (with_reducible repeat (first | refine blk_drewN ?_ _ | refine blk_drew ?_ | refine blk_alloc ?_ _)); refine blk_far ?_ NB412_397.out _; (with_reducible repeat (first | refine blk_drewN ?_ _ | refine blk_drew ?_ | refine blk_alloc ?_ _)); refine blk_far ?_ NB412_397.out _; (with_reducible repeat (first | refine blk_drewN ?_ _ | refine blk_drew ?_ | refine blk_alloc ?_ _)); exact BK412.out⟩, ⟨by repeat (first | (with_reducible first | exact HB.out | apply below_alloc | apply pw_below_drewN | apply below_drew1 | refine below_set ?_ GE396.out | refine below_set ?_ GE397.out | refine below_set ?_ GE404.out | refine below_set ?_ GE412.out) | exact HB.out)⟩⟩
          ·rw [if_neg c61] at H
           have c61b0 : (a0_6 == 6) = false := beq_eq_false_iff_ne.mpr c61
           have c61b1 : (a0_6 != 6) = true := bne_iff_ne.mpr c61
           (first | rw [c61b0] | (simp only [i64_w, i32_w]; rw [c61b0]) | skip)
           have H' := Aside0.mk H
           clear H
           go_wp2
           go_meet
           case rel => exact ⟨_, (x398000_53), (x398001_53), (x398002_53), H', ⟨by have := HJ2.out; have := HJ33.out; have := HJ53.out; first | omega | exact Nat.le_refl _⟩, ⟨rX HO_405002.out⟩, ⟨rX HO_413002.out⟩, ⟨bX BK396.out⟩, ⟨bX BK397.out⟩, ⟨bX BK404.out⟩, ⟨bX BK412.out⟩, ⟨beX HB.out⟩⟩
         case rest =>
          clear HC60
          try clear c1
          try clear c2
          try clear p2
          try clear c3
          try clear c4
          try clear c5
          try clear c6
          try clear p6
          try clear c11
          try clear c15
          try clear c16
          try clear c18
          try clear c19
          try clear c19b0
          try clear c19b1
          try clear c20
          try clear c20b0
          try clear c20b1
          try clear c21
          try clear c22
          try clear c24
          try clear c24b0
          try clear c25
          try clear c26
          try clear c29
          try clear c30
          try clear c32
          try clear c35
          try clear c36
          try clear c40
          try clear c41
          try clear c42
          try clear c45
          try clear c45b0
          try clear c45b1
          try clear c46
          try clear c47
          try clear c48
          try clear c50
          try clear c51
          try clear c53
          try clear c55
          try clear c55b0
          try clear c55b1
          try clear c56
          try clear c57
          try clear c58
          try clear c61
          try clear c61b0
          try clear c61b1
          try clear c62
          try clear c63
          try clear c64
          try clear p64
          try clear hcz12_0
          try clear hcz12_1
          try clear hcz12_2
          try clear hcz12_3
          try clear hcz17_0
          try clear hcz17_1
          try clear hcz17_2
          try clear hcz23_0
          try clear hcz23_1
          try clear hcz23_2
          try clear hcz23_3
          try clear hcz27_0
          try clear hcz27_1
          try clear hcz27_2
          try clear hcz27_3
          try clear hcz31_0
          try clear hcz31_1
          try clear hcz31_2
          try clear hcz31_3
          try clear hcz37_0
          try clear hcz37_1
          try clear hcz37_2
          try clear hcz43_0
          try clear hcz43_1
          try clear hcz43_2
          try clear hcz49_0
          try clear hcz49_1
          try clear hcz49_2
          try clear hcz52_0
          try clear hcz52_1
          try clear hcz52_2
          try clear hcz59_0
          try clear hcz59_1
          try clear hcz59_2
          try clear hcz59_3
          try clear hcz65_0
          try clear hcz65_1
          try clear hcz65_2
          try clear hcz65_3
          try clear hfz12_0
          try clear hfz12_1
          try clear hfz12_2
          try clear hfz12_3
          try clear hfz17_0
          try clear hfz17_1
          try clear hfz17_2
          try clear hfz23_0
          try clear hfz23_1
          try clear hfz23_2
          try clear hfz23_3
          try clear hfz27_0
          try clear hfz27_1
          try clear hfz27_2
          try clear hfz27_3
          try clear hfz31_0
          try clear hfz31_1
          try clear hfz31_2
          try clear hfz31_3
          try clear hfz37_0
          try clear hfz37_1
          try clear hfz37_2
          try clear hfz43_0
          try clear hfz43_1
          try clear hfz43_2
          try clear hfz49_0
          try clear hfz49_1
          try clear hfz49_2
          try clear hfz52_0
          try clear hfz52_1
          try clear hfz52_2
          try clear hfz59_0
          try clear hfz59_1
          try clear hfz59_2
          try clear hfz59_3
          try clear hfz65_0
          try clear hfz65_1
          try clear hfz65_2
          try clear hfz65_3
          try clear p2
          try clear p6
          obtain ⟨kq, x398000_59, x398001_59, x398002_59, HA, HJ59, HO_405002, HO_413002, BK396, BK397, BK404, BK412, HB⟩ := hcut
          cases kq with
          | zero => exact absurd HA.out (by simp [imageeditorlaw16_FilterUniform.j3])
          | succ kj59 =>
           have H := HA.out
           clear HA
           simp only [imageeditorlaw16_FilterUniform.j3] at H
           have H' := Aside0.mk H
           clear H
           go_wp2
           go_loopg [11] kj59 (fun kq v11 w' => ∃ (x11_5 : Int), v11 = .int .i64 x11_5 ∧ Aside0 (imageeditorlaw16_FilterUniform.l0 kq x11_5 x398000_59 x398001_59 x398002_59 a0_3 t406 t407 t408 = some r) ∧ Aside0 (kq ≤ kj59) ∧ Aside0 (Kd.R k51 51 w' w.heap.size (fun k_ => some k_ ≠ ((.slice Ao44 t408.length co44) : Value).ownBlock ∧ k_ ≠ gb397) (.slice Ao18 t400.length co18) t400) ∧ Aside0 (Kd.R k51 51 w' w.heap.size (fun k_ => some k_ ≠ ((.slice Ao18 t400.length co18) : Value).ownBlock ∧ k_ ≠ gb397) (.slice Ao44 t408.length co44) t408) ∧ Aside0 (w'.heap[gb396]? = some (.cells #[.int .i64 a0_0, .int .i64 a0_1, .int .i64 a0_2, .int .i64 a0_3, .int .i64 a0_4, .int .i64 a0_5, .int .i64 a0_6, (.slice A0_7 l0_7.length c0_7)] 53 (0, 0))) ∧ Aside0 (w'.heap[gb397]? = some (.cells #[.int .i64 x398000_59, .int .i64 x398001_59, .int .i64 x398002_59, .int .i64 a0_3] 51 (0, 0))) ∧ Aside0 (w'.heap[gb404]? = some (.cells #[.int .i64 t398, .int .i64 t399, (.slice Ao18 t400.length co18)] 36 (0, 0))) ∧ Aside0 (w'.heap[gb412]? = some (.cells #[.int .i64 t406, .int .i64 t407, (.slice Ao44 t408.length co44)] 36 (0, 0))) ∧ Aside0 (Below w.heap.size w w'))
           case atStart => exact ⟨(0), (by first | rfl | (simp; done) | (simp [*]; done)), H', ⟨Nat.le_refl _⟩, ⟨rX HO_405002.out⟩, ⟨rX HO_413002.out⟩, ⟨bX BK396.out⟩, ⟨bX BK397.out⟩, ⟨bX BK404.out⟩, ⟨bX BK412.out⟩, ⟨beX HB.out⟩⟩
           case round =>
            clear H'
            try clear c1
            try clear c2
            try clear p2
            try clear c3
            try clear c4
            try clear c5
            try clear c6
            try clear p6
            try clear c11
            try clear c15
            try clear c16
            try clear c18
            try clear c19
            try clear c19b0
            try clear c19b1
            try clear c20
            try clear c20b0
            try clear c20b1
            try clear c21
            try clear c22
            try clear c24
            try clear c24b0
            try clear c25
            try clear c26
            try clear c29
            try clear c30
            try clear c32
            try clear c35
            try clear c36
            try clear c40
            try clear c41
            try clear c42
            try clear c45
            try clear c45b0
            try clear c45b1
            try clear c46
            try clear c47
            try clear c48
            try clear c50
            try clear c51
            try clear c53
            try clear c55
            try clear c55b0
            try clear c55b1
            try clear c56
            try clear c57
            try clear c58
            try clear c61
            try clear c61b0
            try clear c61b1
            try clear c62
            try clear c63
            try clear c64
            try clear p64
            try clear hcz12_0
            try clear hcz12_1
            try clear hcz12_2
            try clear hcz12_3
            try clear hcz17_0
            try clear hcz17_1
            try clear hcz17_2
            try clear hcz23_0
            try clear hcz23_1
            try clear hcz23_2
            try clear hcz23_3
            try clear hcz27_0
            try clear hcz27_1
            try clear hcz27_2
            try clear hcz27_3
            try clear hcz31_0
            try clear hcz31_1
            try clear hcz31_2
            try clear hcz31_3
            try clear hcz37_0
            try clear hcz37_1
            try clear hcz37_2
            try clear hcz43_0
            try clear hcz43_1
            try clear hcz43_2
            try clear hcz49_0
            try clear hcz49_1
            try clear hcz49_2
            try clear hcz52_0
            try clear hcz52_1
            try clear hcz52_2
            try clear hcz59_0
            try clear hcz59_1
            try clear hcz59_2
            try clear hcz59_3
            try clear hcz65_0
            try clear hcz65_1
            try clear hcz65_2
            try clear hcz65_3
            try clear hfz12_0
            try clear hfz12_1
            try clear hfz12_2
            try clear hfz12_3
            try clear hfz17_0
            try clear hfz17_1
            try clear hfz17_2
            try clear hfz23_0
            try clear hfz23_1
            try clear hfz23_2
            try clear hfz23_3
            try clear hfz27_0
            try clear hfz27_1
            try clear hfz27_2
            try clear hfz27_3
            try clear hfz31_0
            try clear hfz31_1
            try clear hfz31_2
            try clear hfz31_3
            try clear hfz37_0
            try clear hfz37_1
            try clear hfz37_2
            try clear hfz43_0
            try clear hfz43_1
            try clear hfz43_2
            try clear hfz49_0
            try clear hfz49_1
            try clear hfz49_2
            try clear hfz52_0
            try clear hfz52_1
            try clear hfz52_2
            try clear hfz59_0
            try clear hfz59_1
            try clear hfz59_2
            try clear hfz59_3
            try clear hfz65_0
            try clear hfz65_1
            try clear hfz65_2
            try clear hfz65_3
            try clear p2
            try clear p6
            try clear p64
            obtain ⟨x11_5, rfl, HA, HK5, HO_405002, HO_413002, BK396, BK397, BK404, BK412, HB⟩ := hrel
            cases gk with
            | zero => exact absurd HA.out (by simp [imageeditorlaw16_FilterUniform.l0])
            | succ k5 =>
             have H := HA.out
             clear HA
             simp only [imageeditorlaw16_FilterUniform.l0] at H
             by_cases c66 : x11_5 < (t408.length : Int)
             ·rw [if_pos c66] at H
              have c66b0 : decide (x11_5 < (t408.length : Int)) = true := decide_eq_true c66
              clear c66
              by_cases c67 : 0 ≤ x11_5
              ·rw [if_pos c67] at H
               have c67b0 : decide (0 ≤ x11_5) = true := decide_eq_true c67
               clear c67
               by_cases c68 : (!(((rd_T51 t408 x11_5).f0) == x398000_59) || (!(((rd_T51 t408 x11_5).f1) == x398001_59) || (!(((rd_T51 t408 x11_5).f2) == x398002_59) || (!(((rd_T51 t408 x11_5).f3) == a0_3))))) = true
               ·rw [if_pos c68] at H
                have c68b0 : (!(((rd_T51 t408 x11_5).f0) == x398000_59) || (!(((rd_T51 t408 x11_5).f1) == x398001_59) || (!(((rd_T51 t408 x11_5).f2) == x398002_59) || (!(((rd_T51 t408 x11_5).f3) == a0_3))))) = true := c68
                clear c68
                obtain rfl := Option.some.inj H
                have hnb69 := NB412_396.out
                have hnc69 := NB396_412.out
                have hnb70 := NB412_397.out
                have hnc70 := NB397_412.out
                have hnb71 := NB412_404.out
                have hnc71 := NB404_412.out
                have hcz72_0 := blk_cell BK412.out
                have hfz72_0 := blk_frozen BK412.out
                try go_wp2
                replace HO_405002 := am (Kd.R_drew HO_405002.out)
                replace HO_413002 := am (Kd.R_drew HO_413002.out)
                replace BK396 := am (blk_drew BK396.out)
                replace BK397 := am (blk_drew BK397.out)
                replace BK404 := am (blk_drew BK404.out)
                replace BK412 := am (blk_drew BK412.out)
                replace HB := am (below_drew1 HB.out)
                have p413 : 0 ≤ (x11_5 : Int) := of_decide_eq_true (by first | (with_reducible assumption) | assumption)
                have q413 : x11_5 < (t408.length : Int) := of_decide_eq_true (by first | (with_reducible assumption) | assumption)
                obtain ⟨ad413, e413, hx413_0, hx413_1, hx413_2, hx413_3⟩ := at_T51 (Kd.R_reads' HO_413002.out).2.2 x11_5 p413 q413
                cases e413
                replace p413 := eq_true p413
                replace q413 := eq_true q413
                refine start_ (n := 7) (S := fun w' => w'.cell? ⟨gb412, 0, none⟩ = some (.int .i64 t406) ∧ w'.cell? ⟨gb412, 1, none⟩ = some (.int .i64 t407) ∧ w'.cell? ⟨gb412, 2, none⟩ = some (.slice (some ad413) t408.length co44) ∧ w'.cell? ⟨gb397, 0, none⟩ = some (.int .i64 x398000_59) ∧ w'.cell? ⟨gb397, 1, none⟩ = some (.int .i64 x398001_59) ∧ w'.cell? ⟨gb397, 2, none⟩ = some (.int .i64 x398002_59) ∧ w'.cell? ⟨gb397, 3, none⟩ = some (.int .i64 a0_3) ∧ w'.cell? (ad413.add ((x11_5).toNat * 4)) = some (.int .i64 ((rd_T51 t408 x11_5).f0)) ∧ w'.cell? ⟨(ad413.add ((x11_5).toNat * 4)).block, (ad413.add ((x11_5).toNat * 4)).off + 1, none⟩ = some (.int .i64 ((rd_T51 t408 x11_5).f1)) ∧ w'.cell? ⟨(ad413.add ((x11_5).toNat * 4)).block, (ad413.add ((x11_5).toNat * 4)).off + 2, none⟩ = some (.int .i64 ((rd_T51 t408 x11_5).f2)) ∧ w'.cell? ⟨(ad413.add ((x11_5).toNat * 4)).block, (ad413.add ((x11_5).toNat * 4)).off + 3, none⟩ = some (.int .i64 ((rd_T51 t408 x11_5).f3))) (ds := []) #[false, false, false, false, false, false, false] (by kernel_rfl) rfl rfl ⟨(blk_cell BK412.out 0).trans rfl, (blk_cell BK412.out 1).trans rfl, (blk_cell BK412.out 2).trans rfl, (blk_cell BK397.out 0).trans rfl, (blk_cell BK397.out 1).trans rfl, (blk_cell BK397.out 2).trans rfl, (blk_cell BK397.out 3).trans rfl, hx413_0, hx413_1, hx413_2, hx413_3⟩ (fun hHeld => ?_)
                generalize wr.drew = w73 at HO_405002 HO_413002 BK396 BK397 BK404 BK412 HB hx413_0 hx413_1 hx413_2 hx413_3 hHeld ⊢
                refine pure_ (i := 0) (N := some 83) (v := ?_) (a' := ?_) #[true, false, false, false, false, false, false] rfl rfl (by kernel_rfl) (fun _ _ _ h => h) (Or.inl ⟨by rfl, ?_⟩) ?_ ?_
                rotate_left
                ·intro w'
                 go_simp
                 with_reducible rfl
                rotate_left
                ·simp only [Act.put, List.setIfInBounds_toArray, List.set_cons_zero, List.set_cons_succ, i64_w, i32_w]
                 rfl
                refine pure_ (i := 2) (N := some 85) (v := ?_) (a' := ?_) #[true, false, true, false, false, false, false] rfl rfl (by kernel_rfl) (fun _ _ _ h => h) (Or.inl ⟨by rfl, ?_⟩) ?_ ?_
                rotate_left
                ·intro w'
                 go_simp
                 with_reducible rfl
                rotate_left
                ·simp only [Act.put, List.setIfInBounds_toArray, List.set_cons_zero, List.set_cons_succ, i64_w, i32_w]
                 rfl
                refine take_ (i := 1) (N := some 84) (v := ?_) (a' := ?_) #[true, true, true, false, false, false, false] rfl rfl (by kernel_rfl) (fun _ _ _ h => h) (Or.inl ⟨by rfl, ?_⟩) hHeld ?_ ?_
                rotate_left
                ·rintro w' ⟨s0, s1, s2, s3, s4, s5, s6, s7, s8, s9, s10⟩
                 go_simp
                 with_reducible rfl
                rotate_left
                ·simp only [Act.put, List.setIfInBounds_toArray, List.set_cons_zero, List.set_cons_succ, i64_w, i32_w]
                 rfl
                refine pure_ (i := 3) (N := some 86) (v := ?_) (a' := ?_) #[true, true, true, true, false, false, false] rfl rfl (by kernel_rfl) (fun _ _ _ h => h) (Or.inl ⟨by rfl, ?_⟩) ?_ ?_
                rotate_left
                ·intro w'
                 go_simp
                 with_reducible rfl
                rotate_left
                ·simp only [Act.put, List.setIfInBounds_toArray, List.set_cons_zero, List.set_cons_succ, i64_w, i32_w]
                 rfl
                refine take_ (i := 4) (N := some 87) (v := ?_) (a' := ?_) #[true, true, true, true, true, false, false] rfl rfl (by kernel_rfl) (fun _ _ _ h => h) (Or.inl ⟨by rfl, ?_⟩) hHeld ?_ ?_
                rotate_left
                ·rintro w' ⟨s0, s1, s2, s3, s4, s5, s6, s7, s8, s9, s10⟩
                 go_simp
                 with_reducible rfl
                rotate_left
                ·simp only [Act.put, List.setIfInBounds_toArray, List.set_cons_zero, List.set_cons_succ, i64_w, i32_w]
                 rfl
                refine take_ (i := 5) (N := some 88) (v := ?_) (a' := ?_) #[true, true, true, true, true, true, false] rfl rfl (by kernel_rfl) (fun _ _ _ h => h) (Or.inl ⟨by rfl, ?_⟩) hHeld ?_ ?_
                rotate_left
                ·rintro w' ⟨s0, s1, s2, s3, s4, s5, s6, s7, s8, s9, s10⟩
                 go_simp
                 with_reducible rfl
                rotate_left
                ·simp only [Act.put, List.setIfInBounds_toArray, List.set_cons_zero, List.set_cons_succ, i64_w, i32_w]
                 rfl
                refine pure_ (i := 6) (N := some 89) (v := ?_) (a' := ?_) #[true, true, true, true, true, true, true] rfl rfl (by kernel_rfl) (fun _ _ _ h => h) (Or.inl ⟨by rfl, ?_⟩) ?_ ?_
                rotate_left
                ·intro w'
                 go_simp
                 with_reducible rfl
                rotate_left
                ·simp only [Act.put, List.setIfInBounds_toArray, List.set_cons_zero, List.set_cons_succ, i64_w, i32_w]
                 rfl
                refine done_ (by kernel_rfl) ?_
                try go_wp2
                go_ret
                exact ⟨by first | rfl | (simp [errW_none, errW_some] <;> rfl) | (simp [*, errW_none, errW_some] <;> rfl), by exact beX HB.out⟩
               ·rw [if_neg c68] at H
                have c68b0 : (!(((rd_T51 t408 x11_5).f0) == x398000_59) || (!(((rd_T51 t408 x11_5).f1) == x398001_59) || (!(((rd_T51 t408 x11_5).f2) == x398002_59) || (!(((rd_T51 t408 x11_5).f3) == a0_3))))) = false := by simpa using c68
                clear c68
                have H' := Aside0.mk H
                clear H
                have hnb74 := NB412_396.out
                have hnc74 := NB396_412.out
                have hnb75 := NB412_397.out
                have hnc75 := NB397_412.out
                have hnb76 := NB412_404.out
                have hnc76 := NB404_412.out
                have hcz77_0 := blk_cell BK412.out
                have hfz77_0 := blk_frozen BK412.out
                try go_wp2
                replace HO_405002 := am (Kd.R_drew HO_405002.out)
                replace HO_413002 := am (Kd.R_drew HO_413002.out)
                replace BK396 := am (blk_drew BK396.out)
                replace BK397 := am (blk_drew BK397.out)
                replace BK404 := am (blk_drew BK404.out)
                replace BK412 := am (blk_drew BK412.out)
                replace HB := am (below_drew1 HB.out)
                have p413 : 0 ≤ (x11_5 : Int) := of_decide_eq_true (by first | (with_reducible assumption) | assumption)
                have q413 : x11_5 < (t408.length : Int) := of_decide_eq_true (by first | (with_reducible assumption) | assumption)
                obtain ⟨ad413, e413, hx413_0, hx413_1, hx413_2, hx413_3⟩ := at_T51 (Kd.R_reads' HO_413002.out).2.2 x11_5 p413 q413
                cases e413
                replace p413 := eq_true p413
                replace q413 := eq_true q413
                refine start_ (n := 7) (S := fun w' => w'.cell? ⟨gb412, 0, none⟩ = some (.int .i64 t406) ∧ w'.cell? ⟨gb412, 1, none⟩ = some (.int .i64 t407) ∧ w'.cell? ⟨gb412, 2, none⟩ = some (.slice (some ad413) t408.length co44) ∧ w'.cell? ⟨gb397, 0, none⟩ = some (.int .i64 x398000_59) ∧ w'.cell? ⟨gb397, 1, none⟩ = some (.int .i64 x398001_59) ∧ w'.cell? ⟨gb397, 2, none⟩ = some (.int .i64 x398002_59) ∧ w'.cell? ⟨gb397, 3, none⟩ = some (.int .i64 a0_3) ∧ w'.cell? (ad413.add ((x11_5).toNat * 4)) = some (.int .i64 ((rd_T51 t408 x11_5).f0)) ∧ w'.cell? ⟨(ad413.add ((x11_5).toNat * 4)).block, (ad413.add ((x11_5).toNat * 4)).off + 1, none⟩ = some (.int .i64 ((rd_T51 t408 x11_5).f1)) ∧ w'.cell? ⟨(ad413.add ((x11_5).toNat * 4)).block, (ad413.add ((x11_5).toNat * 4)).off + 2, none⟩ = some (.int .i64 ((rd_T51 t408 x11_5).f2)) ∧ w'.cell? ⟨(ad413.add ((x11_5).toNat * 4)).block, (ad413.add ((x11_5).toNat * 4)).off + 3, none⟩ = some (.int .i64 ((rd_T51 t408 x11_5).f3))) (ds := []) #[false, false, false, false, false, false, false] (by kernel_rfl) rfl rfl ⟨(blk_cell BK412.out 0).trans rfl, (blk_cell BK412.out 1).trans rfl, (blk_cell BK412.out 2).trans rfl, (blk_cell BK397.out 0).trans rfl, (blk_cell BK397.out 1).trans rfl, (blk_cell BK397.out 2).trans rfl, (blk_cell BK397.out 3).trans rfl, hx413_0, hx413_1, hx413_2, hx413_3⟩ (fun hHeld => ?_)
                generalize wr.drew = w78 at HO_405002 HO_413002 BK396 BK397 BK404 BK412 HB hx413_0 hx413_1 hx413_2 hx413_3 hHeld ⊢
                refine pure_ (i := 0) (N := some 83) (v := ?_) (a' := ?_) #[true, false, false, false, false, false, false] rfl rfl (by kernel_rfl) (fun _ _ _ h => h) (Or.inl ⟨by rfl, ?_⟩) ?_ ?_
                rotate_left
                ·intro w'
                 go_simp
                 with_reducible rfl
                rotate_left
                ·simp only [Act.put, List.setIfInBounds_toArray, List.set_cons_zero, List.set_cons_succ, i64_w, i32_w]
                 rfl
                refine pure_ (i := 2) (N := some 85) (v := ?_) (a' := ?_) #[true, false, true, false, false, false, false] rfl rfl (by kernel_rfl) (fun _ _ _ h => h) (Or.inl ⟨by rfl, ?_⟩) ?_ ?_
                rotate_left
                ·intro w'
                 go_simp
                 with_reducible rfl
                rotate_left
                ·simp only [Act.put, List.setIfInBounds_toArray, List.set_cons_zero, List.set_cons_succ, i64_w, i32_w]
                 rfl
                refine take_ (i := 1) (N := some 84) (v := ?_) (a' := ?_) #[true, true, true, false, false, false, false] rfl rfl (by kernel_rfl) (fun _ _ _ h => h) (Or.inl ⟨by rfl, ?_⟩) hHeld ?_ ?_
                rotate_left
                ·rintro w' ⟨s0, s1, s2, s3, s4, s5, s6, s7, s8, s9, s10⟩
                 go_simp
                 with_reducible rfl
                rotate_left
                ·simp only [Act.put, List.setIfInBounds_toArray, List.set_cons_zero, List.set_cons_succ, i64_w, i32_w]
                 rfl
                refine pure_ (i := 3) (N := some 86) (v := ?_) (a' := ?_) #[true, true, true, true, false, false, false] rfl rfl (by kernel_rfl) (fun _ _ _ h => h) (Or.inl ⟨by rfl, ?_⟩) ?_ ?_
                rotate_left
                ·intro w'
                 go_simp
                 with_reducible rfl
                rotate_left
                ·simp only [Act.put, List.setIfInBounds_toArray, List.set_cons_zero, List.set_cons_succ, i64_w, i32_w]
                 rfl
                refine take_ (i := 4) (N := some 87) (v := ?_) (a' := ?_) #[true, true, true, true, true, false, false] rfl rfl (by kernel_rfl) (fun _ _ _ h => h) (Or.inl ⟨by rfl, ?_⟩) hHeld ?_ ?_
                rotate_left
                ·rintro w' ⟨s0, s1, s2, s3, s4, s5, s6, s7, s8, s9, s10⟩
                 go_simp
                 with_reducible rfl
                rotate_left
                ·simp only [Act.put, List.setIfInBounds_toArray, List.set_cons_zero, List.set_cons_succ, i64_w, i32_w]
                 rfl
                refine take_ (i := 5) (N := some 88) (v := ?_) (a' := ?_) #[true, true, true, true, true, true, false] rfl rfl (by kernel_rfl) (fun _ _ _ h => h) (Or.inl ⟨by rfl, ?_⟩) hHeld ?_ ?_
                rotate_left
                ·rintro w' ⟨s0, s1, s2, s3, s4, s5, s6, s7, s8, s9, s10⟩
                 go_simp
                 with_reducible rfl
                rotate_left
                ·simp only [Act.put, List.setIfInBounds_toArray, List.set_cons_zero, List.set_cons_succ, i64_w, i32_w]
                 rfl
                refine pure_ (i := 6) (N := some 89) (v := ?_) (a' := ?_) #[true, true, true, true, true, true, true] rfl rfl (by kernel_rfl) (fun _ _ _ h => h) (Or.inl ⟨by rfl, ?_⟩) ?_ ?_
                rotate_left
                ·intro w'
                 go_simp
                 with_reducible rfl
                rotate_left
                ·simp only [Act.put, List.setIfInBounds_toArray, List.set_cons_zero, List.set_cons_succ, i64_w, i32_w]
                 rfl
                refine done_ (by kernel_rfl) ?_
                try go_wp2
                go_roundg k5
                case measure => have := HJ2.out; have := HJ33.out; have := HJ53.out; have := HJ59.out; have := HK5.out; omega
                case rel => exact ⟨(wrap64 (x11_5 + 1)), (by first | rfl | (simp; done) | (simp [*]; done)), H', ⟨by have := HJ2.out; have := HJ33.out; have := HJ53.out; have := HJ59.out; have := HK5.out; omega⟩, ⟨rX HO_405002.out⟩, ⟨rX HO_413002.out⟩, ⟨bX BK396.out⟩, ⟨bX BK397.out⟩, ⟨bX BK404.out⟩, ⟨bX BK412.out⟩, ⟨beX HB.out⟩⟩
              ·rw [if_neg c67] at H
               exact absurd H (by simp)
             ·rw [if_neg c66] at H
              have c66b0 : decide (x11_5 < (t408.length : Int)) = false := decide_eq_false c66
              clear c66
              replace H := Option.bind_eq_some_iff.mp H
              obtain ⟨t414, A790, H⟩ := H
              replace H : (some t414) = some r := H
              have A79 := Aside0.mk A790
              clear A790
              obtain rfl := Option.some.inj H
              have hnb80 := NB412_396.out
              have hnc80 := NB396_412.out
              have hnb81 := NB412_397.out
              have hnc81 := NB397_412.out
              have hnb82 := NB412_404.out
              have hnc82 := NB404_412.out
              have hcz83_0 := blk_cell BK412.out
              have hfz83_0 := blk_frozen BK412.out
              go_wp2_with (first | ((with_reducible refine gate_callee (f := 13) rfl ?_); refine goesL_ (some 90) rfl rfl Try.func13 (by kernel_rfl) rfl #[] rfl (by (try simp only [List.map_toArray, List.map_cons, List.map_nil]); first | done | rfl | (simp only [List.length_drop, List.length_take]; rfl)) ?_; (with_reducible refine (imageeditorlaw16_example.calls  t414 _ A79.out).mono ?_); rintro e w84 ⟨rfl, hb⟩; refine ⟨_, rfl, ?_⟩; replace HO_405002 := am (Kd.R_below (rX HO_405002.out) hb); replace HO_413002 := am (Kd.R_below (rX HO_413002.out) hb); replace BK396 := am (blk_below (bX BK396.out) hb); replace BK397 := am (blk_below (bX BK397.out) hb); replace BK404 := am (blk_below (bX BK404.out) hb); replace BK412 := am (blk_below (bX BK412.out) hb); replace HB := am (below_step (beX HB.out) hb); (try clear hb); (try clear hb2); (try clear hk); (try clear hi)))
              go_ret
              exact ⟨by first | rfl | (simp [errW_none, errW_some] <;> rfl) | (simp [*, errW_none, errW_some] <;> rfl), by exact beX HB.out⟩

end Go.Proofs.Ytocefehnemahhaa.G
