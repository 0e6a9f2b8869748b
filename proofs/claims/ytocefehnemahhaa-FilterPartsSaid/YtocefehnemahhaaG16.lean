-- laid by gprint.py (a program of this proof's writer) out of the translation; Lean checks it.
import Derived.Test.YtocefehnemahhaaG0
import Derived.Test.YtocefehnemahhaaG12
import Derived.Test.YtocefehnemahhaaG14
import Derived.Test.YtocefehnemahhaaG15
namespace Go.Proofs.Ytocefehnemahhaa.G
open Go.RowKit Go.Proofs.YtocefehnemahhaaW.PrintWords Go.Proofs.YtocefehnemahhaaW.PrintLast Go.Proofs.YtocefehnemahhaaW.PrintMore
attribute [local go_sem] max2_int min2_int max_two min_two max_three min_three max_four min_four   -- for this text's walks alone
set_option linter.unusedVariables false
set_option linter.unusedSimpArgs false

/-! ### imageeditorref11_Crop: function 19 -/
mutual
def imageeditorref11_Crop.j0 : Nat → Bool → Int → Int → List (S51) → Int → Int → Int → Int → Option (Int × Int × (List (S51)) × Int)
 | 0, _, _, _, _, _, _, _, _ => none
 | k + 1, x27, x422000, x422001, x422002, x423000, x423001, x423002, x423003 => if x27 = true then (some (0, 0, ([] : List (S51)), 15)) else ((imageeditorref02_Empty.f x423000 x423001 x423002 x423003).bind fun t426 => (if t426 = true then (some (0, 0, ([] : List (S51)), 0)) else (imageeditorref11_Crop.l0 k 0 x422000 x422001 x422002 x423000 x423001 x423002 x423003 x423002 x423003 ([] : List (S51)))))
def imageeditorref11_Crop.l0 : Nat → Int → Int → Int → List (S51) → Int → Int → Int → Int → Int → Int → List (S51) → Option (Int × Int × (List (S51)) × Int)
 | 0, _, _, _, _, _, _, _, _, _, _, _ => none
 | k + 1, x8, x422000, x422001, x422002, x423000, x423001, x423002, x423003, x428000, x428001, x428002 => if x8 < x423003 then (imageeditorref11_Crop.l1 k x8 0 x422000 x422001 x422002 x423000 x423001 x423002 x423003 x428000 x428001 x428002) else (some (x428000, x428001, x428002, 0))
def imageeditorref11_Crop.l1 : Nat → Int → Int → Int → Int → List (S51) → Int → Int → Int → Int → Int → Int → List (S51) → Option (Int × Int × (List (S51)) × Int)
 | 0, _, _, _, _, _, _, _, _, _, _, _, _ => none
 | k + 1, x8, x9, x422000, x422001, x422002, x423000, x423001, x423002, x423003, x428000, x428001, x428002 => if x9 < x423002 then ((imageeditorref11_Pick.f x422000 x422001 x422002 (wrap64 (x423000 + x9)) (wrap64 (x423001 + x8))).bind fun bt428 => (if x428002.length < 4398046511104 then (imageeditorref11_Crop.l1 k x8 (wrap64 (x9 + 1)) x422000 x422001 x422002 x423000 x423001 x423002 x423003 x428000 x428001 (x428002 ++ [(⟨bt428.1, bt428.2.1, bt428.2.2.1, bt428.2.2.2⟩ : S51)])) else (none))) else (imageeditorref11_Crop.l0 k (wrap64 (x8 + 1)) x422000 x422001 x422002 x423000 x423001 x423002 x423003 x428000 x428001 x428002)
end
def imageeditorref11_Crop.f (k : Nat) (a0_0 : Int) (a0_1 : Int) (l0_2 : List (S51)) (a1_0 : Int) (a1_1 : Int) (a1_2 : Int) (a1_3 : Int) : Option (Int × Int × (List (S51)) × Int) := (imageeditorref11_Check.f k a0_0 a0_1 l0_2).bind fun t424 => (if t424 = 0 then ((imageeditorref02_Valid.f a1_0 a1_1 a1_2 a1_3).bind fun t425 => (if t425 = true then (if a1_2 > 256 then (imageeditorref11_Crop.j0 k true a0_0 a0_1 l0_2 a1_0 a1_1 a1_2 a1_3) else (imageeditorref11_Crop.j0 k (decide (a1_3 > 256)) a0_0 a0_1 l0_2 a1_0 a1_1 a1_2 a1_3)) else (some (0, 0, ([] : List (S51)), 2)))) else (some (0, 0, ([] : List (S51)), t424)))
theorem imageeditorref11_Crop.mono_l : ∀ k, (∀ y0 y1 y2 y3 y4 y5 y6 y7, LeO (imageeditorref11_Crop.j0 k y0 y1 y2 y3 y4 y5 y6 y7) (imageeditorref11_Crop.j0 (k + 1) y0 y1 y2 y3 y4 y5 y6 y7)) ∧ (∀ y0 y1 y2 y3 y4 y5 y6 y7 y8 y9 y10, LeO (imageeditorref11_Crop.l0 k y0 y1 y2 y3 y4 y5 y6 y7 y8 y9 y10) (imageeditorref11_Crop.l0 (k + 1) y0 y1 y2 y3 y4 y5 y6 y7 y8 y9 y10)) ∧ (∀ y0 y1 y2 y3 y4 y5 y6 y7 y8 y9 y10 y11, LeO (imageeditorref11_Crop.l1 k y0 y1 y2 y3 y4 y5 y6 y7 y8 y9 y10 y11) (imageeditorref11_Crop.l1 (k + 1) y0 y1 y2 y3 y4 y5 y6 y7 y8 y9 y10 y11))
 | 0 => ⟨fun _ _ _ _ _ _ _ _ r h => by simp [imageeditorref11_Crop.j0] at h, fun _ _ _ _ _ _ _ _ _ _ _ r h => by simp [imageeditorref11_Crop.l0] at h, fun _ _ _ _ _ _ _ _ _ _ _ _ r h => by simp [imageeditorref11_Crop.l1] at h⟩
 | k + 1 => by
  obtain ⟨ih0, ih1, ih2⟩ := imageeditorref11_Crop.mono_l k
  refine ⟨?_, ?_, ?_⟩
  ·intro y0 y1 y2 y3 y4 y5 y6 y7
   unfold imageeditorref11_Crop.j0
   repeat' first
   | (with_reducible exact ih0 _ _ _ _ _ _ _ _)
   | (with_reducible exact ih1 _ _ _ _ _ _ _ _ _ _ _)
   | (with_reducible exact ih2 _ _ _ _ _ _ _ _ _ _ _ _)
   | (with_reducible exact imageeditorref11_Check.mono _ _ _ _)
   | (with_reducible exact LeO.refl _)
   | (with_reducible exact LeO.none _)
   | (with_reducible refine LeO.ite ?_ ?_)
   | (with_reducible refine LeO.bind ?_ (fun _ => ?_))
   | exact ih0 _ _ _ _ _ _ _ _
   | exact ih1 _ _ _ _ _ _ _ _ _ _ _
   | exact ih2 _ _ _ _ _ _ _ _ _ _ _ _
   | exact imageeditorref11_Check.mono _ _ _ _
   | exact LeO.none _
   | refine LeO.ite ?_ ?_
   | refine LeO.bind ?_ (fun _ => ?_)
  ·intro y0 y1 y2 y3 y4 y5 y6 y7 y8 y9 y10
   unfold imageeditorref11_Crop.l0
   repeat' first
   | (with_reducible exact ih0 _ _ _ _ _ _ _ _)
   | (with_reducible exact ih1 _ _ _ _ _ _ _ _ _ _ _)
   | (with_reducible exact ih2 _ _ _ _ _ _ _ _ _ _ _ _)
   | (with_reducible exact imageeditorref11_Check.mono _ _ _ _)
   | (with_reducible exact LeO.refl _)
   | (with_reducible exact LeO.none _)
   | (with_reducible refine LeO.ite ?_ ?_)
   | (with_reducible refine LeO.bind ?_ (fun _ => ?_))
   | exact ih0 _ _ _ _ _ _ _ _
   | exact ih1 _ _ _ _ _ _ _ _ _ _ _
   | exact ih2 _ _ _ _ _ _ _ _ _ _ _ _
   | exact imageeditorref11_Check.mono _ _ _ _
   | exact LeO.none _
   | refine LeO.ite ?_ ?_
   | refine LeO.bind ?_ (fun _ => ?_)
  ·intro y0 y1 y2 y3 y4 y5 y6 y7 y8 y9 y10 y11
   unfold imageeditorref11_Crop.l1
   repeat' first
   | (with_reducible exact ih0 _ _ _ _ _ _ _ _)
   | (with_reducible exact ih1 _ _ _ _ _ _ _ _ _ _ _)
   | (with_reducible exact ih2 _ _ _ _ _ _ _ _ _ _ _ _)
   | (with_reducible exact imageeditorref11_Check.mono _ _ _ _)
   | (with_reducible exact LeO.refl _)
   | (with_reducible exact LeO.none _)
   | (with_reducible refine LeO.ite ?_ ?_)
   | (with_reducible refine LeO.bind ?_ (fun _ => ?_))
   | exact ih0 _ _ _ _ _ _ _ _
   | exact ih1 _ _ _ _ _ _ _ _ _ _ _
   | exact ih2 _ _ _ _ _ _ _ _ _ _ _ _
   | exact imageeditorref11_Check.mono _ _ _ _
   | exact LeO.none _
   | refine LeO.ite ?_ ?_
   | refine LeO.bind ?_ (fun _ => ?_)
theorem imageeditorref11_Crop.mono : ∀ a0 a1 a2 a3 a4 a5 a6 k, LeO (imageeditorref11_Crop.f k a0 a1 a2 a3 a4 a5 a6) (imageeditorref11_Crop.f (k + 1) a0 a1 a2 a3 a4 a5 a6) := by
 intro a0 a1 a2 a3 a4 a5 a6 k
 obtain ⟨ih0, ih1, ih2⟩ := imageeditorref11_Crop.mono_l k
 unfold imageeditorref11_Crop.f
 repeat' first
   | (with_reducible exact ih0 _ _ _ _ _ _ _ _)
   | (with_reducible exact ih1 _ _ _ _ _ _ _ _ _ _ _)
   | (with_reducible exact ih2 _ _ _ _ _ _ _ _ _ _ _ _)
   | (with_reducible exact imageeditorref11_Check.mono _ _ _ _)
   | (with_reducible exact LeO.refl _)
   | (with_reducible exact LeO.none _)
   | (with_reducible refine LeO.ite ?_ ?_)
   | (with_reducible refine LeO.bind ?_ (fun _ => ?_))
   | exact ih0 _ _ _ _ _ _ _ _
   | exact ih1 _ _ _ _ _ _ _ _ _ _ _
   | exact ih2 _ _ _ _ _ _ _ _ _ _ _ _
   | exact imageeditorref11_Check.mono _ _ _ _
   | exact LeO.none _
   | refine LeO.ite ?_ ?_
   | refine LeO.bind ?_ (fun _ => ?_)
def imageeditorref11_Crop.T17 : Bool × List (List Nat × List Nat) := (true, [([], []), ([0], [0]), ([], []), ([], []), ([3], [3]), ([], []), ([4, 5], [4, 5]), ([], []), ([7], [7]), ([], []), ([8, 9], [8, 9]), ([2, 6, 10], [2, 6, 10]), ([11], [11]), ([1, 12, 11], [1, 12]), ([0, 1, 2, 3, 4, 5, 6, 7, 8, 9, 10, 11, 12, 13], []), ([14, 13, 13, 0, 1, 2, 3, 4, 5, 6, 7, 8, 9, 10, 11, 12, 13], [13, 14])])
def imageeditorref11_Crop.B17 : List Nat := [0, 1, 0, 0, 8, 0, 56, 0, 128, 0, 896, 2044, 4092, 8191, 16383, 32767]
theorem imageeditorref11_Crop.tab17 : rtab .any (opsOf Try.f19 17) = imageeditorref11_Crop.T17 := by kernel_rfl
theorem imageeditorref11_Crop.bits17 : waitsOk imageeditorref11_Crop.T17.2 imageeditorref11_Crop.B17 = true := by kernel_rfl
set_option maxHeartbeats 8000000 in
set_option maxRecDepth 100000 in
theorem imageeditorref11_Crop.calls (k : Nat) (a0_0 : Int) (a0_1 : Int) (A0_2 : Option Addr) (c0_2 : Nat) (l0_2 : List (S51)) (a1_0 : Int) (a1_1 : Int) (a1_2 : Int) (a1_3 : Int) (r1 : Int) (r2 : Int) (r3 : List (S51)) (r4 : Int) (w : World) (hr0_2 : Kd.C k51 w A0_2 l0_2.length l0_2) (hc0_2 : l0_2.length ≤ c0_2) (h : imageeditorref11_Crop.f k a0_0 a0_1 l0_2 a1_0 a1_1 a1_2 a1_3 = some (r1, r2, r3, r4)) :
  Calls Try.prog 19 #[.agg #[.int .i64 a0_0, .int .i64 a0_1, .slice A0_2 l0_2.length c0_2], .agg #[.int .i64 a1_0, .int .i64 a1_1, .int .i64 a1_2, .int .i64 a1_3]] w fun e w' => ∃ v2_ : Value, e = .returned (.tuple #[.agg #[.int .i64 r1, .int .i64 r2, v2_], .int .i64 r4]) ∧ Kd.R k51 51 w' w.heap.size (fun _ => True) v2_ r3 ∧ Below w.heap.size w w' := by
 have hu36 := Try.underlying36
 have hu24 := Try.underlying24
 have HR0_2 := Aside0.mk hr0_2
 have HC0_2 := Aside0.mk hc0_2
 clear hr0_2 hc0_2
 have HB := am (Below.refl w.heap.size w)
 have H : ((imageeditorref11_Check.f k a0_0 a0_1 l0_2).bind fun t424 => (if t424 = 0 then ((imageeditorref02_Valid.f a1_0 a1_1 a1_2 a1_3).bind fun t425 => (if t425 = true then (if a1_2 > 256 then (imageeditorref11_Crop.j0 k true a0_0 a0_1 l0_2 a1_0 a1_1 a1_2 a1_3) else (imageeditorref11_Crop.j0 k (decide (a1_3 > 256)) a0_0 a0_1 l0_2 a1_0 a1_1 a1_2 a1_3)) else (some (0, 0, ([] : List (S51)), 2)))) else (some (0, 0, ([] : List (S51)), t424)))) = some (r1, r2, r3, r4) := h
 clear h
 replace H := Option.bind_eq_some_iff.mp H
 obtain ⟨t424, A30, H⟩ := H
 replace H : (if t424 = 0 then ((imageeditorref02_Valid.f a1_0 a1_1 a1_2 a1_3).bind fun t425 => (if t425 = true then (if a1_2 > 256 then (imageeditorref11_Crop.j0 k true a0_0 a0_1 l0_2 a1_0 a1_1 a1_2 a1_3) else (imageeditorref11_Crop.j0 k (decide (a1_3 > 256)) a0_0 a0_1 l0_2 a1_0 a1_1 a1_2 a1_3)) else (some (0, 0, ([] : List (S51)), 2)))) else (some (0, 0, ([] : List (S51)), t424))) = some (r1, r2, r3, r4) := H
 have A3 := Aside0.mk A30
 clear A30
 by_cases c4 : t424 = 0
 ·rw [if_pos c4] at H
  have c4b0 : (t424 == 0) = true := beq_iff_eq.mpr c4
  have c4b1 : (t424 != 0) = false := bne_eq_false_iff_eq.mpr c4
  clear c4
  replace H := Option.bind_eq_some_iff.mp H
  obtain ⟨t425, A50, H⟩ := H
  replace H : (if t425 = true then (if a1_2 > 256 then (imageeditorref11_Crop.j0 k true a0_0 a0_1 l0_2 a1_0 a1_1 a1_2 a1_3) else (imageeditorref11_Crop.j0 k (decide (a1_3 > 256)) a0_0 a0_1 l0_2 a1_0 a1_1 a1_2 a1_3)) else (some (0, 0, ([] : List (S51)), 2))) = some (r1, r2, r3, r4) := H
  have A5 := Aside0.mk A50
  clear A50
  by_cases c6 : t425 = true
  ·subst c6
   have H1 : (if a1_2 > 256 then (imageeditorref11_Crop.j0 k true a0_0 a0_1 l0_2 a1_0 a1_1 a1_2 a1_3) else (imageeditorref11_Crop.j0 k (decide (a1_3 > 256)) a0_0 a0_1 l0_2 a1_0 a1_1 a1_2 a1_3)) = some (r1, r2, r3, r4) := by rw [if_pos rfl] at H; exact H
   clear H
   have H := H1
   clear H1
   have HC7 := Aside0.mk H
   clear H
   go_enter Try.func19, Try.ntmps19
   go_upto_region 6 with (first | ((with_reducible refine gate_dst (N := 2) rfl ?_); refine boxE (N := 2) #[.int .i64 a0_0, .int .i64 a0_1, .slice A0_2 l0_2.length c0_2] 36 ?_; intro gb421 hg w8 hbox hb; have BK421 := am (hbox); have GW421 := gW hg HB; have GE421 := gW hg HB; replace HB := hYb HB hb; clear hb hbox hg) | ((with_reducible refine gate_dst (N := 3) rfl ?_); refine boxE (N := 3) #[.int .i64 a1_0, .int .i64 a1_1, .int .i64 a1_2, .int .i64 a1_3] 24 ?_; intro gb422 hg w9 hbox hb; have BK422 := am (hbox); have GW422 := gW hg HB; have GE422 := gW hg HB; have NB421_422 := nL hg BK421; have NB422_421 := nG hg BK421; replace BK421 := bY BK421 hb; replace HB := hYb HB hb; clear hb hbox hg) | ((with_reducible refine gate_dst (N := 4) rfl ?_); refine boxE (N := 4) #[.int .i64 0, .int .i64 0, .slice none 0 0] 36 ?_; intro gb423 hg w10 hbox hb; have BK423 := am (hbox); have GW423 := gW hg HB; have GE423 := gW hg HB; have NB421_423 := nL hg BK421; have NB423_421 := nG hg BK421; have NB422_423 := nL hg BK422; have NB423_422 := nG hg BK422; replace BK421 := bY BK421 hb; replace BK422 := bY BK422 hb; replace HB := hYb HB hb; clear hb hbox hg; have hnb11 := NB421_422.out; have hnc11 := NB422_421.out; have hnb12 := NB421_423.out; have hnc12 := NB423_421.out; have hcz13_0 := blk_cell BK421.out; have hfz13_0 := blk_frozen BK421.out) | ((with_reducible refine gate_callee (f := 14) rfl ?_); refine goesP (some 11) Try.func14 #[.agg #[.int .i64 a0_0, .int .i64 a0_1, .slice A0_2 l0_2.length c0_2]] ?_; (with_reducible refine (imageeditorref11_Check.calls k a0_0 a0_1 _ _ l0_2 t424 _ ?side1 ?side2 A3.out).mono ?_); (case side1 => repeat (first | exact (Kd.C_below HR0_2.out HB.out) | (with_reducible refine Kd.C_alloc ?_ _) | (with_reducible refine Kd.C_drewN ?_ _) | (with_reducible refine Kd.C_drew ?_))); (case side2 => exact HC0_2.out); rintro e w14 ⟨rfl, hb⟩; refine ⟨_, rfl, ?_⟩; replace BK421 := bY BK421 hb; replace BK422 := bY BK422 hb; replace BK423 := bY BK423 hb; replace HB := hYb HB hb; (try clear hb); (try clear hb2); (try clear hk); (try clear hi); have hnb15 := NB422_423.out; have hnc15 := NB423_422.out; have hcz16_0 := blk_cell BK422.out; have hfz16_0 := blk_frozen BK422.out) | ((with_reducible refine gate_callee (f := 15) rfl ?_); refine goesP (some 17) Try.func15 #[.agg #[.int .i64 a1_0, .int .i64 a1_1, .int .i64 a1_2, .int .i64 a1_3]] ?_; (with_reducible refine (imageeditorref02_Valid.calls a1_0 a1_1 a1_2 a1_3 true _ A5.out).mono ?_); rintro e w17 ⟨rfl, hb⟩; refine ⟨_, rfl, ?_⟩; replace BK421 := bY BK421 hb; replace BK422 := bY BK422 hb; replace BK423 := bY BK423 hb; replace HB := hYb HB hb; (try clear hb); (try clear hb2); (try clear hk); (try clear hi)))
   (try simp only [Act.put, List.setIfInBounds_toArray, List.set_cons_zero, List.set_cons_succ])
   go_cut [27] (fun v27 wc => ∃ (kq : Nat) (x27_6 : Bool), v27 = .bool x27_6 ∧ Aside0 (imageeditorref11_Crop.j0 kq x27_6 a0_0 a0_1 l0_2 a1_0 a1_1 a1_2 a1_3 = some (r1, r2, r3, r4)) ∧ Aside0 (kq ≤ k) ∧ Aside0 (wc.heap[gb421]? = some (.cells #[.int .i64 a0_0, .int .i64 a0_1, (.slice A0_2 l0_2.length c0_2)] 36 (0, 0))) ∧ Aside0 (wc.heap[gb422]? = some (.cells #[.int .i64 a1_0, .int .i64 a1_1, .int .i64 a1_2, .int .i64 a1_3] 24 (0, 0))) ∧ Aside0 (wc.heap[gb423]? = some (.cells #[.int .i64 0, .int .i64 0, (.slice none 0 0)] 36 (0, 0))) ∧ Aside0 (Below w.heap.size w wc))
   case first =>
    have H := HC7.out
    clear HC7
    by_cases c18 : a1_2 > 256
    ·rw [if_pos c18] at H
     have c18b0 : decide (256 < a1_2) = true := decide_eq_true c18
     clear c18
     (first | rw [c18b0] | (simp only [i64_w, i32_w]; rw [c18b0]) | skip)
     have H' := Aside0.mk H
     clear H
     have hnb19 := NB422_421.out
     have hnc19 := NB421_422.out
     have hnb20 := NB422_423.out
     have hnc20 := NB423_422.out
     have hcz21_0 := blk_cell BK422.out
     have hfz21_0 := blk_frozen BK422.out
     go_wp2
     go_meet
     case rel => exact ⟨_, (true), (by first | rfl | (simp; done) | (simp [*]; done)), H', ⟨by first | omega | exact Nat.le_refl _⟩, ⟨bX BK421.out⟩, ⟨bX BK422.out⟩, ⟨bX BK423.out⟩, ⟨beX HB.out⟩⟩
    ·rw [if_neg c18] at H
     have c18b0 : decide (256 < a1_2) = false := decide_eq_false c18
     clear c18
     (first | rw [c18b0] | (simp only [i64_w, i32_w]; rw [c18b0]) | skip)
     have H' := Aside0.mk H
     clear H
     have hnb22 := NB422_421.out
     have hnc22 := NB421_422.out
     have hnb23 := NB422_423.out
     have hnc23 := NB423_422.out
     have hcz24_0 := blk_cell BK422.out
     have hfz24_0 := blk_frozen BK422.out
     go_wp2
     go_meet
     case rel => exact ⟨_, (decide (a1_3 > 256)), (by first | rfl | (simp; done) | (simp [*]; done)), H', ⟨by first | omega | exact Nat.le_refl _⟩, ⟨bX BK421.out⟩, ⟨bX BK422.out⟩, ⟨bX BK423.out⟩, ⟨beX HB.out⟩⟩
   case rest =>
    clear HC7
    try clear c1
    try clear c2
    try clear p2
    try clear c4
    try clear c4b0
    try clear c4b1
    try clear c6
    try clear c11
    try clear c12
    try clear c14
    try clear c15
    try clear c18
    try clear c18b0
    try clear c19
    try clear c20
    try clear c22
    try clear c23
    try clear hcz13_0
    try clear hcz13_1
    try clear hcz13_2
    try clear hcz16_0
    try clear hcz16_1
    try clear hcz16_2
    try clear hcz16_3
    try clear hcz21_0
    try clear hcz21_1
    try clear hcz21_2
    try clear hcz21_3
    try clear hcz24_0
    try clear hcz24_1
    try clear hcz24_2
    try clear hcz24_3
    try clear hfz13_0
    try clear hfz13_1
    try clear hfz13_2
    try clear hfz16_0
    try clear hfz16_1
    try clear hfz16_2
    try clear hfz16_3
    try clear hfz21_0
    try clear hfz21_1
    try clear hfz21_2
    try clear hfz21_3
    try clear hfz24_0
    try clear hfz24_1
    try clear hfz24_2
    try clear hfz24_3
    obtain ⟨kq, x27_6, rfl, HA, HJ6, BK421, BK422, BK423, HB⟩ := hcut
    cases kq with
    | zero => exact absurd HA.out (by simp [imageeditorref11_Crop.j0])
    | succ kj6 =>
     have H := HA.out
     clear HA
     simp only [imageeditorref11_Crop.j0] at H
     by_cases c25 : x27_6 = true
     ·subst c25
      have H1 : (some (0, 0, ([] : List (S51)), 15)) = some (r1, r2, r3, r4) := by rw [if_pos rfl] at H; exact H
      clear H
      have H := H1
      clear H1
      simp only [Option.some.injEq, Prod.mk.injEq] at H
      obtain ⟨rfl, rfl, rfl, rfl⟩ := H
      have hnb26 := NB423_421.out
      have hnc26 := NB421_423.out
      have hnb27 := NB423_422.out
      have hnc27 := NB422_423.out
      have hcz28_0 := blk_cell BK423.out
      have hfz28_0 := blk_frozen BK423.out
      go_wp2
      refine bodyPost_ret (results_ct rfl _ _ gb423 36 #[.int .i64 0, .int .i64 0, .slice none 0 0] (0, 0) _ rfl (by refine bO ?_; refine blk_put (cs := #[.int .i64 0, .int .i64 0, .slice none 0 0]) ?_ 2 _ rfl; refine bO ?_; refine blk_put (cs := #[.int .i64 0, .int .i64 0, .slice none 0 0]) ?_ 1 _ rfl; refine bO ?_; refine blk_put (cs := #[.int .i64 0, .int .i64 0, .slice none 0 0]) ?_ 0 _ rfl; refine bO ?_; exact BK423.out) Try.underlying36 rfl (by kernel_rfl)) rfl ?_
      exact ⟨_, by first | rfl | (simp [errW_none, errW_some] <;> rfl) | (simp [*, errW_none, errW_some] <;> rfl), by first | exact Kd.R_nil _ _ _ _ _ | exact Kd.N_nil _ _ _ _ _ | exact Kd.V_nil _ _ _ _ _ | exact Kd.Q_nil _ _ _ _ _ | exact Kd.S_nil _ _ _ _ _, by repeat (first | (with_reducible first | exact HB.out | apply below_alloc | apply pw_below_drewN | apply below_drew1 | refine below_set ?_ GE421.out | refine below_set ?_ GE422.out | refine below_set ?_ GE423.out) | exact HB.out)⟩
     ·replace c25 := Bool.eq_false_iff.mpr c25
      subst c25
      have H1 : ((imageeditorref02_Empty.f a1_0 a1_1 a1_2 a1_3).bind fun t426 => (if t426 = true then (some (0, 0, ([] : List (S51)), 0)) else (imageeditorref11_Crop.l0 kj6 0 a0_0 a0_1 l0_2 a1_0 a1_1 a1_2 a1_3 a1_2 a1_3 ([] : List (S51))))) = some (r1, r2, r3, r4) := by rw [if_neg (show ¬ (false = true) by decide)] at H; exact H
      clear H
      have H := H1
      clear H1
      replace H := Option.bind_eq_some_iff.mp H
      obtain ⟨t426, A290, H⟩ := H
      replace H : (if t426 = true then (some (0, 0, ([] : List (S51)), 0)) else (imageeditorref11_Crop.l0 kj6 0 a0_0 a0_1 l0_2 a1_0 a1_1 a1_2 a1_3 a1_2 a1_3 ([] : List (S51)))) = some (r1, r2, r3, r4) := H
      have A29 := Aside0.mk A290
      clear A290
      by_cases c30 : t426 = true
      ·subst c30
       have H1 : (some (0, 0, ([] : List (S51)), 0)) = some (r1, r2, r3, r4) := by rw [if_pos rfl] at H; exact H
       clear H
       have H := H1
       clear H1
       simp only [Option.some.injEq, Prod.mk.injEq] at H
       obtain ⟨rfl, rfl, rfl, rfl⟩ := H
       have hnb31 := NB422_421.out
       have hnc31 := NB421_422.out
       have hnb32 := NB422_423.out
       have hnc32 := NB423_422.out
       have hcz33_0 := blk_cell BK422.out
       have hfz33_0 := blk_frozen BK422.out
       go_wp2_with (first | ((with_reducible refine gate_callee (f := 16) rfl ?_); refine goesP (some 30) Try.func16 #[.agg #[.int .i64 a1_0, .int .i64 a1_1, .int .i64 a1_2, .int .i64 a1_3]] ?_; (with_reducible refine (imageeditorref02_Empty.calls a1_0 a1_1 a1_2 a1_3 true _ A29.out).mono ?_); rintro e w34 ⟨rfl, hb⟩; refine ⟨_, rfl, ?_⟩; replace BK421 := bY BK421 hb; replace BK422 := bY BK422 hb; replace BK423 := bY BK423 hb; replace HB := hYb HB hb; (try clear hb); (try clear hb2); (try clear hk); (try clear hi); have hnb35 := NB423_421.out; have hnc35 := NB421_423.out; have hcz36_0 := blk_cell BK423.out; have hfz36_0 := blk_frozen BK423.out))
       refine bodyPost_ret (results_ct rfl _ _ gb423 36 #[.int .i64 0, .int .i64 0, .slice none 0 0] (0, 0) _ rfl (by refine bO ?_; refine blk_put (cs := #[.int .i64 0, .int .i64 0, .slice none 0 0]) ?_ 2 _ rfl; refine bO ?_; refine blk_put (cs := #[.int .i64 0, .int .i64 0, .slice none 0 0]) ?_ 1 _ rfl; refine bO ?_; refine blk_put (cs := #[.int .i64 0, .int .i64 0, .slice none 0 0]) ?_ 0 _ rfl; refine bO ?_; exact BK423.out) Try.underlying36 rfl (by kernel_rfl)) rfl ?_
       exact ⟨_, by first | rfl | (simp [errW_none, errW_some] <;> rfl) | (simp [*, errW_none, errW_some] <;> rfl), by first | exact Kd.R_nil _ _ _ _ _ | exact Kd.N_nil _ _ _ _ _ | exact Kd.V_nil _ _ _ _ _ | exact Kd.Q_nil _ _ _ _ _ | exact Kd.S_nil _ _ _ _ _, by repeat (first | (with_reducible first | exact HB.out | apply below_alloc | apply pw_below_drewN | apply below_drew1 | refine below_set ?_ GE421.out | refine below_set ?_ GE422.out | refine below_set ?_ GE423.out) | exact HB.out)⟩
      ·replace c30 := Bool.eq_false_iff.mpr c30
       subst c30
       have H1 : (imageeditorref11_Crop.l0 kj6 0 a0_0 a0_1 l0_2 a1_0 a1_1 a1_2 a1_3 a1_2 a1_3 ([] : List (S51))) = some (r1, r2, r3, r4) := by rw [if_neg (show ¬ (false = true) by decide)] at H; exact H
       clear H
       have H := H1
       clear H1
       have H' := Aside0.mk H
       clear H
       have hnb37 := NB422_421.out
       have hnc37 := NB421_422.out
       have hnb38 := NB422_423.out
       have hnc38 := NB423_422.out
       have hcz39_0 := blk_cell BK422.out
       have hfz39_0 := blk_frozen BK422.out
       go_wp2_with (first | ((with_reducible refine gate_callee (f := 16) rfl ?_); refine goesP (some 30) Try.func16 #[.agg #[.int .i64 a1_0, .int .i64 a1_1, .int .i64 a1_2, .int .i64 a1_3]] ?_; (with_reducible refine (imageeditorref02_Empty.calls a1_0 a1_1 a1_2 a1_3 false _ A29.out).mono ?_); rintro e w40 ⟨rfl, hb⟩; refine ⟨_, rfl, ?_⟩; replace BK421 := bY BK421 hb; replace BK422 := bY BK422 hb; replace BK423 := bY BK423 hb; replace HB := hYb HB hb; (try clear hb); (try clear hb2); (try clear hk); (try clear hi); have hcz41_0 := blk_cell BK422.out; have hfz41_0 := blk_frozen BK422.out) | ((with_reducible refine gate_dst (N := 7) rfl ?_); refine boxE (N := 7) #[.int .i64 0, .int .i64 0, .slice none 0 0] 36 ?_; intro gb427 hg w42 hbox hb; have BK427 := am (hbox); have GW427 := gW hg HB; have GE427 := gW hg HB; have NB421_427 := nL hg BK421; have NB427_421 := nG hg BK421; have NB422_427 := nL hg BK422; have NB427_422 := nG hg BK422; have NB423_427 := nL hg BK423; have NB427_423 := nG hg BK423; replace BK421 := bY BK421 hb; replace BK422 := bY BK422 hb; replace BK423 := bY BK423 hb; replace HB := hYb HB hb; clear hb hbox hg; have hnb43 := NB427_421.out; have hnc43 := NB421_427.out; have hnb44 := NB427_422.out; have hnc44 := NB422_427.out; have hnb45 := NB427_423.out; have hnc45 := NB423_427.out; have hcz46_0 := blk_cell BK427.out; have hfz46_0 := blk_frozen BK427.out))
       go_loopg [8] kj6 (fun kq v8 w' => ∃ (x8_2 : Int) (x428002_2 : List (S51)) (u428002 : Value), v8 = .int .i64 x8_2 ∧ Aside0 (imageeditorref11_Crop.l0 kq x8_2 a0_0 a0_1 l0_2 a1_0 a1_1 a1_2 a1_3 a1_2 a1_3 x428002_2 = some (r1, r2, r3, r4)) ∧ Aside0 (kq ≤ kj6) ∧ Aside0 (Kd.R k51 51 w' w.heap.size (fun _ => True) u428002 x428002_2) ∧ Aside0 (w'.heap[gb421]? = some (.cells #[.int .i64 a0_0, .int .i64 a0_1, (.slice A0_2 l0_2.length c0_2)] 36 (0, 0))) ∧ Aside0 (w'.heap[gb422]? = some (.cells #[.int .i64 a1_0, .int .i64 a1_1, .int .i64 a1_2, .int .i64 a1_3] 24 (0, 0))) ∧ Aside0 (w'.heap[gb423]? = some (.cells #[.int .i64 0, .int .i64 0, (.slice none 0 0)] 36 (0, 0))) ∧ Aside0 (w'.heap[gb427]? = some (.cells #[.int .i64 a1_2, .int .i64 a1_3, u428002] 36 (0, 0))) ∧ Aside0 (Below w.heap.size w w'))
       case atStart => exact ⟨(0), (([] : List (S51))), (.slice none 0 0), (by first | rfl | (simp; done) | (simp [*]; done)), H', ⟨Nat.le_refl _⟩, ⟨by first | exact Kd.R_nil _ _ _ _ _ | exact Kd.N_nil _ _ _ _ _ | exact Kd.V_nil _ _ _ _ _ | exact Kd.Q_nil _ _ _ _ _ | exact Kd.S_nil _ _ _ _ _⟩, ⟨by refine bO ?_; refine blk_far ?_ NB421_427.out _; refine bO ?_; refine blk_far ?_ NB421_427.out _; refine bO ?_; refine blk_far ?_ NB421_427.out _; refine bO ?_; exact BK421.out⟩, ⟨by refine bO ?_; refine blk_far ?_ NB422_427.out _; refine bO ?_; refine blk_far ?_ NB422_427.out _; refine bO ?_; refine blk_far ?_ NB422_427.out _; refine bO ?_; exact BK422.out⟩, ⟨by refine bO ?_; refine blk_far ?_ NB423_427.out _; refine bO ?_; refine blk_far ?_ NB423_427.out _; refine bO ?_; refine blk_far ?_ NB423_427.out _; refine bO ?_; exact BK423.out⟩, ⟨by refine bO ?_; refine blk_put (cs := #[.int .i64 a1_2, .int .i64 a1_3, .slice none 0 0]) ?_ 2 _ rfl; refine bO ?_; refine blk_put (cs := #[.int .i64 a1_2, .int .i64 0, .slice none 0 0]) ?_ 1 _ rfl; refine bO ?_; refine blk_put (cs := #[.int .i64 0, .int .i64 0, .slice none 0 0]) ?_ 0 _ rfl; refine bO ?_; exact BK427.out⟩, ⟨by repeat (first | (with_reducible first | exact HB.out | apply below_alloc | apply pw_below_drewN | apply below_drew1 | refine below_set ?_ GE421.out | refine below_set ?_ GE422.out | refine below_set ?_ GE423.out | refine below_set ?_ GE427.out) | exact HB.out)⟩⟩
       case round =>
        clear H'
        try clear c1
        try clear c2
        try clear p2
        try clear c3
        try clear c4
        try clear c4b0
        try clear c4b1
        try clear c6
        try clear c11
        try clear c12
        try clear c14
        try clear c15
        try clear c16
        try clear c18
        try clear c18b0
        try clear c19
        try clear c20
        try clear c22
        try clear c23
        try clear c25
        try clear c26
        try clear c27
        try clear c30
        try clear c31
        try clear c32
        try clear c35
        try clear c37
        try clear c38
        try clear c43
        try clear c44
        try clear c45
        try clear hcz13_0
        try clear hcz13_1
        try clear hcz13_2
        try clear hcz16_0
        try clear hcz16_1
        try clear hcz16_2
        try clear hcz16_3
        try clear hcz21_0
        try clear hcz21_1
        try clear hcz21_2
        try clear hcz21_3
        try clear hcz24_0
        try clear hcz24_1
        try clear hcz24_2
        try clear hcz24_3
        try clear hcz28_0
        try clear hcz28_1
        try clear hcz28_2
        try clear hcz33_0
        try clear hcz33_1
        try clear hcz33_2
        try clear hcz33_3
        try clear hcz36_0
        try clear hcz36_1
        try clear hcz36_2
        try clear hcz39_0
        try clear hcz39_1
        try clear hcz39_2
        try clear hcz39_3
        try clear hcz41_0
        try clear hcz41_1
        try clear hcz41_2
        try clear hcz41_3
        try clear hcz46_0
        try clear hcz46_1
        try clear hcz46_2
        try clear hfz13_0
        try clear hfz13_1
        try clear hfz13_2
        try clear hfz16_0
        try clear hfz16_1
        try clear hfz16_2
        try clear hfz16_3
        try clear hfz21_0
        try clear hfz21_1
        try clear hfz21_2
        try clear hfz21_3
        try clear hfz24_0
        try clear hfz24_1
        try clear hfz24_2
        try clear hfz24_3
        try clear hfz28_0
        try clear hfz28_1
        try clear hfz28_2
        try clear hfz33_0
        try clear hfz33_1
        try clear hfz33_2
        try clear hfz33_3
        try clear hfz36_0
        try clear hfz36_1
        try clear hfz36_2
        try clear hfz39_0
        try clear hfz39_1
        try clear hfz39_2
        try clear hfz39_3
        try clear hfz41_0
        try clear hfz41_1
        try clear hfz41_2
        try clear hfz41_3
        try clear hfz46_0
        try clear hfz46_1
        try clear hfz46_2
        try clear p2
        obtain ⟨x8_2, x428002_2, u428002, rfl, HA, HK2, HO_428002, BK421, BK422, BK423, BK427, HB⟩ := hrel
        cases gk with
        | zero => exact absurd HA.out (by simp [imageeditorref11_Crop.l0])
        | succ k2 =>
         have H := HA.out
         clear HA
         simp only [imageeditorref11_Crop.l0] at H
         by_cases c47 : x8_2 < a1_3
         ·rw [if_pos c47] at H
          have c47b0 : decide (x8_2 < a1_3) = true := decide_eq_true c47
          clear c47
          have H' := Aside0.mk H
          clear H
          have hnb48 := NB422_421.out
          have hnc48 := NB421_422.out
          have hnb49 := NB422_423.out
          have hnc49 := NB423_422.out
          have hnb50 := NB422_427.out
          have hnc50 := NB427_422.out
          have hcz51_0 := blk_cell BK422.out
          have hfz51_0 := blk_frozen BK422.out
          go_wp2
          go_loopg [9] k2 (fun kq v9 w' => ∃ (x9_3 : Int) (x428002_3 : List (S51)) (u428002 : Value), v9 = .int .i64 x9_3 ∧ Aside0 (imageeditorref11_Crop.l1 kq x8_2 x9_3 a0_0 a0_1 l0_2 a1_0 a1_1 a1_2 a1_3 a1_2 a1_3 x428002_3 = some (r1, r2, r3, r4)) ∧ Aside0 (kq ≤ k2) ∧ Aside0 (Kd.R k51 51 w' w.heap.size (fun _ => True) u428002 x428002_3) ∧ Aside0 (w'.heap[gb421]? = some (.cells #[.int .i64 a0_0, .int .i64 a0_1, (.slice A0_2 l0_2.length c0_2)] 36 (0, 0))) ∧ Aside0 (w'.heap[gb422]? = some (.cells #[.int .i64 a1_0, .int .i64 a1_1, .int .i64 a1_2, .int .i64 a1_3] 24 (0, 0))) ∧ Aside0 (w'.heap[gb423]? = some (.cells #[.int .i64 0, .int .i64 0, (.slice none 0 0)] 36 (0, 0))) ∧ Aside0 (w'.heap[gb427]? = some (.cells #[.int .i64 a1_2, .int .i64 a1_3, u428002] 36 (0, 0))) ∧ Aside0 (Below w.heap.size w w'))
          case atStart => exact ⟨(0), (x428002_2), (u428002), (by first | rfl | (simp; done) | (simp [*]; done)), H', ⟨Nat.le_refl _⟩, ⟨rX HO_428002.out⟩, ⟨bX BK421.out⟩, ⟨bX BK422.out⟩, ⟨bX BK423.out⟩, ⟨bX BK427.out⟩, ⟨beX HB.out⟩⟩
          case round =>
           clear H'
           try clear c1
           try clear c2
           try clear p2
           try clear c3
           try clear c4
           try clear c4b0
           try clear c4b1
           try clear c5
           try clear c6
           try clear c11
           try clear c12
           try clear c14
           try clear c15
           try clear c16
           try clear c18
           try clear c18b0
           try clear c19
           try clear c20
           try clear c22
           try clear c23
           try clear c25
           try clear c26
           try clear c27
           try clear c30
           try clear c31
           try clear c32
           try clear c35
           try clear c37
           try clear c38
           try clear c43
           try clear c44
           try clear c45
           try clear c47
           try clear c47b0
           try clear c48
           try clear c49
           try clear c50
           try clear hcz13_0
           try clear hcz13_1
           try clear hcz13_2
           try clear hcz16_0
           try clear hcz16_1
           try clear hcz16_2
           try clear hcz16_3
           try clear hcz21_0
           try clear hcz21_1
           try clear hcz21_2
           try clear hcz21_3
           try clear hcz24_0
           try clear hcz24_1
           try clear hcz24_2
           try clear hcz24_3
           try clear hcz28_0
           try clear hcz28_1
           try clear hcz28_2
           try clear hcz33_0
           try clear hcz33_1
           try clear hcz33_2
           try clear hcz33_3
           try clear hcz36_0
           try clear hcz36_1
           try clear hcz36_2
           try clear hcz39_0
           try clear hcz39_1
           try clear hcz39_2
           try clear hcz39_3
           try clear hcz41_0
           try clear hcz41_1
           try clear hcz41_2
           try clear hcz41_3
           try clear hcz46_0
           try clear hcz46_1
           try clear hcz46_2
           try clear hcz51_0
           try clear hcz51_1
           try clear hcz51_2
           try clear hcz51_3
           try clear hfz13_0
           try clear hfz13_1
           try clear hfz13_2
           try clear hfz16_0
           try clear hfz16_1
           try clear hfz16_2
           try clear hfz16_3
           try clear hfz21_0
           try clear hfz21_1
           try clear hfz21_2
           try clear hfz21_3
           try clear hfz24_0
           try clear hfz24_1
           try clear hfz24_2
           try clear hfz24_3
           try clear hfz28_0
           try clear hfz28_1
           try clear hfz28_2
           try clear hfz33_0
           try clear hfz33_1
           try clear hfz33_2
           try clear hfz33_3
           try clear hfz36_0
           try clear hfz36_1
           try clear hfz36_2
           try clear hfz39_0
           try clear hfz39_1
           try clear hfz39_2
           try clear hfz39_3
           try clear hfz41_0
           try clear hfz41_1
           try clear hfz41_2
           try clear hfz41_3
           try clear hfz46_0
           try clear hfz46_1
           try clear hfz46_2
           try clear hfz51_0
           try clear hfz51_1
           try clear hfz51_2
           try clear hfz51_3
           try clear p2
           obtain ⟨x9_3, x428002_3, u428002, rfl, HA, HK3, HO_428002, BK421, BK422, BK423, BK427, HB⟩ := hrel
           cases gk with
           | zero => exact absurd HA.out (by simp [imageeditorref11_Crop.l1])
           | succ k3 =>
            have H := HA.out
            clear HA
            simp only [imageeditorref11_Crop.l1] at H
            by_cases c52 : x9_3 < a1_2
            ·rw [if_pos c52] at H
             have c52b0 : decide (x9_3 < a1_2) = true := decide_eq_true c52
             clear c52
             replace H := Option.bind_eq_some_iff.mp H
             obtain ⟨⟨t428, t429, t430, t431⟩, A530, H⟩ := H
             replace H : (if x428002_3.length < 4398046511104 then (imageeditorref11_Crop.l1 k3 x8_2 (wrap64 (x9_3 + 1)) a0_0 a0_1 l0_2 a1_0 a1_1 a1_2 a1_3 a1_2 a1_3 (x428002_3 ++ [(⟨t428, t429, t430, t431⟩ : S51)])) else (none)) = some (r1, r2, r3, r4) := H
             have A53 := Aside0.mk A530
             clear A530
             by_cases c54 : x428002_3.length < 4398046511104
             ·rw [if_pos c54] at H
              have LMc54 := Aside0.mk c54
              clear c54
              obtain ⟨y432, hy432⟩ : ∃ y_ : List (S51), y_ = (x428002_3 ++ [(⟨t428, t429, t430, t431⟩ : S51)]) := ⟨_, rfl⟩
              replace H : (imageeditorref11_Crop.l1 k3 x8_2 (wrap64 (x9_3 + 1)) a0_0 a0_1 l0_2 a1_0 a1_1 a1_2 a1_3 a1_2 a1_3 y432) = some (r1, r2, r3, r4) := by first | (rw [hy432]; with_reducible exact H) | (have H2_ := (Option.bind_some _ _).symm.trans H; rw [hy432]; with_reducible exact H2_) | (have H2_ := (Option.bind_some _ _).symm.trans H; with_reducible exact H2_) | with_reducible exact H | (rw [hy432]; exact H) | exact H
              have Ny432 := Aside0.mk hy432
              clear hy432
              have H' := Aside0.mk H
              clear H
              have hnb55 := NB422_421.out
              have hnc55 := NB421_422.out
              have hnb56 := NB422_423.out
              have hnc56 := NB423_422.out
              have hnb57 := NB422_427.out
              have hnc57 := NB427_422.out
              have hcz58_0 := blk_cell BK422.out
              have hfz58_0 := blk_frozen BK422.out
              try go_wp2
              replace HO_428002 := am (Kd.R_drew HO_428002.out)
              replace BK421 := am (blk_drew BK421.out)
              replace BK422 := am (blk_drew BK422.out)
              replace BK423 := am (blk_drew BK423.out)
              replace BK427 := am (blk_drew BK427.out)
              replace HB := am (below_drew1 HB.out)
              refine start_ (n := 16) (S := fun w' => w'.cell? ⟨gb427, 0, none⟩ = some (.int .i64 a1_2) ∧ w'.cell? ⟨gb427, 1, none⟩ = some (.int .i64 a1_3) ∧ w'.cell? ⟨gb427, 2, none⟩ = some (u428002) ∧ w'.cell? ⟨gb421, 0, none⟩ = some (.int .i64 a0_0) ∧ w'.cell? ⟨gb421, 1, none⟩ = some (.int .i64 a0_1) ∧ w'.cell? ⟨gb421, 2, none⟩ = some (.slice A0_2 l0_2.length c0_2) ∧ w'.cell? ⟨gb422, 0, none⟩ = some (.int .i64 a1_0) ∧ w'.cell? ⟨gb422, 1, none⟩ = some (.int .i64 a1_1) ∧ w'.cell? ⟨gb422, 2, none⟩ = some (.int .i64 a1_2) ∧ w'.cell? ⟨gb422, 3, none⟩ = some (.int .i64 a1_3)) (ds := [15]) #[false, false, false, false, false, false, false, false, false, false, false, false, false, false, false, false] (by kernel_rfl) rfl rfl ⟨(blk_cell BK427.out 0).trans rfl, (blk_cell BK427.out 1).trans rfl, (blk_cell BK427.out 2).trans rfl, (blk_cell BK421.out 0).trans rfl, (blk_cell BK421.out 1).trans rfl, (blk_cell BK421.out 2).trans rfl, (blk_cell BK422.out 0).trans rfl, (blk_cell BK422.out 1).trans rfl, (blk_cell BK422.out 2).trans rfl, (blk_cell BK422.out 3).trans rfl⟩ (fun hHeld => ?_); refine with_tabW imageeditorref11_Crop.tab17 imageeditorref11_Crop.bits17 (fun HT_ HW_ => ?_)
              generalize wr.drew = w59 at HO_428002 BK421 BK422 BK423 BK427 HB hHeld ⊢
              refine pure_ (i := 0) (N := some 49) (v := ?_) (a' := ?_) #[true, false, false, false, false, false, false, false, false, false, false, false, false, false, false, false] rfl rfl (any_of HT_.out (by kernel_rfl)) (fun _ _ _ h => h) (Or.inl ⟨by rfl, ?_⟩) ?_ ?_
              rotate_left
              ·intro w'
               go_simp
               with_reducible rfl
              rotate_left
              ·simp only [Act.put, List.setIfInBounds_toArray, List.set_cons_zero, List.set_cons_succ, i64_w, i32_w]
               rfl
              refine pure_ (i := 3) (N := some 52) (v := ?_) (a' := ?_) #[true, false, false, true, false, false, false, false, false, false, false, false, false, false, false, false] rfl rfl (any_of HT_.out (by kernel_rfl)) (fun _ _ _ h => h) (Or.inl ⟨by rfl, ?_⟩) ?_ ?_
              rotate_left
              ·intro w'
               go_simp
               with_reducible rfl
              rotate_left
              ·simp only [Act.put, List.setIfInBounds_toArray, List.set_cons_zero, List.set_cons_succ, i64_w, i32_w]
               rfl
              refine pure_ (i := 5) (N := some 54) (v := ?_) (a' := ?_) #[true, false, false, true, false, true, false, false, false, false, false, false, false, false, false, false] rfl rfl (any_of HT_.out (by kernel_rfl)) (fun _ _ _ h => h) (Or.inl ⟨by rfl, ?_⟩) ?_ ?_
              rotate_left
              ·intro w'
               go_simp
               with_reducible rfl
              rotate_left
              ·simp only [Act.put, List.setIfInBounds_toArray, List.set_cons_zero, List.set_cons_succ, i64_w, i32_w]
               rfl
              refine pure_ (i := 7) (N := some 56) (v := ?_) (a' := ?_) #[true, false, false, true, false, true, false, true, false, false, false, false, false, false, false, false] rfl rfl (any_of HT_.out (by kernel_rfl)) (fun _ _ _ h => h) (Or.inl ⟨by rfl, ?_⟩) ?_ ?_
              rotate_left
              ·intro w'
               go_simp
               with_reducible rfl
              rotate_left
              ·simp only [Act.put, List.setIfInBounds_toArray, List.set_cons_zero, List.set_cons_succ, i64_w, i32_w]
               rfl
              refine pure_ (i := 9) (N := some 58) (v := ?_) (a' := ?_) #[true, false, false, true, false, true, false, true, false, true, false, false, false, false, false, false] rfl rfl (any_of HT_.out (by kernel_rfl)) (fun _ _ _ h => h) (Or.inl ⟨by rfl, ?_⟩) ?_ ?_
              rotate_left
              ·intro w'
               go_simp
               with_reducible rfl
              rotate_left
              ·simp only [Act.put, List.setIfInBounds_toArray, List.set_cons_zero, List.set_cons_succ, i64_w, i32_w]
               rfl
              refine take_ (i := 1) (N := some 50) (v := ?_) (a' := ?_) #[true, true, false, true, false, true, false, true, false, true, false, false, false, false, false, false] rfl rfl (take_ofW HT_.out HW_.out (by kernel_rfl)) (fun _ _ _ h => h) (Or.inl ⟨by rfl, ?_⟩) hHeld ?_ ?_
              rotate_left
              ·rintro w' ⟨s0, s1, s2, s3, s4, s5, s6, s7, s8, s9⟩
               go_simp
               with_reducible rfl
              rotate_left
              ·simp only [Act.put, List.setIfInBounds_toArray, List.set_cons_zero, List.set_cons_succ, i64_w, i32_w]
               rfl
              refine take_ (i := 2) (N := some 51) (v := ?_) (a' := ?_) #[true, true, true, true, false, true, false, true, false, true, false, false, false, false, false, false] rfl rfl (take_ofW HT_.out HW_.out (by kernel_rfl)) (fun _ _ _ h => h) (Or.inl ⟨by rfl, ?_⟩) hHeld ?_ ?_
              rotate_left
              ·rintro w' ⟨s0, s1, s2, s3, s4, s5, s6, s7, s8, s9⟩
               go_simp
               with_reducible rfl
              rotate_left
              ·simp only [Act.put, List.setIfInBounds_toArray, List.set_cons_zero, List.set_cons_succ, i64_w, i32_w]
               rfl
              refine take_ (i := 4) (N := some 53) (v := ?_) (a' := ?_) #[true, true, true, true, true, true, false, true, false, true, false, false, false, false, false, false] rfl rfl (take_ofW HT_.out HW_.out (by kernel_rfl)) (fun _ _ _ h => h) (Or.inl ⟨by rfl, ?_⟩) hHeld ?_ ?_
              rotate_left
              ·rintro w' ⟨s0, s1, s2, s3, s4, s5, s6, s7, s8, s9⟩
               go_simp
               with_reducible rfl
              rotate_left
              ·simp only [Act.put, List.setIfInBounds_toArray, List.set_cons_zero, List.set_cons_succ, i64_w, i32_w]
               rfl
              refine pure_ (i := 6) (N := some 55) (v := ?_) (a' := ?_) #[true, true, true, true, true, true, true, true, false, true, false, false, false, false, false, false] rfl rfl (any_of HT_.out (by kernel_rfl)) (fun _ _ _ h => h) (Or.inl ⟨by rfl, ?_⟩) ?_ ?_
              rotate_left
              ·intro w'
               go_simp
               with_reducible rfl
              rotate_left
              ·simp only [Act.put, List.setIfInBounds_toArray, List.set_cons_zero, List.set_cons_succ, i64_w, i32_w]
               rfl
              refine take_ (i := 8) (N := some 57) (v := ?_) (a' := ?_) #[true, true, true, true, true, true, true, true, true, true, false, false, false, false, false, false] rfl rfl (take_ofW HT_.out HW_.out (by kernel_rfl)) (fun _ _ _ h => h) (Or.inl ⟨by rfl, ?_⟩) hHeld ?_ ?_
              rotate_left
              ·rintro w' ⟨s0, s1, s2, s3, s4, s5, s6, s7, s8, s9⟩
               go_simp
               with_reducible rfl
              rotate_left
              ·simp only [Act.put, List.setIfInBounds_toArray, List.set_cons_zero, List.set_cons_succ, i64_w, i32_w]
               rfl
              refine pure_ (i := 10) (N := some 59) (v := ?_) (a' := ?_) #[true, true, true, true, true, true, true, true, true, true, true, false, false, false, false, false] rfl rfl (any_of HT_.out (by kernel_rfl)) (fun _ _ _ h => h) (Or.inl ⟨by rfl, ?_⟩) ?_ ?_
              rotate_left
              ·intro w'
               go_simp
               with_reducible rfl
              rotate_left
              ·simp only [Act.put, List.setIfInBounds_toArray, List.set_cons_zero, List.set_cons_succ, i64_w, i32_w]
               rfl
              refine one_ (i := 11) (N := some 60) #[true, true, true, true, true, true, true, true, true, true, true, true, false, false, false, false] rfl rfl (one_of HT_.out (by kernel_rfl)) (by decide) (fun K hK => ?_)
              refine goes_ Try.func38 (by kernel_rfl) rfl #[.agg #[.int .i64 a0_0, .int .i64 a0_1, .slice A0_2 l0_2.length c0_2], .int .i64 (wrap64 (a1_0 + x9_3)), .int .i64 (wrap64 (a1_1 + x8_2))] (by rfl) rfl rfl (by (try simp only [List.map_toArray, List.map_cons, List.map_nil]); first | done | rfl | (simp only [List.length_drop, List.length_take]; rfl)) ?_
              with_reducible refine (imageeditorref11_Pick.calls a0_0 a0_1 _ _ l0_2 (wrap64 (a1_0 + x9_3)) (wrap64 (a1_1 + x8_2)) t428 t429 t430 t431 _ ?side1 ?side2 A53.out).mono ?_
              (case side1 => repeat (first | exact (Kd.C_below HR0_2.out HB.out) | (with_reducible refine Kd.C_alloc ?_ _) | (with_reducible refine Kd.C_drewN ?_ _) | (with_reducible refine Kd.C_drew ?_)))
              (case side2 => exact HC0_2.out)
              rintro e w60 ⟨rfl, hb⟩
              refine ⟨_, rfl, ?_⟩
              replace HO_428002 := am (Kd.R_below (rX HO_428002.out) hb)
              replace BK421 := bY BK421 hb
              replace BK422 := bY BK422 hb
              replace BK423 := bY BK423 hb
              replace BK427 := bY BK427 hb
              replace HB := hYb HB hb
              (try clear hb)
              (try clear hb2)
              (try clear hk)
              (try clear hi)
              refine hK.out _ _ ⟨(blk_cell BK427.out 0).trans rfl, (blk_cell BK427.out 1).trans rfl, (blk_cell BK427.out 2).trans rfl, (blk_cell BK421.out 0).trans rfl, (blk_cell BK421.out 1).trans rfl, (blk_cell BK421.out 2).trans rfl, (blk_cell BK422.out 0).trans rfl, (blk_cell BK422.out 1).trans rfl, (blk_cell BK422.out 2).trans rfl, (blk_cell BK422.out 3).trans rfl⟩ (fun hHeld => ?_)
              clear hK K
              refine norm_ (a' := ?_) ?_ ?_
              rotate_left
              ·show Act.put _ (some 60) _ = _
               simp only [Act.put, List.setIfInBounds_toArray, List.set_cons_zero, List.set_cons_succ, i64_w, i32_w]
               rfl
              refine one_ (i := 12) (N := some 61) #[true, true, true, true, true, true, true, true, true, true, true, true, true, false, false, false] rfl rfl (one_of HT_.out (by kernel_rfl)) (by decide) (fun K hK => ?_)
              refine value_ (w1 := ?_) (v := ?_) (by rfl) rfl ?_ ?_
              rotate_left 2
              ·go_simp
               constructor
               ·rfl
               ·rfl
              refine hK.out _ _ ⟨(blk_cell (blk_alloc BK427.out _) 0).trans rfl, (blk_cell (blk_alloc BK427.out _) 1).trans rfl, (blk_cell (blk_alloc BK427.out _) 2).trans rfl, (blk_cell (blk_alloc BK421.out _) 0).trans rfl, (blk_cell (blk_alloc BK421.out _) 1).trans rfl, (blk_cell (blk_alloc BK421.out _) 2).trans rfl, (blk_cell (blk_alloc BK422.out _) 0).trans rfl, (blk_cell (blk_alloc BK422.out _) 1).trans rfl, (blk_cell (blk_alloc BK422.out _) 2).trans rfl, (blk_cell (blk_alloc BK422.out _) 3).trans rfl⟩ (fun hHeld => ?_)
              clear hK K
              refine norm_ (a' := ?_) ?_ ?_
              rotate_left
              ·show Act.put _ (some 61) _ = _
               simp only [Act.put, List.setIfInBounds_toArray, List.set_cons_zero, List.set_cons_succ, i64_w, i32_w]
               rfl
              refine one_ (i := 13) (N := some 62) #[true, true, true, true, true, true, true, true, true, true, true, true, true, true, false, false] rfl rfl (one_of HT_.out (by kernel_rfl)) (by decide) (fun K hK => ?_)
              refine Kd.R_append_step k51 (w0 := w) w.heap.size (by rfl) (.tmp 50) (.tmp 61) 34 51 (.agg #[(.int .i64 0), (.int .i64 0), (.int .i64 0), (.int .i64 0)]) 32 rfl Try.underlying34 info51 rfl (by decide) (by omega) u428002 x428002_3 (⟨t428, t429, t430, t431⟩ : S51) [.int .i64 t428, .int .i64 t429, .int .i64 t430, .int .i64 t431] (fun _ => True) (fun _ => False) rfl rfl ?aP (fun _ hk => hk.elim) ?aF ?aO ?aB ?aS ?aL ?_
              (case aP => exact k51_mkM _ _ _ (⟨t428, t429, t430, t431⟩ : S51))
              (case aB => exact (beX HB.out))
              (case aF => exact (fun _ _ => trivial))
              (case aO => exact (rX HO_428002.out))
              (case aS => exact (below_size (beX HB.out)))
              (case aL => have := LMc54.out; omega)
              intro v433 w61 ho hb hg hat
              rw [← Ny432.out] at ho
              have HO434 := am (ho)
              replace BK421 := am (blk_grown (bX BK421.out) hg (Kd.R_ne HO_428002.out BK421.out (by decide)))
              replace BK422 := am (blk_grown (bX BK422.out) hg (Kd.R_ne HO_428002.out BK422.out (by decide)))
              replace BK423 := am (blk_grown (bX BK423.out) hg (Kd.R_ne HO_428002.out BK423.out (by decide)))
              replace BK427 := am (blk_grown (bX BK427.out) hg (Kd.R_ne HO_428002.out BK427.out (by decide)))
              replace HB := am (hb)
              clear HO_428002
              clear ho hb hg hat
              obtain ⟨Ao62, co62, eo62⟩ := Kd.R_slice HO434.out
              (first | subst eo62 | (injection eo62 with f1_ f2_ f3_; have f4_ := f1_.symm; have f5_ := f3_.symm; clear f1_ f2_ f3_; subst f4_; subst f5_))
              refine hK.out _ _ ⟨(blk_cell BK427.out 0).trans rfl, (blk_cell BK427.out 1).trans rfl, (blk_cell BK427.out 2).trans rfl, (blk_cell BK421.out 0).trans rfl, (blk_cell BK421.out 1).trans rfl, (blk_cell BK421.out 2).trans rfl, (blk_cell BK422.out 0).trans rfl, (blk_cell BK422.out 1).trans rfl, (blk_cell BK422.out 2).trans rfl, (blk_cell BK422.out 3).trans rfl⟩ (fun hHeld => ?_)
              clear hK K
              refine norm_ (a' := ?_) ?_ ?_
              rotate_left
              ·show Act.put _ (some 62) _ = _
               simp only [Act.put, List.setIfInBounds_toArray, List.set_cons_zero, List.set_cons_succ, i64_w, i32_w]
               rfl
              refine pure_ (i := 14) (N := some 63) (v := ?_) (a' := ?_) #[true, true, true, true, true, true, true, true, true, true, true, true, true, true, true, false] rfl rfl (any_of HT_.out (by kernel_rfl)) (fun _ _ _ h => h) (Or.inl ⟨by rfl, ?_⟩) ?_ ?_
              rotate_left
              ·intro w'
               go_simp
               with_reducible rfl
              rotate_left
              ·simp only [Act.put, List.setIfInBounds_toArray, List.set_cons_zero, List.set_cons_succ, i64_w, i32_w]
               rfl
              refine last_ (i := 15) (N := none) #[true, true, true, true, true, true, true, true, true, true, true, true, true, true, true, true] rfl rfl (one_of HT_.out (by kernel_rfl)) (by decide) (fun K hK => ?_)
              have hs63 : w61.cell? ⟨gb427, 2, none⟩ = some (u428002) := (blk_cell BK427.out 2).trans rfl
              have hfs63 := blk_frozen BK427.out 2
              have hns63_0 := NB421_427.out
              have hns63_1 := NB422_427.out
              have hns63_2 := NB423_427.out
              have hms63_0 := NB427_421.out
              have hms63_1 := NB427_422.out
              have hms63_2 := NB427_423.out
              refine skip_ (w1 := ?_) (by rfl) rfl ?_ ?_
              rotate_left
              ·go_simp
               rfl
              refine hK.out _ _ ?_
              clear hK K
              refine done_ (done_of HT_.out (by kernel_rfl)) ?_
              try go_wp2
              go_roundg k3
              case measure => have := HJ6.out; have := HK2.out; have := HK3.out; omega
              case rel => exact ⟨(wrap64 (x9_3 + 1)), (y432), (.slice Ao62 y432.length co62), (by first | rfl | (simp; done) | (simp [*]; done)), H', ⟨by have := HJ6.out; have := HK2.out; have := HK3.out; omega⟩, ⟨by (with_reducible repeat (first | apply Kd.R_alloc | apply Kd.R_drewN | apply Kd.R_drew)); exact Kd.R_mono (Kd.R_far (p := ⟨gb427, 2, none⟩) (Kd.R_types HO434.out BK427.out (by decide)) (fun _ hk => hk.2) (.slice Ao62 y432.length co62)) (fun _ hk => trivial)⟩, ⟨by refine bO ?_; refine blk_far ?_ NB421_427.out _; refine bO ?_; exact BK421.out⟩, ⟨by refine bO ?_; refine blk_far ?_ NB422_427.out _; refine bO ?_; exact BK422.out⟩, ⟨by refine bO ?_; refine blk_far ?_ NB423_427.out _; refine bO ?_; exact BK423.out⟩, ⟨by refine bO ?_; refine blk_put (cs := #[.int .i64 a1_2, .int .i64 a1_3, u428002]) ?_ 2 _ rfl; refine bO ?_; exact BK427.out⟩, ⟨by repeat (first | (with_reducible first | exact HB.out | apply below_alloc | apply pw_below_drewN | apply below_drew1 | refine below_set ?_ GE421.out | refine below_set ?_ GE422.out | refine below_set ?_ GE423.out | refine below_set ?_ GE427.out) | exact HB.out)⟩⟩
             ·rw [if_neg c54] at H
              exact absurd H (by simp)
            ·rw [if_neg c52] at H
             have c52b0 : decide (x9_3 < a1_2) = false := decide_eq_false c52
             clear c52
             have H' := Aside0.mk H
             clear H
             have hnb64 := NB422_421.out
             have hnc64 := NB421_422.out
             have hnb65 := NB422_423.out
             have hnc65 := NB423_422.out
             have hnb66 := NB422_427.out
             have hnc66 := NB427_422.out
             have hcz67_0 := blk_cell BK422.out
             have hfz67_0 := blk_frozen BK422.out
             go_wp2
             go_roundg k3
             case measure => have := HJ6.out; have := HK2.out; have := HK3.out; omega
             case rel => exact ⟨(wrap64 (x8_2 + 1)), (x428002_3), (u428002), (by first | rfl | (simp; done) | (simp [*]; done)), H', ⟨by have := HJ6.out; have := HK2.out; have := HK3.out; omega⟩, ⟨rX HO_428002.out⟩, ⟨bX BK421.out⟩, ⟨bX BK422.out⟩, ⟨bX BK423.out⟩, ⟨bX BK427.out⟩, ⟨beX HB.out⟩⟩
         ·rw [if_neg c47] at H
          have c47b0 : decide (x8_2 < a1_3) = false := decide_eq_false c47
          clear c47
          simp only [Option.some.injEq, Prod.mk.injEq] at H
          obtain ⟨rfl, rfl, rfl, rfl⟩ := H
          have hnb68 := NB422_421.out
          have hnc68 := NB421_422.out
          have hnb69 := NB422_423.out
          have hnc69 := NB423_422.out
          have hnb70 := NB422_427.out
          have hnc70 := NB427_422.out
          have hcz71_0 := blk_cell BK422.out
          have hfz71_0 := blk_frozen BK422.out
          have hnb72 := NB427_421.out
          have hnc72 := NB421_427.out
          have hnb73 := NB427_423.out
          have hnc73 := NB423_427.out
          have hcz74_0 := blk_cell BK427.out
          have hfz74_0 := blk_frozen BK427.out
          have hnb75 := NB423_421.out
          have hnc75 := NB421_423.out
          have hcz76_0 := blk_cell BK423.out
          have hfz76_0 := blk_frozen BK423.out
          obtain ⟨Ao77, co77, eo77⟩ := Kd.R_slice HO_428002.out
          subst eo77
          go_wp2
          refine bodyPost_ret (results_ct rfl _ _ gb423 36 #[.int .i64 a1_2, .int .i64 a1_3, .slice Ao77 x428002_2.length co77] (0, 0) _ rfl (by refine bO ?_; refine blk_put (cs := #[.int .i64 a1_2, .int .i64 a1_3, .slice none 0 0]) ?_ 2 _ rfl; refine bO ?_; refine blk_put (cs := #[.int .i64 a1_2, .int .i64 0, .slice none 0 0]) ?_ 1 _ rfl; refine bO ?_; refine blk_put (cs := #[.int .i64 0, .int .i64 0, .slice none 0 0]) ?_ 0 _ rfl; refine bO ?_; exact BK423.out) Try.underlying36 rfl (by kernel_rfl)) rfl ?_
          exact ⟨_, by first | rfl | (simp [errW_none, errW_some] <;> rfl) | (simp [*, errW_none, errW_some] <;> rfl), by (with_reducible repeat (first | apply Kd.R_alloc | apply Kd.R_drewN | apply Kd.R_drew)); exact Kd.R_mono (Kd.R_far (p := ⟨gb423, 2, none⟩) (Kd.R_far (p := ⟨gb423, 1, none⟩) (Kd.R_far (p := ⟨gb423, 0, none⟩) (Kd.R_types HO_428002.out BK423.out (by decide)) (fun _ hk => hk.2) (.int .i64 a1_2)) (fun _ hk => hk.2) (.int .i64 a1_3)) (fun _ hk => hk.2) (.slice Ao77 x428002_2.length co77)) (fun _ hk => trivial), by repeat (first | (with_reducible first | exact HB.out | apply below_alloc | apply pw_below_drewN | apply below_drew1 | refine below_set ?_ GE421.out | refine below_set ?_ GE422.out | refine below_set ?_ GE423.out | refine below_set ?_ GE427.out) | exact HB.out)⟩
  ·replace c6 := Bool.eq_false_iff.mpr c6
   subst c6
   have H1 : (some (0, 0, ([] : List (S51)), 2)) = some (r1, r2, r3, r4) := by rw [if_neg (show ¬ (false = true) by decide)] at H; exact H
   clear H
   have H := H1
   clear H1
   simp only [Option.some.injEq, Prod.mk.injEq] at H
   obtain ⟨rfl, rfl, rfl, rfl⟩ := H
   go_enter Try.func19, Try.ntmps19
   go_wp2_with (first | ((with_reducible refine gate_dst (N := 2) rfl ?_); refine boxE (N := 2) #[.int .i64 a0_0, .int .i64 a0_1, .slice A0_2 l0_2.length c0_2] 36 ?_; intro gb421 hg w78 hbox hb; have BK421 := am (hbox); have GW421 := gW hg HB; have GE421 := gW hg HB; replace HB := hYb HB hb; clear hb hbox hg) | ((with_reducible refine gate_dst (N := 3) rfl ?_); refine boxE (N := 3) #[.int .i64 a1_0, .int .i64 a1_1, .int .i64 a1_2, .int .i64 a1_3] 24 ?_; intro gb422 hg w79 hbox hb; have BK422 := am (hbox); have GW422 := gW hg HB; have GE422 := gW hg HB; have NB421_422 := nL hg BK421; have NB422_421 := nG hg BK421; replace BK421 := bY BK421 hb; replace HB := hYb HB hb; clear hb hbox hg) | ((with_reducible refine gate_dst (N := 4) rfl ?_); refine boxE (N := 4) #[.int .i64 0, .int .i64 0, .slice none 0 0] 36 ?_; intro gb423 hg w80 hbox hb; have BK423 := am (hbox); have GW423 := gW hg HB; have GE423 := gW hg HB; have NB421_423 := nL hg BK421; have NB423_421 := nG hg BK421; have NB422_423 := nL hg BK422; have NB423_422 := nG hg BK422; replace BK421 := bY BK421 hb; replace BK422 := bY BK422 hb; replace HB := hYb HB hb; clear hb hbox hg; have hnb81 := NB421_422.out; have hnc81 := NB422_421.out; have hnb82 := NB421_423.out; have hnc82 := NB423_421.out; have hcz83_0 := blk_cell BK421.out; have hfz83_0 := blk_frozen BK421.out) | ((with_reducible refine gate_callee (f := 14) rfl ?_); refine goesP (some 11) Try.func14 #[.agg #[.int .i64 a0_0, .int .i64 a0_1, .slice A0_2 l0_2.length c0_2]] ?_; (with_reducible refine (imageeditorref11_Check.calls k a0_0 a0_1 _ _ l0_2 t424 _ ?side1 ?side2 A3.out).mono ?_); (case side1 => repeat (first | exact (Kd.C_below HR0_2.out HB.out) | (with_reducible refine Kd.C_alloc ?_ _) | (with_reducible refine Kd.C_drewN ?_ _) | (with_reducible refine Kd.C_drew ?_))); (case side2 => exact HC0_2.out); rintro e w84 ⟨rfl, hb⟩; refine ⟨_, rfl, ?_⟩; replace BK421 := bY BK421 hb; replace BK422 := bY BK422 hb; replace BK423 := bY BK423 hb; replace HB := hYb HB hb; (try clear hb); (try clear hb2); (try clear hk); (try clear hi); have hnb85 := NB422_423.out; have hnc85 := NB423_422.out; have hcz86_0 := blk_cell BK422.out; have hfz86_0 := blk_frozen BK422.out) | ((with_reducible refine gate_callee (f := 15) rfl ?_); refine goesP (some 17) Try.func15 #[.agg #[.int .i64 a1_0, .int .i64 a1_1, .int .i64 a1_2, .int .i64 a1_3]] ?_; (with_reducible refine (imageeditorref02_Valid.calls a1_0 a1_1 a1_2 a1_3 false _ A5.out).mono ?_); rintro e w87 ⟨rfl, hb⟩; refine ⟨_, rfl, ?_⟩; replace BK421 := bY BK421 hb; replace BK422 := bY BK422 hb; replace BK423 := bY BK423 hb; replace HB := hYb HB hb; (try clear hb); (try clear hb2); (try clear hk); (try clear hi); have hcz88_0 := blk_cell BK423.out; have hfz88_0 := blk_frozen BK423.out))
   refine bodyPost_ret (results_ct rfl _ _ gb423 36 #[.int .i64 0, .int .i64 0, .slice none 0 0] (0, 0) _ rfl (by refine bO ?_; refine blk_put (cs := #[.int .i64 0, .int .i64 0, .slice none 0 0]) ?_ 2 _ rfl; refine bO ?_; refine blk_put (cs := #[.int .i64 0, .int .i64 0, .slice none 0 0]) ?_ 1 _ rfl; refine bO ?_; refine blk_put (cs := #[.int .i64 0, .int .i64 0, .slice none 0 0]) ?_ 0 _ rfl; refine bO ?_; exact BK423.out) Try.underlying36 rfl (by kernel_rfl)) rfl ?_
   exact ⟨_, by first | rfl | (simp [errW_none, errW_some] <;> rfl) | (simp [*, errW_none, errW_some] <;> rfl), by first | exact Kd.R_nil _ _ _ _ _ | exact Kd.N_nil _ _ _ _ _ | exact Kd.V_nil _ _ _ _ _ | exact Kd.Q_nil _ _ _ _ _ | exact Kd.S_nil _ _ _ _ _, by repeat (first | (with_reducible first | exact HB.out | apply below_alloc | apply pw_below_drewN | apply below_drew1 | refine below_set ?_ GE421.out | refine below_set ?_ GE422.out | refine below_set ?_ GE423.out) | exact HB.out)⟩
 ·rw [if_neg c4] at H
  have c4b0 : (t424 == 0) = false := beq_eq_false_iff_ne.mpr c4
  have c4b1 : (t424 != 0) = true := bne_iff_ne.mpr c4
  simp only [Option.some.injEq, Prod.mk.injEq] at H
  obtain ⟨rfl, rfl, rfl, rfl⟩ := H
  go_enter Try.func19, Try.ntmps19
  go_wp2_with (first | ((with_reducible refine gate_dst (N := 2) rfl ?_); refine boxE (N := 2) #[.int .i64 a0_0, .int .i64 a0_1, .slice A0_2 l0_2.length c0_2] 36 ?_; intro gb421 hg w89 hbox hb; have BK421 := am (hbox); have GW421 := gW hg HB; have GE421 := gW hg HB; replace HB := hYb HB hb; clear hb hbox hg) | ((with_reducible refine gate_dst (N := 3) rfl ?_); refine boxE (N := 3) #[.int .i64 a1_0, .int .i64 a1_1, .int .i64 a1_2, .int .i64 a1_3] 24 ?_; intro gb422 hg w90 hbox hb; have BK422 := am (hbox); have GW422 := gW hg HB; have GE422 := gW hg HB; have NB421_422 := nL hg BK421; have NB422_421 := nG hg BK421; replace BK421 := bY BK421 hb; replace HB := hYb HB hb; clear hb hbox hg) | ((with_reducible refine gate_dst (N := 4) rfl ?_); refine boxE (N := 4) #[.int .i64 0, .int .i64 0, .slice none 0 0] 36 ?_; intro gb423 hg w91 hbox hb; have BK423 := am (hbox); have GW423 := gW hg HB; have GE423 := gW hg HB; have NB421_423 := nL hg BK421; have NB423_421 := nG hg BK421; have NB422_423 := nL hg BK422; have NB423_422 := nG hg BK422; replace BK421 := bY BK421 hb; replace BK422 := bY BK422 hb; replace HB := hYb HB hb; clear hb hbox hg; have hnb92 := NB421_422.out; have hnc92 := NB422_421.out; have hnb93 := NB421_423.out; have hnc93 := NB423_421.out; have hcz94_0 := blk_cell BK421.out; have hfz94_0 := blk_frozen BK421.out) | ((with_reducible refine gate_callee (f := 14) rfl ?_); refine goesP (some 11) Try.func14 #[.agg #[.int .i64 a0_0, .int .i64 a0_1, .slice A0_2 l0_2.length c0_2]] ?_; (with_reducible refine (imageeditorref11_Check.calls k a0_0 a0_1 _ _ l0_2 t424 _ ?side1 ?side2 A3.out).mono ?_); (case side1 => repeat (first | exact (Kd.C_below HR0_2.out HB.out) | (with_reducible refine Kd.C_alloc ?_ _) | (with_reducible refine Kd.C_drewN ?_ _) | (with_reducible refine Kd.C_drew ?_))); (case side2 => exact HC0_2.out); rintro e w95 ⟨rfl, hb⟩; refine ⟨_, rfl, ?_⟩; replace BK421 := bY BK421 hb; replace BK422 := bY BK422 hb; replace BK423 := bY BK423 hb; replace HB := hYb HB hb; (try clear hb); (try clear hb2); (try clear hk); (try clear hi); have hnb96 := NB423_422.out; have hnc96 := NB422_423.out; have hcz97_0 := blk_cell BK423.out; have hfz97_0 := blk_frozen BK423.out))
  refine bodyPost_ret (results_ct rfl _ _ gb423 36 #[.int .i64 0, .int .i64 0, .slice none 0 0] (0, 0) _ rfl (by refine bO ?_; refine blk_put (cs := #[.int .i64 0, .int .i64 0, .slice none 0 0]) ?_ 2 _ rfl; refine bO ?_; refine blk_put (cs := #[.int .i64 0, .int .i64 0, .slice none 0 0]) ?_ 1 _ rfl; refine bO ?_; refine blk_put (cs := #[.int .i64 0, .int .i64 0, .slice none 0 0]) ?_ 0 _ rfl; refine bO ?_; exact BK423.out) Try.underlying36 rfl (by kernel_rfl)) rfl ?_
  exact ⟨_, by first | rfl | (simp [errW_none, errW_some] <;> rfl) | (simp [*, errW_none, errW_some] <;> rfl), by first | exact Kd.R_nil _ _ _ _ _ | exact Kd.N_nil _ _ _ _ _ | exact Kd.V_nil _ _ _ _ _ | exact Kd.Q_nil _ _ _ _ _ | exact Kd.S_nil _ _ _ _ _, by repeat (first | (with_reducible first | exact HB.out | apply below_alloc | apply pw_below_drewN | apply below_drew1 | refine below_set ?_ GE421.out | refine below_set ?_ GE422.out | refine below_set ?_ GE423.out) | exact HB.out)⟩

/-! ### imageeditorlaw16_FilterParts: function 4: proved by hand -/
-- the law's walk stands in the text behind these

end Go.Proofs.Ytocefehnemahhaa.G
