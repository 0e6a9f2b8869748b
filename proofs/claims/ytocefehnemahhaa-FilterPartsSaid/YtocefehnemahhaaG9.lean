-- laid by gprint.py (a program of this proof's writer) out of the translation; Lean checks it.
import Derived.Test.YtocefehnemahhaaG0
import Derived.Test.YtocefehnemahhaaG2
import Derived.Test.YtocefehnemahhaaG5
import Derived.Test.YtocefehnemahhaaG6
namespace Go.Proofs.Ytocefehnemahhaa.G
open Go.RowKit Go.Proofs.YtocefehnemahhaaW.PrintWords Go.Proofs.YtocefehnemahhaaW.PrintLast Go.Proofs.YtocefehnemahhaaW.PrintMore
attribute [local go_sem] max2_int min2_int max_two min_two max_three min_three max_four min_four   -- for this text's walks alone
set_option linter.unusedVariables false
set_option linter.unusedSimpArgs false

/-! ### filter_view_motion: function 58 -/
def filter_view_motion.l0 : Nat → Int → Int → Int → Int → Int → Int → Int → List (S51) → Int → Int → Int → Int → Int → Int → Int → Int → Int → Int → Int → Int → Int → Option (Int × Int × Int × Int)
 | 0, _, _, _, _, _, _, _, _, _, _, _, _, _, _, _, _, _, _, _, _, _ => none
 | k + 1, x1, x2, x7, x18, x19, x309000, x309001, x309002, x309003, x309004, x309005, x309006, x309007, x309008, x309009, x309010, x311000, x311001, x311002, x311003, x311004 => if x19 < x18 then ((num_Div.f k (wrap64 (x19 * x1)) x7).bind fun t320 => ((num_Div.f k (wrap64 (x19 * x2)) x7).bind fun t321 => ((filter_view_get.f x309000 x309001 x309002 x309003 x309004 x309005 x309006 x309007 x309008 x309009 x309010 t320 t321).bind fun bt322 => ((filter_total_add.f x311000 x311001 x311002 x311003 x311004 bt322.1 bt322.2.1 bt322.2.2.1 bt322.2.2.2 1).bind fun bt326 => (filter_view_motion.l0 k x1 x2 x7 x18 (wrap64 (x19 + 1)) x309000 x309001 x309002 x309003 x309004 x309005 x309006 x309007 x309008 x309009 x309010 bt326.1 bt326.2.1 bt326.2.2.1 bt326.2.2.2.1 bt326.2.2.2.2))))) else ((filter_total_mean.f k x311000 x311001 x311002 x311003 x311004).bind fun bt311 => (some (bt311.1, bt311.2.1, bt311.2.2.1, bt311.2.2.2.1)))
def filter_view_motion.f (k : Nat) (a0_0 : Int) (a0_1 : Int) (l0_2 : List (S51)) (a0_3 : Int) (a0_4 : Int) (a0_5 : Int) (a0_6 : Int) (a0_7 : Int) (a0_8 : Int) (a0_9 : Int) (a0_10 : Int) (a1 : Int) (a2 : Int) : Option (Int × Int × Int × Int) := filter_view_motion.l0 k a1 a2 (mx (mx (mx a1 (wrap64 (-a1))) a2) (wrap64 (-a2))) (wrap64 ((mx (mx (mx a1 (wrap64 (-a1))) a2) (wrap64 (-a2))) + 1)) 0 a0_0 a0_1 l0_2 a0_3 a0_4 a0_5 a0_6 a0_7 a0_8 a0_9 a0_10 0 0 0 0 0
theorem filter_view_motion.mono_l : ∀ k, (∀ y0 y1 y2 y3 y4 y5 y6 y7 y8 y9 y10 y11 y12 y13 y14 y15 y16 y17 y18 y19 y20, LeO (filter_view_motion.l0 k y0 y1 y2 y3 y4 y5 y6 y7 y8 y9 y10 y11 y12 y13 y14 y15 y16 y17 y18 y19 y20) (filter_view_motion.l0 (k + 1) y0 y1 y2 y3 y4 y5 y6 y7 y8 y9 y10 y11 y12 y13 y14 y15 y16 y17 y18 y19 y20))
 | 0 => fun _ _ _ _ _ _ _ _ _ _ _ _ _ _ _ _ _ _ _ _ _ r h => by simp [filter_view_motion.l0] at h
 | k + 1 => by
  have ih0 := filter_view_motion.mono_l k
  ·intro y0 y1 y2 y3 y4 y5 y6 y7 y8 y9 y10 y11 y12 y13 y14 y15 y16 y17 y18 y19 y20
   unfold filter_view_motion.l0
   repeat' first
   | (with_reducible exact ih0 _ _ _ _ _ _ _ _ _ _ _ _ _ _ _ _ _ _ _ _ _)
   | (with_reducible exact filter_total_mean.mono _ _ _ _ _ _)
   | (with_reducible exact num_Div.mono _ _ _)
   | (with_reducible exact LeO.refl _)
   | (with_reducible exact LeO.none _)
   | (with_reducible refine LeO.ite ?_ ?_)
   | (with_reducible refine LeO.bind ?_ (fun _ => ?_))
   | exact ih0 _ _ _ _ _ _ _ _ _ _ _ _ _ _ _ _ _ _ _ _ _
   | exact filter_total_mean.mono _ _ _ _ _ _
   | exact num_Div.mono _ _ _
   | exact LeO.none _
   | refine LeO.ite ?_ ?_
   | refine LeO.bind ?_ (fun _ => ?_)
theorem filter_view_motion.mono : ∀ a0 a1 a2 a3 a4 a5 a6 a7 a8 a9 a10 a11 a12 k, LeO (filter_view_motion.f k a0 a1 a2 a3 a4 a5 a6 a7 a8 a9 a10 a11 a12) (filter_view_motion.f (k + 1) a0 a1 a2 a3 a4 a5 a6 a7 a8 a9 a10 a11 a12) := by
 intro a0 a1 a2 a3 a4 a5 a6 a7 a8 a9 a10 a11 a12 k
 have ih0 := filter_view_motion.mono_l k
 unfold filter_view_motion.f
 repeat' first
   | (with_reducible exact ih0 _ _ _ _ _ _ _ _ _ _ _ _ _ _ _ _ _ _ _ _ _)
   | (with_reducible exact filter_total_mean.mono _ _ _ _ _ _)
   | (with_reducible exact num_Div.mono _ _ _)
   | (with_reducible exact LeO.refl _)
   | (with_reducible exact LeO.none _)
   | (with_reducible refine LeO.ite ?_ ?_)
   | (with_reducible refine LeO.bind ?_ (fun _ => ?_))
   | exact ih0 _ _ _ _ _ _ _ _ _ _ _ _ _ _ _ _ _ _ _ _ _
   | exact filter_total_mean.mono _ _ _ _ _ _
   | exact num_Div.mono _ _ _
   | exact LeO.none _
   | refine LeO.ite ?_ ?_
   | refine LeO.bind ?_ (fun _ => ?_)
def filter_view_motion.T6 : Bool × List (List Nat × List Nat) := (true, [([], []), ([], []), ([], []), ([1, 2], [1, 2]), ([], []), ([3, 4], [3, 4]), ([], []), ([], []), ([6, 7], [6, 7]), ([], []), ([8, 9, 5], [8, 9]), ([0, 5, 10, 10], [0, 5, 10]), ([11, 11], [11])])
def filter_view_motion.B6 : List Nat := [0, 0, 0, 6, 0, 30, 0, 0, 192, 0, 1022, 2047, 4095]
theorem filter_view_motion.tab6 : rtab .any (opsOf Try.f58 6) = filter_view_motion.T6 := by kernel_rfl
theorem filter_view_motion.bits6 : waitsOk filter_view_motion.T6.2 filter_view_motion.B6 = true := by kernel_rfl
set_option maxHeartbeats 8000000 in
set_option maxRecDepth 100000 in
theorem filter_view_motion.calls (k : Nat) (a0_0 : Int) (a0_1 : Int) (A0_2 : Option Addr) (c0_2 : Nat) (l0_2 : List (S51)) (a0_3 : Int) (a0_4 : Int) (a0_5 : Int) (a0_6 : Int) (a0_7 : Int) (a0_8 : Int) (a0_9 : Int) (a0_10 : Int) (a1 : Int) (a2 : Int) (r1 : Int) (r2 : Int) (r3 : Int) (r4 : Int) (w : World) (hr0_2 : Kd.C k51 w A0_2 l0_2.length l0_2) (hc0_2 : l0_2.length ≤ c0_2) (h : filter_view_motion.f k a0_0 a0_1 l0_2 a0_3 a0_4 a0_5 a0_6 a0_7 a0_8 a0_9 a0_10 a1 a2 = some (r1, r2, r3, r4)) :
  Calls Try.prog 58 #[.agg #[.int .i64 a0_0, .int .i64 a0_1, .slice A0_2 l0_2.length c0_2, .int .i64 a0_3, .int .i64 a0_4, .int .i64 a0_5, .int .i64 a0_6, .int .i64 a0_7, .int .i64 a0_8, .int .i64 a0_9, .int .i64 a0_10], .int .i64 a1, .int .i64 a2] w fun e w' => e = .returned (.agg #[.int .i64 r1, .int .i64 r2, .int .i64 r3, .int .i64 r4]) ∧ Below w.heap.size w w' := by
 have hu71 := Try.underlying71
 have hu51 := Try.underlying51
 have hu86 := Try.underlying86
 have HR0_2 := Aside0.mk hr0_2
 have HC0_2 := Aside0.mk hc0_2
 clear hr0_2 hc0_2
 have HB := am (Below.refl w.heap.size w)
 have H : (filter_view_motion.l0 k a1 a2 (mx (mx (mx a1 (wrap64 (-a1))) a2) (wrap64 (-a2))) (wrap64 ((mx (mx (mx a1 (wrap64 (-a1))) a2) (wrap64 (-a2))) + 1)) 0 a0_0 a0_1 l0_2 a0_3 a0_4 a0_5 a0_6 a0_7 a0_8 a0_9 a0_10 0 0 0 0 0) = some (r1, r2, r3, r4) := h
 clear h
 obtain ⟨ji4, hji4⟩ : ∃ j_ : Int, (mx a1 (wrap64 (-a1))) = j_ := ⟨_, rfl⟩
 replace H : (filter_view_motion.l0 k a1 a2 (mx (mx (ji4) a2) (wrap64 (-a2))) (wrap64 ((mx (mx (ji4) a2) (wrap64 (-a2))) + 1)) 0 a0_0 a0_1 l0_2 a0_3 a0_4 a0_5 a0_6 a0_7 a0_8 a0_9 a0_10 0 0 0 0 0) = some (r1, r2, r3, r4) := by first | (rw [hji4] at H; exact H) | (simp only [hji4] at H ⊢; exact H)
 have hji4_ : (if a1 < (wrap64 (-a1)) then (wrap64 (-a1)) else a1) = ji4 := hji4
 obtain ⟨ji5, hji5⟩ : ∃ j_ : Int, (mx (ji4) a2) = j_ := ⟨_, rfl⟩
 replace H : (filter_view_motion.l0 k a1 a2 (mx (ji5) (wrap64 (-a2))) (wrap64 ((mx (ji5) (wrap64 (-a2))) + 1)) 0 a0_0 a0_1 l0_2 a0_3 a0_4 a0_5 a0_6 a0_7 a0_8 a0_9 a0_10 0 0 0 0 0) = some (r1, r2, r3, r4) := by first | (rw [hji5] at H; exact H) | (simp only [hji5] at H ⊢; exact H)
 have hji5_ : (if (ji4) < a2 then a2 else (ji4)) = ji5 := hji5
 obtain ⟨ji6, hji6⟩ : ∃ j_ : Int, (mx (ji5) (wrap64 (-a2))) = j_ := ⟨_, rfl⟩
 replace H : (filter_view_motion.l0 k a1 a2 ji6 (wrap64 ((ji6) + 1)) 0 a0_0 a0_1 l0_2 a0_3 a0_4 a0_5 a0_6 a0_7 a0_8 a0_9 a0_10 0 0 0 0 0) = some (r1, r2, r3, r4) := by first | (rw [hji6] at H; exact H) | (simp only [hji6] at H ⊢; exact H)
 have hji6_ : (if (ji5) < (wrap64 (-a2)) then (wrap64 (-a2)) else (ji5)) = ji6 := hji6
 have H' := Aside0.mk H
 clear H
 go_enter Try.func58, Try.ntmps58
 go_wp2_with (first | ((with_reducible refine gate_dst (N := 3) rfl ?_); refine boxE (N := 3) #[.int .i64 a0_0, .int .i64 a0_1, .slice A0_2 l0_2.length c0_2, .int .i64 a0_3, .int .i64 a0_4, .int .i64 a0_5, .int .i64 a0_6, .int .i64 a0_7, .int .i64 a0_8, .int .i64 a0_9, .int .i64 a0_10] 71 ?_; intro gb308 hg w7 hbox hb; have BK308 := am (hbox); have GW308 := gW hg HB; have GE308 := gW hg HB; replace HB := hYb HB hb; clear hb hbox hg) | ((with_reducible refine gate_dst (N := 6) rfl ?_); refine boxE (N := 6) #[.int .i64 0, .int .i64 0, .int .i64 0, .int .i64 0] 51 ?_; intro gb309 hg w8 hbox hb; have BK309 := am (hbox); have GW309 := gW hg HB; have GE309 := gW hg HB; have NB308_309 := nL hg BK308; have NB309_308 := nG hg BK308; replace BK308 := bY BK308 hb; replace HB := hYb HB hb; clear hb hbox hg) | ((with_reducible refine gate_dst (N := 8) rfl ?_); refine boxE (N := 8) #[.int .i64 0, .int .i64 0, .int .i64 0, .int .i64 0, .int .i64 0] 86 ?_; intro gb310 hg w9 hbox hb; have NB308_310 := nL hg BK308; have NB310_308 := nG hg BK308; have NB309_310 := nL hg BK309; have NB310_309 := nG hg BK309; have HI310 := am ((⟨hbox, (by rw [hg]; exact (below_size (beX HB.out)) : w.heap.size ≤ gb310)⟩ : IsS86 w w9 gb310 0 0 0 0 0)); replace BK308 := bY BK308 hb; replace BK309 := bY BK309 hb; replace HB := hYb HB hb; clear hb hbox hg))
 go_loopg [19] k (fun kq v19 w' => ∃ (x19_1 : Int) (x311000_1 : Int) (x311001_1 : Int) (x311002_1 : Int) (x311003_1 : Int) (x311004_1 : Int), v19 = .int .i64 x19_1 ∧ Aside0 (filter_view_motion.l0 kq a1 a2 ji6 (wrap64 ((ji6) + 1)) x19_1 a0_0 a0_1 l0_2 a0_3 a0_4 a0_5 a0_6 a0_7 a0_8 a0_9 a0_10 x311000_1 x311001_1 x311002_1 x311003_1 x311004_1 = some (r1, r2, r3, r4)) ∧ Aside0 (kq ≤ k) ∧ Aside0 (w'.heap[gb308]? = some (.cells #[.int .i64 a0_0, .int .i64 a0_1, (.slice A0_2 l0_2.length c0_2), .int .i64 a0_3, .int .i64 a0_4, .int .i64 a0_5, .int .i64 a0_6, .int .i64 a0_7, .int .i64 a0_8, .int .i64 a0_9, .int .i64 a0_10] 71 (0, 0))) ∧ Aside0 (w'.heap[gb309]? = some (.cells #[.int .i64 0, .int .i64 0, .int .i64 0, .int .i64 0] 51 (0, 0))) ∧ Aside0 (IsS86 w w' gb310 x311000_1 x311001_1 x311002_1 x311003_1 x311004_1) ∧ Aside0 (Below w.heap.size w w'))
 case atStart => exact ⟨(0), (0), (0), (0), (0), (0), (by first | rfl | (simp; done) | (simp [*]; done)), H', ⟨Nat.le_refl _⟩, ⟨bX BK308.out⟩, ⟨bX BK309.out⟩, ⟨by repeat (first | (with_reducible first | exact HI310.out | apply IsS86.alloc | apply IsS86.drewN | apply IsS86.drew | apply IsS86.set_0 | apply IsS86.set_1 | apply IsS86.set_2 | apply IsS86.set_3 | apply IsS86.set_4 | refine IsS86.far ?_ NB310_308.out _ | refine IsS86.far ?_ NB310_309.out _) | exact HI310.out)⟩, ⟨by repeat (first | (with_reducible first | exact HB.out | apply below_alloc | apply pw_below_drewN | apply below_drew1 | refine below_set ?_ (IsS86.ge HI310.out) | refine below_set ?_ GE308.out | refine below_set ?_ GE309.out) | exact HB.out)⟩⟩
 case round =>
  clear H'
  try clear p2
  try clear c5
  try clear p6
  obtain ⟨x19_1, x311000_1, x311001_1, x311002_1, x311003_1, x311004_1, rfl, HA, HK1, BK308, BK309, HI310, HB⟩ := hrel
  cases gk with
  | zero => exact absurd HA.out (by simp [filter_view_motion.l0])
  | succ k1 =>
   have H := HA.out
   clear HA
   simp only [filter_view_motion.l0] at H
   by_cases c10 : x19_1 < (wrap64 ((ji6) + 1))
   ·rw [if_pos c10] at H
    have c10b0 : decide (x19_1 < (wrap64 ((ji6) + 1))) = true := decide_eq_true c10
    clear c10
    replace H := Option.bind_eq_some_iff.mp H
    obtain ⟨t320, A110, H⟩ := H
    replace H : ((num_Div.f k1 (wrap64 (x19_1 * a2)) ji6).bind fun t321 => ((filter_view_get.f a0_0 a0_1 l0_2 a0_3 a0_4 a0_5 a0_6 a0_7 a0_8 a0_9 a0_10 t320 t321).bind fun bt322 => ((filter_total_add.f x311000_1 x311001_1 x311002_1 x311003_1 x311004_1 bt322.1 bt322.2.1 bt322.2.2.1 bt322.2.2.2 1).bind fun bt326 => (filter_view_motion.l0 k1 a1 a2 ji6 (wrap64 ((ji6) + 1)) (wrap64 (x19_1 + 1)) a0_0 a0_1 l0_2 a0_3 a0_4 a0_5 a0_6 a0_7 a0_8 a0_9 a0_10 bt326.1 bt326.2.1 bt326.2.2.1 bt326.2.2.2.1 bt326.2.2.2.2)))) = some (r1, r2, r3, r4) := H
    have A11 := Aside0.mk A110
    clear A110
    replace H := Option.bind_eq_some_iff.mp H
    obtain ⟨t321, A120, H⟩ := H
    replace H : ((filter_view_get.f a0_0 a0_1 l0_2 a0_3 a0_4 a0_5 a0_6 a0_7 a0_8 a0_9 a0_10 t320 t321).bind fun bt322 => ((filter_total_add.f x311000_1 x311001_1 x311002_1 x311003_1 x311004_1 bt322.1 bt322.2.1 bt322.2.2.1 bt322.2.2.2 1).bind fun bt326 => (filter_view_motion.l0 k1 a1 a2 ji6 (wrap64 ((ji6) + 1)) (wrap64 (x19_1 + 1)) a0_0 a0_1 l0_2 a0_3 a0_4 a0_5 a0_6 a0_7 a0_8 a0_9 a0_10 bt326.1 bt326.2.1 bt326.2.2.1 bt326.2.2.2.1 bt326.2.2.2.2))) = some (r1, r2, r3, r4) := H
    have A12 := Aside0.mk A120
    clear A120
    replace H := Option.bind_eq_some_iff.mp H
    obtain ⟨⟨t322, t323, t324, t325⟩, A130, H⟩ := H
    replace H : ((filter_total_add.f x311000_1 x311001_1 x311002_1 x311003_1 x311004_1 t322 t323 t324 t325 1).bind fun bt326 => (filter_view_motion.l0 k1 a1 a2 ji6 (wrap64 ((ji6) + 1)) (wrap64 (x19_1 + 1)) a0_0 a0_1 l0_2 a0_3 a0_4 a0_5 a0_6 a0_7 a0_8 a0_9 a0_10 bt326.1 bt326.2.1 bt326.2.2.1 bt326.2.2.2.1 bt326.2.2.2.2)) = some (r1, r2, r3, r4) := H
    have A13 := Aside0.mk A130
    clear A130
    replace H := Option.bind_eq_some_iff.mp H
    obtain ⟨⟨t326, t327, t328, t329, t330⟩, A140, H⟩ := H
    replace H : (filter_view_motion.l0 k1 a1 a2 ji6 (wrap64 ((ji6) + 1)) (wrap64 (x19_1 + 1)) a0_0 a0_1 l0_2 a0_3 a0_4 a0_5 a0_6 a0_7 a0_8 a0_9 a0_10 t326 t327 t328 t329 t330) = some (r1, r2, r3, r4) := H
    have A14 := Aside0.mk A140
    clear A140
    have H' := Aside0.mk H
    clear H
    try go_wp2
    replace BK308 := am (blk_drew BK308.out)
    replace BK309 := am (blk_drew BK309.out)
    replace HI310 := am (IsS86.drew HI310.out)
    replace HB := am (below_drew1 HB.out)
    refine start_ (n := 13) (S := fun w' => w'.cell? ⟨gb308, 0, none⟩ = some (.int .i64 a0_0) ∧ w'.cell? ⟨gb308, 1, none⟩ = some (.int .i64 a0_1) ∧ w'.cell? ⟨gb308, 2, none⟩ = some (.slice A0_2 l0_2.length c0_2) ∧ w'.cell? ⟨gb308, 3, none⟩ = some (.int .i64 a0_3) ∧ w'.cell? ⟨gb308, 4, none⟩ = some (.int .i64 a0_4) ∧ w'.cell? ⟨gb308, 5, none⟩ = some (.int .i64 a0_5) ∧ w'.cell? ⟨gb308, 6, none⟩ = some (.int .i64 a0_6) ∧ w'.cell? ⟨gb308, 7, none⟩ = some (.int .i64 a0_7) ∧ w'.cell? ⟨gb308, 8, none⟩ = some (.int .i64 a0_8) ∧ w'.cell? ⟨gb308, 9, none⟩ = some (.int .i64 a0_9) ∧ w'.cell? ⟨gb308, 10, none⟩ = some (.int .i64 a0_10)) (ds := []) #[false, false, false, false, false, false, false, false, false, false, false, false, false] (by kernel_rfl) rfl rfl ⟨(blk_cell BK308.out 0).trans rfl, (blk_cell BK308.out 1).trans rfl, (blk_cell BK308.out 2).trans rfl, (blk_cell BK308.out 3).trans rfl, (blk_cell BK308.out 4).trans rfl, (blk_cell BK308.out 5).trans rfl, (blk_cell BK308.out 6).trans rfl, (blk_cell BK308.out 7).trans rfl, (blk_cell BK308.out 8).trans rfl, (blk_cell BK308.out 9).trans rfl, (blk_cell BK308.out 10).trans rfl⟩ (fun hHeld => ?_); refine with_tabW filter_view_motion.tab6 filter_view_motion.bits6 (fun HT_ HW_ => ?_)
    generalize wr.drew = w15 at BK308 BK309 HI310 HB hHeld ⊢
    refine pure_ (i := 1) (N := some 23) (v := ?_) (a' := ?_) #[false, true, false, false, false, false, false, false, false, false, false, false, false] rfl rfl (any_of HT_.out (by kernel_rfl)) (fun _ _ _ h => h) (Or.inl ⟨by rfl, ?_⟩) ?_ ?_
    rotate_left
    ·intro w'
     go_simp
     with_reducible rfl
    rotate_left
    ·simp only [Act.put, List.setIfInBounds_toArray, List.set_cons_zero, List.set_cons_succ, i64_w, i32_w]
     rfl
    refine pure_ (i := 2) (N := some 24) (v := ?_) (a' := ?_) #[false, true, true, false, false, false, false, false, false, false, false, false, false] rfl rfl (any_of HT_.out (by kernel_rfl)) (fun _ _ _ h => h) (Or.inl ⟨by rfl, ?_⟩) ?_ ?_
    rotate_left
    ·intro w'
     go_simp
     with_reducible rfl
    rotate_left
    ·simp only [Act.put, List.setIfInBounds_toArray, List.set_cons_zero, List.set_cons_succ, i64_w, i32_w]
     rfl
    refine pure_ (i := 3) (N := some 25) (v := ?_) (a' := ?_) #[false, true, true, true, false, false, false, false, false, false, false, false, false] rfl rfl (any_of HT_.out (by kernel_rfl)) (fun _ _ _ h => h) (Or.inl ⟨by rfl, ?_⟩) ?_ ?_
    rotate_left
    ·intro w'
     go_simp
     with_reducible rfl
    rotate_left
    ·simp only [Act.put, List.setIfInBounds_toArray, List.set_cons_zero, List.set_cons_succ, i64_w, i32_w]
     rfl
    refine pure_ (i := 4) (N := some 26) (v := ?_) (a' := ?_) #[false, true, true, true, true, false, false, false, false, false, false, false, false] rfl rfl (any_of HT_.out (by kernel_rfl)) (fun _ _ _ h => h) (Or.inl ⟨by rfl, ?_⟩) ?_ ?_
    rotate_left
    ·intro w'
     go_simp
     with_reducible rfl
    rotate_left
    ·simp only [Act.put, List.setIfInBounds_toArray, List.set_cons_zero, List.set_cons_succ, i64_w, i32_w]
     rfl
    refine pure_ (i := 6) (N := some 28) (v := ?_) (a' := ?_) #[false, true, true, true, true, false, true, false, false, false, false, false, false] rfl rfl (any_of HT_.out (by kernel_rfl)) (fun _ _ _ h => h) (Or.inl ⟨by rfl, ?_⟩) ?_ ?_
    rotate_left
    ·intro w'
     go_simp
     with_reducible rfl
    rotate_left
    ·simp only [Act.put, List.setIfInBounds_toArray, List.set_cons_zero, List.set_cons_succ, i64_w, i32_w]
     rfl
    refine pure_ (i := 7) (N := some 29) (v := ?_) (a' := ?_) #[false, true, true, true, true, false, true, true, false, false, false, false, false] rfl rfl (any_of HT_.out (by kernel_rfl)) (fun _ _ _ h => h) (Or.inl ⟨by rfl, ?_⟩) ?_ ?_
    rotate_left
    ·intro w'
     go_simp
     with_reducible rfl
    rotate_left
    ·simp only [Act.put, List.setIfInBounds_toArray, List.set_cons_zero, List.set_cons_succ, i64_w, i32_w]
     rfl
    refine pure_ (i := 8) (N := some 30) (v := ?_) (a' := ?_) #[false, true, true, true, true, false, true, true, true, false, false, false, false] rfl rfl (any_of HT_.out (by kernel_rfl)) (fun _ _ _ h => h) (Or.inl ⟨by rfl, ?_⟩) ?_ ?_
    rotate_left
    ·intro w'
     go_simp
     with_reducible rfl
    rotate_left
    ·simp only [Act.put, List.setIfInBounds_toArray, List.set_cons_zero, List.set_cons_succ, i64_w, i32_w]
     rfl
    refine pure_ (i := 9) (N := some 31) (v := ?_) (a' := ?_) #[false, true, true, true, true, false, true, true, true, true, false, false, false] rfl rfl (any_of HT_.out (by kernel_rfl)) (fun _ _ _ h => h) (Or.inl ⟨by rfl, ?_⟩) ?_ ?_
    rotate_left
    ·intro w'
     go_simp
     with_reducible rfl
    rotate_left
    ·simp only [Act.put, List.setIfInBounds_toArray, List.set_cons_zero, List.set_cons_succ, i64_w, i32_w]
     rfl
    refine take_ (i := 0) (N := some 22) (v := ?_) (a' := ?_) #[true, true, true, true, true, false, true, true, true, true, false, false, false] rfl rfl (take_ofW HT_.out HW_.out (by kernel_rfl)) (fun _ _ _ h => h) (Or.inl ⟨by rfl, ?_⟩) hHeld ?_ ?_
    rotate_left
    ·rintro w' ⟨s0, s1, s2, s3, s4, s5, s6, s7, s8, s9, s10⟩
     go_simp
     with_reducible rfl
    rotate_left
    ·simp only [Act.put, List.setIfInBounds_toArray, List.set_cons_zero, List.set_cons_succ, i64_w, i32_w]
     rfl
    refine one_ (i := 5) (N := some 27) #[true, true, true, true, true, true, true, true, true, true, false, false, false] rfl rfl (one_of HT_.out (by kernel_rfl)) (by decide) (fun K hK => ?_)
    refine goes_ Try.func70 (by kernel_rfl) rfl #[.int .i64 (wrap64 (x19_1 * a1)), .int .i64 ji6] (by rfl) rfl rfl (by (try simp only [List.map_toArray, List.map_cons, List.map_nil]); first | done | (simp only [hji6]; rfl) | rfl | (simp only [List.length_drop, List.length_take]; rfl)) ?_
    with_reducible refine (num_Div.calls k1 (wrap64 (x19_1 * a1)) ji6 t320 _ A11.out).mono ?_
    rintro e w' ⟨rfl, ⟨nd, rfl⟩⟩
    refine ⟨_, rfl, ?_⟩
    refine hK.out _ _ ⟨(blk_cell BK308.out 0).trans rfl, (blk_cell BK308.out 1).trans rfl, (blk_cell BK308.out 2).trans rfl, (blk_cell BK308.out 3).trans rfl, (blk_cell BK308.out 4).trans rfl, (blk_cell BK308.out 5).trans rfl, (blk_cell BK308.out 6).trans rfl, (blk_cell BK308.out 7).trans rfl, (blk_cell BK308.out 8).trans rfl, (blk_cell BK308.out 9).trans rfl, (blk_cell BK308.out 10).trans rfl⟩ (fun hHeld => ?_)
    clear hK K
    refine norm_ (a' := ?_) ?_ ?_
    rotate_left
    ·show Act.put _ (some 27) _ = _
     simp only [Act.put, List.setIfInBounds_toArray, List.set_cons_zero, List.set_cons_succ, i64_w, i32_w]
     rfl
    refine one_ (i := 10) (N := some 32) #[true, true, true, true, true, true, true, true, true, true, true, false, false] rfl rfl (one_of HT_.out (by kernel_rfl)) (by decide) (fun K hK => ?_)
    refine goes_ Try.func70 (by kernel_rfl) rfl #[.int .i64 (wrap64 (x19_1 * a2)), .int .i64 ji6] (by rfl) rfl rfl (by (try simp only [List.map_toArray, List.map_cons, List.map_nil]); first | done | (simp only [hji6]; rfl) | rfl | (simp only [List.length_drop, List.length_take]; rfl)) ?_
    with_reducible refine (num_Div.calls k1 (wrap64 (x19_1 * a2)) ji6 t321 _ A12.out).mono ?_
    rintro e w' ⟨rfl, ⟨nd, rfl⟩⟩
    refine ⟨_, rfl, ?_⟩
    refine hK.out _ _ ⟨(blk_cell BK308.out 0).trans rfl, (blk_cell BK308.out 1).trans rfl, (blk_cell BK308.out 2).trans rfl, (blk_cell BK308.out 3).trans rfl, (blk_cell BK308.out 4).trans rfl, (blk_cell BK308.out 5).trans rfl, (blk_cell BK308.out 6).trans rfl, (blk_cell BK308.out 7).trans rfl, (blk_cell BK308.out 8).trans rfl, (blk_cell BK308.out 9).trans rfl, (blk_cell BK308.out 10).trans rfl⟩ (fun hHeld => ?_)
    clear hK K
    refine norm_ (a' := ?_) ?_ ?_
    rotate_left
    ·show Act.put _ (some 32) _ = _
     simp only [Act.put, List.setIfInBounds_toArray, List.set_cons_zero, List.set_cons_succ, i64_w, i32_w]
     rfl
    refine one_ (i := 11) (N := some 33) #[true, true, true, true, true, true, true, true, true, true, true, true, false] rfl rfl (one_of HT_.out (by kernel_rfl)) (by decide) (fun K hK => ?_)
    refine goes_ Try.func66 (by kernel_rfl) rfl #[.agg #[.int .i64 a0_0, .int .i64 a0_1, .slice A0_2 l0_2.length c0_2, .int .i64 a0_3, .int .i64 a0_4, .int .i64 a0_5, .int .i64 a0_6, .int .i64 a0_7, .int .i64 a0_8, .int .i64 a0_9, .int .i64 a0_10], .int .i64 t320, .int .i64 t321] (by rfl) rfl rfl (by (try simp only [List.map_toArray, List.map_cons, List.map_nil]); first | done | rfl | (simp only [List.length_drop, List.length_take]; rfl)) ?_
    with_reducible refine (filter_view_get.calls a0_0 a0_1 _ _ l0_2 a0_3 a0_4 a0_5 a0_6 a0_7 a0_8 a0_9 a0_10 t320 t321 t322 t323 t324 t325 _ ?side1 ?side2 A13.out).mono ?_
    (case side1 => repeat (first | exact (Kd.C_below HR0_2.out (by repeat (first | (with_reducible first | exact HB.out | apply below_alloc | apply pw_below_drewN | apply below_drew1 | refine below_set ?_ (IsS86.ge HI310.out) | refine below_set ?_ GE308.out | refine below_set ?_ GE309.out) | exact HB.out))) | (with_reducible refine Kd.C_alloc ?_ _) | (with_reducible refine Kd.C_drewN ?_ _) | (with_reducible refine Kd.C_drew ?_)))
    (case side2 => exact HC0_2.out)
    rintro e w16 ⟨rfl, hb⟩
    refine ⟨_, rfl, ?_⟩
    replace BK308 := bY BK308 hb
    replace BK309 := bY BK309 hb
    replace HB := am (below_step (by repeat (first | (with_reducible first | exact HB.out | apply below_alloc | apply pw_below_drewN | apply below_drew1 | refine below_set ?_ (IsS86.ge HI310.out) | refine below_set ?_ GE308.out | refine below_set ?_ GE309.out) | exact HB.out)) hb)
    replace HI310 := am (IsS86.below (by repeat (first | (with_reducible first | exact HI310.out | apply IsS86.alloc | apply IsS86.drewN | apply IsS86.drew | apply IsS86.set_0 | apply IsS86.set_1 | apply IsS86.set_2 | apply IsS86.set_3 | apply IsS86.set_4 | refine IsS86.far ?_ NB310_308.out _ | refine IsS86.far ?_ NB310_309.out _) | exact HI310.out)) hb)
    (try clear hb)
    (try clear hb2)
    (try clear hk)
    (try clear hi)
    refine hK.out _ _ ⟨(blk_cell BK308.out 0).trans rfl, (blk_cell BK308.out 1).trans rfl, (blk_cell BK308.out 2).trans rfl, (blk_cell BK308.out 3).trans rfl, (blk_cell BK308.out 4).trans rfl, (blk_cell BK308.out 5).trans rfl, (blk_cell BK308.out 6).trans rfl, (blk_cell BK308.out 7).trans rfl, (blk_cell BK308.out 8).trans rfl, (blk_cell BK308.out 9).trans rfl, (blk_cell BK308.out 10).trans rfl⟩ (fun hHeld => ?_)
    clear hK K
    refine norm_ (a' := ?_) ?_ ?_
    rotate_left
    ·show Act.put _ (some 33) _ = _
     simp only [Act.put, List.setIfInBounds_toArray, List.set_cons_zero, List.set_cons_succ, i64_w, i32_w]
     rfl
    refine one_ (i := 12) (N := some 34) #[true, true, true, true, true, true, true, true, true, true, true, true, true] rfl rfl (one_of HT_.out (by kernel_rfl)) (by decide) (fun K hK => ?_)
    refine goes_ Try.func64 (by kernel_rfl) rfl #[.pointer (some ⟨gb310, 0, none⟩), .agg #[.int .i64 t322, .int .i64 t323, .int .i64 t324, .int .i64 t325], .int .i64 1] (by rfl) rfl rfl (by (try simp only [List.map_toArray, List.map_cons, List.map_nil]); first | done | rfl | (simp only [List.length_drop, List.length_take]; rfl)) ?_
    with_reducible refine (filter_total_add.calls gb310 x311000_1 x311001_1 x311002_1 x311003_1 x311004_1 t322 t323 t324 t325 1 t326 t327 t328 t329 t330 w _ ?side1 ?side2 A14.out).mono ?_
    (case side1 => repeat (first | (with_reducible first | exact HI310.out | apply IsS86.alloc | apply IsS86.drewN | apply IsS86.drew | apply IsS86.set_0 | apply IsS86.set_1 | apply IsS86.set_2 | apply IsS86.set_3 | apply IsS86.set_4 | refine IsS86.far ?_ NB310_308.out _ | refine IsS86.far ?_ NB310_309.out _) | exact HI310.out))
    (case side2 => repeat (first | (with_reducible first | exact HB.out | apply below_alloc | apply pw_below_drewN | apply below_drew1 | refine below_set ?_ (IsS86.ge HI310.out) | refine below_set ?_ GE308.out | refine below_set ?_ GE309.out) | exact HB.out))
    rintro e w17 ⟨rfl, hi, hb, hk⟩
    refine ⟨_, rfl, ?_⟩
    replace BK308 := am (KeepBut.blk hk (g' := gb308) (o := .cells #[.int .i64 a0_0, .int .i64 a0_1, .slice A0_2 l0_2.length c0_2, .int .i64 a0_3, .int .i64 a0_4, .int .i64 a0_5, .int .i64 a0_6, .int .i64 a0_7, .int .i64 a0_8, .int .i64 a0_9, .int .i64 a0_10] 71 (0, 0)) (bX BK308.out) NB308_310.out (by simp))
    replace BK309 := am (KeepBut.blk hk (g' := gb309) (o := .cells #[.int .i64 0, .int .i64 0, .int .i64 0, .int .i64 0] 51 (0, 0)) (bX BK309.out) NB309_310.out (by simp))
    replace HB := am (hb)
    replace HI310 := am (hi)
    (try clear hb)
    (try clear hb2)
    (try clear hk)
    (try clear hi)
    refine hK.out _ _ ⟨(blk_cell BK308.out 0).trans rfl, (blk_cell BK308.out 1).trans rfl, (blk_cell BK308.out 2).trans rfl, (blk_cell BK308.out 3).trans rfl, (blk_cell BK308.out 4).trans rfl, (blk_cell BK308.out 5).trans rfl, (blk_cell BK308.out 6).trans rfl, (blk_cell BK308.out 7).trans rfl, (blk_cell BK308.out 8).trans rfl, (blk_cell BK308.out 9).trans rfl, (blk_cell BK308.out 10).trans rfl⟩ (fun hHeld => ?_)
    clear hK K
    refine norm_ (a' := ?_) ?_ ?_
    rotate_left
    ·show Act.put _ (some 34) _ = _
     simp only [Act.put, List.setIfInBounds_toArray, List.set_cons_zero, List.set_cons_succ, i64_w, i32_w]
     rfl
    refine done_ (done_of HT_.out (by kernel_rfl)) ?_
    try go_wp2
    go_roundg k1
    case measure => have := HK1.out; omega
    case rel => exact ⟨(wrap64 (x19_1 + 1)), (t326), (t327), (t328), (t329), (t330), (by first | rfl | (simp; done) | (simp [*]; done)), H', ⟨by have := HK1.out; omega⟩, ⟨bX BK308.out⟩, ⟨bX BK309.out⟩, ⟨by repeat (first | (with_reducible first | exact HI310.out | apply IsS86.alloc | apply IsS86.drewN | apply IsS86.drew | apply IsS86.set_0 | apply IsS86.set_1 | apply IsS86.set_2 | apply IsS86.set_3 | apply IsS86.set_4 | refine IsS86.far ?_ NB310_308.out _ | refine IsS86.far ?_ NB310_309.out _) | exact HI310.out)⟩, ⟨by repeat (first | (with_reducible first | exact HB.out | apply below_alloc | apply pw_below_drewN | apply below_drew1 | refine below_set ?_ (IsS86.ge HI310.out) | refine below_set ?_ GE308.out | refine below_set ?_ GE309.out) | exact HB.out)⟩⟩
   ·rw [if_neg c10] at H
    have c10b0 : decide (x19_1 < (wrap64 ((ji6) + 1))) = false := decide_eq_false c10
    clear c10
    replace H := Option.bind_eq_some_iff.mp H
    obtain ⟨⟨t311, t312, t313, t314, t315, t316, t317, t318, t319⟩, A180, H⟩ := H
    replace H : (some (t311, t312, t313, t314)) = some (r1, r2, r3, r4) := H
    have A18 := Aside0.mk A180
    clear A180
    simp only [Option.some.injEq, Prod.mk.injEq] at H
    obtain ⟨rfl, rfl, rfl, rfl⟩ := H
    go_wp2_with (first | ((with_reducible refine gate_callee (f := 65) rfl ?_); refine goesP (some 36) Try.func65 #[.pointer (some ⟨gb310, 0, none⟩)] ?_; (with_reducible refine (filter_total_mean.calls k1 gb310 x311000_1 x311001_1 x311002_1 x311003_1 x311004_1 t311 t312 t313 t314 t315 t316 t317 t318 t319 w _ ?side1 ?side2 A18.out).mono ?_); (case side1 => repeat (first | (with_reducible first | exact HI310.out | apply IsS86.alloc | apply IsS86.drewN | apply IsS86.drew | apply IsS86.set_0 | apply IsS86.set_1 | apply IsS86.set_2 | apply IsS86.set_3 | apply IsS86.set_4 | refine IsS86.far ?_ NB310_308.out _ | refine IsS86.far ?_ NB310_309.out _) | exact HI310.out)); (case side2 => repeat (first | (with_reducible first | exact HB.out | apply below_alloc | apply pw_below_drewN | apply below_drew1 | refine below_set ?_ (IsS86.ge HI310.out) | refine below_set ?_ GE308.out | refine below_set ?_ GE309.out) | exact HB.out)); rintro e w19 ⟨rfl, hi, hb, hk⟩; refine ⟨_, rfl, ?_⟩; replace BK308 := am (KeepBut.blk hk (g' := gb308) (o := .cells #[.int .i64 a0_0, .int .i64 a0_1, .slice A0_2 l0_2.length c0_2, .int .i64 a0_3, .int .i64 a0_4, .int .i64 a0_5, .int .i64 a0_6, .int .i64 a0_7, .int .i64 a0_8, .int .i64 a0_9, .int .i64 a0_10] 71 (0, 0)) (bX BK308.out) NB308_310.out (by simp)); replace BK309 := am (KeepBut.blk hk (g' := gb309) (o := .cells #[.int .i64 0, .int .i64 0, .int .i64 0, .int .i64 0] 51 (0, 0)) (bX BK309.out) NB309_310.out (by simp)); replace HB := am (hb); replace HI310 := am (hi); (try clear hb); (try clear hb2); (try clear hk); (try clear hi); have hnb20 := NB309_308.out; have hnc20 := NB308_309.out; have hnb21 := NB309_310.out; have hnc21 := NB310_309.out; have hcz22_0 := blk_cell BK309.out; have hfz22_0 := blk_frozen BK309.out))
    refine bodyPost_ret (results_cell_row rfl _ _ gb309 51 #[.int .i64 t311, .int .i64 t312, .int .i64 t313, .int .i64 t314] (0, 0) _ rfl (by refine bO ?_; refine blk_put (cs := #[.int .i64 t311, .int .i64 t312, .int .i64 t313, .int .i64 0]) ?_ 3 _ rfl; refine bO ?_; refine blk_put (cs := #[.int .i64 t311, .int .i64 t312, .int .i64 0, .int .i64 0]) ?_ 2 _ rfl; refine bO ?_; refine blk_put (cs := #[.int .i64 t311, .int .i64 0, .int .i64 0, .int .i64 0]) ?_ 1 _ rfl; refine bO ?_; refine blk_put (cs := #[.int .i64 0, .int .i64 0, .int .i64 0, .int .i64 0]) ?_ 0 _ rfl; refine bO ?_; exact BK309.out) Try.underlying51 rfl (by kernel_rfl)) rfl ?_
    exact ⟨by first | rfl | (simp [errW_none, errW_some] <;> rfl) | (simp only [← hji4, ← hji5, ← hji6]; first | rfl | (simp [errW_none, errW_some] <;> rfl)) | (simp [*, errW_none, errW_some] <;> rfl), by repeat (first | (with_reducible first | exact HB.out | apply below_alloc | apply pw_below_drewN | apply below_drew1 | refine below_set ?_ (IsS86.ge HI310.out) | refine below_set ?_ GE308.out | refine below_set ?_ GE309.out) | exact HB.out)⟩

/-! ### rect_Has: function 73 -/
def rect_Has.f (a0_0 : Int) (a0_1 : Int) (a0_2 : Int) (a0_3 : Int) (a1_0 : Int) (a1_1 : Int) : Option (Bool) := (rect_known.f a0_0 a0_1 a0_2 a0_3).bind fun bt333 => (if a1_0 ≥ bt333.1 then (if a1_0 < (wrap64 (bt333.1 + bt333.2.2.1)) then (if a1_1 ≥ bt333.2.1 then (some (decide (a1_1 < (wrap64 (bt333.2.1 + bt333.2.2.2))))) else (some false)) else (some false)) else (some false))
set_option maxHeartbeats 8000000 in
set_option maxRecDepth 100000 in
theorem rect_Has.calls (a0_0 : Int) (a0_1 : Int) (a0_2 : Int) (a0_3 : Int) (a1_0 : Int) (a1_1 : Int) (r : Bool) (w : World) (h : rect_Has.f a0_0 a0_1 a0_2 a0_3 a1_0 a1_1 = some r) :
  Calls Try.prog 73 #[.agg #[.int .i64 a0_0, .int .i64 a0_1, .int .i64 a0_2, .int .i64 a0_3], .agg #[.int .i64 a1_0, .int .i64 a1_1]] w fun e w' => e = .returned (.bool r) ∧ Below w.heap.size w w' := by
 have hu24 := Try.underlying24
 have hu47 := Try.underlying47
 have HB := am (Below.refl w.heap.size w)
 have H : ((rect_known.f a0_0 a0_1 a0_2 a0_3).bind fun bt333 => (if a1_0 ≥ bt333.1 then (if a1_0 < (wrap64 (bt333.1 + bt333.2.2.1)) then (if a1_1 ≥ bt333.2.1 then (some (decide (a1_1 < (wrap64 (bt333.2.1 + bt333.2.2.2))))) else (some false)) else (some false)) else (some false))) = some r := h
 clear h
 replace H := Option.bind_eq_some_iff.mp H
 obtain ⟨⟨t333, t334, t335, t336⟩, A30, H⟩ := H
 replace H : (if a1_0 ≥ t333 then (if a1_0 < (wrap64 (t333 + t335)) then (if a1_1 ≥ t334 then (some (decide (a1_1 < (wrap64 (t334 + t336))))) else (some false)) else (some false)) else (some false)) = some r := H
 have A3 := Aside0.mk A30
 clear A30
 by_cases c4 : a1_0 ≥ t333
 ·rw [if_pos c4] at H
  have c4b0 : decide (t333 ≤ a1_0) = true := decide_eq_true c4
  clear c4
  by_cases c5 : a1_0 < (wrap64 (t333 + t335))
  ·rw [if_pos c5] at H
   have c5b0 : decide (a1_0 < (wrap64 (t333 + t335))) = true := decide_eq_true c5
   clear c5
   by_cases c6 : a1_1 ≥ t334
   ·rw [if_pos c6] at H
    have c6b0 : decide (t334 ≤ a1_1) = true := decide_eq_true c6
    clear c6
    obtain rfl := Option.some.inj H
    go_enter Try.func73, Try.ntmps73
    go_wp2_with (first | ((with_reducible refine gate_dst (N := 2) rfl ?_); refine boxE (N := 2) #[.int .i64 a0_0, .int .i64 a0_1, .int .i64 a0_2, .int .i64 a0_3] 24 ?_; intro gb331 hg w7 hbox hb; have BK331 := am (hbox); have GW331 := gW hg HB; have GE331 := gW hg HB; replace HB := hYb HB hb; clear hb hbox hg) | ((with_reducible refine gate_dst (N := 3) rfl ?_); refine boxE (N := 3) #[.int .i64 a1_0, .int .i64 a1_1] 47 ?_; intro gb332 hg w8 hbox hb; have BK332 := am (hbox); have GW332 := gW hg HB; have GE332 := gW hg HB; have NB331_332 := nL hg BK331; have NB332_331 := nG hg BK331; replace BK331 := bY BK331 hb; replace HB := hYb HB hb; clear hb hbox hg; have hnb9 := NB331_332.out; have hnc9 := NB332_331.out; have hcz10_0 := blk_cell BK331.out; have hfz10_0 := blk_frozen BK331.out) | ((with_reducible refine gate_callee (f := 41) rfl ?_); refine goesP (some 6) Try.func41 #[.agg #[.int .i64 a0_0, .int .i64 a0_1, .int .i64 a0_2, .int .i64 a0_3]] ?_; (with_reducible refine (rect_known.calls a0_0 a0_1 a0_2 a0_3 t333 t334 t335 t336 _ A3.out).mono ?_); rintro e w11 ⟨rfl, hb⟩; refine ⟨_, rfl, ?_⟩; replace BK331 := bY BK331 hb; replace BK332 := bY BK332 hb; replace HB := hYb HB hb; (try clear hb); (try clear hb2); (try clear hk); (try clear hi); have hcz12_0 := blk_cell BK331.out; have hfz12_0 := blk_frozen BK331.out; have hcz13_0 := blk_cell BK332.out; have hfz13_0 := blk_frozen BK332.out))
    go_ret
    exact ⟨by first | rfl | (simp [errW_none, errW_some] <;> rfl) | (simp [*, errW_none, errW_some] <;> rfl), by repeat (first | (with_reducible first | exact HB.out | apply below_alloc | apply pw_below_drewN | apply below_drew1 | refine below_set ?_ GE331.out | refine below_set ?_ GE332.out) | exact HB.out)⟩
   ·rw [if_neg c6] at H
    have c6b0 : decide (t334 ≤ a1_1) = false := decide_eq_false c6
    clear c6
    obtain rfl := Option.some.inj H
    go_enter Try.func73, Try.ntmps73
    go_wp2_with (first | ((with_reducible refine gate_dst (N := 2) rfl ?_); refine boxE (N := 2) #[.int .i64 a0_0, .int .i64 a0_1, .int .i64 a0_2, .int .i64 a0_3] 24 ?_; intro gb331 hg w14 hbox hb; have BK331 := am (hbox); have GW331 := gW hg HB; have GE331 := gW hg HB; replace HB := hYb HB hb; clear hb hbox hg) | ((with_reducible refine gate_dst (N := 3) rfl ?_); refine boxE (N := 3) #[.int .i64 a1_0, .int .i64 a1_1] 47 ?_; intro gb332 hg w15 hbox hb; have BK332 := am (hbox); have GW332 := gW hg HB; have GE332 := gW hg HB; have NB331_332 := nL hg BK331; have NB332_331 := nG hg BK331; replace BK331 := bY BK331 hb; replace HB := hYb HB hb; clear hb hbox hg; have hnb16 := NB331_332.out; have hnc16 := NB332_331.out; have hcz17_0 := blk_cell BK331.out; have hfz17_0 := blk_frozen BK331.out) | ((with_reducible refine gate_callee (f := 41) rfl ?_); refine goesP (some 6) Try.func41 #[.agg #[.int .i64 a0_0, .int .i64 a0_1, .int .i64 a0_2, .int .i64 a0_3]] ?_; (with_reducible refine (rect_known.calls a0_0 a0_1 a0_2 a0_3 t333 t334 t335 t336 _ A3.out).mono ?_); rintro e w18 ⟨rfl, hb⟩; refine ⟨_, rfl, ?_⟩; replace BK331 := bY BK331 hb; replace BK332 := bY BK332 hb; replace HB := hYb HB hb; (try clear hb); (try clear hb2); (try clear hk); (try clear hi); have hcz19_0 := blk_cell BK331.out; have hfz19_0 := blk_frozen BK331.out; have hcz20_0 := blk_cell BK332.out; have hfz20_0 := blk_frozen BK332.out))
    go_ret
    exact ⟨by first | rfl | (simp [errW_none, errW_some] <;> rfl) | (simp [*, errW_none, errW_some] <;> rfl), by repeat (first | (with_reducible first | exact HB.out | apply below_alloc | apply pw_below_drewN | apply below_drew1 | refine below_set ?_ GE331.out | refine below_set ?_ GE332.out) | exact HB.out)⟩
  ·rw [if_neg c5] at H
   have c5b0 : decide (a1_0 < (wrap64 (t333 + t335))) = false := decide_eq_false c5
   clear c5
   obtain rfl := Option.some.inj H
   go_enter Try.func73, Try.ntmps73
   go_wp2_with (first | ((with_reducible refine gate_dst (N := 2) rfl ?_); refine boxE (N := 2) #[.int .i64 a0_0, .int .i64 a0_1, .int .i64 a0_2, .int .i64 a0_3] 24 ?_; intro gb331 hg w21 hbox hb; have BK331 := am (hbox); have GW331 := gW hg HB; have GE331 := gW hg HB; replace HB := hYb HB hb; clear hb hbox hg) | ((with_reducible refine gate_dst (N := 3) rfl ?_); refine boxE (N := 3) #[.int .i64 a1_0, .int .i64 a1_1] 47 ?_; intro gb332 hg w22 hbox hb; have BK332 := am (hbox); have GW332 := gW hg HB; have GE332 := gW hg HB; have NB331_332 := nL hg BK331; have NB332_331 := nG hg BK331; replace BK331 := bY BK331 hb; replace HB := hYb HB hb; clear hb hbox hg; have hnb23 := NB331_332.out; have hnc23 := NB332_331.out; have hcz24_0 := blk_cell BK331.out; have hfz24_0 := blk_frozen BK331.out) | ((with_reducible refine gate_callee (f := 41) rfl ?_); refine goesP (some 6) Try.func41 #[.agg #[.int .i64 a0_0, .int .i64 a0_1, .int .i64 a0_2, .int .i64 a0_3]] ?_; (with_reducible refine (rect_known.calls a0_0 a0_1 a0_2 a0_3 t333 t334 t335 t336 _ A3.out).mono ?_); rintro e w25 ⟨rfl, hb⟩; refine ⟨_, rfl, ?_⟩; replace BK331 := bY BK331 hb; replace BK332 := bY BK332 hb; replace HB := hYb HB hb; (try clear hb); (try clear hb2); (try clear hk); (try clear hi); have hcz26_0 := blk_cell BK331.out; have hfz26_0 := blk_frozen BK331.out; have hcz27_0 := blk_cell BK332.out; have hfz27_0 := blk_frozen BK332.out))
   go_ret
   exact ⟨by first | rfl | (simp [errW_none, errW_some] <;> rfl) | (simp [*, errW_none, errW_some] <;> rfl), by repeat (first | (with_reducible first | exact HB.out | apply below_alloc | apply pw_below_drewN | apply below_drew1 | refine below_set ?_ GE331.out | refine below_set ?_ GE332.out) | exact HB.out)⟩
 ·rw [if_neg c4] at H
  have c4b0 : decide (t333 ≤ a1_0) = false := decide_eq_false c4
  clear c4
  obtain rfl := Option.some.inj H
  go_enter Try.func73, Try.ntmps73
  go_wp2_with (first | ((with_reducible refine gate_dst (N := 2) rfl ?_); refine boxE (N := 2) #[.int .i64 a0_0, .int .i64 a0_1, .int .i64 a0_2, .int .i64 a0_3] 24 ?_; intro gb331 hg w28 hbox hb; have BK331 := am (hbox); have GW331 := gW hg HB; have GE331 := gW hg HB; replace HB := hYb HB hb; clear hb hbox hg) | ((with_reducible refine gate_dst (N := 3) rfl ?_); refine boxE (N := 3) #[.int .i64 a1_0, .int .i64 a1_1] 47 ?_; intro gb332 hg w29 hbox hb; have BK332 := am (hbox); have GW332 := gW hg HB; have GE332 := gW hg HB; have NB331_332 := nL hg BK331; have NB332_331 := nG hg BK331; replace BK331 := bY BK331 hb; replace HB := hYb HB hb; clear hb hbox hg; have hnb30 := NB331_332.out; have hnc30 := NB332_331.out; have hcz31_0 := blk_cell BK331.out; have hfz31_0 := blk_frozen BK331.out) | ((with_reducible refine gate_callee (f := 41) rfl ?_); refine goesP (some 6) Try.func41 #[.agg #[.int .i64 a0_0, .int .i64 a0_1, .int .i64 a0_2, .int .i64 a0_3]] ?_; (with_reducible refine (rect_known.calls a0_0 a0_1 a0_2 a0_3 t333 t334 t335 t336 _ A3.out).mono ?_); rintro e w32 ⟨rfl, hb⟩; refine ⟨_, rfl, ?_⟩; replace BK331 := bY BK331 hb; replace BK332 := bY BK332 hb; replace HB := hYb HB hb; (try clear hb); (try clear hb2); (try clear hk); (try clear hi); have hcz33_0 := blk_cell BK331.out; have hfz33_0 := blk_frozen BK331.out; have hcz34_0 := blk_cell BK332.out; have hfz34_0 := blk_frozen BK332.out))
  go_ret
  exact ⟨by first | rfl | (simp [errW_none, errW_some] <;> rfl) | (simp [*, errW_none, errW_some] <;> rfl), by repeat (first | (with_reducible first | exact HB.out | apply below_alloc | apply pw_below_drewN | apply below_drew1 | refine below_set ?_ GE331.out | refine below_set ?_ GE332.out) | exact HB.out)⟩

/-! ### filter_view_block: function 59 -/
mutual
def filter_view_block.l0 : Nat → Int → Int → Int → Int → Int → Int → List (S51) → Int → Int → Int → Int → Int → Int → Int → Int → Int → Int → Int → Int → Int → Option (Int × Int × Int × Int)
 | 0, _, _, _, _, _, _, _, _, _, _, _, _, _, _, _, _, _, _, _, _ => none
 | k + 1, x1, x5, x6, x8, x338000, x338001, x338002, x338003, x338004, x338005, x338006, x338007, x338008, x338009, x338010, x340000, x340001, x340002, x340003, x340004 => if x8 < (wrap64 (x1 - x6)) then (filter_view_block.l1 k x1 x5 x6 x8 (wrap64 (-x5)) x338000 x338001 x338002 x338003 x338004 x338005 x338006 x338007 x338008 x338009 x338010 x340000 x340001 x340002 x340003 x340004) else ((filter_total_mean.f k x340000 x340001 x340002 x340003 x340004).bind fun bt340 => (some (bt340.1, bt340.2.1, bt340.2.2.1, bt340.2.2.2.1)))
def filter_view_block.l1 : Nat → Int → Int → Int → Int → Int → Int → Int → List (S51) → Int → Int → Int → Int → Int → Int → Int → Int → Int → Int → Int → Int → Int → Option (Int × Int × Int × Int)
 | 0, _, _, _, _, _, _, _, _, _, _, _, _, _, _, _, _, _, _, _, _, _ => none
 | k + 1, x1, x5, x6, x8, x9, x338000, x338001, x338002, x338003, x338004, x338005, x338006, x338007, x338008, x338009, x338010, x340000, x340001, x340002, x340003, x340004 => if x9 < (wrap64 (x1 - x5)) then ((rect_Has.f x338005 x338006 x338007 x338008 (wrap64 (x338009 + x9)) (wrap64 (x338010 + x8))).bind fun t349 => (if t349 = true then ((filter_view_get.f x338000 x338001 x338002 x338003 x338004 x338005 x338006 x338007 x338008 x338009 x338010 x9 x8).bind fun bt350 => ((filter_total_add.f x340000 x340001 x340002 x340003 x340004 bt350.1 bt350.2.1 bt350.2.2.1 bt350.2.2.2 1).bind fun bt354 => (filter_view_block.l1 k x1 x5 x6 x8 (wrap64 (x9 + 1)) x338000 x338001 x338002 x338003 x338004 x338005 x338006 x338007 x338008 x338009 x338010 bt354.1 bt354.2.1 bt354.2.2.1 bt354.2.2.2.1 bt354.2.2.2.2))) else (filter_view_block.l1 k x1 x5 x6 x8 (wrap64 (x9 + 1)) x338000 x338001 x338002 x338003 x338004 x338005 x338006 x338007 x338008 x338009 x338010 x340000 x340001 x340002 x340003 x340004))) else (filter_view_block.l0 k x1 x5 x6 (wrap64 (x8 + 1)) x338000 x338001 x338002 x338003 x338004 x338005 x338006 x338007 x338008 x338009 x338010 x340000 x340001 x340002 x340003 x340004)
end
def filter_view_block.f (k : Nat) (a0_0 : Int) (a0_1 : Int) (l0_2 : List (S51)) (a0_3 : Int) (a0_4 : Int) (a0_5 : Int) (a0_6 : Int) (a0_7 : Int) (a0_8 : Int) (a0_9 : Int) (a0_10 : Int) (a1 : Int) : Option (Int × Int × Int × Int) := if a1 = 0 then (none) else (filter_view_block.l0 k a1 (Int.tmod (wrap64 (a0_9 - a0_5)) a1) (Int.tmod (wrap64 (a0_10 - a0_6)) a1) (wrap64 (-(Int.tmod (wrap64 (a0_10 - a0_6)) a1))) a0_0 a0_1 l0_2 a0_3 a0_4 a0_5 a0_6 a0_7 a0_8 a0_9 a0_10 0 0 0 0 0)
theorem filter_view_block.mono_l : ∀ k, (∀ y0 y1 y2 y3 y4 y5 y6 y7 y8 y9 y10 y11 y12 y13 y14 y15 y16 y17 y18 y19, LeO (filter_view_block.l0 k y0 y1 y2 y3 y4 y5 y6 y7 y8 y9 y10 y11 y12 y13 y14 y15 y16 y17 y18 y19) (filter_view_block.l0 (k + 1) y0 y1 y2 y3 y4 y5 y6 y7 y8 y9 y10 y11 y12 y13 y14 y15 y16 y17 y18 y19)) ∧ (∀ y0 y1 y2 y3 y4 y5 y6 y7 y8 y9 y10 y11 y12 y13 y14 y15 y16 y17 y18 y19 y20, LeO (filter_view_block.l1 k y0 y1 y2 y3 y4 y5 y6 y7 y8 y9 y10 y11 y12 y13 y14 y15 y16 y17 y18 y19 y20) (filter_view_block.l1 (k + 1) y0 y1 y2 y3 y4 y5 y6 y7 y8 y9 y10 y11 y12 y13 y14 y15 y16 y17 y18 y19 y20))
 | 0 => ⟨fun _ _ _ _ _ _ _ _ _ _ _ _ _ _ _ _ _ _ _ _ r h => by simp [filter_view_block.l0] at h, fun _ _ _ _ _ _ _ _ _ _ _ _ _ _ _ _ _ _ _ _ _ r h => by simp [filter_view_block.l1] at h⟩
 | k + 1 => by
  obtain ⟨ih0, ih1⟩ := filter_view_block.mono_l k
  refine ⟨?_, ?_⟩
  ·intro y0 y1 y2 y3 y4 y5 y6 y7 y8 y9 y10 y11 y12 y13 y14 y15 y16 y17 y18 y19
   unfold filter_view_block.l0
   repeat' first
   | (with_reducible exact ih0 _ _ _ _ _ _ _ _ _ _ _ _ _ _ _ _ _ _ _ _)
   | (with_reducible exact ih1 _ _ _ _ _ _ _ _ _ _ _ _ _ _ _ _ _ _ _ _ _)
   | (with_reducible exact filter_total_mean.mono _ _ _ _ _ _)
   | (with_reducible exact LeO.refl _)
   | (with_reducible exact LeO.none _)
   | (with_reducible refine LeO.ite ?_ ?_)
   | (with_reducible refine LeO.bind ?_ (fun _ => ?_))
   | exact ih0 _ _ _ _ _ _ _ _ _ _ _ _ _ _ _ _ _ _ _ _
   | exact ih1 _ _ _ _ _ _ _ _ _ _ _ _ _ _ _ _ _ _ _ _ _
   | exact filter_total_mean.mono _ _ _ _ _ _
   | exact LeO.none _
   | refine LeO.ite ?_ ?_
   | refine LeO.bind ?_ (fun _ => ?_)
  ·intro y0 y1 y2 y3 y4 y5 y6 y7 y8 y9 y10 y11 y12 y13 y14 y15 y16 y17 y18 y19 y20
   unfold filter_view_block.l1
   repeat' first
   | (with_reducible exact ih0 _ _ _ _ _ _ _ _ _ _ _ _ _ _ _ _ _ _ _ _)
   | (with_reducible exact ih1 _ _ _ _ _ _ _ _ _ _ _ _ _ _ _ _ _ _ _ _ _)
   | (with_reducible exact filter_total_mean.mono _ _ _ _ _ _)
   | (with_reducible exact LeO.refl _)
   | (with_reducible exact LeO.none _)
   | (with_reducible refine LeO.ite ?_ ?_)
   | (with_reducible refine LeO.bind ?_ (fun _ => ?_))
   | exact ih0 _ _ _ _ _ _ _ _ _ _ _ _ _ _ _ _ _ _ _ _
   | exact ih1 _ _ _ _ _ _ _ _ _ _ _ _ _ _ _ _ _ _ _ _ _
   | exact filter_total_mean.mono _ _ _ _ _ _
   | exact LeO.none _
   | refine LeO.ite ?_ ?_
   | refine LeO.bind ?_ (fun _ => ?_)
theorem filter_view_block.mono : ∀ a0 a1 a2 a3 a4 a5 a6 a7 a8 a9 a10 a11 k, LeO (filter_view_block.f k a0 a1 a2 a3 a4 a5 a6 a7 a8 a9 a10 a11) (filter_view_block.f (k + 1) a0 a1 a2 a3 a4 a5 a6 a7 a8 a9 a10 a11) := by
 intro a0 a1 a2 a3 a4 a5 a6 a7 a8 a9 a10 a11 k
 obtain ⟨ih0, ih1⟩ := filter_view_block.mono_l k
 unfold filter_view_block.f
 repeat' first
   | (with_reducible exact ih0 _ _ _ _ _ _ _ _ _ _ _ _ _ _ _ _ _ _ _ _)
   | (with_reducible exact ih1 _ _ _ _ _ _ _ _ _ _ _ _ _ _ _ _ _ _ _ _ _)
   | (with_reducible exact filter_total_mean.mono _ _ _ _ _ _)
   | (with_reducible exact LeO.refl _)
   | (with_reducible exact LeO.none _)
   | (with_reducible refine LeO.ite ?_ ?_)
   | (with_reducible refine LeO.bind ?_ (fun _ => ?_))
   | exact ih0 _ _ _ _ _ _ _ _ _ _ _ _ _ _ _ _ _ _ _ _
   | exact ih1 _ _ _ _ _ _ _ _ _ _ _ _ _ _ _ _ _ _ _ _ _
   | exact filter_total_mean.mono _ _ _ _ _ _
   | exact LeO.none _
   | refine LeO.ite ?_ ?_
   | refine LeO.bind ?_ (fun _ => ?_)
set_option maxHeartbeats 8000000 in
set_option maxRecDepth 100000 in
theorem filter_view_block.calls (k : Nat) (a0_0 : Int) (a0_1 : Int) (A0_2 : Option Addr) (c0_2 : Nat) (l0_2 : List (S51)) (a0_3 : Int) (a0_4 : Int) (a0_5 : Int) (a0_6 : Int) (a0_7 : Int) (a0_8 : Int) (a0_9 : Int) (a0_10 : Int) (a1 : Int) (r1 : Int) (r2 : Int) (r3 : Int) (r4 : Int) (w : World) (hr0_2 : Kd.C k51 w A0_2 l0_2.length l0_2) (hc0_2 : l0_2.length ≤ c0_2) (h : filter_view_block.f k a0_0 a0_1 l0_2 a0_3 a0_4 a0_5 a0_6 a0_7 a0_8 a0_9 a0_10 a1 = some (r1, r2, r3, r4)) :
  Calls Try.prog 59 #[.agg #[.int .i64 a0_0, .int .i64 a0_1, .slice A0_2 l0_2.length c0_2, .int .i64 a0_3, .int .i64 a0_4, .int .i64 a0_5, .int .i64 a0_6, .int .i64 a0_7, .int .i64 a0_8, .int .i64 a0_9, .int .i64 a0_10], .int .i64 a1] w fun e w' => e = .returned (.agg #[.int .i64 r1, .int .i64 r2, .int .i64 r3, .int .i64 r4]) ∧ Below w.heap.size w w' := by
 have hu71 := Try.underlying71
 have hu51 := Try.underlying51
 have hu86 := Try.underlying86
 have hu24 := Try.underlying24
 have hu47 := Try.underlying47
 have HR0_2 := Aside0.mk hr0_2
 have HC0_2 := Aside0.mk hc0_2
 clear hr0_2 hc0_2
 have HB := am (Below.refl w.heap.size w)
 have H : (if a1 = 0 then (none) else (filter_view_block.l0 k a1 (Int.tmod (wrap64 (a0_9 - a0_5)) a1) (Int.tmod (wrap64 (a0_10 - a0_6)) a1) (wrap64 (-(Int.tmod (wrap64 (a0_10 - a0_6)) a1))) a0_0 a0_1 l0_2 a0_3 a0_4 a0_5 a0_6 a0_7 a0_8 a0_9 a0_10 0 0 0 0 0)) = some (r1, r2, r3, r4) := h
 clear h
 by_cases c3 : a1 = 0
 ·rw [if_pos c3] at H
  exact absurd H (by simp)
 ·rw [if_neg c3] at H
  have c3b0 : (a1 == 0) = false := beq_eq_false_iff_ne.mpr c3
  have c3b1 : (a1 != 0) = true := bne_iff_ne.mpr c3
  have H' := Aside0.mk H
  clear H
  go_enter Try.func59, Try.ntmps59
  go_wp2_with (first | ((with_reducible refine gate_dst (N := 2) rfl ?_); refine boxE (N := 2) #[.int .i64 a0_0, .int .i64 a0_1, .slice A0_2 l0_2.length c0_2, .int .i64 a0_3, .int .i64 a0_4, .int .i64 a0_5, .int .i64 a0_6, .int .i64 a0_7, .int .i64 a0_8, .int .i64 a0_9, .int .i64 a0_10] 71 ?_; intro gb337 hg w4 hbox hb; have BK337 := am (hbox); have GW337 := gW hg HB; have GE337 := gW hg HB; replace HB := hYb HB hb; clear hb hbox hg) | ((with_reducible refine gate_dst (N := 4) rfl ?_); refine boxE (N := 4) #[.int .i64 0, .int .i64 0, .int .i64 0, .int .i64 0] 51 ?_; intro gb338 hg w5 hbox hb; have BK338 := am (hbox); have GW338 := gW hg HB; have GE338 := gW hg HB; have NB337_338 := nL hg BK337; have NB338_337 := nG hg BK337; replace BK337 := bY BK337 hb; replace HB := hYb HB hb; clear hb hbox hg; have hnb6 := NB337_338.out; have hnc6 := NB338_337.out; have hcz7_0 := blk_cell BK337.out; have hfz7_0 := blk_frozen BK337.out) | ((with_reducible refine gate_dst (N := 7) rfl ?_); refine boxE (N := 7) #[.int .i64 0, .int .i64 0, .int .i64 0, .int .i64 0, .int .i64 0] 86 ?_; intro gb339 hg w8 hbox hb; have NB337_339 := nL hg BK337; have NB339_337 := nG hg BK337; have NB338_339 := nL hg BK338; have NB339_338 := nG hg BK338; have HI339 := am ((⟨hbox, (by rw [hg]; exact (below_size (beX HB.out)) : w.heap.size ≤ gb339)⟩ : IsS86 w w8 gb339 0 0 0 0 0)); replace BK337 := bY BK337 hb; replace BK338 := bY BK338 hb; replace HB := hYb HB hb; clear hb hbox hg))
  repeat (go_quiet (first | ((with_reducible refine gate_dst (N := 2) rfl ?_); refine boxE (N := 2) #[.int .i64 a0_0, .int .i64 a0_1, .slice A0_2 l0_2.length c0_2, .int .i64 a0_3, .int .i64 a0_4, .int .i64 a0_5, .int .i64 a0_6, .int .i64 a0_7, .int .i64 a0_8, .int .i64 a0_9, .int .i64 a0_10] 71 ?_; intro gb337 hg w4 hbox hb; have BK337 := am (hbox); have GW337 := gW hg HB; have GE337 := gW hg HB; replace HB := hYb HB hb; clear hb hbox hg) | ((with_reducible refine gate_dst (N := 4) rfl ?_); refine boxE (N := 4) #[.int .i64 0, .int .i64 0, .int .i64 0, .int .i64 0] 51 ?_; intro gb338 hg w5 hbox hb; have BK338 := am (hbox); have GW338 := gW hg HB; have GE338 := gW hg HB; have NB337_338 := nL hg BK337; have NB338_337 := nG hg BK337; replace BK337 := bY BK337 hb; replace HB := hYb HB hb; clear hb hbox hg; have hnb6 := NB337_338.out; have hnc6 := NB338_337.out; have hcz7_0 := blk_cell BK337.out; have hfz7_0 := blk_frozen BK337.out) | ((with_reducible refine gate_dst (N := 7) rfl ?_); refine boxE (N := 7) #[.int .i64 0, .int .i64 0, .int .i64 0, .int .i64 0, .int .i64 0] 86 ?_; intro gb339 hg w8 hbox hb; have NB337_339 := nL hg BK337; have NB339_337 := nG hg BK337; have NB338_339 := nL hg BK338; have NB339_338 := nG hg BK338; have HI339 := am ((⟨hbox, (by rw [hg]; exact (below_size (beX HB.out)) : w.heap.size ≤ gb339)⟩ : IsS86 w w8 gb339 0 0 0 0 0)); replace BK337 := bY BK337 hb; replace BK338 := bY BK338 hb; replace HB := hYb HB hb; clear hb hbox hg)); try go_wp2_with (first | ((with_reducible refine gate_dst (N := 2) rfl ?_); refine boxE (N := 2) #[.int .i64 a0_0, .int .i64 a0_1, .slice A0_2 l0_2.length c0_2, .int .i64 a0_3, .int .i64 a0_4, .int .i64 a0_5, .int .i64 a0_6, .int .i64 a0_7, .int .i64 a0_8, .int .i64 a0_9, .int .i64 a0_10] 71 ?_; intro gb337 hg w4 hbox hb; have BK337 := am (hbox); have GW337 := gW hg HB; have GE337 := gW hg HB; replace HB := hYb HB hb; clear hb hbox hg) | ((with_reducible refine gate_dst (N := 4) rfl ?_); refine boxE (N := 4) #[.int .i64 0, .int .i64 0, .int .i64 0, .int .i64 0] 51 ?_; intro gb338 hg w5 hbox hb; have BK338 := am (hbox); have GW338 := gW hg HB; have GE338 := gW hg HB; have NB337_338 := nL hg BK337; have NB338_337 := nG hg BK337; replace BK337 := bY BK337 hb; replace HB := hYb HB hb; clear hb hbox hg; have hnb6 := NB337_338.out; have hnc6 := NB338_337.out; have hcz7_0 := blk_cell BK337.out; have hfz7_0 := blk_frozen BK337.out) | ((with_reducible refine gate_dst (N := 7) rfl ?_); refine boxE (N := 7) #[.int .i64 0, .int .i64 0, .int .i64 0, .int .i64 0, .int .i64 0] 86 ?_; intro gb339 hg w8 hbox hb; have NB337_339 := nL hg BK337; have NB339_337 := nG hg BK337; have NB338_339 := nL hg BK338; have NB339_338 := nG hg BK338; have HI339 := am ((⟨hbox, (by rw [hg]; exact (below_size (beX HB.out)) : w.heap.size ≤ gb339)⟩ : IsS86 w w8 gb339 0 0 0 0 0)); replace BK337 := bY BK337 hb; replace BK338 := bY BK338 hb; replace HB := hYb HB hb; clear hb hbox hg)))
  go_loopg [8] k (fun kq v8 w' => ∃ (x8_1 : Int) (x340000_1 : Int) (x340001_1 : Int) (x340002_1 : Int) (x340003_1 : Int) (x340004_1 : Int), v8 = .int .i64 x8_1 ∧ Aside0 (filter_view_block.l0 kq a1 (Int.tmod (wrap64 (a0_9 - a0_5)) a1) (Int.tmod (wrap64 (a0_10 - a0_6)) a1) x8_1 a0_0 a0_1 l0_2 a0_3 a0_4 a0_5 a0_6 a0_7 a0_8 a0_9 a0_10 x340000_1 x340001_1 x340002_1 x340003_1 x340004_1 = some (r1, r2, r3, r4)) ∧ Aside0 (kq ≤ k) ∧ Aside0 (w'.heap[gb337]? = some (.cells #[.int .i64 a0_0, .int .i64 a0_1, (.slice A0_2 l0_2.length c0_2), .int .i64 a0_3, .int .i64 a0_4, .int .i64 a0_5, .int .i64 a0_6, .int .i64 a0_7, .int .i64 a0_8, .int .i64 a0_9, .int .i64 a0_10] 71 (0, 0))) ∧ Aside0 (w'.heap[gb338]? = some (.cells #[.int .i64 0, .int .i64 0, .int .i64 0, .int .i64 0] 51 (0, 0))) ∧ Aside0 (IsS86 w w' gb339 x340000_1 x340001_1 x340002_1 x340003_1 x340004_1) ∧ Aside0 (Below w.heap.size w w'))
  case atStart => exact ⟨(wrap64 (-(Int.tmod (wrap64 (a0_10 - a0_6)) a1))), (0), (0), (0), (0), (0), (by first | rfl | (simp; done) | (simp [*]; done)), H', ⟨Nat.le_refl _⟩, ⟨bX BK337.out⟩, ⟨bX BK338.out⟩, ⟨by repeat (first | (with_reducible first | exact HI339.out | apply IsS86.alloc | apply IsS86.drewN | apply IsS86.drew | apply IsS86.set_0 | apply IsS86.set_1 | apply IsS86.set_2 | apply IsS86.set_3 | apply IsS86.set_4 | refine IsS86.far ?_ NB339_337.out _ | refine IsS86.far ?_ NB339_338.out _) | exact HI339.out)⟩, ⟨by repeat (first | (with_reducible first | exact HB.out | apply below_alloc | apply pw_below_drewN | apply below_drew1 | refine below_set ?_ (IsS86.ge HI339.out) | refine below_set ?_ GE337.out | refine below_set ?_ GE338.out) | exact HB.out)⟩⟩
  case round =>
   clear H'
   try clear p2
   try clear c3
   try clear c3b0
   try clear c3b1
   try clear c5
   try clear c6
   try clear p6
   try clear hcz7_0
   try clear hcz7_1
   try clear hcz7_10
   try clear hcz7_2
   try clear hcz7_3
   try clear hcz7_4
   try clear hcz7_5
   try clear hcz7_6
   try clear hcz7_7
   try clear hcz7_8
   try clear hcz7_9
   try clear hfz7_0
   try clear hfz7_1
   try clear hfz7_10
   try clear hfz7_2
   try clear hfz7_3
   try clear hfz7_4
   try clear hfz7_5
   try clear hfz7_6
   try clear hfz7_7
   try clear hfz7_8
   try clear hfz7_9
   obtain ⟨x8_1, x340000_1, x340001_1, x340002_1, x340003_1, x340004_1, rfl, HA, HK1, BK337, BK338, HI339, HB⟩ := hrel
   cases gk with
   | zero => exact absurd HA.out (by simp [filter_view_block.l0])
   | succ k1 =>
    have H := HA.out
    clear HA
    simp only [filter_view_block.l0] at H
    by_cases c9 : x8_1 < (wrap64 (a1 - (Int.tmod (wrap64 (a0_10 - a0_6)) a1)))
    ·rw [if_pos c9] at H
     have c9b0 : decide (x8_1 < (wrap64 (a1 - (Int.tmod (wrap64 (a0_10 - a0_6)) a1)))) = true := decide_eq_true c9
     clear c9
     have H' := Aside0.mk H
     clear H
     go_wp2
     repeat (go_quiet (fail); try go_wp2)
     go_loopg [9] k1 (fun kq v9 w' => ∃ (x9_2 : Int) (x340000_2 : Int) (x340001_2 : Int) (x340002_2 : Int) (x340003_2 : Int) (x340004_2 : Int), v9 = .int .i64 x9_2 ∧ Aside0 (filter_view_block.l1 kq a1 (Int.tmod (wrap64 (a0_9 - a0_5)) a1) (Int.tmod (wrap64 (a0_10 - a0_6)) a1) x8_1 x9_2 a0_0 a0_1 l0_2 a0_3 a0_4 a0_5 a0_6 a0_7 a0_8 a0_9 a0_10 x340000_2 x340001_2 x340002_2 x340003_2 x340004_2 = some (r1, r2, r3, r4)) ∧ Aside0 (kq ≤ k1) ∧ Aside0 (w'.heap[gb337]? = some (.cells #[.int .i64 a0_0, .int .i64 a0_1, (.slice A0_2 l0_2.length c0_2), .int .i64 a0_3, .int .i64 a0_4, .int .i64 a0_5, .int .i64 a0_6, .int .i64 a0_7, .int .i64 a0_8, .int .i64 a0_9, .int .i64 a0_10] 71 (0, 0))) ∧ Aside0 (w'.heap[gb338]? = some (.cells #[.int .i64 0, .int .i64 0, .int .i64 0, .int .i64 0] 51 (0, 0))) ∧ Aside0 (IsS86 w w' gb339 x340000_2 x340001_2 x340002_2 x340003_2 x340004_2) ∧ Aside0 (Below w.heap.size w w'))
     case atStart => exact ⟨(wrap64 (-(Int.tmod (wrap64 (a0_9 - a0_5)) a1))), (x340000_1), (x340001_1), (x340002_1), (x340003_1), (x340004_1), (by first | rfl | (simp; done) | (simp [*]; done)), H', ⟨Nat.le_refl _⟩, ⟨bX BK337.out⟩, ⟨bX BK338.out⟩, ⟨by repeat (first | (with_reducible first | exact HI339.out | apply IsS86.alloc | apply IsS86.drewN | apply IsS86.drew | apply IsS86.set_0 | apply IsS86.set_1 | apply IsS86.set_2 | apply IsS86.set_3 | apply IsS86.set_4 | refine IsS86.far ?_ NB339_337.out _ | refine IsS86.far ?_ NB339_338.out _) | exact HI339.out)⟩, ⟨by repeat (first | (with_reducible first | exact HB.out | apply below_alloc | apply pw_below_drewN | apply below_drew1 | refine below_set ?_ (IsS86.ge HI339.out) | refine below_set ?_ GE337.out | refine below_set ?_ GE338.out) | exact HB.out)⟩⟩
     case round =>
      clear H'
      try clear p2
      try clear c3
      try clear c3b0
      try clear c3b1
      try clear c5
      try clear c6
      try clear p6
      try clear c9
      try clear c9b0
      try clear hcz7_0
      try clear hcz7_1
      try clear hcz7_10
      try clear hcz7_2
      try clear hcz7_3
      try clear hcz7_4
      try clear hcz7_5
      try clear hcz7_6
      try clear hcz7_7
      try clear hcz7_8
      try clear hcz7_9
      try clear hfz7_0
      try clear hfz7_1
      try clear hfz7_10
      try clear hfz7_2
      try clear hfz7_3
      try clear hfz7_4
      try clear hfz7_5
      try clear hfz7_6
      try clear hfz7_7
      try clear hfz7_8
      try clear hfz7_9
      try clear p2
      try clear p6
      obtain ⟨x9_2, x340000_2, x340001_2, x340002_2, x340003_2, x340004_2, rfl, HA, HK2, BK337, BK338, HI339, HB⟩ := hrel
      cases gk with
      | zero => exact absurd HA.out (by simp [filter_view_block.l1])
      | succ k2 =>
       have H := HA.out
       clear HA
       simp only [filter_view_block.l1] at H
       by_cases c10 : x9_2 < (wrap64 (a1 - (Int.tmod (wrap64 (a0_9 - a0_5)) a1)))
       ·rw [if_pos c10] at H
        have c10b0 : decide (x9_2 < (wrap64 (a1 - (Int.tmod (wrap64 (a0_9 - a0_5)) a1)))) = true := decide_eq_true c10
        clear c10
        replace H := Option.bind_eq_some_iff.mp H
        obtain ⟨t349, A110, H⟩ := H
        replace H : (if t349 = true then ((filter_view_get.f a0_0 a0_1 l0_2 a0_3 a0_4 a0_5 a0_6 a0_7 a0_8 a0_9 a0_10 x9_2 x8_1).bind fun bt350 => ((filter_total_add.f x340000_2 x340001_2 x340002_2 x340003_2 x340004_2 bt350.1 bt350.2.1 bt350.2.2.1 bt350.2.2.2 1).bind fun bt354 => (filter_view_block.l1 k2 a1 (Int.tmod (wrap64 (a0_9 - a0_5)) a1) (Int.tmod (wrap64 (a0_10 - a0_6)) a1) x8_1 (wrap64 (x9_2 + 1)) a0_0 a0_1 l0_2 a0_3 a0_4 a0_5 a0_6 a0_7 a0_8 a0_9 a0_10 bt354.1 bt354.2.1 bt354.2.2.1 bt354.2.2.2.1 bt354.2.2.2.2))) else (filter_view_block.l1 k2 a1 (Int.tmod (wrap64 (a0_9 - a0_5)) a1) (Int.tmod (wrap64 (a0_10 - a0_6)) a1) x8_1 (wrap64 (x9_2 + 1)) a0_0 a0_1 l0_2 a0_3 a0_4 a0_5 a0_6 a0_7 a0_8 a0_9 a0_10 x340000_2 x340001_2 x340002_2 x340003_2 x340004_2)) = some (r1, r2, r3, r4) := H
        have A11 := Aside0.mk A110
        clear A110
        by_cases c12 : t349 = true
        ·subst c12
         have H1 : ((filter_view_get.f a0_0 a0_1 l0_2 a0_3 a0_4 a0_5 a0_6 a0_7 a0_8 a0_9 a0_10 x9_2 x8_1).bind fun bt350 => ((filter_total_add.f x340000_2 x340001_2 x340002_2 x340003_2 x340004_2 bt350.1 bt350.2.1 bt350.2.2.1 bt350.2.2.2 1).bind fun bt354 => (filter_view_block.l1 k2 a1 (Int.tmod (wrap64 (a0_9 - a0_5)) a1) (Int.tmod (wrap64 (a0_10 - a0_6)) a1) x8_1 (wrap64 (x9_2 + 1)) a0_0 a0_1 l0_2 a0_3 a0_4 a0_5 a0_6 a0_7 a0_8 a0_9 a0_10 bt354.1 bt354.2.1 bt354.2.2.1 bt354.2.2.2.1 bt354.2.2.2.2))) = some (r1, r2, r3, r4) := by rw [if_pos rfl] at H; exact H
         clear H
         have H := H1
         clear H1
         replace H := Option.bind_eq_some_iff.mp H
         obtain ⟨⟨t350, t351, t352, t353⟩, A130, H⟩ := H
         replace H : ((filter_total_add.f x340000_2 x340001_2 x340002_2 x340003_2 x340004_2 t350 t351 t352 t353 1).bind fun bt354 => (filter_view_block.l1 k2 a1 (Int.tmod (wrap64 (a0_9 - a0_5)) a1) (Int.tmod (wrap64 (a0_10 - a0_6)) a1) x8_1 (wrap64 (x9_2 + 1)) a0_0 a0_1 l0_2 a0_3 a0_4 a0_5 a0_6 a0_7 a0_8 a0_9 a0_10 bt354.1 bt354.2.1 bt354.2.2.1 bt354.2.2.2.1 bt354.2.2.2.2)) = some (r1, r2, r3, r4) := H
         have A13 := Aside0.mk A130
         clear A130
         replace H := Option.bind_eq_some_iff.mp H
         obtain ⟨⟨t354, t355, t356, t357, t358⟩, A140, H⟩ := H
         replace H : (filter_view_block.l1 k2 a1 (Int.tmod (wrap64 (a0_9 - a0_5)) a1) (Int.tmod (wrap64 (a0_10 - a0_6)) a1) x8_1 (wrap64 (x9_2 + 1)) a0_0 a0_1 l0_2 a0_3 a0_4 a0_5 a0_6 a0_7 a0_8 a0_9 a0_10 t354 t355 t356 t357 t358) = some (r1, r2, r3, r4) := H
         have A14 := Aside0.mk A140
         clear A140
         have H' := Aside0.mk H
         clear H
         have hnb15 := NB337_338.out
         have hnc15 := NB338_337.out
         have hnb16 := NB337_339.out
         have hnc16 := NB339_337.out
         have hcz17_0 := blk_cell BK337.out
         have hfz17_0 := blk_frozen BK337.out
         go_wp2_with (first | (go_at_call 73; (with_reducible refine (rect_Has.calls a0_5 a0_6 a0_7 a0_8 (wrap64 (a0_9 + x9_2)) (wrap64 (a0_10 + x8_1)) true _ A11.out).mono ?_); rintro e w18 ⟨rfl, hb⟩; replace BK337 := bY BK337 hb; replace BK338 := bY BK338 hb; replace HB := am (below_step (by repeat (first | (with_reducible first | exact HB.out | apply below_alloc | apply pw_below_drewN | apply below_drew1 | refine below_set ?_ (IsS86.ge HI339.out) | refine below_set ?_ GE337.out | refine below_set ?_ GE338.out) | exact HB.out)) hb); replace HI339 := am (IsS86.below (by repeat (first | (with_reducible first | exact HI339.out | apply IsS86.alloc | apply IsS86.drewN | apply IsS86.drew | apply IsS86.set_0 | apply IsS86.set_1 | apply IsS86.set_2 | apply IsS86.set_3 | apply IsS86.set_4 | refine IsS86.far ?_ NB339_337.out _ | refine IsS86.far ?_ NB339_338.out _) | exact HI339.out)) hb); (try clear hb); (try clear hb2); (try clear hk); (try clear hi); have hcz19_0 := blk_cell BK337.out; have hfz19_0 := blk_frozen BK337.out) | (go_at_call 66; (with_reducible refine (filter_view_get.calls a0_0 a0_1 _ _ l0_2 a0_3 a0_4 a0_5 a0_6 a0_7 a0_8 a0_9 a0_10 x9_2 x8_1 t350 t351 t352 t353 _ ?side1 ?side2 A13.out).mono ?_); (case side1 => repeat (first | exact (Kd.C_below HR0_2.out HB.out) | (with_reducible refine Kd.C_alloc ?_ _) | (with_reducible refine Kd.C_drewN ?_ _) | (with_reducible refine Kd.C_drew ?_))); (case side2 => exact HC0_2.out); rintro e w20 ⟨rfl, hb⟩; replace BK337 := bY BK337 hb; replace BK338 := bY BK338 hb; replace HB := am (below_step (by repeat (first | (with_reducible first | exact HB.out | apply below_alloc | apply pw_below_drewN | apply below_drew1 | refine below_set ?_ (IsS86.ge HI339.out) | refine below_set ?_ GE337.out | refine below_set ?_ GE338.out) | exact HB.out)) hb); replace HI339 := am (IsS86.below (by repeat (first | (with_reducible first | exact HI339.out | apply IsS86.alloc | apply IsS86.drewN | apply IsS86.drew | apply IsS86.set_0 | apply IsS86.set_1 | apply IsS86.set_2 | apply IsS86.set_3 | apply IsS86.set_4 | refine IsS86.far ?_ NB339_337.out _ | refine IsS86.far ?_ NB339_338.out _) | exact HI339.out)) hb); (try clear hb); (try clear hb2); (try clear hk); (try clear hi)) | (go_at_call 64; (with_reducible refine (filter_total_add.calls gb339 x340000_2 x340001_2 x340002_2 x340003_2 x340004_2 t350 t351 t352 t353 1 t354 t355 t356 t357 t358 w _ ?side1 ?side2 A14.out).mono ?_); (case side1 => repeat (first | (with_reducible first | exact HI339.out | apply IsS86.alloc | apply IsS86.drewN | apply IsS86.drew | apply IsS86.set_0 | apply IsS86.set_1 | apply IsS86.set_2 | apply IsS86.set_3 | apply IsS86.set_4 | refine IsS86.far ?_ NB339_337.out _ | refine IsS86.far ?_ NB339_338.out _) | exact HI339.out)); (case side2 => repeat (first | (with_reducible first | exact HB.out | apply below_alloc | apply pw_below_drewN | apply below_drew1 | refine below_set ?_ (IsS86.ge HI339.out) | refine below_set ?_ GE337.out | refine below_set ?_ GE338.out) | exact HB.out)); rintro e w21 ⟨rfl, hi, hb, hk⟩; replace BK337 := am (KeepBut.blk hk (g' := gb337) (o := .cells #[.int .i64 a0_0, .int .i64 a0_1, .slice A0_2 l0_2.length c0_2, .int .i64 a0_3, .int .i64 a0_4, .int .i64 a0_5, .int .i64 a0_6, .int .i64 a0_7, .int .i64 a0_8, .int .i64 a0_9, .int .i64 a0_10] 71 (0, 0)) (bX BK337.out) NB337_339.out (by simp)); replace BK338 := am (KeepBut.blk hk (g' := gb338) (o := .cells #[.int .i64 0, .int .i64 0, .int .i64 0, .int .i64 0] 51 (0, 0)) (bX BK338.out) NB338_339.out (by simp)); replace HB := am (hb); replace HI339 := am (hi); (try clear hb); (try clear hb2); (try clear hk); (try clear hi)))
         repeat (go_quiet (first | (go_at_call 73; (with_reducible refine (rect_Has.calls a0_5 a0_6 a0_7 a0_8 (wrap64 (a0_9 + x9_2)) (wrap64 (a0_10 + x8_1)) true _ A11.out).mono ?_); rintro e w18 ⟨rfl, hb⟩; replace BK337 := bY BK337 hb; replace BK338 := bY BK338 hb; replace HB := am (below_step (by repeat (first | (with_reducible first | exact HB.out | apply below_alloc | apply pw_below_drewN | apply below_drew1 | refine below_set ?_ (IsS86.ge HI339.out) | refine below_set ?_ GE337.out | refine below_set ?_ GE338.out) | exact HB.out)) hb); replace HI339 := am (IsS86.below (by repeat (first | (with_reducible first | exact HI339.out | apply IsS86.alloc | apply IsS86.drewN | apply IsS86.drew | apply IsS86.set_0 | apply IsS86.set_1 | apply IsS86.set_2 | apply IsS86.set_3 | apply IsS86.set_4 | refine IsS86.far ?_ NB339_337.out _ | refine IsS86.far ?_ NB339_338.out _) | exact HI339.out)) hb); (try clear hb); (try clear hb2); (try clear hk); (try clear hi); have hcz19_0 := blk_cell BK337.out; have hfz19_0 := blk_frozen BK337.out) | (go_at_call 66; (with_reducible refine (filter_view_get.calls a0_0 a0_1 _ _ l0_2 a0_3 a0_4 a0_5 a0_6 a0_7 a0_8 a0_9 a0_10 x9_2 x8_1 t350 t351 t352 t353 _ ?side1 ?side2 A13.out).mono ?_); (case side1 => repeat (first | exact (Kd.C_below HR0_2.out HB.out) | (with_reducible refine Kd.C_alloc ?_ _) | (with_reducible refine Kd.C_drewN ?_ _) | (with_reducible refine Kd.C_drew ?_))); (case side2 => exact HC0_2.out); rintro e w20 ⟨rfl, hb⟩; replace BK337 := bY BK337 hb; replace BK338 := bY BK338 hb; replace HB := am (below_step (by repeat (first | (with_reducible first | exact HB.out | apply below_alloc | apply pw_below_drewN | apply below_drew1 | refine below_set ?_ (IsS86.ge HI339.out) | refine below_set ?_ GE337.out | refine below_set ?_ GE338.out) | exact HB.out)) hb); replace HI339 := am (IsS86.below (by repeat (first | (with_reducible first | exact HI339.out | apply IsS86.alloc | apply IsS86.drewN | apply IsS86.drew | apply IsS86.set_0 | apply IsS86.set_1 | apply IsS86.set_2 | apply IsS86.set_3 | apply IsS86.set_4 | refine IsS86.far ?_ NB339_337.out _ | refine IsS86.far ?_ NB339_338.out _) | exact HI339.out)) hb); (try clear hb); (try clear hb2); (try clear hk); (try clear hi)) | (go_at_call 64; (with_reducible refine (filter_total_add.calls gb339 x340000_2 x340001_2 x340002_2 x340003_2 x340004_2 t350 t351 t352 t353 1 t354 t355 t356 t357 t358 w _ ?side1 ?side2 A14.out).mono ?_); (case side1 => repeat (first | (with_reducible first | exact HI339.out | apply IsS86.alloc | apply IsS86.drewN | apply IsS86.drew | apply IsS86.set_0 | apply IsS86.set_1 | apply IsS86.set_2 | apply IsS86.set_3 | apply IsS86.set_4 | refine IsS86.far ?_ NB339_337.out _ | refine IsS86.far ?_ NB339_338.out _) | exact HI339.out)); (case side2 => repeat (first | (with_reducible first | exact HB.out | apply below_alloc | apply pw_below_drewN | apply below_drew1 | refine below_set ?_ (IsS86.ge HI339.out) | refine below_set ?_ GE337.out | refine below_set ?_ GE338.out) | exact HB.out)); rintro e w21 ⟨rfl, hi, hb, hk⟩; replace BK337 := am (KeepBut.blk hk (g' := gb337) (o := .cells #[.int .i64 a0_0, .int .i64 a0_1, .slice A0_2 l0_2.length c0_2, .int .i64 a0_3, .int .i64 a0_4, .int .i64 a0_5, .int .i64 a0_6, .int .i64 a0_7, .int .i64 a0_8, .int .i64 a0_9, .int .i64 a0_10] 71 (0, 0)) (bX BK337.out) NB337_339.out (by simp)); replace BK338 := am (KeepBut.blk hk (g' := gb338) (o := .cells #[.int .i64 0, .int .i64 0, .int .i64 0, .int .i64 0] 51 (0, 0)) (bX BK338.out) NB338_339.out (by simp)); replace HB := am (hb); replace HI339 := am (hi); (try clear hb); (try clear hb2); (try clear hk); (try clear hi))); try go_wp2_with (first | (go_at_call 73; (with_reducible refine (rect_Has.calls a0_5 a0_6 a0_7 a0_8 (wrap64 (a0_9 + x9_2)) (wrap64 (a0_10 + x8_1)) true _ A11.out).mono ?_); rintro e w18 ⟨rfl, hb⟩; replace BK337 := bY BK337 hb; replace BK338 := bY BK338 hb; replace HB := am (below_step (by repeat (first | (with_reducible first | exact HB.out | apply below_alloc | apply pw_below_drewN | apply below_drew1 | refine below_set ?_ (IsS86.ge HI339.out) | refine below_set ?_ GE337.out | refine below_set ?_ GE338.out) | exact HB.out)) hb); replace HI339 := am (IsS86.below (by repeat (first | (with_reducible first | exact HI339.out | apply IsS86.alloc | apply IsS86.drewN | apply IsS86.drew | apply IsS86.set_0 | apply IsS86.set_1 | apply IsS86.set_2 | apply IsS86.set_3 | apply IsS86.set_4 | refine IsS86.far ?_ NB339_337.out _ | refine IsS86.far ?_ NB339_338.out _) | exact HI339.out)) hb); (try clear hb); (try clear hb2); (try clear hk); (try clear hi); have hcz19_0 := blk_cell BK337.out; have hfz19_0 := blk_frozen BK337.out) | (go_at_call 66; (with_reducible refine (filter_view_get.calls a0_0 a0_1 _ _ l0_2 a0_3 a0_4 a0_5 a0_6 a0_7 a0_8 a0_9 a0_10 x9_2 x8_1 t350 t351 t352 t353 _ ?side1 ?side2 A13.out).mono ?_); (case side1 => repeat (first | exact (Kd.C_below HR0_2.out HB.out) | (with_reducible refine Kd.C_alloc ?_ _) | (with_reducible refine Kd.C_drewN ?_ _) | (with_reducible refine Kd.C_drew ?_))); (case side2 => exact HC0_2.out); rintro e w20 ⟨rfl, hb⟩; replace BK337 := bY BK337 hb; replace BK338 := bY BK338 hb; replace HB := am (below_step (by repeat (first | (with_reducible first | exact HB.out | apply below_alloc | apply pw_below_drewN | apply below_drew1 | refine below_set ?_ (IsS86.ge HI339.out) | refine below_set ?_ GE337.out | refine below_set ?_ GE338.out) | exact HB.out)) hb); replace HI339 := am (IsS86.below (by repeat (first | (with_reducible first | exact HI339.out | apply IsS86.alloc | apply IsS86.drewN | apply IsS86.drew | apply IsS86.set_0 | apply IsS86.set_1 | apply IsS86.set_2 | apply IsS86.set_3 | apply IsS86.set_4 | refine IsS86.far ?_ NB339_337.out _ | refine IsS86.far ?_ NB339_338.out _) | exact HI339.out)) hb); (try clear hb); (try clear hb2); (try clear hk); (try clear hi)) | (go_at_call 64; (with_reducible refine (filter_total_add.calls gb339 x340000_2 x340001_2 x340002_2 x340003_2 x340004_2 t350 t351 t352 t353 1 t354 t355 t356 t357 t358 w _ ?side1 ?side2 A14.out).mono ?_); (case side1 => repeat (first | (with_reducible first | exact HI339.out | apply IsS86.alloc | apply IsS86.drewN | apply IsS86.drew | apply IsS86.set_0 | apply IsS86.set_1 | apply IsS86.set_2 | apply IsS86.set_3 | apply IsS86.set_4 | refine IsS86.far ?_ NB339_337.out _ | refine IsS86.far ?_ NB339_338.out _) | exact HI339.out)); (case side2 => repeat (first | (with_reducible first | exact HB.out | apply below_alloc | apply pw_below_drewN | apply below_drew1 | refine below_set ?_ (IsS86.ge HI339.out) | refine below_set ?_ GE337.out | refine below_set ?_ GE338.out) | exact HB.out)); rintro e w21 ⟨rfl, hi, hb, hk⟩; replace BK337 := am (KeepBut.blk hk (g' := gb337) (o := .cells #[.int .i64 a0_0, .int .i64 a0_1, .slice A0_2 l0_2.length c0_2, .int .i64 a0_3, .int .i64 a0_4, .int .i64 a0_5, .int .i64 a0_6, .int .i64 a0_7, .int .i64 a0_8, .int .i64 a0_9, .int .i64 a0_10] 71 (0, 0)) (bX BK337.out) NB337_339.out (by simp)); replace BK338 := am (KeepBut.blk hk (g' := gb338) (o := .cells #[.int .i64 0, .int .i64 0, .int .i64 0, .int .i64 0] 51 (0, 0)) (bX BK338.out) NB338_339.out (by simp)); replace HB := am (hb); replace HI339 := am (hi); (try clear hb); (try clear hb2); (try clear hk); (try clear hi))))
         go_roundg k2
         case measure => have := HK1.out; have := HK2.out; omega
         case rel => exact ⟨(wrap64 (x9_2 + 1)), (t354), (t355), (t356), (t357), (t358), (by first | rfl | (simp; done) | (simp [*]; done)), H', ⟨by have := HK1.out; have := HK2.out; omega⟩, ⟨bX BK337.out⟩, ⟨bX BK338.out⟩, ⟨by repeat (first | (with_reducible first | exact HI339.out | apply IsS86.alloc | apply IsS86.drewN | apply IsS86.drew | apply IsS86.set_0 | apply IsS86.set_1 | apply IsS86.set_2 | apply IsS86.set_3 | apply IsS86.set_4 | refine IsS86.far ?_ NB339_337.out _ | refine IsS86.far ?_ NB339_338.out _) | exact HI339.out)⟩, ⟨by repeat (first | (with_reducible first | exact HB.out | apply below_alloc | apply pw_below_drewN | apply below_drew1 | refine below_set ?_ (IsS86.ge HI339.out) | refine below_set ?_ GE337.out | refine below_set ?_ GE338.out) | exact HB.out)⟩⟩
        ·replace c12 := Bool.eq_false_iff.mpr c12
         subst c12
         have H1 : (filter_view_block.l1 k2 a1 (Int.tmod (wrap64 (a0_9 - a0_5)) a1) (Int.tmod (wrap64 (a0_10 - a0_6)) a1) x8_1 (wrap64 (x9_2 + 1)) a0_0 a0_1 l0_2 a0_3 a0_4 a0_5 a0_6 a0_7 a0_8 a0_9 a0_10 x340000_2 x340001_2 x340002_2 x340003_2 x340004_2) = some (r1, r2, r3, r4) := by rw [if_neg (show ¬ (false = true) by decide)] at H; exact H
         clear H
         have H := H1
         clear H1
         have H' := Aside0.mk H
         clear H
         have hnb22 := NB337_338.out
         have hnc22 := NB338_337.out
         have hnb23 := NB337_339.out
         have hnc23 := NB339_337.out
         have hcz24_0 := blk_cell BK337.out
         have hfz24_0 := blk_frozen BK337.out
         go_wp2_with (first | (go_at_call 73; (with_reducible refine (rect_Has.calls a0_5 a0_6 a0_7 a0_8 (wrap64 (a0_9 + x9_2)) (wrap64 (a0_10 + x8_1)) false _ A11.out).mono ?_); rintro e w25 ⟨rfl, hb⟩; replace BK337 := bY BK337 hb; replace BK338 := bY BK338 hb; replace HB := am (below_step (by repeat (first | (with_reducible first | exact HB.out | apply below_alloc | apply pw_below_drewN | apply below_drew1 | refine below_set ?_ (IsS86.ge HI339.out) | refine below_set ?_ GE337.out | refine below_set ?_ GE338.out) | exact HB.out)) hb); replace HI339 := am (IsS86.below (by repeat (first | (with_reducible first | exact HI339.out | apply IsS86.alloc | apply IsS86.drewN | apply IsS86.drew | apply IsS86.set_0 | apply IsS86.set_1 | apply IsS86.set_2 | apply IsS86.set_3 | apply IsS86.set_4 | refine IsS86.far ?_ NB339_337.out _ | refine IsS86.far ?_ NB339_338.out _) | exact HI339.out)) hb); (try clear hb); (try clear hb2); (try clear hk); (try clear hi)))
         repeat (go_quiet (first | (go_at_call 73; (with_reducible refine (rect_Has.calls a0_5 a0_6 a0_7 a0_8 (wrap64 (a0_9 + x9_2)) (wrap64 (a0_10 + x8_1)) false _ A11.out).mono ?_); rintro e w25 ⟨rfl, hb⟩; replace BK337 := bY BK337 hb; replace BK338 := bY BK338 hb; replace HB := am (below_step (by repeat (first | (with_reducible first | exact HB.out | apply below_alloc | apply pw_below_drewN | apply below_drew1 | refine below_set ?_ (IsS86.ge HI339.out) | refine below_set ?_ GE337.out | refine below_set ?_ GE338.out) | exact HB.out)) hb); replace HI339 := am (IsS86.below (by repeat (first | (with_reducible first | exact HI339.out | apply IsS86.alloc | apply IsS86.drewN | apply IsS86.drew | apply IsS86.set_0 | apply IsS86.set_1 | apply IsS86.set_2 | apply IsS86.set_3 | apply IsS86.set_4 | refine IsS86.far ?_ NB339_337.out _ | refine IsS86.far ?_ NB339_338.out _) | exact HI339.out)) hb); (try clear hb); (try clear hb2); (try clear hk); (try clear hi))); try go_wp2_with (first | (go_at_call 73; (with_reducible refine (rect_Has.calls a0_5 a0_6 a0_7 a0_8 (wrap64 (a0_9 + x9_2)) (wrap64 (a0_10 + x8_1)) false _ A11.out).mono ?_); rintro e w25 ⟨rfl, hb⟩; replace BK337 := bY BK337 hb; replace BK338 := bY BK338 hb; replace HB := am (below_step (by repeat (first | (with_reducible first | exact HB.out | apply below_alloc | apply pw_below_drewN | apply below_drew1 | refine below_set ?_ (IsS86.ge HI339.out) | refine below_set ?_ GE337.out | refine below_set ?_ GE338.out) | exact HB.out)) hb); replace HI339 := am (IsS86.below (by repeat (first | (with_reducible first | exact HI339.out | apply IsS86.alloc | apply IsS86.drewN | apply IsS86.drew | apply IsS86.set_0 | apply IsS86.set_1 | apply IsS86.set_2 | apply IsS86.set_3 | apply IsS86.set_4 | refine IsS86.far ?_ NB339_337.out _ | refine IsS86.far ?_ NB339_338.out _) | exact HI339.out)) hb); (try clear hb); (try clear hb2); (try clear hk); (try clear hi))))
         go_roundg k2
         case measure => have := HK1.out; have := HK2.out; omega
         case rel => exact ⟨(wrap64 (x9_2 + 1)), (x340000_2), (x340001_2), (x340002_2), (x340003_2), (x340004_2), (by first | rfl | (simp; done) | (simp [*]; done)), H', ⟨by have := HK1.out; have := HK2.out; omega⟩, ⟨bX BK337.out⟩, ⟨bX BK338.out⟩, ⟨by repeat (first | (with_reducible first | exact HI339.out | apply IsS86.alloc | apply IsS86.drewN | apply IsS86.drew | apply IsS86.set_0 | apply IsS86.set_1 | apply IsS86.set_2 | apply IsS86.set_3 | apply IsS86.set_4 | refine IsS86.far ?_ NB339_337.out _ | refine IsS86.far ?_ NB339_338.out _) | exact HI339.out)⟩, ⟨by repeat (first | (with_reducible first | exact HB.out | apply below_alloc | apply pw_below_drewN | apply below_drew1 | refine below_set ?_ (IsS86.ge HI339.out) | refine below_set ?_ GE337.out | refine below_set ?_ GE338.out) | exact HB.out)⟩⟩
       ·rw [if_neg c10] at H
        have c10b0 : decide (x9_2 < (wrap64 (a1 - (Int.tmod (wrap64 (a0_9 - a0_5)) a1)))) = false := decide_eq_false c10
        clear c10
        have H' := Aside0.mk H
        clear H
        go_wp2
        repeat (go_quiet (fail); try go_wp2)
        go_roundg k2
        case measure => have := HK1.out; have := HK2.out; omega
        case rel => exact ⟨(wrap64 (x8_1 + 1)), (x340000_2), (x340001_2), (x340002_2), (x340003_2), (x340004_2), (by first | rfl | (simp; done) | (simp [*]; done)), H', ⟨by have := HK1.out; have := HK2.out; omega⟩, ⟨bX BK337.out⟩, ⟨bX BK338.out⟩, ⟨by repeat (first | (with_reducible first | exact HI339.out | apply IsS86.alloc | apply IsS86.drewN | apply IsS86.drew | apply IsS86.set_0 | apply IsS86.set_1 | apply IsS86.set_2 | apply IsS86.set_3 | apply IsS86.set_4 | refine IsS86.far ?_ NB339_337.out _ | refine IsS86.far ?_ NB339_338.out _) | exact HI339.out)⟩, ⟨by repeat (first | (with_reducible first | exact HB.out | apply below_alloc | apply pw_below_drewN | apply below_drew1 | refine below_set ?_ (IsS86.ge HI339.out) | refine below_set ?_ GE337.out | refine below_set ?_ GE338.out) | exact HB.out)⟩⟩
    ·rw [if_neg c9] at H
     have c9b0 : decide (x8_1 < (wrap64 (a1 - (Int.tmod (wrap64 (a0_10 - a0_6)) a1)))) = false := decide_eq_false c9
     clear c9
     replace H := Option.bind_eq_some_iff.mp H
     obtain ⟨⟨t340, t341, t342, t343, t344, t345, t346, t347, t348⟩, A260, H⟩ := H
     replace H : (some (t340, t341, t342, t343)) = some (r1, r2, r3, r4) := H
     have A26 := Aside0.mk A260
     clear A260
     simp only [Option.some.injEq, Prod.mk.injEq] at H
     obtain ⟨rfl, rfl, rfl, rfl⟩ := H
     go_wp2_with (first | (go_at_call 65; (with_reducible refine (filter_total_mean.calls k1 gb339 x340000_1 x340001_1 x340002_1 x340003_1 x340004_1 t340 t341 t342 t343 t344 t345 t346 t347 t348 w _ ?side1 ?side2 A26.out).mono ?_); (case side1 => repeat (first | (with_reducible first | exact HI339.out | apply IsS86.alloc | apply IsS86.drewN | apply IsS86.drew | apply IsS86.set_0 | apply IsS86.set_1 | apply IsS86.set_2 | apply IsS86.set_3 | apply IsS86.set_4 | refine IsS86.far ?_ NB339_337.out _ | refine IsS86.far ?_ NB339_338.out _) | exact HI339.out)); (case side2 => repeat (first | (with_reducible first | exact HB.out | apply below_alloc | apply pw_below_drewN | apply below_drew1 | refine below_set ?_ (IsS86.ge HI339.out) | refine below_set ?_ GE337.out | refine below_set ?_ GE338.out) | exact HB.out)); rintro e w27 ⟨rfl, hi, hb, hk⟩; replace BK337 := am (KeepBut.blk hk (g' := gb337) (o := .cells #[.int .i64 a0_0, .int .i64 a0_1, .slice A0_2 l0_2.length c0_2, .int .i64 a0_3, .int .i64 a0_4, .int .i64 a0_5, .int .i64 a0_6, .int .i64 a0_7, .int .i64 a0_8, .int .i64 a0_9, .int .i64 a0_10] 71 (0, 0)) (bX BK337.out) NB337_339.out (by simp)); replace BK338 := am (KeepBut.blk hk (g' := gb338) (o := .cells #[.int .i64 0, .int .i64 0, .int .i64 0, .int .i64 0] 51 (0, 0)) (bX BK338.out) NB338_339.out (by simp)); replace HB := am (hb); replace HI339 := am (hi); (try clear hb); (try clear hb2); (try clear hk); (try clear hi); have hnb28 := NB338_337.out; have hnc28 := NB337_338.out; have hnb29 := NB338_339.out; have hnc29 := NB339_338.out; have hcz30_0 := blk_cell BK338.out; have hfz30_0 := blk_frozen BK338.out))
     repeat (go_quiet (first | (go_at_call 65; (with_reducible refine (filter_total_mean.calls k1 gb339 x340000_1 x340001_1 x340002_1 x340003_1 x340004_1 t340 t341 t342 t343 t344 t345 t346 t347 t348 w _ ?side1 ?side2 A26.out).mono ?_); (case side1 => repeat (first | (with_reducible first | exact HI339.out | apply IsS86.alloc | apply IsS86.drewN | apply IsS86.drew | apply IsS86.set_0 | apply IsS86.set_1 | apply IsS86.set_2 | apply IsS86.set_3 | apply IsS86.set_4 | refine IsS86.far ?_ NB339_337.out _ | refine IsS86.far ?_ NB339_338.out _) | exact HI339.out)); (case side2 => repeat (first | (with_reducible first | exact HB.out | apply below_alloc | apply pw_below_drewN | apply below_drew1 | refine below_set ?_ (IsS86.ge HI339.out) | refine below_set ?_ GE337.out | refine below_set ?_ GE338.out) | exact HB.out)); rintro e w27 ⟨rfl, hi, hb, hk⟩; replace BK337 := am (KeepBut.blk hk (g' := gb337) (o := .cells #[.int .i64 a0_0, .int .i64 a0_1, .slice A0_2 l0_2.length c0_2, .int .i64 a0_3, .int .i64 a0_4, .int .i64 a0_5, .int .i64 a0_6, .int .i64 a0_7, .int .i64 a0_8, .int .i64 a0_9, .int .i64 a0_10] 71 (0, 0)) (bX BK337.out) NB337_339.out (by simp)); replace BK338 := am (KeepBut.blk hk (g' := gb338) (o := .cells #[.int .i64 0, .int .i64 0, .int .i64 0, .int .i64 0] 51 (0, 0)) (bX BK338.out) NB338_339.out (by simp)); replace HB := am (hb); replace HI339 := am (hi); (try clear hb); (try clear hb2); (try clear hk); (try clear hi); have hnb28 := NB338_337.out; have hnc28 := NB337_338.out; have hnb29 := NB338_339.out; have hnc29 := NB339_338.out; have hcz30_0 := blk_cell BK338.out; have hfz30_0 := blk_frozen BK338.out)); try go_wp2_with (first | (go_at_call 65; (with_reducible refine (filter_total_mean.calls k1 gb339 x340000_1 x340001_1 x340002_1 x340003_1 x340004_1 t340 t341 t342 t343 t344 t345 t346 t347 t348 w _ ?side1 ?side2 A26.out).mono ?_); (case side1 => repeat (first | (with_reducible first | exact HI339.out | apply IsS86.alloc | apply IsS86.drewN | apply IsS86.drew | apply IsS86.set_0 | apply IsS86.set_1 | apply IsS86.set_2 | apply IsS86.set_3 | apply IsS86.set_4 | refine IsS86.far ?_ NB339_337.out _ | refine IsS86.far ?_ NB339_338.out _) | exact HI339.out)); (case side2 => repeat (first | (with_reducible first | exact HB.out | apply below_alloc | apply pw_below_drewN | apply below_drew1 | refine below_set ?_ (IsS86.ge HI339.out) | refine below_set ?_ GE337.out | refine below_set ?_ GE338.out) | exact HB.out)); rintro e w27 ⟨rfl, hi, hb, hk⟩; replace BK337 := am (KeepBut.blk hk (g' := gb337) (o := .cells #[.int .i64 a0_0, .int .i64 a0_1, .slice A0_2 l0_2.length c0_2, .int .i64 a0_3, .int .i64 a0_4, .int .i64 a0_5, .int .i64 a0_6, .int .i64 a0_7, .int .i64 a0_8, .int .i64 a0_9, .int .i64 a0_10] 71 (0, 0)) (bX BK337.out) NB337_339.out (by simp)); replace BK338 := am (KeepBut.blk hk (g' := gb338) (o := .cells #[.int .i64 0, .int .i64 0, .int .i64 0, .int .i64 0] 51 (0, 0)) (bX BK338.out) NB338_339.out (by simp)); replace HB := am (hb); replace HI339 := am (hi); (try clear hb); (try clear hb2); (try clear hk); (try clear hi); have hnb28 := NB338_337.out; have hnc28 := NB337_338.out; have hnb29 := NB338_339.out; have hnc29 := NB339_338.out; have hcz30_0 := blk_cell BK338.out; have hfz30_0 := blk_frozen BK338.out)))
     refine bodyPost_ret (results_cell_row rfl _ _ gb338 51 #[.int .i64 t340, .int .i64 t341, .int .i64 t342, .int .i64 t343] (0, 0) _ rfl (by refine bO ?_; refine blk_put (cs := #[.int .i64 t340, .int .i64 t341, .int .i64 t342, .int .i64 0]) ?_ 3 _ rfl; refine bO ?_; refine blk_put (cs := #[.int .i64 t340, .int .i64 t341, .int .i64 0, .int .i64 0]) ?_ 2 _ rfl; refine bO ?_; refine blk_put (cs := #[.int .i64 t340, .int .i64 0, .int .i64 0, .int .i64 0]) ?_ 1 _ rfl; refine bO ?_; refine blk_put (cs := #[.int .i64 0, .int .i64 0, .int .i64 0, .int .i64 0]) ?_ 0 _ rfl; refine bO ?_; exact BK338.out) Try.underlying51 rfl (by kernel_rfl)) rfl ?_
     exact ⟨by first | rfl | (simp [errW_none, errW_some] <;> rfl) | (simp [*, errW_none, errW_some] <;> rfl), by repeat (first | (with_reducible first | exact HB.out | apply below_alloc | apply pw_below_drewN | apply below_drew1 | refine below_set ?_ (IsS86.ge HI339.out) | refine below_set ?_ GE337.out | refine below_set ?_ GE338.out) | exact HB.out)⟩

/-! ### filter_view_rank: function 60: proved by hand -/
set_option maxHeartbeats 8000000 in
set_option maxRecDepth 100000 in
theorem pick_calls_0 (x : S51) (w : World) : Calls Try.prog 76 #[.agg #[.int .i64 x.f0, .int .i64 x.f1, .int .i64 x.f2, .int .i64 x.f3]] w fun e w' => e = .returned (.int .i64 x.f0) ∧ Below w.heap.size w w' := by
 have hu51 := Try.underlying51
 go_enter Try.func76, Try.ntmps76
 go_wp2_with (first
  | ((with_reducible refine gate_dst (N := 1) rfl ?_); refine boxE (N := 1) #[.int .i64 x.f0, .int .i64 x.f1, .int .i64 x.f2, .int .i64 x.f3] 51 ?_; intro g hg w1 hx hb; have hz := (blk_cell hx 0).trans rfl; clear hg))
 go_ret
 exact ⟨rfl, hb⟩
set_option maxHeartbeats 8000000 in
set_option maxRecDepth 100000 in
theorem pick_calls_1 (x : S51) (w : World) : Calls Try.prog 77 #[.agg #[.int .i64 x.f0, .int .i64 x.f1, .int .i64 x.f2, .int .i64 x.f3]] w fun e w' => e = .returned (.int .i64 x.f1) ∧ Below w.heap.size w w' := by
 have hu51 := Try.underlying51
 go_enter Try.func77, Try.ntmps77
 go_wp2_with (first
  | ((with_reducible refine gate_dst (N := 1) rfl ?_); refine boxE (N := 1) #[.int .i64 x.f0, .int .i64 x.f1, .int .i64 x.f2, .int .i64 x.f3] 51 ?_; intro g hg w1 hx hb; have hz := (blk_cell hx 1).trans rfl; clear hg))
 go_ret
 exact ⟨rfl, hb⟩
set_option maxHeartbeats 8000000 in
set_option maxRecDepth 100000 in
theorem pick_calls_2 (x : S51) (w : World) : Calls Try.prog 78 #[.agg #[.int .i64 x.f0, .int .i64 x.f1, .int .i64 x.f2, .int .i64 x.f3]] w fun e w' => e = .returned (.int .i64 x.f2) ∧ Below w.heap.size w w' := by
 have hu51 := Try.underlying51
 go_enter Try.func78, Try.ntmps78
 go_wp2_with (first
  | ((with_reducible refine gate_dst (N := 1) rfl ?_); refine boxE (N := 1) #[.int .i64 x.f0, .int .i64 x.f1, .int .i64 x.f2, .int .i64 x.f3] 51 ?_; intro g hg w1 hx hb; have hz := (blk_cell hx 2).trans rfl; clear hg))
 go_ret
 exact ⟨rfl, hb⟩
set_option maxHeartbeats 8000000 in
set_option maxRecDepth 100000 in
theorem pick_calls_3 (x : S51) (w : World) : Calls Try.prog 79 #[.agg #[.int .i64 x.f0, .int .i64 x.f1, .int .i64 x.f2, .int .i64 x.f3]] w fun e w' => e = .returned (.int .i64 x.f3) ∧ Below w.heap.size w w' := by
 have hu51 := Try.underlying51
 go_enter Try.func79, Try.ntmps79
 go_wp2_with (first
  | ((with_reducible refine gate_dst (N := 1) rfl ?_); refine boxE (N := 1) #[.int .i64 x.f0, .int .i64 x.f1, .int .i64 x.f2, .int .i64 x.f3] 51 ?_; intro g hg w1 hx hb; have hz := (blk_cell hx 3).trans rfl; clear hg))
 go_ret
 exact ⟨rfl, hb⟩
/-- The values, least first. -/
def sorted (l : List Int) : List Int := l.mergeSort fun x y => decide (x ≤ y)
theorem length_sorted (l : List Int) : (sorted l).length = l.length := (List.mergeSort_perm _ _).length_eq
theorem fill_step (l : List S51) (sl : S51 → Int) (j : Nat) (hj : j < l.length) :
  (((l.take j).map sl ++ List.replicate (l.length - j) 0).map (Value.int .i64)).set j (.int .i64 (sl (rd_T51 l (j : Int)))) = ((l.take (j + 1)).map sl ++ List.replicate (l.length - (j + 1)) 0).map (Value.int .i64) := by
 have h1 : rd_T51 l (j : Int) = l[j] := by simp [rd_T51, rdOf, hj]
 rw [h1]
 apply List.ext_getElem
 ·simp; omega
 ·intro i h2 h3
  simp only [List.getElem_set, List.getElem_map, List.getElem_append]
  simp only [List.length_map, List.length_take]
  by_cases e : j = i
  ·subst e
   rw [if_pos rfl, dif_pos (by omega)]
   simp
  ·rw [if_neg e]
   by_cases hi : i < j
   ·rw [dif_pos (by omega), dif_pos (by omega)]
    simp
   ·rw [dif_neg (by omega), dif_neg (by omega)]
    simp
theorem fill_at (l : List S51) (sl : S51 → Int) (j : Nat) (hj : j < l.length) (cs : Array Value) (h : cs.toList = ((l.take j).map sl ++ List.replicate (l.length - j) 0).map (Value.int .i64)) : cs[j]? = some (.int .i64 0) := by
 rw [← Array.getElem?_toList, h, List.getElem?_map, List.getElem?_append_right (by simp; omega)]
 have h2 : (List.replicate (l.length - j) (0 : Int))[0]? = some 0 := by
  rw [List.getElem?_replicate, if_pos (by omega)]
 simp [Nat.min_eq_left (Nat.le_of_lt hj), h2]
open Go.Sort in
theorem sort_done {w : World} {gs n : Nat} {os : Array Obj} {cs : Array Value} {zs : List Int} (hb : w.heap[gs]? = some (.cells cs 3 (0, 0))) (hl : cs.toList = zs.map (Value.int .i64)) :
  (∃ cs', (grow (putRow (Value.int .i64) (Sort.ahead w n) gs 0 (sorted zs).toArray) os).heap[gs]? = some (.cells cs' 3 (0, 0)) ∧ cs'.toList = (sorted zs).map (Value.int .i64)) ∧ w.grownBy (grow (putRow (Value.int .i64) (Sort.ahead w n) gs 0 (sorted zs).toArray) os) (some gs) := by
 have hsz : cs.size = zs.length := by rw [← Array.length_toList, hl, List.length_map]
 refine ⟨⟨_, heap_sortedI _ hb, ?_⟩, grownBy_sortedI _⟩
 have h1 := take_putCellsI cs (sorted zs) (by rw [length_sorted, hsz]; exact Nat.le_refl _)
 rw [length_sorted] at h1
 rw [← h1, List.take_of_length_le]
 simp [putCells, hsz]
theorem sorted_at (l : List S51) (sl : S51 → Int) (n : Int) (h0 : 0 ≤ n) (h1 : n < (l.length : Int)) (cs : Array Value) (h : cs.toList = (sorted (l.map sl)).map (Value.int .i64)) : cs[n.toNat]? = some (.int .i64 (rd (sorted (l.map sl)) n)) := by
 have hlen : n.toNat < (sorted (l.map sl)).length := by rw [length_sorted, List.length_map]; omega
 rw [← Array.getElem?_toList, h, List.getElem?_map, List.getElem?_eq_getElem hlen]
 simp [rd, hlen]
theorem lit_event2 {P : Program} {ops : Array Oper} {rest : List Oper} {o : Oper} {a : Act} {Q : Exit → Act → World → Prop} {W : World} (hgd : o.guard = none) {N : Tmp} (_hd : o.dst = some N) {cs : Array Value} {t : TypeId} {n : Nat}
  (hrun : (execOp a.eval o).run P W = .ok (.value (.slice (some ⟨W.heap.size, 0, none⟩) n n)) (W.alloc (.cells cs t (0, 0))))
  (h : ∀ g, g = W.heap.size → ∀ w1, w1.heap[g]? = some (.cells cs t (0, 0)) → Below W.heap.size W w1 → wpList P ops Q rest (a.put o.dst (.slice (some ⟨g, 0, none⟩) n n)) w1) : wpList P ops Q (o :: rest) a W :=
 Kd.event_run hgd hrun (h _ rfl _ (blk_new W _) (below_alloc (Below.refl _ _) _))
theorem made_list (m : Nat) : (madeCells #[Value.int .i64 0] m).toList = (List.replicate m (0 : Int)).map (Value.int .i64) := by
 apply List.ext_getElem
 ·simp [madeCells]
 ·intro i h1 h2
  simp [madeCells, Nat.mod_one]
theorem goesLF_ {P : Program} {Q : Exit → Act → World → Prop} {ops : Array Oper} {rest : List Oper} {oi : Oper} {a : Act} {w : World} {f : FuncId} {fn : Func} {as_ : Array Operand} {ts : Array TypeId} {s : Operand} (N : Option Tmp) (caps : Array Value) (hd : oi.dst = N) (hg : oi.guard = none) (hf : P.funcs[f]? = some fn) (hname : (fn.name == "runtime.NumGoroutine") = false) (hb : fn.body.isSome = true) (args : Array Value)
  (hop : oi.op = .call { callee := .value s, args := as_, argTypes := ts }) (hs : a.eval s = .func (.func f) #[] caps) (hargs : as_.map a.eval ++ caps = args)
  (h : Calls P f args w fun e w' => ∃ v, e = .returned v ∧ wpList P ops Q rest (a.put N v) w') : wpList P ops Q (oi :: rest) a w := by
 refine wpList_plain hg fun K hK => ?_
 have he := enters_ hf hname hb args w
 have hrun : (execOp a.eval oi).run P w = .ok (.enter f args) w := by
  unfold execOp
  simp [hop, resolve, hs, Deferred.ofValue, invoke, hargs, he]
 unfold Oper.wp
 rw [hrun, Oper.upon_enter]
 refine h.mono fun e w'' hh => ?_
 obtain ⟨v, rfl, hk⟩ := hh
 subst hd
 exact hK _ _ hk

set_option maxHeartbeats 8000000 in
set_option maxRecDepth 100000 in
theorem value_calls (F : Nat) (fn : Func) (sl : S51 → Int) (hF : Try.prog.funcs[F]? = some fn) (hname : (fn.name == "runtime.NumGoroutine") = false) (hbody : fn.body.isSome = true)
  (hget : ∀ (x : S51) (w : World), Calls Try.prog F #[.agg #[.int .i64 x.f0, .int .i64 x.f1, .int .i64 x.f2, .int .i64 x.f3]] w fun e w' => e = .returned (.int .i64 (sl x)) ∧ Below w.heap.size w w')
  (l : List S51) (n : Int) (g7 g5 : Nat) (A : Option Addr) (c : Nat) (w : World) (hC : Kd.C k51 w A l.length l) (h7 : w.heap[g7]? = some (.cells #[.slice A l.length c] 34 (0, 0))) (h5 : w.heap[g5]? = some (.cells #[.int .i64 n] 3 (0, 0)))
  (h0 : 0 ≤ n) (h1 : n < (l.length : Int)) (hm : l.length ≤ 17592186044416) :
  Calls Try.prog 74 #[.func (.func F) #[] #[], .pointer (some ⟨g7, 0, none⟩), .pointer (some ⟨g5, 0, none⟩)] w fun e w' => e = .returned (.int .i64 (rd (sorted (l.map sl)) n)) ∧ Below w.heap.size w w' := by
 have hu51 := Try.underlying51
 have hu22 := Try.underlying22
 have hu34 := Try.underlying34
 have hz7 : w.cell? ⟨g7, 0, none⟩ = some (.slice A l.length c) := (blk_cell h7 0).trans rfl
 have hmk := print_make (P := Try.prog) 22 3 .i64 8 Try.underlying22 (by kernel_rfl) (by decide) l.length (by omega)
 go_enter Try.func74, Try.ntmps74
 go_wp2_with (first
  | ((with_reducible refine gate_dst (N := 10) rfl ?_); refine lit_event2 ?hg (N := 10) ?hd (cs := madeCells #[.int .i64 0] l.length) (t := 3) (n := l.length) ?hr ?_; (case hd => rfl); (case hg => rfl); (case hr => first | (go_simp; done) | (go_simp; rfl)); intro gs hgs w1 hs hb1; have z5 : w.heap.size ≤ gs := Nat.le_of_eq hgs.symm; have z7 : g7 < gs := (by rw [hgs]; exact blk_lt h7); have z6 : g5 < gs := (by rw [hgs]; exact blk_lt h5); clear hmk hz7 hgs; have hz7 : w1.cell? ⟨g7, 0, none⟩ = some (.slice A l.length c) := (blk_cell (blk_below h7 hb1) 0).trans rfl))
 clear hz7
 have k7 := blk_below h7 hb1
 have k5 := blk_below h5 hb1
 clear h5 h7
 go_loopg [13] l.length (fun kq v13 w' => ∃ (j : Nat) (cs : Array Value), v13 = .int .i64 (j : Int) ∧ Aside0 (j ≤ l.length ∧ l.length - j ≤ kq) ∧ Aside0 (w'.heap[gs]? = some (.cells cs 3 (0, 0))) ∧ Aside0 (cs.toList = ((l.take j).map sl ++ List.replicate (l.length - j) 0).map (Value.int .i64)) ∧ Aside0 (w'.heap[g7]? = some (.cells #[.slice A l.length c] 34 (0, 0))) ∧ Aside0 (w'.heap[g5]? = some (.cells #[.int .i64 n] 3 (0, 0))) ∧ Aside0 (Below w.heap.size w w'))
 case atStart => exact ⟨0, _, rfl, ⟨Nat.zero_le _, Nat.le_refl _⟩, ⟨hs⟩, ⟨by simp [made_list]⟩, ⟨k7⟩, ⟨k5⟩, ⟨hb1⟩⟩
 case round =>
  clear hs k7 k5 hb1
  obtain ⟨j, cs, rfl, HJ, HS, HL, H7, H5, HB⟩ := hrel
  obtain ⟨hj, hk⟩ := HJ.out
  by_cases hlt : j < l.length
  ·have c1 : decide ((j : Int) < (l.length : Int)) = true := decide_eq_true (by omega)
   obtain ⟨ad, e, hx0, hx1, hx2, hx3⟩ := at_T51 hC (j : Int) (by omega) (by omega)
   subst e
   replace hx0 := (HB.out.cell (World.block_lt_of_cell? w _ hx0)).trans hx0
   replace hx1 := (HB.out.cell (World.block_lt_of_cell? w _ hx1)).trans hx1
   replace hx2 := (HB.out.cell (World.block_lt_of_cell? w _ hx2)).trans hx2
   replace hx3 := (HB.out.cell (World.block_lt_of_cell? w _ hx3)).trans hx3
   simp only [Int.toNat_natCast] at hx0 hx1 hx2 hx3
   have hcj := fill_at l sl j hlt cs HL.out
   have p1 : (0 ≤ (j : Int)) = True := eq_true (by omega)
   have q1 : ((j : Int) < (l.length : Int)) = True := eq_true (by omega)
   go_wp2_with (first
    | ((with_reducible refine gate_dst (N := 7) rfl ?_); refine boxE (N := 7) #[.int .i64 0, .int .i64 0, .int .i64 0, .int .i64 0] 51 ?_; intro gp hgp w2 hp hb2; have n7 : g7 < gp := (by rw [hgp]; exact blk_lt H7.out); have n5 : g5 < gp := (by rw [hgp]; exact blk_lt H5.out); have ns : gs < gp := (by rw [hgp]; exact blk_lt HS.out); clear hgp; have hzp := blk_cell hp; have hzf := blk_frozen hp)
    | ((with_reducible refine gate_store (t := 51) (p := 7) rfl ?_); refine store_event (t := 51) (p := 7) (v := .tmp 17) (w1 := ((((w2.setCell ⟨gp, 0, none⟩ (.int .i64 (rd_T51 l (j : Int)).f0)).setCell ⟨gp, 1, none⟩ (.int .i64 (rd_T51 l (j : Int)).f1)).setCell ⟨gp, 2, none⟩ (.int .i64 (rd_T51 l (j : Int)).f2)).setCell ⟨gp, 3, none⟩ (.int .i64 (rd_T51 l (j : Int)).f3))) ?hg ?ho ?hn ?hr ?_; (case ho => rfl); (case hg => rfl); (case hn => rfl); (case hr => first | (go_simp; done) | (go_simp; rfl)); intro w3 hw; have HP := am (show w3.heap[gp]? = some (.cells #[.int .i64 (rd_T51 l (j : Int)).f0, .int .i64 (rd_T51 l (j : Int)).f1, .int .i64 (rd_T51 l (j : Int)).f2, .int .i64 (rd_T51 l (j : Int)).f3] 51 (0, 0)) from (by rw [hw]; exact (blk_put (cs := #[.int .i64 (rd_T51 l (j : Int)).f0, .int .i64 (rd_T51 l (j : Int)).f1, .int .i64 (rd_T51 l (j : Int)).f2, .int .i64 0]) (cs' := #[.int .i64 (rd_T51 l (j : Int)).f0, .int .i64 (rd_T51 l (j : Int)).f1, .int .i64 (rd_T51 l (j : Int)).f2, .int .i64 (rd_T51 l (j : Int)).f3]) (blk_put (cs := #[.int .i64 (rd_T51 l (j : Int)).f0, .int .i64 (rd_T51 l (j : Int)).f1, .int .i64 0, .int .i64 0]) (cs' := #[.int .i64 (rd_T51 l (j : Int)).f0, .int .i64 (rd_T51 l (j : Int)).f1, .int .i64 (rd_T51 l (j : Int)).f2, .int .i64 0]) (blk_put (cs := #[.int .i64 (rd_T51 l (j : Int)).f0, .int .i64 0, .int .i64 0, .int .i64 0]) (cs' := #[.int .i64 (rd_T51 l (j : Int)).f0, .int .i64 (rd_T51 l (j : Int)).f1, .int .i64 0, .int .i64 0]) (blk_put (cs := #[.int .i64 0, .int .i64 0, .int .i64 0, .int .i64 0]) (cs' := #[.int .i64 (rd_T51 l (j : Int)).f0, .int .i64 0, .int .i64 0, .int .i64 0]) hp 0 (.int .i64 (rd_T51 l (j : Int)).f0) rfl) 1 (.int .i64 (rd_T51 l (j : Int)).f1) rfl) 2 (.int .i64 (rd_T51 l (j : Int)).f2) rfl) 3 (.int .i64 (rd_T51 l (j : Int)).f3) rfl))); have HS3 := am (show w3.heap[gs]? = some (.cells cs 3 (0, 0)) from (by rw [hw]; exact blk_far (blk_far (blk_far (blk_far (blk_below HS.out hb2) (p := ⟨gp, 0, none⟩) (Nat.ne_of_lt ns) _) (p := ⟨gp, 1, none⟩) (Nat.ne_of_lt ns) _) (p := ⟨gp, 2, none⟩) (Nat.ne_of_lt ns) _) (p := ⟨gp, 3, none⟩) (Nat.ne_of_lt ns) _)); have H73 := am (show w3.heap[g7]? = some (.cells #[.slice (some ad) l.length c] 34 (0, 0)) from (by rw [hw]; exact blk_far (blk_far (blk_far (blk_far (blk_below H7.out hb2) (p := ⟨gp, 0, none⟩) (Nat.ne_of_lt n7) _) (p := ⟨gp, 1, none⟩) (Nat.ne_of_lt n7) _) (p := ⟨gp, 2, none⟩) (Nat.ne_of_lt n7) _) (p := ⟨gp, 3, none⟩) (Nat.ne_of_lt n7) _)); have H53 := am (show w3.heap[g5]? = some (.cells #[.int .i64 n] 3 (0, 0)) from (by rw [hw]; exact blk_far (blk_far (blk_far (blk_far (blk_below H5.out hb2) (p := ⟨gp, 0, none⟩) (Nat.ne_of_lt n5) _) (p := ⟨gp, 1, none⟩) (Nat.ne_of_lt n5) _) (p := ⟨gp, 2, none⟩) (Nat.ne_of_lt n5) _) (p := ⟨gp, 3, none⟩) (Nat.ne_of_lt n5) _)); have HB3 := am (show Below w.heap.size w w3 from (by rw [hw]; exact below_set (below_set (below_set (below_set (below_step HB.out hb2) (by omega)) (by omega)) (by omega)) (by omega))); clear hw hp hb2 HS H7 H5 HB hzp hzf hx0 hx1 hx2 hx3; have hzp := blk_cell HP.out)
    | ((with_reducible refine gate_dst (N := 22) rfl ?_); refine goesLF_ (some 22) #[] rfl rfl hF hname hbody #[.agg #[.int .i64 (rd_T51 l (j : Int)).f0, .int .i64 (rd_T51 l (j : Int)).f1, .int .i64 (rd_T51 l (j : Int)).f2, .int .i64 (rd_T51 l (j : Int)).f3]] rfl (by rfl) (by first | rfl | (simp only [List.map_toArray, List.map_cons, List.map_nil, List.append_toArray, List.cons_append, List.nil_append]; done) | (simp only [List.map_toArray, List.map_cons, List.map_nil, List.append_toArray, List.cons_append, List.nil_append]; rfl)) ?_; refine (hget (rd_T51 l (j : Int)) _).mono ?_; rintro e w4 ⟨rfl, hb4⟩; refine ⟨_, rfl, ?_⟩; have HS4 := am (blk_below HS3.out hb4); have H74 := am (blk_below H73.out hb4); have H54 := am (blk_below H53.out hb4); have HB4 := am (below_step HB3.out hb4); clear HS3 H73 H53 HB3 HP hzp hb4; have hsf := blk_frozen HS4.out; have hsz : w4.cell? ⟨gs, j, none⟩ = some (.int .i64 0) := (blk_cell HS4.out j).trans hcj))
   cases gk with
   | zero => omega
   | succ k1 =>
    go_roundg k1
    case measure => omega
    case rel => exact ⟨j + 1, cs.setIfInBounds j (.int .i64 (sl (rd_T51 l (j : Int)))), by simp, ⟨by omega, by omega⟩, ⟨blk_put HS4.out j _ rfl⟩, ⟨by rw [Array.toList_setIfInBounds, HL.out]; exact fill_step l sl j hlt⟩, ⟨blk_far H74.out (p := ⟨gs, j, none⟩) (Nat.ne_of_lt z7) _⟩, ⟨blk_far H54.out (p := ⟨gs, j, none⟩) (Nat.ne_of_lt z6) _⟩, ⟨below_set HB4.out z5⟩⟩
  ·have c1 : decide ((j : Int) < (l.length : Int)) = false := decide_eq_false (by omega)
   have hjl : j = l.length := by omega
   have HL' : cs.toList = (l.map sl).map (Value.int .i64) := by rw [HL.out, hjl]; simp
   have h0' : (0 ≤ n) = True := eq_true h0
   have h1' : (n < (l.length : Int)) = True := eq_true h1
   have hsort : Calls Try.prog 75 #[.slice (some ⟨gs, 0, none⟩) l.length l.length] wr fun e w' => e = .returned (.tuple #[]) ∧ ∃ n os, w' = Go.Sort.grow (Go.Sort.putRow (Value.int .i64) (Go.Sort.ahead wr n) gs 0 (sorted (l.map sl)).toArray) os := by
    have h9 := Try.slices_Sort_int gs 0 l.length (l.map sl) wr (holds_of_blockI HS.out (by rw [HL', List.length_map, List.take_of_length_le (by simp)])) (blk_lt HS.out) (by rw [List.length_map]; omega)
    rw [List.length_map] at h9
    exact h9
   go_wp2_with (first
    | ((with_reducible refine gate_callee (f := 75) rfl ?_); refine goesL_ (some 26) rfl rfl Try.func75 (by kernel_rfl) rfl #[.slice (some ⟨gs, 0, none⟩) l.length l.length] rfl (by first | rfl | (simp only [List.map_toArray, List.map_cons, List.map_nil]; done) | (simp only [List.map_toArray, List.map_cons, List.map_nil]; rfl)) ?_; refine hsort.mono ?_; rintro e w5 ⟨rfl, nn, os, hw5⟩; refine ⟨_, rfl, ?_⟩; obtain ⟨⟨cs5, hs5, hl5⟩, hg5⟩ := sort_done (n := nn) (os := os) HS.out HL'; rw [← hw5] at hs5 hg5; clear hw5; have HB5 := am (pw_below_grown HB.out (some gs) (below_size HB.out) hg5 (fun k hk => by cases hk; exact z5)); have k5 := blk_grown H5.out hg5 (fun e => by cases e; omega); have hz5 : w5.cell? ⟨g5, 0, none⟩ = some (.int .i64 n) := (blk_cell k5 0).trans rfl; have hzs : w5.cell? ⟨gs, n.toNat, none⟩ = some (.int .i64 (rd (sorted (l.map sl)) n)) := (blk_cell hs5 n.toNat).trans (sorted_at l sl n h0 h1 cs5 hl5); clear HB HS HL H7 H5 hs5 hl5 hg5 k5 hsort))
   go_ret
   exact ⟨rfl, HB5.out⟩

def filter_view_rank.f (k : Nat) (a0_0 a0_1 : Int) (l0_2 : List (S51)) (a0_3 a0_4 a0_5 a0_6 a0_7 a0_8 a0_9 a0_10 : Int) (a1 a2 : Int) : Option (Int × Int × Int × Int) :=
 (filter_view_square.f k a0_0 a0_1 l0_2 a0_3 a0_4 a0_5 a0_6 a0_7 a0_8 a0_9 a0_10 a1).bind fun l => if 0 ≤ a2 ∧ a2 < (l.length : Int) ∧ l.length ≤ 17592186044416 then
  some (rd (sorted (l.map S51.f0)) a2, rd (sorted (l.map S51.f1)) a2, rd (sorted (l.map S51.f2)) a2, rd (sorted (l.map S51.f3)) a2) else none
theorem filter_view_rank.mono : ∀ x0 x1 x2 x3 x4 x5 x6 x7 x8 x9 x10 a1 a2 k, LeO (filter_view_rank.f k x0 x1 x2 x3 x4 x5 x6 x7 x8 x9 x10 a1 a2) (filter_view_rank.f (k + 1) x0 x1 x2 x3 x4 x5 x6 x7 x8 x9 x10 a1 a2) := by
 intro x0 x1 x2 x3 x4 x5 x6 x7 x8 x9 x10 a1 a2 k
 unfold filter_view_rank.f
 exact LeO.bind (filter_view_square.mono _ _ _ _ _ _ _ _ _ _ _ _ _) fun _ => LeO.refl _

set_option maxHeartbeats 8000000 in
set_option maxRecDepth 100000 in
theorem filter_view_rank.calls (k : Nat) (a0_0 a0_1 : Int) (A0_2 : Option Addr) (c0_2 : Nat) (l0_2 : List (S51)) (a0_3 a0_4 a0_5 a0_6 a0_7 a0_8 a0_9 a0_10 : Int) (a1 a2 r1 r2 r3 r4 : Int) (w : World) (hr0_2 : Kd.C k51 w A0_2 l0_2.length l0_2) (hc0_2 : l0_2.length ≤ c0_2) (h : filter_view_rank.f k a0_0 a0_1 l0_2 a0_3 a0_4 a0_5 a0_6 a0_7 a0_8 a0_9 a0_10 a1 a2 = some (r1, r2, r3, r4)) :
  Calls Try.prog 60 #[.agg #[.int .i64 a0_0, .int .i64 a0_1, .slice A0_2 l0_2.length c0_2, .int .i64 a0_3, .int .i64 a0_4, .int .i64 a0_5, .int .i64 a0_6, .int .i64 a0_7, .int .i64 a0_8, .int .i64 a0_9, .int .i64 a0_10], .int .i64 a1, .int .i64 a2] w fun e w' => e = .returned (.agg #[.int .i64 r1, .int .i64 r2, .int .i64 r3, .int .i64 r4]) ∧ Below w.heap.size w w' := by
 obtain ⟨l, e2, h⟩ := Option.bind_eq_some_iff.mp h
 by_cases hc : 0 ≤ a2 ∧ a2 < (l.length : Int) ∧ l.length ≤ 17592186044416
 ·rw [if_pos hc] at h
  obtain ⟨h1, h2, h3⟩ := hc
  simp only [Option.some.injEq, Prod.mk.injEq] at h
  obtain ⟨rfl, rfl, rfl, rfl⟩ := h
  have hu71 := Try.underlying71
  have hu51 := Try.underlying51
  have hu34 := Try.underlying34
  go_enter Try.func60, Try.ntmps60
  go_wp2_with (first
  | ((with_reducible refine gate_dst (N := 3) rfl ?_); refine boxE (N := 3) #[.int .i64 a0_0, .int .i64 a0_1, .slice A0_2 l0_2.length c0_2, .int .i64 a0_3, .int .i64 a0_4, .int .i64 a0_5, .int .i64 a0_6, .int .i64 a0_7, .int .i64 a0_8, .int .i64 a0_9, .int .i64 a0_10] 71 ?_; intro g3 hg3 w3 b3 hb3; have z3 : w.heap.size ≤ g3 := Nat.le_of_eq hg3.symm; clear hg3)
  | ((with_reducible refine gate_dst (N := 5) rfl ?_); refine boxE (N := 5) #[.int .i64 a2] 3 ?_; intro g5 hg5 w5 b5 hb5; have n35 : g3 < g5 := (by rw [hg5]; exact blk_lt b3); clear hg5)
  | ((with_reducible refine gate_dst (N := 6) rfl ?_); refine boxE (N := 6) #[.int .i64 0, .int .i64 0, .int .i64 0, .int .i64 0] 51 ?_; intro g6 hg6 w6 b6 hb6; have n56 : g5 < g6 := (by rw [hg6]; exact blk_lt b5); clear hg6; have hz3 := blk_cell (blk_below (blk_below b3 hb5) hb6))
  | ((with_reducible refine gate_callee (f := 52) rfl ?_); refine goesL_ (some 11) rfl rfl Try.func52 (by kernel_rfl) rfl #[.agg #[.int .i64 a0_0, .int .i64 a0_1, .slice A0_2 l0_2.length c0_2, .int .i64 a0_3, .int .i64 a0_4, .int .i64 a0_5, .int .i64 a0_6, .int .i64 a0_7, .int .i64 a0_8, .int .i64 a0_9, .int .i64 a0_10], .int .i64 a1] rfl (by (try simp only [List.map_toArray, List.map_cons, List.map_nil]); first | done | rfl) ?_; refine (filter_view_square.calls k _ _ _ _ _ _ _ _ _ _ _ _ _ a1 l _ (Kd.C_below hr0_2 (below_step (below_step hb3 hb5) hb6)) hc0_2 e2).mono ?_; rintro e w7 ⟨v, rfl, hR, hb7⟩; refine ⟨_, rfl, ?_⟩; obtain ⟨A, c, rfl, q2, q3⟩ := Kd.R_reads hR; have B5 := am (blk_below (blk_below b5 hb6) hb7); have B6 := am (blk_below b6 hb7); have HB := am (below_step (below_step (below_step hb3 hb5) hb6) hb7); have RC := Aside0.mk hR; clear hR hb7 b5 b6 hb3 hb5 hb6 b3 q3 hz3)
  | ((with_reducible refine gate_dst (N := 7) rfl ?_); refine boxE (N := 7) #[.slice none 0 0] 34 ?_; intro g7 hg7 w8 b7 hb8; have n57 : g5 < g7 := (by rw [hg7]; exact blk_lt B5.out); have n67 : g6 < g7 := (by rw [hg7]; exact blk_lt B6.out); clear hg7; have hz7 := blk_cell b7; have hf7 := blk_frozen b7)
  | ((with_reducible refine gate_store (t := 34) (p := 7) rfl ?_); refine store_event (t := 34) (p := 7) (v := .tmp 11) (w1 := (w8.setCell ⟨g7, 0, none⟩ (.slice A l.length c))) ?hg ?ho ?hn ?hr ?_; (case ho => rfl); (case hg => rfl); (case hn => rfl); (case hr => first | (go_simp; done) | (go_simp; rfl)); intro w9 hw; have B7 := am (show w9.heap[g7]? = some (.cells #[.slice A l.length c] 34 (0, 0)) from (by rw [hw]; exact blk_put b7 0 _ rfl)); have B5' := am (show w9.heap[g5]? = some (.cells #[.int .i64 a2] 3 (0, 0)) from (by rw [hw]; exact blk_far (blk_below B5.out hb8) (p := ⟨g7, 0, none⟩) (Nat.ne_of_lt n57) _)); have B6' := am (show w9.heap[g6]? = some (.cells #[.int .i64 0, .int .i64 0, .int .i64 0, .int .i64 0] 51 (0, 0)) from (by rw [hw]; exact blk_far (blk_below B6.out hb8) (p := ⟨g7, 0, none⟩) (Nat.ne_of_lt n67) _)); have HB' := am (show Below w.heap.size w w9 from (by rw [hw]; exact below_set (below_step HB.out hb8) (by have := HB.out; omega))); have RC' := am (show Kd.R k51 51 w9 _ (fun _ => True) (.slice A l.length c) l from (by rw [hw]; exact Kd.R_set (Kd.R_below RC.out hb8) b7 (by decide) 0 _)); clear hw hb8 b7 B5 B6 HB RC hz7 hf7; have B5 := B5'; have B6 := B6'; have HB := HB'; have RC := RC'; clear B5' B6' HB' RC')
  | ((with_reducible refine gate_dst (N := 14) rfl ?_); refine goesLF_ (some 14) #[.pointer (some ⟨g7, 0, none⟩), .pointer (some ⟨g5, 0, none⟩)] rfl rfl Try.func74 (by kernel_rfl) rfl #[.func (.func 76) #[] #[], .pointer (some ⟨g7, 0, none⟩), .pointer (some ⟨g5, 0, none⟩)] rfl (by rfl) (by simp only [List.map_toArray, List.map_cons, List.map_nil, List.append_toArray, List.cons_append, List.nil_append]; rfl) ?_; refine (value_calls 76 Try.f76 S51.f0 Try.func76 (by kernel_rfl) rfl pick_calls_0 l a2 g7 g5 A c _ (Kd.R_reads' RC.out).2.2 B7.out B5.out h1 h2 h3).mono ?_; rintro e w1 ⟨rfl, hb⟩; refine ⟨_, rfl, ?_⟩; have RC' := am (Kd.R_below RC.out hb); have B7' := am (blk_below B7.out hb); have B5' := am (blk_below B5.out hb); have B6' := am (blk_below B6.out hb); have HB' := am (below_step HB.out hb); clear RC B7 B5 B6 HB hb; have RC := RC'; have B7 := B7'; have B5 := B5'; have B6 := B6'; have HB := HB'; clear RC' B7' B5' B6' HB')
  | ((with_reducible refine gate_dst (N := 16) rfl ?_); refine goesLF_ (some 16) #[.pointer (some ⟨g7, 0, none⟩), .pointer (some ⟨g5, 0, none⟩)] rfl rfl Try.func74 (by kernel_rfl) rfl #[.func (.func 77) #[] #[], .pointer (some ⟨g7, 0, none⟩), .pointer (some ⟨g5, 0, none⟩)] rfl (by rfl) (by simp only [List.map_toArray, List.map_cons, List.map_nil, List.append_toArray, List.cons_append, List.nil_append]; rfl) ?_; refine (value_calls 77 Try.f77 S51.f1 Try.func77 (by kernel_rfl) rfl pick_calls_1 l a2 g7 g5 A c _ (Kd.R_reads' RC.out).2.2 B7.out B5.out h1 h2 h3).mono ?_; rintro e w1 ⟨rfl, hb⟩; refine ⟨_, rfl, ?_⟩; have RC' := am (Kd.R_below RC.out hb); have B7' := am (blk_below B7.out hb); have B5' := am (blk_below B5.out hb); have B6' := am (blk_below B6.out hb); have HB' := am (below_step HB.out hb); clear RC B7 B5 B6 HB hb; have RC := RC'; have B7 := B7'; have B5 := B5'; have B6 := B6'; have HB := HB'; clear RC' B7' B5' B6' HB')
  | ((with_reducible refine gate_dst (N := 18) rfl ?_); refine goesLF_ (some 18) #[.pointer (some ⟨g7, 0, none⟩), .pointer (some ⟨g5, 0, none⟩)] rfl rfl Try.func74 (by kernel_rfl) rfl #[.func (.func 78) #[] #[], .pointer (some ⟨g7, 0, none⟩), .pointer (some ⟨g5, 0, none⟩)] rfl (by rfl) (by simp only [List.map_toArray, List.map_cons, List.map_nil, List.append_toArray, List.cons_append, List.nil_append]; rfl) ?_; refine (value_calls 78 Try.f78 S51.f2 Try.func78 (by kernel_rfl) rfl pick_calls_2 l a2 g7 g5 A c _ (Kd.R_reads' RC.out).2.2 B7.out B5.out h1 h2 h3).mono ?_; rintro e w1 ⟨rfl, hb⟩; refine ⟨_, rfl, ?_⟩; have RC' := am (Kd.R_below RC.out hb); have B7' := am (blk_below B7.out hb); have B5' := am (blk_below B5.out hb); have B6' := am (blk_below B6.out hb); have HB' := am (below_step HB.out hb); clear RC B7 B5 B6 HB hb; have RC := RC'; have B7 := B7'; have B5 := B5'; have B6 := B6'; have HB := HB'; clear RC' B7' B5' B6' HB')
  | ((with_reducible refine gate_dst (N := 20) rfl ?_); refine goesLF_ (some 20) #[.pointer (some ⟨g7, 0, none⟩), .pointer (some ⟨g5, 0, none⟩)] rfl rfl Try.func74 (by kernel_rfl) rfl #[.func (.func 79) #[] #[], .pointer (some ⟨g7, 0, none⟩), .pointer (some ⟨g5, 0, none⟩)] rfl (by rfl) (by simp only [List.map_toArray, List.map_cons, List.map_nil, List.append_toArray, List.cons_append, List.nil_append]; rfl) ?_; refine (value_calls 79 Try.f79 S51.f3 Try.func79 (by kernel_rfl) rfl pick_calls_3 l a2 g7 g5 A c _ (Kd.R_reads' RC.out).2.2 B7.out B5.out h1 h2 h3).mono ?_; rintro e w1 ⟨rfl, hb⟩; refine ⟨_, rfl, ?_⟩; have RC' := am (Kd.R_below RC.out hb); have B7' := am (blk_below B7.out hb); have B5' := am (blk_below B5.out hb); have B6' := am (blk_below B6.out hb); have HB' := am (below_step HB.out hb); clear RC B7 B5 B6 HB hb; have RC := RC'; have B7 := B7'; have B5 := B5'; have B6 := B6'; have HB := HB'; clear RC' B7' B5' B6' HB'; have hz6 := blk_cell B6.out; have hf6 := blk_frozen B6.out))
  refine bodyPost_ret (results_cell_row rfl _ _ g6 51 #[.int .i64 (rd (sorted (l.map S51.f0)) a2), .int .i64 (rd (sorted (l.map S51.f1)) a2), .int .i64 (rd (sorted (l.map S51.f2)) a2), .int .i64 (rd (sorted (l.map S51.f3)) a2)] (0, 0) _ rfl (blk_put (cs := #[.int .i64 (rd (sorted (l.map S51.f0)) a2), .int .i64 (rd (sorted (l.map S51.f1)) a2), .int .i64 (rd (sorted (l.map S51.f2)) a2), .int .i64 0]) (cs' := #[.int .i64 (rd (sorted (l.map S51.f0)) a2), .int .i64 (rd (sorted (l.map S51.f1)) a2), .int .i64 (rd (sorted (l.map S51.f2)) a2), .int .i64 (rd (sorted (l.map S51.f3)) a2)]) (blk_put (cs := #[.int .i64 (rd (sorted (l.map S51.f0)) a2), .int .i64 (rd (sorted (l.map S51.f1)) a2), .int .i64 0, .int .i64 0]) (cs' := #[.int .i64 (rd (sorted (l.map S51.f0)) a2), .int .i64 (rd (sorted (l.map S51.f1)) a2), .int .i64 (rd (sorted (l.map S51.f2)) a2), .int .i64 0]) (blk_put (cs := #[.int .i64 (rd (sorted (l.map S51.f0)) a2), .int .i64 0, .int .i64 0, .int .i64 0]) (cs' := #[.int .i64 (rd (sorted (l.map S51.f0)) a2), .int .i64 (rd (sorted (l.map S51.f1)) a2), .int .i64 0, .int .i64 0]) (blk_put (cs := #[.int .i64 0, .int .i64 0, .int .i64 0, .int .i64 0]) (cs' := #[.int .i64 (rd (sorted (l.map S51.f0)) a2), .int .i64 0, .int .i64 0, .int .i64 0]) B6.out 0 (.int .i64 (rd (sorted (l.map S51.f0)) a2)) rfl) 1 (.int .i64 (rd (sorted (l.map S51.f1)) a2)) rfl) 2 (.int .i64 (rd (sorted (l.map S51.f2)) a2)) rfl) 3 (.int .i64 (rd (sorted (l.map S51.f3)) a2)) rfl) Try.underlying51 rfl (by kernel_rfl)) rfl ?_
  exact ⟨rfl, below_set (below_set (below_set (below_set HB.out (by omega)) (by omega)) (by omega)) (by omega)⟩
 ·rw [if_neg hc] at h
  cases h


end Go.Proofs.Ytocefehnemahhaa.G
