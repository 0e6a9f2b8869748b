-- laid by gprint.py (a program of this proof's writer) out of the translation; Lean checks it.
import Derived.Test.YtocefehnemahhaaG0
import Derived.Test.YtocefehnemahhaaG4
import Derived.Test.YtocefehnemahhaaG5
import Derived.Test.YtocefehnemahhaaG6
namespace Go.Proofs.Ytocefehnemahhaa.G
open Go.RowKit Go.Proofs.YtocefehnemahhaaW.PrintWords Go.Proofs.YtocefehnemahhaaW.PrintLast Go.Proofs.YtocefehnemahhaaW.PrintMore
attribute [local go_sem] max2_int min2_int max_two min_two max_three min_three max_four min_four   -- for this text's walks alone
set_option linter.unusedVariables false
set_option linter.unusedSimpArgs false

/-! ### filter_view_gauss: function 53 -/
mutual
def filter_view_gauss.l0 : Nat → Int → List Int → Int → Int → Int → Int → List (S51) → Int → Int → Int → Int → Int → Int → Int → Int → Int → Int → Int → Int → Int → Option (Int × Int × Int × Int)
 | 0, _, _, _, _, _, _, _, _, _, _, _, _, _, _, _, _, _, _, _, _ => none
 | k + 1, x1, x5, x13, x14, x241000, x241001, x241002, x241003, x241004, x241005, x241006, x241007, x241008, x241009, x241010, x246000, x246001, x246002, x246003, x246004 => if x14 < x13 then (filter_view_gauss.l1 k x1 x5 x14 x13 x14 (x5.length : Int) 0 x241000 x241001 x241002 x241003 x241004 x241005 x241006 x241007 x241008 x241009 x241010 x246000 x246001 x246002 x246003 x246004) else ((filter_total_mean.f k x246000 x246001 x246002 x246003 x246004).bind fun bt246 => (some (bt246.1, bt246.2.1, bt246.2.2.1, bt246.2.2.2.1)))
def filter_view_gauss.l1 : Nat → Int → List Int → Int → Int → Int → Int → Int → Int → Int → List (S51) → Int → Int → Int → Int → Int → Int → Int → Int → Int → Int → Int → Int → Int → Option (Int × Int × Int × Int)
 | 0, _, _, _, _, _, _, _, _, _, _, _, _, _, _, _, _, _, _, _, _, _, _, _ => none
 | k + 1, x1, x5, x7, x13, x14, x18, x19, x241000, x241001, x241002, x241003, x241004, x241005, x241006, x241007, x241008, x241009, x241010, x246000, x246001, x246002, x246003, x246004 => if x19 < x18 then ((filter_view_get.f x241000 x241001 x241002 x241003 x241004 x241005 x241006 x241007 x241008 x241009 x241010 (wrap64 (x19 - x1)) (wrap64 (x7 - x1))).bind fun bt255 => (if 0 ≤ x19 then (if x19 < (x5.length : Int) then (if 0 ≤ x7 then (if x7 < (x5.length : Int) then ((filter_total_add.f x246000 x246001 x246002 x246003 x246004 bt255.1 bt255.2.1 bt255.2.2.1 bt255.2.2.2 (wrap64 ((rd x5 x19) * (rd x5 x7)))).bind fun bt261 => (filter_view_gauss.l1 k x1 x5 x7 x13 x14 x18 (wrap64 (x19 + 1)) x241000 x241001 x241002 x241003 x241004 x241005 x241006 x241007 x241008 x241009 x241010 bt261.1 bt261.2.1 bt261.2.2.1 bt261.2.2.2.1 bt261.2.2.2.2)) else (none)) else (none)) else (none)) else (none))) else (filter_view_gauss.l0 k x1 x5 x13 (wrap64 (x14 + 1)) x241000 x241001 x241002 x241003 x241004 x241005 x241006 x241007 x241008 x241009 x241010 x246000 x246001 x246002 x246003 x246004)
end
def filter_view_gauss.f (k : Nat) (a0_0 : Int) (a0_1 : Int) (l0_2 : List (S51)) (a0_3 : Int) (a0_4 : Int) (a0_5 : Int) (a0_6 : Int) (a0_7 : Int) (a0_8 : Int) (a0_9 : Int) (a0_10 : Int) (a1 : Int) : Option (Int × Int × Int × Int) := (filter_binomial.f k (wrap64 (2 * a1))).bind fun t242 => (filter_view_gauss.l0 k a1 t242 (t242.length : Int) 0 a0_0 a0_1 l0_2 a0_3 a0_4 a0_5 a0_6 a0_7 a0_8 a0_9 a0_10 0 0 0 0 0)
theorem filter_view_gauss.mono_l : ∀ k, (∀ y0 y1 y2 y3 y4 y5 y6 y7 y8 y9 y10 y11 y12 y13 y14 y15 y16 y17 y18 y19, LeO (filter_view_gauss.l0 k y0 y1 y2 y3 y4 y5 y6 y7 y8 y9 y10 y11 y12 y13 y14 y15 y16 y17 y18 y19) (filter_view_gauss.l0 (k + 1) y0 y1 y2 y3 y4 y5 y6 y7 y8 y9 y10 y11 y12 y13 y14 y15 y16 y17 y18 y19)) ∧ (∀ y0 y1 y2 y3 y4 y5 y6 y7 y8 y9 y10 y11 y12 y13 y14 y15 y16 y17 y18 y19 y20 y21 y22, LeO (filter_view_gauss.l1 k y0 y1 y2 y3 y4 y5 y6 y7 y8 y9 y10 y11 y12 y13 y14 y15 y16 y17 y18 y19 y20 y21 y22) (filter_view_gauss.l1 (k + 1) y0 y1 y2 y3 y4 y5 y6 y7 y8 y9 y10 y11 y12 y13 y14 y15 y16 y17 y18 y19 y20 y21 y22))
 | 0 => ⟨fun _ _ _ _ _ _ _ _ _ _ _ _ _ _ _ _ _ _ _ _ r h => by simp [filter_view_gauss.l0] at h, fun _ _ _ _ _ _ _ _ _ _ _ _ _ _ _ _ _ _ _ _ _ _ _ r h => by simp [filter_view_gauss.l1] at h⟩
 | k + 1 => by
  obtain ⟨ih0, ih1⟩ := filter_view_gauss.mono_l k
  refine ⟨?_, ?_⟩
  ·intro y0 y1 y2 y3 y4 y5 y6 y7 y8 y9 y10 y11 y12 y13 y14 y15 y16 y17 y18 y19
   unfold filter_view_gauss.l0
   repeat' first
   | (with_reducible exact ih0 _ _ _ _ _ _ _ _ _ _ _ _ _ _ _ _ _ _ _ _)
   | (with_reducible exact ih1 _ _ _ _ _ _ _ _ _ _ _ _ _ _ _ _ _ _ _ _ _ _ _)
   | (with_reducible exact filter_binomial.mono _ _)
   | (with_reducible exact filter_total_mean.mono _ _ _ _ _ _)
   | (with_reducible exact LeO.refl _)
   | (with_reducible exact LeO.none _)
   | (with_reducible refine LeO.ite ?_ ?_)
   | (with_reducible refine LeO.bind ?_ (fun _ => ?_))
   | exact ih0 _ _ _ _ _ _ _ _ _ _ _ _ _ _ _ _ _ _ _ _
   | exact ih1 _ _ _ _ _ _ _ _ _ _ _ _ _ _ _ _ _ _ _ _ _ _ _
   | exact filter_binomial.mono _ _
   | exact filter_total_mean.mono _ _ _ _ _ _
   | exact LeO.none _
   | refine LeO.ite ?_ ?_
   | refine LeO.bind ?_ (fun _ => ?_)
  ·intro y0 y1 y2 y3 y4 y5 y6 y7 y8 y9 y10 y11 y12 y13 y14 y15 y16 y17 y18 y19 y20 y21 y22
   unfold filter_view_gauss.l1
   repeat' first
   | (with_reducible exact ih0 _ _ _ _ _ _ _ _ _ _ _ _ _ _ _ _ _ _ _ _)
   | (with_reducible exact ih1 _ _ _ _ _ _ _ _ _ _ _ _ _ _ _ _ _ _ _ _ _ _ _)
   | (with_reducible exact filter_binomial.mono _ _)
   | (with_reducible exact filter_total_mean.mono _ _ _ _ _ _)
   | (with_reducible exact LeO.refl _)
   | (with_reducible exact LeO.none _)
   | (with_reducible refine LeO.ite ?_ ?_)
   | (with_reducible refine LeO.bind ?_ (fun _ => ?_))
   | exact ih0 _ _ _ _ _ _ _ _ _ _ _ _ _ _ _ _ _ _ _ _
   | exact ih1 _ _ _ _ _ _ _ _ _ _ _ _ _ _ _ _ _ _ _ _ _ _ _
   | exact filter_binomial.mono _ _
   | exact filter_total_mean.mono _ _ _ _ _ _
   | exact LeO.none _
   | refine LeO.ite ?_ ?_
   | refine LeO.bind ?_ (fun _ => ?_)
theorem filter_view_gauss.mono : ∀ a0 a1 a2 a3 a4 a5 a6 a7 a8 a9 a10 a11 k, LeO (filter_view_gauss.f k a0 a1 a2 a3 a4 a5 a6 a7 a8 a9 a10 a11) (filter_view_gauss.f (k + 1) a0 a1 a2 a3 a4 a5 a6 a7 a8 a9 a10 a11) := by
 intro a0 a1 a2 a3 a4 a5 a6 a7 a8 a9 a10 a11 k
 obtain ⟨ih0, ih1⟩ := filter_view_gauss.mono_l k
 unfold filter_view_gauss.f
 repeat' first
   | (with_reducible exact ih0 _ _ _ _ _ _ _ _ _ _ _ _ _ _ _ _ _ _ _ _)
   | (with_reducible exact ih1 _ _ _ _ _ _ _ _ _ _ _ _ _ _ _ _ _ _ _ _ _ _ _)
   | (with_reducible exact filter_binomial.mono _ _)
   | (with_reducible exact filter_total_mean.mono _ _ _ _ _ _)
   | (with_reducible exact LeO.refl _)
   | (with_reducible exact LeO.none _)
   | (with_reducible refine LeO.ite ?_ ?_)
   | (with_reducible refine LeO.bind ?_ (fun _ => ?_))
   | exact ih0 _ _ _ _ _ _ _ _ _ _ _ _ _ _ _ _ _ _ _ _
   | exact ih1 _ _ _ _ _ _ _ _ _ _ _ _ _ _ _ _ _ _ _ _ _ _ _
   | exact filter_binomial.mono _ _
   | exact filter_total_mean.mono _ _ _ _ _ _
   | exact LeO.none _
   | refine LeO.ite ?_ ?_
   | refine LeO.bind ?_ (fun _ => ?_)
def filter_view_gauss.T9 : Bool × List (List Nat × List Nat) := (true, [([], []), ([], []), ([], []), ([1, 2], [1, 2]), ([], []), ([], []), ([4, 5], [4, 5]), ([0, 3, 6], [0, 3, 6]), ([], []), ([], []), ([8, 9], [8, 9]), ([10], [10]), ([], []), ([], []), ([12, 13], [12, 13]), ([14], [14]), ([11, 15], [11, 15]), ([7, 16, 7], [7, 16])])
def filter_view_gauss.B9 : List Nat := [0, 0, 0, 6, 0, 0, 48, 127, 0, 0, 768, 1792, 0, 0, 12288, 28672, 65280, 131071]
theorem filter_view_gauss.tab9 : rtab .any (opsOf Try.f53 9) = filter_view_gauss.T9 := by kernel_rfl
theorem filter_view_gauss.bits9 : waitsOk filter_view_gauss.T9.2 filter_view_gauss.B9 = true := by kernel_rfl
set_option maxHeartbeats 8000000 in
set_option maxRecDepth 100000 in
theorem filter_view_gauss.calls (k : Nat) (a0_0 : Int) (a0_1 : Int) (A0_2 : Option Addr) (c0_2 : Nat) (l0_2 : List (S51)) (a0_3 : Int) (a0_4 : Int) (a0_5 : Int) (a0_6 : Int) (a0_7 : Int) (a0_8 : Int) (a0_9 : Int) (a0_10 : Int) (a1 : Int) (r1 : Int) (r2 : Int) (r3 : Int) (r4 : Int) (w : World) (hr0_2 : Kd.C k51 w A0_2 l0_2.length l0_2) (hc0_2 : l0_2.length ≤ c0_2) (h : filter_view_gauss.f k a0_0 a0_1 l0_2 a0_3 a0_4 a0_5 a0_6 a0_7 a0_8 a0_9 a0_10 a1 = some (r1, r2, r3, r4)) :
  Calls Try.prog 53 #[.agg #[.int .i64 a0_0, .int .i64 a0_1, .slice A0_2 l0_2.length c0_2, .int .i64 a0_3, .int .i64 a0_4, .int .i64 a0_5, .int .i64 a0_6, .int .i64 a0_7, .int .i64 a0_8, .int .i64 a0_9, .int .i64 a0_10], .int .i64 a1] w fun e w' => e = .returned (.agg #[.int .i64 r1, .int .i64 r2, .int .i64 r3, .int .i64 r4]) ∧ Below w.heap.size w w' := by
 have hu71 := Try.underlying71
 have hu51 := Try.underlying51
 have hu86 := Try.underlying86
 have HR0_2 := Aside0.mk hr0_2
 have HC0_2 := Aside0.mk hc0_2
 clear hr0_2 hc0_2
 have HB := am (Below.refl w.heap.size w)
 have H : ((filter_binomial.f k (wrap64 (2 * a1))).bind fun t242 => (filter_view_gauss.l0 k a1 t242 (t242.length : Int) 0 a0_0 a0_1 l0_2 a0_3 a0_4 a0_5 a0_6 a0_7 a0_8 a0_9 a0_10 0 0 0 0 0)) = some (r1, r2, r3, r4) := h
 clear h
 replace H := Option.bind_eq_some_iff.mp H
 obtain ⟨t242, A30, H⟩ := H
 replace H : (filter_view_gauss.l0 k a1 t242 (t242.length : Int) 0 a0_0 a0_1 l0_2 a0_3 a0_4 a0_5 a0_6 a0_7 a0_8 a0_9 a0_10 0 0 0 0 0) = some (r1, r2, r3, r4) := H
 have A3 := Aside0.mk A30
 clear A30
 have H' := Aside0.mk H
 clear H
 go_enter Try.func53, Try.ntmps53
 go_wp2_with (first | ((with_reducible refine gate_dst (N := 2) rfl ?_); refine boxE (N := 2) #[.int .i64 a0_0, .int .i64 a0_1, .slice A0_2 l0_2.length c0_2, .int .i64 a0_3, .int .i64 a0_4, .int .i64 a0_5, .int .i64 a0_6, .int .i64 a0_7, .int .i64 a0_8, .int .i64 a0_9, .int .i64 a0_10] 71 ?_; intro gb240 hg w4 hbox hb; have BK240 := am (hbox); have GW240 := gW hg HB; have GE240 := gW hg HB; replace HB := hYb HB hb; clear hb hbox hg) | ((with_reducible refine gate_dst (N := 4) rfl ?_); refine boxE (N := 4) #[.int .i64 0, .int .i64 0, .int .i64 0, .int .i64 0] 51 ?_; intro gb241 hg w5 hbox hb; have BK241 := am (hbox); have GW241 := gW hg HB; have GE241 := gW hg HB; have NB240_241 := nL hg BK240; have NB241_240 := nG hg BK240; replace BK240 := bY BK240 hb; replace HB := hYb HB hb; clear hb hbox hg) | ((with_reducible refine gate_callee (f := 67) rfl ?_); refine goesP (some 11) Try.func67 #[.int .i64 (wrap64 (2 * a1))] ?_; (with_reducible refine (filter_binomial.calls k (wrap64 (2 * a1)) t242 _ A3.out).mono ?_); rintro e w6 ⟨v243, rfl, ho0, hb⟩; refine ⟨_, rfl, ?_⟩; have HO244 := am (Kd.R_lower ho0 (below_size (beX HB.out))); replace BK240 := bY BK240 hb; replace BK241 := bY BK241 hb; replace HB := hYb HB hb; (try clear hb); (try clear hb2); (try clear hk); (try clear hi); (try clear ho0)) | ((with_reducible refine gate_dst (N := 6) rfl ?_); refine boxE (N := 6) #[.int .i64 0, .int .i64 0, .int .i64 0, .int .i64 0, .int .i64 0] 86 ?_; intro gb245 hg w7 hbox hb; have NB240_245 := nL hg BK240; have NB245_240 := nG hg BK240; have NB241_245 := nL hg BK241; have NB245_241 := nG hg BK241; have HI245 := am ((⟨hbox, (by rw [hg]; exact (below_size (beX HB.out)) : w.heap.size ≤ gb245)⟩ : IsS86 w w7 gb245 0 0 0 0 0)); replace HO244 := am (Kd.R_below (rX HO244.out) hb); replace BK240 := bY BK240 hb; replace BK241 := bY BK241 hb; replace HB := hYb HB hb; clear hb hbox hg; obtain ⟨Ao8, co8, eo8⟩ := Kd.R_slice HO244.out; subst eo8))
 go_loopg [14] k (fun kq v14 w' => ∃ (x14_1 : Int) (x246000_1 : Int) (x246001_1 : Int) (x246002_1 : Int) (x246003_1 : Int) (x246004_1 : Int), v14 = .int .i64 x14_1 ∧ Aside0 (filter_view_gauss.l0 kq a1 t242 (t242.length : Int) x14_1 a0_0 a0_1 l0_2 a0_3 a0_4 a0_5 a0_6 a0_7 a0_8 a0_9 a0_10 x246000_1 x246001_1 x246002_1 x246003_1 x246004_1 = some (r1, r2, r3, r4)) ∧ Aside0 (kq ≤ k) ∧ Aside0 (Kd.R (Kd.int .i64) 3 w' w.heap.size (fun _ => True) (.slice Ao8 t242.length co8) t242) ∧ Aside0 (w'.heap[gb240]? = some (.cells #[.int .i64 a0_0, .int .i64 a0_1, (.slice A0_2 l0_2.length c0_2), .int .i64 a0_3, .int .i64 a0_4, .int .i64 a0_5, .int .i64 a0_6, .int .i64 a0_7, .int .i64 a0_8, .int .i64 a0_9, .int .i64 a0_10] 71 (0, 0))) ∧ Aside0 (w'.heap[gb241]? = some (.cells #[.int .i64 0, .int .i64 0, .int .i64 0, .int .i64 0] 51 (0, 0))) ∧ Aside0 (IsS86 w w' gb245 x246000_1 x246001_1 x246002_1 x246003_1 x246004_1) ∧ Aside0 (Below w.heap.size w w'))
 case atStart => exact ⟨(0), (0), (0), (0), (0), (0), (by first | rfl | (simp; done) | (simp [*]; done)), H', ⟨Nat.le_refl _⟩, ⟨rX HO244.out⟩, ⟨bX BK240.out⟩, ⟨bX BK241.out⟩, ⟨by repeat (first | (with_reducible first | exact HI245.out | apply IsS86.alloc | apply IsS86.drewN | apply IsS86.drew | apply IsS86.set_0 | apply IsS86.set_1 | apply IsS86.set_2 | apply IsS86.set_3 | apply IsS86.set_4 | refine IsS86.far ?_ NB245_240.out _ | refine IsS86.far ?_ NB245_241.out _) | exact HI245.out)⟩, ⟨by repeat (first | (with_reducible first | exact HB.out | apply below_alloc | apply pw_below_drewN | apply below_drew1 | refine below_set ?_ (IsS86.ge HI245.out) | refine below_set ?_ GE240.out | refine below_set ?_ GE241.out) | exact HB.out)⟩⟩
 case round =>
  clear H'
  try clear p2
  try clear c5
  try clear c6
  try clear p6
  obtain ⟨x14_1, x246000_1, x246001_1, x246002_1, x246003_1, x246004_1, rfl, HA, HK1, HO_5, BK240, BK241, HI245, HB⟩ := hrel
  cases gk with
  | zero => exact absurd HA.out (by simp [filter_view_gauss.l0])
  | succ k1 =>
   have H := HA.out
   clear HA
   simp only [filter_view_gauss.l0] at H
   by_cases c9 : x14_1 < (t242.length : Int)
   ·rw [if_pos c9] at H
    have c9b0 : decide (x14_1 < (t242.length : Int)) = true := decide_eq_true c9
    clear c9
    have H' := Aside0.mk H
    clear H
    go_wp2
    go_loopg [19] k1 (fun kq v19 w' => ∃ (x19_2 : Int) (x246000_2 : Int) (x246001_2 : Int) (x246002_2 : Int) (x246003_2 : Int) (x246004_2 : Int), v19 = .int .i64 x19_2 ∧ Aside0 (filter_view_gauss.l1 kq a1 t242 x14_1 (t242.length : Int) x14_1 (t242.length : Int) x19_2 a0_0 a0_1 l0_2 a0_3 a0_4 a0_5 a0_6 a0_7 a0_8 a0_9 a0_10 x246000_2 x246001_2 x246002_2 x246003_2 x246004_2 = some (r1, r2, r3, r4)) ∧ Aside0 (kq ≤ k1) ∧ Aside0 (Kd.R (Kd.int .i64) 3 w' w.heap.size (fun _ => True) (.slice Ao8 t242.length co8) t242) ∧ Aside0 (w'.heap[gb240]? = some (.cells #[.int .i64 a0_0, .int .i64 a0_1, (.slice A0_2 l0_2.length c0_2), .int .i64 a0_3, .int .i64 a0_4, .int .i64 a0_5, .int .i64 a0_6, .int .i64 a0_7, .int .i64 a0_8, .int .i64 a0_9, .int .i64 a0_10] 71 (0, 0))) ∧ Aside0 (w'.heap[gb241]? = some (.cells #[.int .i64 0, .int .i64 0, .int .i64 0, .int .i64 0] 51 (0, 0))) ∧ Aside0 (IsS86 w w' gb245 x246000_2 x246001_2 x246002_2 x246003_2 x246004_2) ∧ Aside0 (Below w.heap.size w w'))
    case atStart => exact ⟨(0), (x246000_1), (x246001_1), (x246002_1), (x246003_1), (x246004_1), (by first | rfl | (simp; done) | (simp [*]; done)), H', ⟨Nat.le_refl _⟩, ⟨rX HO_5.out⟩, ⟨bX BK240.out⟩, ⟨bX BK241.out⟩, ⟨by repeat (first | (with_reducible first | exact HI245.out | apply IsS86.alloc | apply IsS86.drewN | apply IsS86.drew | apply IsS86.set_0 | apply IsS86.set_1 | apply IsS86.set_2 | apply IsS86.set_3 | apply IsS86.set_4 | refine IsS86.far ?_ NB245_240.out _ | refine IsS86.far ?_ NB245_241.out _) | exact HI245.out)⟩, ⟨by repeat (first | (with_reducible first | exact HB.out | apply below_alloc | apply pw_below_drewN | apply below_drew1 | refine below_set ?_ (IsS86.ge HI245.out) | refine below_set ?_ GE240.out | refine below_set ?_ GE241.out) | exact HB.out)⟩⟩
    case round =>
     clear H'
     try clear p2
     try clear c5
     try clear c6
     try clear p6
     try clear c9
     try clear c9b0
     try clear p2
     try clear p6
     obtain ⟨x19_2, x246000_2, x246001_2, x246002_2, x246003_2, x246004_2, rfl, HA, HK2, HO_5, BK240, BK241, HI245, HB⟩ := hrel
     cases gk with
     | zero => exact absurd HA.out (by simp [filter_view_gauss.l1])
     | succ k2 =>
      have H := HA.out
      clear HA
      simp only [filter_view_gauss.l1] at H
      by_cases c10 : x19_2 < (t242.length : Int)
      ·rw [if_pos c10] at H
       have c10b0 : decide (x19_2 < (t242.length : Int)) = true := decide_eq_true c10
       clear c10
       replace H := Option.bind_eq_some_iff.mp H
       obtain ⟨⟨t255, t256, t257, t258⟩, A110, H⟩ := H
       replace H : (if 0 ≤ x19_2 then (if x19_2 < (t242.length : Int) then (if 0 ≤ x14_1 then (if x14_1 < (t242.length : Int) then ((filter_total_add.f x246000_2 x246001_2 x246002_2 x246003_2 x246004_2 t255 t256 t257 t258 (wrap64 ((rd t242 x19_2) * (rd t242 x14_1)))).bind fun bt261 => (filter_view_gauss.l1 k2 a1 t242 x14_1 (t242.length : Int) x14_1 (t242.length : Int) (wrap64 (x19_2 + 1)) a0_0 a0_1 l0_2 a0_3 a0_4 a0_5 a0_6 a0_7 a0_8 a0_9 a0_10 bt261.1 bt261.2.1 bt261.2.2.1 bt261.2.2.2.1 bt261.2.2.2.2)) else (none)) else (none)) else (none)) else (none)) = some (r1, r2, r3, r4) := H
       have A11 := Aside0.mk A110
       clear A110
       by_cases c12 : 0 ≤ x19_2
       ·rw [if_pos c12] at H
        have c12b0 : decide (0 ≤ x19_2) = true := decide_eq_true c12
        clear c12
        by_cases c13 : x19_2 < (t242.length : Int)
        ·rw [if_pos c13] at H
         have c13b0 : decide (x19_2 < (t242.length : Int)) = true := decide_eq_true c13
         clear c13
         by_cases c14 : 0 ≤ x14_1
         ·rw [if_pos c14] at H
          have c14b0 : decide (0 ≤ x14_1) = true := decide_eq_true c14
          clear c14
          by_cases c15 : x14_1 < (t242.length : Int)
          ·rw [if_pos c15] at H
           have c15b0 : decide (x14_1 < (t242.length : Int)) = true := decide_eq_true c15
           clear c15
           replace H := Option.bind_eq_some_iff.mp H
           obtain ⟨⟨t261, t262, t263, t264, t265⟩, A160, H⟩ := H
           replace H : (filter_view_gauss.l1 k2 a1 t242 x14_1 (t242.length : Int) x14_1 (t242.length : Int) (wrap64 (x19_2 + 1)) a0_0 a0_1 l0_2 a0_3 a0_4 a0_5 a0_6 a0_7 a0_8 a0_9 a0_10 t261 t262 t263 t264 t265) = some (r1, r2, r3, r4) := H
           have A16 := Aside0.mk A160
           clear A160
           have H' := Aside0.mk H
           clear H
           try go_wp2
           replace HO_5 := am (Kd.R_drew HO_5.out)
           replace BK240 := am (blk_drew BK240.out)
           replace BK241 := am (blk_drew BK241.out)
           replace HI245 := am (IsS86.drew HI245.out)
           replace HB := am (below_drew1 HB.out)
           have p259 : 0 ≤ (x19_2 : Int) := of_decide_eq_true (by first | (with_reducible assumption) | assumption)
           have q259 : x19_2 < (t242.length : Int) := of_decide_eq_true (by first | (with_reducible assumption) | assumption)
           obtain ⟨ad259, e259, hx259_0⟩ := Kd.at_int (Kd.R_reads' HO_5.out).2.2 x19_2 p259 q259
           cases e259
           replace p259 := eq_true p259
           replace q259 := eq_true q259
           have p260 : 0 ≤ (x14_1 : Int) := of_decide_eq_true (by first | (with_reducible assumption) | assumption)
           have q260 : x14_1 < (t242.length : Int) := of_decide_eq_true (by first | (with_reducible assumption) | assumption)
           obtain ⟨ad260, e260, hx260_0⟩ := Kd.at_int (Kd.R_reads' HO_5.out).2.2 x14_1 p260 q260
           obtain rfl : ad259 = ad260 := (by injection e260)
           replace p260 := eq_true p260
           replace q260 := eq_true q260
           refine start_ (n := 18) (S := fun w' => w'.cell? ⟨gb240, 0, none⟩ = some (.int .i64 a0_0) ∧ w'.cell? ⟨gb240, 1, none⟩ = some (.int .i64 a0_1) ∧ w'.cell? ⟨gb240, 2, none⟩ = some (.slice A0_2 l0_2.length c0_2) ∧ w'.cell? ⟨gb240, 3, none⟩ = some (.int .i64 a0_3) ∧ w'.cell? ⟨gb240, 4, none⟩ = some (.int .i64 a0_4) ∧ w'.cell? ⟨gb240, 5, none⟩ = some (.int .i64 a0_5) ∧ w'.cell? ⟨gb240, 6, none⟩ = some (.int .i64 a0_6) ∧ w'.cell? ⟨gb240, 7, none⟩ = some (.int .i64 a0_7) ∧ w'.cell? ⟨gb240, 8, none⟩ = some (.int .i64 a0_8) ∧ w'.cell? ⟨gb240, 9, none⟩ = some (.int .i64 a0_9) ∧ w'.cell? ⟨gb240, 10, none⟩ = some (.int .i64 a0_10) ∧ w'.cell? (ad259.add (x19_2).toNat) = some (.int .i64 (rd t242 x19_2)) ∧ w'.cell? (ad259.add (x14_1).toNat) = some (.int .i64 (rd t242 x14_1))) (ds := []) #[false, false, false, false, false, false, false, false, false, false, false, false, false, false, false, false, false, false] (by kernel_rfl) rfl rfl ⟨(blk_cell BK240.out 0).trans rfl, (blk_cell BK240.out 1).trans rfl, (blk_cell BK240.out 2).trans rfl, (blk_cell BK240.out 3).trans rfl, (blk_cell BK240.out 4).trans rfl, (blk_cell BK240.out 5).trans rfl, (blk_cell BK240.out 6).trans rfl, (blk_cell BK240.out 7).trans rfl, (blk_cell BK240.out 8).trans rfl, (blk_cell BK240.out 9).trans rfl, (blk_cell BK240.out 10).trans rfl, hx259_0, hx260_0⟩ (fun hHeld => ?_); refine with_tabW filter_view_gauss.tab9 filter_view_gauss.bits9 (fun HT_ HW_ => ?_)
           generalize wr.drew = w17 at HO_5 BK240 BK241 HI245 HB hx259_0 hx260_0 hHeld ⊢
           refine pure_ (i := 1) (N := some 23) (v := ?_) (a' := ?_) #[false, true, false, false, false, false, false, false, false, false, false, false, false, false, false, false, false, false] rfl rfl (any_of HT_.out (by kernel_rfl)) (fun _ _ _ h => h) (Or.inl ⟨by rfl, ?_⟩) ?_ ?_
           rotate_left
           ·intro w'
            go_simp
            with_reducible rfl
           rotate_left
           ·simp only [Act.put, List.setIfInBounds_toArray, List.set_cons_zero, List.set_cons_succ, i64_w, i32_w]
            rfl
           refine pure_ (i := 2) (N := some 24) (v := ?_) (a' := ?_) #[false, true, true, false, false, false, false, false, false, false, false, false, false, false, false, false, false, false] rfl rfl (any_of HT_.out (by kernel_rfl)) (fun _ _ _ h => h) (Or.inl ⟨by rfl, ?_⟩) ?_ ?_
           rotate_left
           ·intro w'
            go_simp
            with_reducible rfl
           rotate_left
           ·simp only [Act.put, List.setIfInBounds_toArray, List.set_cons_zero, List.set_cons_succ, i64_w, i32_w]
            rfl
           refine pure_ (i := 3) (N := some 25) (v := ?_) (a' := ?_) #[false, true, true, true, false, false, false, false, false, false, false, false, false, false, false, false, false, false] rfl rfl (any_of HT_.out (by kernel_rfl)) (fun _ _ _ h => h) (Or.inl ⟨by rfl, ?_⟩) ?_ ?_
           rotate_left
           ·intro w'
            go_simp
            with_reducible rfl
           rotate_left
           ·simp only [Act.put, List.setIfInBounds_toArray, List.set_cons_zero, List.set_cons_succ, i64_w, i32_w]
            rfl
           refine pure_ (i := 4) (N := some 26) (v := ?_) (a' := ?_) #[false, true, true, true, true, false, false, false, false, false, false, false, false, false, false, false, false, false] rfl rfl (any_of HT_.out (by kernel_rfl)) (fun _ _ _ h => h) (Or.inl ⟨by rfl, ?_⟩) ?_ ?_
           rotate_left
           ·intro w'
            go_simp
            with_reducible rfl
           rotate_left
           ·simp only [Act.put, List.setIfInBounds_toArray, List.set_cons_zero, List.set_cons_succ, i64_w, i32_w]
            rfl
           refine pure_ (i := 5) (N := some 27) (v := ?_) (a' := ?_) #[false, true, true, true, true, true, false, false, false, false, false, false, false, false, false, false, false, false] rfl rfl (any_of HT_.out (by kernel_rfl)) (fun _ _ _ h => h) (Or.inl ⟨by rfl, ?_⟩) ?_ ?_
           rotate_left
           ·intro w'
            go_simp
            with_reducible rfl
           rotate_left
           ·simp only [Act.put, List.setIfInBounds_toArray, List.set_cons_zero, List.set_cons_succ, i64_w, i32_w]
            rfl
           refine pure_ (i := 6) (N := some 28) (v := ?_) (a' := ?_) #[false, true, true, true, true, true, true, false, false, false, false, false, false, false, false, false, false, false] rfl rfl (any_of HT_.out (by kernel_rfl)) (fun _ _ _ h => h) (Or.inl ⟨by rfl, ?_⟩) ?_ ?_
           rotate_left
           ·intro w'
            go_simp
            with_reducible rfl
           rotate_left
           ·simp only [Act.put, List.setIfInBounds_toArray, List.set_cons_zero, List.set_cons_succ, i64_w, i32_w]
            rfl
           refine pure_ (i := 8) (N := some 30) (v := ?_) (a' := ?_) #[false, true, true, true, true, true, true, false, true, false, false, false, false, false, false, false, false, false] rfl rfl (any_of HT_.out (by kernel_rfl)) (fun _ _ _ h => h) (Or.inl ⟨by rfl, ?_⟩) ?_ ?_
           rotate_left
           ·intro w'
            go_simp
            with_reducible rfl
           rotate_left
           ·simp only [Act.put, List.setIfInBounds_toArray, List.set_cons_zero, List.set_cons_succ, i64_w, i32_w]
            rfl
           refine pure_ (i := 9) (N := some 31) (v := ?_) (a' := ?_) #[false, true, true, true, true, true, true, false, true, true, false, false, false, false, false, false, false, false] rfl rfl (any_of HT_.out (by kernel_rfl)) (fun _ _ _ h => h) (Or.inl ⟨by rfl, ?_⟩) ?_ ?_
           rotate_left
           ·intro w'
            go_simp
            with_reducible rfl
           rotate_left
           ·simp only [Act.put, List.setIfInBounds_toArray, List.set_cons_zero, List.set_cons_succ, i64_w, i32_w]
            rfl
           refine pure_ (i := 10) (N := some 32) (v := ?_) (a' := ?_) #[false, true, true, true, true, true, true, false, true, true, true, false, false, false, false, false, false, false] rfl rfl (any_of HT_.out (by kernel_rfl)) (fun _ _ _ h => h) (Or.inl ⟨by rfl, ?_⟩) ?_ ?_
           rotate_left
           ·intro w'
            go_simp
            with_reducible rfl
           rotate_left
           ·simp only [Act.put, List.setIfInBounds_toArray, List.set_cons_zero, List.set_cons_succ, i64_w, i32_w]
            rfl
           refine pure_ (i := 12) (N := some 34) (v := ?_) (a' := ?_) #[false, true, true, true, true, true, true, false, true, true, true, false, true, false, false, false, false, false] rfl rfl (any_of HT_.out (by kernel_rfl)) (fun _ _ _ h => h) (Or.inl ⟨by rfl, ?_⟩) ?_ ?_
           rotate_left
           ·intro w'
            go_simp
            with_reducible rfl
           rotate_left
           ·simp only [Act.put, List.setIfInBounds_toArray, List.set_cons_zero, List.set_cons_succ, i64_w, i32_w]
            rfl
           refine pure_ (i := 13) (N := some 35) (v := ?_) (a' := ?_) #[false, true, true, true, true, true, true, false, true, true, true, false, true, true, false, false, false, false] rfl rfl (any_of HT_.out (by kernel_rfl)) (fun _ _ _ h => h) (Or.inl ⟨by rfl, ?_⟩) ?_ ?_
           rotate_left
           ·intro w'
            go_simp
            with_reducible rfl
           rotate_left
           ·simp only [Act.put, List.setIfInBounds_toArray, List.set_cons_zero, List.set_cons_succ, i64_w, i32_w]
            rfl
           refine pure_ (i := 14) (N := some 36) (v := ?_) (a' := ?_) #[false, true, true, true, true, true, true, false, true, true, true, false, true, true, true, false, false, false] rfl rfl (any_of HT_.out (by kernel_rfl)) (fun _ _ _ h => h) (Or.inl ⟨by rfl, ?_⟩) ?_ ?_
           rotate_left
           ·intro w'
            go_simp
            with_reducible rfl
           rotate_left
           ·simp only [Act.put, List.setIfInBounds_toArray, List.set_cons_zero, List.set_cons_succ, i64_w, i32_w]
            rfl
           refine take_ (i := 0) (N := some 22) (v := ?_) (a' := ?_) #[true, true, true, true, true, true, true, false, true, true, true, false, true, true, true, false, false, false] rfl rfl (take_ofW HT_.out HW_.out (by kernel_rfl)) (fun _ _ _ h => h) (Or.inl ⟨by rfl, ?_⟩) hHeld ?_ ?_
           rotate_left
           ·rintro w' ⟨s0, s1, s2, s3, s4, s5, s6, s7, s8, s9, s10, s11, s12⟩
            go_simp
            with_reducible rfl
           rotate_left
           ·simp only [Act.put, List.setIfInBounds_toArray, List.set_cons_zero, List.set_cons_succ, i64_w, i32_w]
            rfl
           refine take_ (i := 11) (N := some 33) (v := ?_) (a' := ?_) #[true, true, true, true, true, true, true, false, true, true, true, true, true, true, true, false, false, false] rfl rfl (take_ofW HT_.out HW_.out (by kernel_rfl)) (fun _ _ _ h => h) (Or.inl ⟨by rfl, ?_⟩) hHeld ?_ ?_
           rotate_left
           ·rintro w' ⟨s0, s1, s2, s3, s4, s5, s6, s7, s8, s9, s10, s11, s12⟩
            go_simp
            with_reducible rfl
           rotate_left
           ·simp only [Act.put, List.setIfInBounds_toArray, List.set_cons_zero, List.set_cons_succ, i64_w, i32_w]
            rfl
           refine take_ (i := 15) (N := some 37) (v := ?_) (a' := ?_) #[true, true, true, true, true, true, true, false, true, true, true, true, true, true, true, true, false, false] rfl rfl (take_ofW HT_.out HW_.out (by kernel_rfl)) (fun _ _ _ h => h) (Or.inl ⟨by rfl, ?_⟩) hHeld ?_ ?_
           rotate_left
           ·rintro w' ⟨s0, s1, s2, s3, s4, s5, s6, s7, s8, s9, s10, s11, s12⟩
            go_simp
            with_reducible rfl
           rotate_left
           ·simp only [Act.put, List.setIfInBounds_toArray, List.set_cons_zero, List.set_cons_succ, i64_w, i32_w]
            rfl
           refine pure_ (i := 16) (N := some 38) (v := ?_) (a' := ?_) #[true, true, true, true, true, true, true, false, true, true, true, true, true, true, true, true, true, false] rfl rfl (any_of HT_.out (by kernel_rfl)) (fun _ _ _ h => h) (Or.inl ⟨by rfl, ?_⟩) ?_ ?_
           rotate_left
           ·intro w'
            go_simp
            with_reducible rfl
           rotate_left
           ·simp only [Act.put, List.setIfInBounds_toArray, List.set_cons_zero, List.set_cons_succ, i64_w, i32_w]
            rfl
           refine one_ (i := 7) (N := some 29) #[true, true, true, true, true, true, true, true, true, true, true, true, true, true, true, true, true, false] rfl rfl (one_of HT_.out (by kernel_rfl)) (by decide) (fun K hK => ?_)
           refine goes_ Try.func66 (by kernel_rfl) rfl #[.agg #[.int .i64 a0_0, .int .i64 a0_1, .slice A0_2 l0_2.length c0_2, .int .i64 a0_3, .int .i64 a0_4, .int .i64 a0_5, .int .i64 a0_6, .int .i64 a0_7, .int .i64 a0_8, .int .i64 a0_9, .int .i64 a0_10], .int .i64 (wrap64 (x19_2 - a1)), .int .i64 (wrap64 (x14_1 - a1))] (by rfl) rfl rfl (by (try simp only [List.map_toArray, List.map_cons, List.map_nil]); first | done | rfl | (simp only [List.length_drop, List.length_take]; rfl)) ?_
           with_reducible refine (filter_view_get.calls a0_0 a0_1 _ _ l0_2 a0_3 a0_4 a0_5 a0_6 a0_7 a0_8 a0_9 a0_10 (wrap64 (x19_2 - a1)) (wrap64 (x14_1 - a1)) t255 t256 t257 t258 _ ?side1 ?side2 A11.out).mono ?_
           (case side1 => repeat (first | exact (Kd.C_below HR0_2.out HB.out) | (with_reducible refine Kd.C_alloc ?_ _) | (with_reducible refine Kd.C_drewN ?_ _) | (with_reducible refine Kd.C_drew ?_)))
           (case side2 => exact HC0_2.out)
           rintro e w18 ⟨rfl, hb⟩
           have HS11_ := (hb.cell (World.block_lt_of_cell? _ _ (hHeld.2.2.2.2.2.2.2.2.2.2.2.1))).trans (hHeld.2.2.2.2.2.2.2.2.2.2.2.1)
           have HS12_ := (hb.cell (World.block_lt_of_cell? _ _ (hHeld.2.2.2.2.2.2.2.2.2.2.2.2))).trans (hHeld.2.2.2.2.2.2.2.2.2.2.2.2)
           refine ⟨_, rfl, ?_⟩
           replace HO_5 := am (Kd.R_below (rX HO_5.out) hb)
           replace BK240 := bY BK240 hb
           replace BK241 := bY BK241 hb
           replace HB := am (below_step (by repeat (first | (with_reducible first | exact HB.out | apply below_alloc | apply pw_below_drewN | apply below_drew1 | refine below_set ?_ (IsS86.ge HI245.out) | refine below_set ?_ GE240.out | refine below_set ?_ GE241.out) | exact HB.out)) hb)
           replace HI245 := am (IsS86.below (by repeat (first | (with_reducible first | exact HI245.out | apply IsS86.alloc | apply IsS86.drewN | apply IsS86.drew | apply IsS86.set_0 | apply IsS86.set_1 | apply IsS86.set_2 | apply IsS86.set_3 | apply IsS86.set_4 | refine IsS86.far ?_ NB245_240.out _ | refine IsS86.far ?_ NB245_241.out _) | exact HI245.out)) hb)
           (try clear hb)
           (try clear hb2)
           (try clear hk)
           (try clear hi)
           refine hK.out _ _ ⟨(blk_cell BK240.out 0).trans rfl, (blk_cell BK240.out 1).trans rfl, (blk_cell BK240.out 2).trans rfl, (blk_cell BK240.out 3).trans rfl, (blk_cell BK240.out 4).trans rfl, (blk_cell BK240.out 5).trans rfl, (blk_cell BK240.out 6).trans rfl, (blk_cell BK240.out 7).trans rfl, (blk_cell BK240.out 8).trans rfl, (blk_cell BK240.out 9).trans rfl, (blk_cell BK240.out 10).trans rfl, HS11_, HS12_⟩ (fun hHeld => ?_)
           clear hK K
           refine norm_ (a' := ?_) ?_ ?_
           rotate_left
           ·show Act.put _ (some 29) _ = _
            simp only [Act.put, List.setIfInBounds_toArray, List.set_cons_zero, List.set_cons_succ, i64_w, i32_w]
            rfl
           refine one_ (i := 17) (N := some 39) #[true, true, true, true, true, true, true, true, true, true, true, true, true, true, true, true, true, true] rfl rfl (one_of HT_.out (by kernel_rfl)) (by decide) (fun K hK => ?_)
           refine goes_ Try.func64 (by kernel_rfl) rfl #[.pointer (some ⟨gb245, 0, none⟩), .agg #[.int .i64 t255, .int .i64 t256, .int .i64 t257, .int .i64 t258], .int .i64 (wrap64 ((rd t242 x19_2) * (rd t242 x14_1)))] (by rfl) rfl rfl (by (try simp only [List.map_toArray, List.map_cons, List.map_nil]); first | done | rfl | (simp only [List.length_drop, List.length_take]; rfl)) ?_
           with_reducible refine (filter_total_add.calls gb245 x246000_2 x246001_2 x246002_2 x246003_2 x246004_2 t255 t256 t257 t258 (wrap64 ((rd t242 x19_2) * (rd t242 x14_1))) t261 t262 t263 t264 t265 w _ ?side1 ?side2 A16.out).mono ?_
           (case side1 => repeat (first | (with_reducible first | exact HI245.out | apply IsS86.alloc | apply IsS86.drewN | apply IsS86.drew | apply IsS86.set_0 | apply IsS86.set_1 | apply IsS86.set_2 | apply IsS86.set_3 | apply IsS86.set_4 | refine IsS86.far ?_ NB245_240.out _ | refine IsS86.far ?_ NB245_241.out _) | exact HI245.out))
           (case side2 => repeat (first | (with_reducible first | exact HB.out | apply below_alloc | apply pw_below_drewN | apply below_drew1 | refine below_set ?_ (IsS86.ge HI245.out) | refine below_set ?_ GE240.out | refine below_set ?_ GE241.out) | exact HB.out))
           rintro e w19 ⟨rfl, hi, hb, hk⟩
           have HS11_ := keep_cell hk (hHeld.2.2.2.2.2.2.2.2.2.2.2.1) (by first | (rw [add_block]; exact Kd.own_blk (IsS86.own_ne HI245.out HO_5.out (by decide))) | (show (Addr.add _ _).block ≠ _; rw [add_block]; exact Kd.own_blk (IsS86.own_ne HI245.out HO_5.out (by decide))) | exact Kd.own_blk (IsS86.own_ne HI245.out HO_5.out (by decide)))
           have HS12_ := keep_cell hk (hHeld.2.2.2.2.2.2.2.2.2.2.2.2) (by first | (rw [add_block]; exact Kd.own_blk (IsS86.own_ne HI245.out HO_5.out (by decide))) | (show (Addr.add _ _).block ≠ _; rw [add_block]; exact Kd.own_blk (IsS86.own_ne HI245.out HO_5.out (by decide))) | exact Kd.own_blk (IsS86.own_ne HI245.out HO_5.out (by decide)))
           refine ⟨_, rfl, ?_⟩
           replace HO_5 := am (Kd.R_mono (Kd.R_keep (IsS86.apart (show IsS86 w _ gb245 x246000_2 x246001_2 x246002_2 x246003_2 x246004_2 from by repeat (first | (with_reducible first | exact HI245.out | apply IsS86.alloc | apply IsS86.drewN | apply IsS86.drew | apply IsS86.set_0 | apply IsS86.set_1 | apply IsS86.set_2 | apply IsS86.set_3 | apply IsS86.set_4 | refine IsS86.far ?_ NB245_240.out _ | refine IsS86.far ?_ NB245_241.out _) | exact HI245.out)) (rX HO_5.out) (by decide)) hk (fun _ h => h.2)) (fun _ h => h.1))
           replace BK240 := am (KeepBut.blk hk (g' := gb240) (o := .cells #[.int .i64 a0_0, .int .i64 a0_1, .slice A0_2 l0_2.length c0_2, .int .i64 a0_3, .int .i64 a0_4, .int .i64 a0_5, .int .i64 a0_6, .int .i64 a0_7, .int .i64 a0_8, .int .i64 a0_9, .int .i64 a0_10] 71 (0, 0)) (bX BK240.out) NB240_245.out (by simp))
           replace BK241 := am (KeepBut.blk hk (g' := gb241) (o := .cells #[.int .i64 0, .int .i64 0, .int .i64 0, .int .i64 0] 51 (0, 0)) (bX BK241.out) NB241_245.out (by simp))
           replace HB := am (hb)
           replace HI245 := am (hi)
           (try clear hb)
           (try clear hb2)
           (try clear hk)
           (try clear hi)
           refine hK.out _ _ ⟨(blk_cell BK240.out 0).trans rfl, (blk_cell BK240.out 1).trans rfl, (blk_cell BK240.out 2).trans rfl, (blk_cell BK240.out 3).trans rfl, (blk_cell BK240.out 4).trans rfl, (blk_cell BK240.out 5).trans rfl, (blk_cell BK240.out 6).trans rfl, (blk_cell BK240.out 7).trans rfl, (blk_cell BK240.out 8).trans rfl, (blk_cell BK240.out 9).trans rfl, (blk_cell BK240.out 10).trans rfl, HS11_, HS12_⟩ (fun hHeld => ?_)
           clear hK K
           refine norm_ (a' := ?_) ?_ ?_
           rotate_left
           ·show Act.put _ (some 39) _ = _
            simp only [Act.put, List.setIfInBounds_toArray, List.set_cons_zero, List.set_cons_succ, i64_w, i32_w]
            rfl
           refine done_ (done_of HT_.out (by kernel_rfl)) ?_
           try go_wp2
           go_roundg k2
           case measure => have := HK1.out; have := HK2.out; omega
           case rel => exact ⟨(wrap64 (x19_2 + 1)), (t261), (t262), (t263), (t264), (t265), (by first | rfl | (simp; done) | (simp [*]; done)), H', ⟨by have := HK1.out; have := HK2.out; omega⟩, ⟨rX HO_5.out⟩, ⟨bX BK240.out⟩, ⟨bX BK241.out⟩, ⟨by repeat (first | (with_reducible first | exact HI245.out | apply IsS86.alloc | apply IsS86.drewN | apply IsS86.drew | apply IsS86.set_0 | apply IsS86.set_1 | apply IsS86.set_2 | apply IsS86.set_3 | apply IsS86.set_4 | refine IsS86.far ?_ NB245_240.out _ | refine IsS86.far ?_ NB245_241.out _) | exact HI245.out)⟩, ⟨by repeat (first | (with_reducible first | exact HB.out | apply below_alloc | apply pw_below_drewN | apply below_drew1 | refine below_set ?_ (IsS86.ge HI245.out) | refine below_set ?_ GE240.out | refine below_set ?_ GE241.out) | exact HB.out)⟩⟩
          ·rw [if_neg c15] at H
           exact absurd H (by simp)
         ·rw [if_neg c14] at H
          exact absurd H (by simp)
        ·rw [if_neg c13] at H
         exact absurd H (by simp)
       ·rw [if_neg c12] at H
        exact absurd H (by simp)
      ·rw [if_neg c10] at H
       have c10b0 : decide (x19_2 < (t242.length : Int)) = false := decide_eq_false c10
       clear c10
       have H' := Aside0.mk H
       clear H
       go_wp2
       go_roundg k2
       case measure => have := HK1.out; have := HK2.out; omega
       case rel => exact ⟨(wrap64 (x14_1 + 1)), (x246000_2), (x246001_2), (x246002_2), (x246003_2), (x246004_2), (by first | rfl | (simp; done) | (simp [*]; done)), H', ⟨by have := HK1.out; have := HK2.out; omega⟩, ⟨rX HO_5.out⟩, ⟨bX BK240.out⟩, ⟨bX BK241.out⟩, ⟨by repeat (first | (with_reducible first | exact HI245.out | apply IsS86.alloc | apply IsS86.drewN | apply IsS86.drew | apply IsS86.set_0 | apply IsS86.set_1 | apply IsS86.set_2 | apply IsS86.set_3 | apply IsS86.set_4 | refine IsS86.far ?_ NB245_240.out _ | refine IsS86.far ?_ NB245_241.out _) | exact HI245.out)⟩, ⟨by repeat (first | (with_reducible first | exact HB.out | apply below_alloc | apply pw_below_drewN | apply below_drew1 | refine below_set ?_ (IsS86.ge HI245.out) | refine below_set ?_ GE240.out | refine below_set ?_ GE241.out) | exact HB.out)⟩⟩
   ·rw [if_neg c9] at H
    have c9b0 : decide (x14_1 < (t242.length : Int)) = false := decide_eq_false c9
    clear c9
    replace H := Option.bind_eq_some_iff.mp H
    obtain ⟨⟨t246, t247, t248, t249, t250, t251, t252, t253, t254⟩, A200, H⟩ := H
    replace H : (some (t246, t247, t248, t249)) = some (r1, r2, r3, r4) := H
    have A20 := Aside0.mk A200
    clear A200
    simp only [Option.some.injEq, Prod.mk.injEq] at H
    obtain ⟨rfl, rfl, rfl, rfl⟩ := H
    go_wp2_with (first | ((with_reducible refine gate_callee (f := 65) rfl ?_); refine goesP (some 42) Try.func65 #[.pointer (some ⟨gb245, 0, none⟩)] ?_; (with_reducible refine (filter_total_mean.calls k1 gb245 x246000_1 x246001_1 x246002_1 x246003_1 x246004_1 t246 t247 t248 t249 t250 t251 t252 t253 t254 w _ ?side1 ?side2 A20.out).mono ?_); (case side1 => repeat (first | (with_reducible first | exact HI245.out | apply IsS86.alloc | apply IsS86.drewN | apply IsS86.drew | apply IsS86.set_0 | apply IsS86.set_1 | apply IsS86.set_2 | apply IsS86.set_3 | apply IsS86.set_4 | refine IsS86.far ?_ NB245_240.out _ | refine IsS86.far ?_ NB245_241.out _) | exact HI245.out)); (case side2 => repeat (first | (with_reducible first | exact HB.out | apply below_alloc | apply pw_below_drewN | apply below_drew1 | refine below_set ?_ (IsS86.ge HI245.out) | refine below_set ?_ GE240.out | refine below_set ?_ GE241.out) | exact HB.out)); rintro e w21 ⟨rfl, hi, hb, hk⟩; refine ⟨_, rfl, ?_⟩; replace HO_5 := am (Kd.R_mono (Kd.R_keep (IsS86.apart (show IsS86 w _ gb245 x246000_1 x246001_1 x246002_1 x246003_1 x246004_1 from by repeat (first | (with_reducible first | exact HI245.out | apply IsS86.alloc | apply IsS86.drewN | apply IsS86.drew | apply IsS86.set_0 | apply IsS86.set_1 | apply IsS86.set_2 | apply IsS86.set_3 | apply IsS86.set_4 | refine IsS86.far ?_ NB245_240.out _ | refine IsS86.far ?_ NB245_241.out _) | exact HI245.out)) (rX HO_5.out) (by decide)) hk (fun _ h => h.2)) (fun _ h => h.1)); replace BK240 := am (KeepBut.blk hk (g' := gb240) (o := .cells #[.int .i64 a0_0, .int .i64 a0_1, .slice A0_2 l0_2.length c0_2, .int .i64 a0_3, .int .i64 a0_4, .int .i64 a0_5, .int .i64 a0_6, .int .i64 a0_7, .int .i64 a0_8, .int .i64 a0_9, .int .i64 a0_10] 71 (0, 0)) (bX BK240.out) NB240_245.out (by simp)); replace BK241 := am (KeepBut.blk hk (g' := gb241) (o := .cells #[.int .i64 0, .int .i64 0, .int .i64 0, .int .i64 0] 51 (0, 0)) (bX BK241.out) NB241_245.out (by simp)); replace HB := am (hb); replace HI245 := am (hi); (try clear hb); (try clear hb2); (try clear hk); (try clear hi); have hnb22 := NB241_240.out; have hnc22 := NB240_241.out; have hnb23 := NB241_245.out; have hnc23 := NB245_241.out; have hcz24_0 := blk_cell BK241.out; have hfz24_0 := blk_frozen BK241.out))
    refine bodyPost_ret (results_cell_row rfl _ _ gb241 51 #[.int .i64 t246, .int .i64 t247, .int .i64 t248, .int .i64 t249] (0, 0) _ rfl (by refine bO ?_; refine blk_put (cs := #[.int .i64 t246, .int .i64 t247, .int .i64 t248, .int .i64 0]) ?_ 3 _ rfl; refine bO ?_; refine blk_put (cs := #[.int .i64 t246, .int .i64 t247, .int .i64 0, .int .i64 0]) ?_ 2 _ rfl; refine bO ?_; refine blk_put (cs := #[.int .i64 t246, .int .i64 0, .int .i64 0, .int .i64 0]) ?_ 1 _ rfl; refine bO ?_; refine blk_put (cs := #[.int .i64 0, .int .i64 0, .int .i64 0, .int .i64 0]) ?_ 0 _ rfl; refine bO ?_; exact BK241.out) Try.underlying51 rfl (by kernel_rfl)) rfl ?_
    exact ⟨by first | rfl | (simp [errW_none, errW_some] <;> rfl) | (simp [*, errW_none, errW_some] <;> rfl), by repeat (first | (with_reducible first | exact HB.out | apply below_alloc | apply pw_below_drewN | apply below_drew1 | refine below_set ?_ (IsS86.ge HI245.out) | refine below_set ?_ GE240.out | refine below_set ?_ GE241.out) | exact HB.out)⟩

/-! ### filter_view_sharpen: function 54: proved by hand -/
/-- One sharpened channel. -/
def sharp1 (k : Nat) (a2 c d : Int) : Option Int := (num_Div.f k (wrap64 (a2 * wrap64 (c - d))) 65535).bind fun q => num_Clamp.f (wrap64 (c + q)) 0 65535
theorem sharp1_mono (a2 c d : Int) (k : Nat) : LeO (sharp1 k a2 c d) (sharp1 (k + 1) a2 c d) := LeO.bind (num_Div.mono _ _ _) (fun _ => LeO.refl _)
set_option maxHeartbeats 8000000 in
set_option maxRecDepth 100000 in
theorem sharp1_calls (k : Nat) (a2 c d r : Int) (g : Nat) (w : World) (hb : w.heap[g]? = some (.cells #[.int .i64 a2] 3 (0, 0))) (h : sharp1 k a2 c d = some r) :
  Calls Try.prog 68 #[.int .i64 c, .int .i64 d, .pointer (some ⟨g, 0, none⟩)] w fun e w' => e = .returned (.int .i64 r) ∧ Below w.heap.size w w' := by
 obtain ⟨q, h1, h2⟩ := Option.bind_eq_some_iff.mp h
 have hc0 : w.cell? ⟨g, 0, none⟩ = some (.int .i64 a2) := (blk_cell hb 0).trans rfl
 go_enter Try.func68, Try.ntmps68
 go_wp2_with (first
  | ((with_reducible refine gate_callee (f := 70) rfl ?_); refine goesL_ (some 12) rfl rfl Try.func70 (by kernel_rfl) rfl #[.int .i64 (wrap64 (a2 * wrap64 (c - d))), .int .i64 65535] (by first | rfl | (go_simp; done)) (by first | rfl | (go_simp; done)) ?_; (with_reducible refine (num_Div.calls k _ _ q _ h1).mono ?_); rintro e w1 ⟨rfl, ⟨nd, rfl⟩⟩; refine ⟨_, rfl, ?_⟩)
  | ((with_reducible refine gate_callee (f := 69) rfl ?_); refine goesL_ (some 14) rfl rfl Try.func69 (by kernel_rfl) rfl #[.int .i64 (wrap64 (c + q)), .int .i64 0, .int .i64 65535] (by first | rfl | (go_simp; done)) (by first | rfl | (go_simp; done)) ?_; (with_reducible refine (num_Clamp.calls _ _ _ r _ h2).mono ?_); rintro e w2 ⟨rfl, hb2⟩; refine ⟨_, rfl, ?_⟩))
 go_ret
 exact ⟨rfl, by first | exact hb2 | exact ⟨hb2.os, hb2.tape, hb2.output, hb2.size, hb2.block⟩⟩

theorem goesF_ {P : Program} {Q : Exit → Act → World → Prop} {ops : Array Oper} {oi : Oper} {a : Act} {w : World} {K : Act → World → Prop} {f : FuncId} {fn : Func} {as_ : Array Operand} {ts : Array TypeId} {s : Operand} (N : Option Tmp) (caps : Array Value) (hf : P.funcs[f]? = some fn) (hname : (fn.name == "runtime.NumGoroutine") = false) (hb : fn.body.isSome = true) (args : Array Value)
  (hw : Region.wanted oi (yielded ops a.tmps) = true) (hN : oi.dst = N) (hop : oi.op = .call { callee := .value s, args := as_, argTypes := ts }) (hs : a.eval s = .func (.func f) #[] caps) (hargs : as_.map a.eval ++ caps = args)
  (h : Calls P f args w fun e w' => ∃ v, e = .returned v ∧ K (a.put N v) w') : if Region.wanted oi (yielded ops a.tmps) = true then Oper.wp P oi a w K Q else K (a.put N undef) w := by
 refine call_ f args hw hN ?_ h
 have he := enters_ hf hname hb args w
 unfold execOp
 simp [hop, resolve, hs, Deferred.ofValue, invoke, hargs, he]
theorem bel4 {u : Value} {w w1 : World} {l : List S51} (h : ∃ A c, u = .slice A l.length c ∧ l.length ≤ c ∧ Kd.C k51 w A l.length l) (hb : Below w.heap.size w w1) : ∃ A c, u = .slice A l.length c ∧ l.length ≤ c ∧ Kd.C k51 w1 A l.length l := by
 obtain ⟨A, c, q1, q2, q3⟩ := h
 exact ⟨A, c, q1, q2, Kd.C_below q3 hb⟩
def sel (b : Bool) (v : Value) : Value := if b = true then v else undef
theorem sel_true (v : Value) : sel true v = v := rfl
theorem sel_false (v : Value) : sel false v = undef := rfl
def filter_view_sharpen.f (k : Nat) (a0_0 a0_1 : Int) (l0_2 : List (S51)) (a0_3 a0_4 a0_5 a0_6 a0_7 a0_8 a0_9 a0_10 : Int) (a1 a2 : Int) : Option (Int × Int × Int × Int) :=
 (filter_view_get.f a0_0 a0_1 l0_2 a0_3 a0_4 a0_5 a0_6 a0_7 a0_8 a0_9 a0_10 0 0).bind fun p => (filter_view_square.f k a0_0 a0_1 l0_2 a0_3 a0_4 a0_5 a0_6 a0_7 a0_8 a0_9 a0_10 a1).bind fun l => (filter_mean.f k l).bind fun m =>
  (sharp1 k a2 p.1 m.1).bind fun r => (sharp1 k a2 p.2.1 m.2.1).bind fun g => (sharp1 k a2 p.2.2.1 m.2.2.1).bind fun b => some (r, g, b, p.2.2.2)
theorem filter_view_sharpen.mono : ∀ x0 x1 x2 x3 x4 x5 x6 x7 x8 x9 x10 a1 a2 k, LeO (filter_view_sharpen.f k x0 x1 x2 x3 x4 x5 x6 x7 x8 x9 x10 a1 a2) (filter_view_sharpen.f (k + 1) x0 x1 x2 x3 x4 x5 x6 x7 x8 x9 x10 a1 a2) := by
 intro x0 x1 x2 x3 x4 x5 x6 x7 x8 x9 x10 a1 a2 k
 unfold filter_view_sharpen.f
 exact LeO.bind (LeO.refl _) fun _ => LeO.bind (filter_view_square.mono _ _ _ _ _ _ _ _ _ _ _ _ _) fun _ => LeO.bind (filter_mean.mono _ _) fun _ =>
  LeO.bind (sharp1_mono _ _ _ _) fun _ => LeO.bind (sharp1_mono _ _ _ _) fun _ => LeO.bind (sharp1_mono _ _ _ _) fun _ => LeO.refl _

set_option maxHeartbeats 8000000 in
set_option maxRecDepth 100000 in
theorem filter_view_sharpen.calls (k : Nat) (a0_0 a0_1 : Int) (A0_2 : Option Addr) (c0_2 : Nat) (l0_2 : List (S51)) (a0_3 a0_4 a0_5 a0_6 a0_7 a0_8 a0_9 a0_10 : Int) (a1 a2 r1 r2 r3 r4 : Int) (w : World) (hr0_2 : Kd.C k51 w A0_2 l0_2.length l0_2) (hc0_2 : l0_2.length ≤ c0_2) (h : filter_view_sharpen.f k a0_0 a0_1 l0_2 a0_3 a0_4 a0_5 a0_6 a0_7 a0_8 a0_9 a0_10 a1 a2 = some (r1, r2, r3, r4)) :
  Calls Try.prog 54 #[.agg #[.int .i64 a0_0, .int .i64 a0_1, .slice A0_2 l0_2.length c0_2, .int .i64 a0_3, .int .i64 a0_4, .int .i64 a0_5, .int .i64 a0_6, .int .i64 a0_7, .int .i64 a0_8, .int .i64 a0_9, .int .i64 a0_10], .int .i64 a1, .int .i64 a2] w fun e w' => e = .returned (.agg #[.int .i64 r1, .int .i64 r2, .int .i64 r3, .int .i64 r4]) ∧ Below w.heap.size w w' := by
 obtain ⟨⟨p0, p1, p2, p3⟩, e1, h⟩ := Option.bind_eq_some_iff.mp h
 obtain ⟨l, e2, h⟩ := Option.bind_eq_some_iff.mp h
 obtain ⟨⟨m0, m1, m2, m3⟩, e3, h⟩ := Option.bind_eq_some_iff.mp h
 obtain ⟨x0, e4, h⟩ := Option.bind_eq_some_iff.mp h
 obtain ⟨x1, e5, h⟩ := Option.bind_eq_some_iff.mp h
 obtain ⟨x2, e6, h⟩ := Option.bind_eq_some_iff.mp h
 simp only [Option.some.injEq, Prod.mk.injEq] at h
 obtain ⟨rfl, rfl, rfl, rfl⟩ := h
 have hu71 := Try.underlying71
 have hu51 := Try.underlying51
 go_enter Try.func54, Try.ntmps54
 go_wp2_with (first
  | ((with_reducible refine gate_dst (N := 3) rfl ?_); refine boxE (N := 3) #[.int .i64 a0_0, .int .i64 a0_1, .slice A0_2 l0_2.length c0_2, .int .i64 a0_3, .int .i64 a0_4, .int .i64 a0_5, .int .i64 a0_6, .int .i64 a0_7, .int .i64 a0_8, .int .i64 a0_9, .int .i64 a0_10] 71 ?_; intro g3 hg3 w3 b3 hb3; have z3 : w.heap.size ≤ g3 := Nat.le_of_eq hg3.symm; clear hg3)
  | ((with_reducible refine gate_dst (N := 5) rfl ?_); refine boxE (N := 5) #[.int .i64 a2] 3 ?_; intro g5 hg5 w5 b5 hb5; have n35 : g3 < g5 := (by rw [hg5]; exact blk_lt b3); clear hg5)
  | ((with_reducible refine gate_dst (N := 6) rfl ?_); refine boxE (N := 6) #[.int .i64 0, .int .i64 0, .int .i64 0, .int .i64 0] 51 ?_; intro g6 hg6 w6 b6 hb6; have n56 : g5 < g6 := (by rw [hg6]; exact blk_lt b5); clear hg6))

 have B6 : Below w.heap.size w w6 := below_step (below_step hb3 hb5) hb6
 have b3' := blk_below (blk_below b3 hb5) hb6
 have b5' := blk_below b5 hb6
 have l6 : g6 < w6.heap.size := blk_lt b6
 clear hb3 hb5 hb6 b3 b5 w3 w5
 refine region_inv (fun f a w' => ∃ (u : Value) (g7 g8 : Nat), a = { tmps := #[.agg #[.int .i64 a0_0, .int .i64 a0_1, .slice A0_2 l0_2.length c0_2, .int .i64 a0_3, .int .i64 a0_4, .int .i64 a0_5, .int .i64 a0_6, .int .i64 a0_7, .int .i64 a0_8, .int .i64 a0_9, .int .i64 a0_10], .int .i64 a1, .int .i64 a2, .pointer (some ⟨g3, 0, none⟩), undef, .pointer (some ⟨g5, 0, none⟩), .pointer (some ⟨g6, 0, none⟩), sel (f 6) (.pointer (some ⟨g7, 0, none⟩)), sel (f 7) (.pointer (some ⟨g8, 0, none⟩)), undef, sel (f 0) (.agg #[.int .i64 a0_0, .int .i64 a0_1, .slice A0_2 l0_2.length c0_2, .int .i64 a0_3, .int .i64 a0_4, .int .i64 a0_5, .int .i64 a0_6, .int .i64 a0_7, .int .i64 a0_8, .int .i64 a0_9, .int .i64 a0_10]), sel (f 1) (.agg #[.int .i64 p0, .int .i64 p1, .int .i64 p2, .int .i64 p3]), sel (f 2) (.agg #[.int .i64 a0_0, .int .i64 a0_1, .slice A0_2 l0_2.length c0_2, .int .i64 a0_3, .int .i64 a0_4, .int .i64 a0_5, .int .i64 a0_6, .int .i64 a0_7, .int .i64 a0_8, .int .i64 a0_9, .int .i64 a0_10]), sel (f 3) (.int .i64 a1), sel (f 4) u, sel (f 5) (.agg #[.int .i64 m0, .int .i64 m1, .int .i64 m2, .int .i64 m3]), undef, undef, undef, undef, undef, undef, undef, undef, undef, undef, undef, undef, undef, undef, undef, undef, undef, undef, undef, undef, undef, undef], defers := [] } ∧ Below w.heap.size w w' ∧ w'.heap[g3]? = some (.cells #[.int .i64 a0_0, .int .i64 a0_1, .slice A0_2 l0_2.length c0_2, .int .i64 a0_3, .int .i64 a0_4, .int .i64 a0_5, .int .i64 a0_6, .int .i64 a0_7, .int .i64 a0_8, .int .i64 a0_9, .int .i64 a0_10] 71 (0, 0)) ∧ w'.heap[g5]? = some (.cells #[.int .i64 a2] 3 (0, 0)) ∧ w'.heap[g6]? = some (.cells #[.int .i64 0, .int .i64 0, .int .i64 0, .int .i64 0] 51 (0, 0)) ∧
   (f 4 = true → f 8 = false → f 9 = false → ∃ A c, u = .slice A l.length c ∧ l.length ≤ c ∧ Kd.C k51 w' A l.length l) ∧
   (f 6 = true → g6 < g7 ∧ w'.heap[g7]? = some (.cells (if f 8 = true then #[.int .i64 p0, .int .i64 p1, .int .i64 p2, .int .i64 p3] else #[.int .i64 0, .int .i64 0, .int .i64 0, .int .i64 0]) 51 (0, 0))) ∧
   (f 7 = true → g6 < g8 ∧ w'.heap[g8]? = some (.cells (if f 9 = true then #[.int .i64 m0, .int .i64 m1, .int .i64 m2, .int .i64 m3] else #[.int .i64 0, .int .i64 0, .int .i64 0, .int .i64 0]) 51 (0, 0))) ∧
   (f 6 = true → f 7 = true → g7 ≠ g8) ∧ (f 8 = true → f 6 = true ∧ f 5 = true) ∧ (f 9 = true → f 7 = true ∧ f 5 = true)) (by kernel_rfl) (by kernel_rfl) ?start ?fin ?steps
 case start => exact ⟨undef, 0, 0, rfl, B6.drew, blk_drew b3', blk_drew b5', blk_drew b6, by simp, by simp, by simp, by simp, by simp, by simp⟩
 case steps =>
  refine ⟨?o0, ?o1, ?o2, ?o3, ?o4, ?o5, ?o6, ?o7, ?o8, ?o9, trivial⟩
  case o0 =>
   rintro f a w' ⟨u, g7, g8, rfl, HB, k3, k5, k6, c4, c6, c7, c67, c8, c9⟩ hf hd K hK
   have hz := blk_cell k3
   refine value_ (N := some 10) (v := .agg #[.int .i64 a0_0, .int .i64 a0_1, .slice A0_2 l0_2.length c0_2, .int .i64 a0_3, .int .i64 a0_4, .int .i64 a0_5, .int .i64 a0_6, .int .i64 a0_7, .int .i64 a0_8, .int .i64 a0_9, .int .i64 a0_10]) (w1 := w') rfl rfl ?_ (hK _ _ ⟨u, g7, g8, rfl, HB, k3, k5, k6, c4, c6, c7, c67, c8, c9⟩)
   go_simp
  case o1 =>
   rintro f a w' ⟨u, g7, g8, rfl, HB, k3, k5, k6, c4, c6, c7, c67, c8, c9⟩ hf hd K hK
   have d0 := hd 0 (by kernel_rfl)
   rw [d0, sel_true]
   refine goes_ (N := some 11) Try.func66 (by kernel_rfl) rfl #[.agg #[.int .i64 a0_0, .int .i64 a0_1, .slice A0_2 l0_2.length c0_2, .int .i64 a0_3, .int .i64 a0_4, .int .i64 a0_5, .int .i64 a0_6, .int .i64 a0_7, .int .i64 a0_8, .int .i64 a0_9, .int .i64 a0_10], .int .i64 0, .int .i64 0] (by rfl) rfl rfl (by (try simp only [List.map_toArray, List.map_cons, List.map_nil]); first | done | rfl) ?_
   refine (filter_view_get.calls _ _ _ _ _ _ _ _ _ _ _ _ _ _ _ p0 p1 p2 p3 _ (Kd.C_below hr0_2 HB) hc0_2 e1).mono ?_
   rintro e w1 ⟨rfl, hb⟩
   exact ⟨_, rfl, hK _ _ ⟨u, g7, g8, (by simp [Act.put, upd, sel_true, d0]), below_step HB hb, blk_below k3 hb, blk_below k5 hb, blk_below k6 hb, fun t t8 t9 => bel4 (c4 t t8 t9) hb, fun t => ⟨(c6 t).1, blk_below (c6 t).2 hb⟩, fun t => ⟨(c7 t).1, blk_below (c7 t).2 hb⟩, c67, c8, c9⟩⟩
  case o2 =>
   rintro f a w' ⟨u, g7, g8, rfl, HB, k3, k5, k6, c4, c6, c7, c67, c8, c9⟩ hf hd K hK
   have hz := blk_cell k3
   refine value_ (N := some 12) (v := .agg #[.int .i64 a0_0, .int .i64 a0_1, .slice A0_2 l0_2.length c0_2, .int .i64 a0_3, .int .i64 a0_4, .int .i64 a0_5, .int .i64 a0_6, .int .i64 a0_7, .int .i64 a0_8, .int .i64 a0_9, .int .i64 a0_10]) (w1 := w') rfl rfl ?_ (hK _ _ ⟨u, g7, g8, rfl, HB, k3, k5, k6, c4, c6, c7, c67, c8, c9⟩)
   go_simp
  case o3 =>
   rintro f a w' ⟨u, g7, g8, rfl, HB, k3, k5, k6, c4, c6, c7, c67, c8, c9⟩ hf hd K hK
   refine value_ (N := some 13) (v := .int .i64 a1) (w1 := w') rfl rfl ?_ (hK _ _ ⟨u, g7, g8, rfl, HB, k3, k5, k6, c4, c6, c7, c67, c8, c9⟩)
   go_simp
  case o4 =>
   rintro f a w' ⟨u, g7, g8, rfl, HB, k3, k5, k6, c4, c6, c7, c67, c8, c9⟩ hf hd K hK
   have d2 := hd 2 (by kernel_rfl)
   have d3 := hd 3 (by kernel_rfl)
   rw [d2, d3, sel_true, sel_true]
   refine goes_ (N := some 14) Try.func52 (by kernel_rfl) rfl #[.agg #[.int .i64 a0_0, .int .i64 a0_1, .slice A0_2 l0_2.length c0_2, .int .i64 a0_3, .int .i64 a0_4, .int .i64 a0_5, .int .i64 a0_6, .int .i64 a0_7, .int .i64 a0_8, .int .i64 a0_9, .int .i64 a0_10], .int .i64 a1] (by rfl) rfl rfl (by (try simp only [List.map_toArray, List.map_cons, List.map_nil]); first | done | rfl) ?_
   refine (filter_view_square.calls k _ _ _ _ _ _ _ _ _ _ _ _ _ a1 l _ (Kd.C_below hr0_2 HB) hc0_2 e2).mono ?_
   rintro e w1 ⟨v, rfl, hR, hb⟩
   exact ⟨_, rfl, hK _ _ ⟨v, g7, g8, (by simp [Act.put, upd, sel_true, d2, d3]), below_step HB hb, blk_below k3 hb, blk_below k5 hb, blk_below k6 hb, fun _ _ _ => Kd.R_reads hR, fun t => ⟨(c6 t).1, blk_below (c6 t).2 hb⟩, fun t => ⟨(c7 t).1, blk_below (c7 t).2 hb⟩, c67, c8, c9⟩⟩
  case o5 =>
   rintro f a w' ⟨u, g7, g8, rfl, HB, k3, k5, k6, c4, c6, c7, c67, c8, c9⟩ hf hd K hK
   have d4 := hd 4 (by kernel_rfl)
   rw [d4, sel_true]
   have h8 : f 8 = false := by cases h : f 8 with | false => rfl | true => rw [(c8 h).2] at hf; cases hf
   have h9 : f 9 = false := by cases h : f 9 with | false => rfl | true => rw [(c9 h).2] at hf; cases hf
   obtain ⟨A, c, rfl, q2, q3⟩ := c4 d4 h8 h9
   refine goes_ (N := some 15) Try.func51 (by kernel_rfl) rfl #[.slice A l.length c] (by rfl) rfl rfl (by (try simp only [List.map_toArray, List.map_cons, List.map_nil]); first | done | rfl) ?_
   refine (filter_mean.calls k _ _ l m0 m1 m2 m3 _ q3 q2 e3).mono ?_
   rintro e w1 ⟨rfl, hb⟩
   exact ⟨_, rfl, hK _ _ ⟨.slice A l.length c, g7, g8, (by simp [Act.put, upd, sel_true, d4]), below_step HB hb, blk_below k3 hb, blk_below k5 hb, blk_below k6 hb, fun _ _ _ => ⟨A, c, rfl, q2, Kd.C_below q3 hb⟩, fun t => ⟨(c6 t).1, blk_below (c6 t).2 hb⟩, fun t => ⟨(c7 t).1, blk_below (c7 t).2 hb⟩, c67, fun t => ⟨(c8 t).1, rfl⟩, fun t => ⟨(c9 t).1, rfl⟩⟩⟩
  case o6 =>
   rintro f a w' ⟨u, g7, g8, rfl, HB, k3, k5, k6, c4, c6, c7, c67, c8, c9⟩ hf hd K hK
   refine box_step (N := 7) rfl rfl (cs := #[.int .i64 0, .int .i64 0, .int .i64 0, .int .i64 0]) (t := 51) (by first | (go_simp; done) | (go_simp; rfl)) ?_
   intro g hg w1 hbx hb
   have hlt : g6 < g := by rw [hg]; exact blk_lt k6
   have h8 : ¬ f 8 = true := fun t => by rw [(c8 t).1] at hf; cases hf
   exact hK _ _ ⟨u, g, g8, rfl, below_step HB hb, blk_below k3 hb, blk_below k5 hb, blk_below k6 hb, fun t t8 t9 => bel4 (c4 t t8 t9) hb, fun _ => ⟨hlt, by rw [if_neg (show ¬ upd f 6 8 = true from h8)]; exact hbx⟩, fun t => ⟨(c7 t).1, blk_below (c7 t).2 hb⟩, fun _ t => by rw [hg]; exact Nat.ne_of_gt (blk_lt (c7 t).2), fun t => ⟨rfl, (c8 t).2⟩, c9⟩
  case o7 =>
   rintro f a w' ⟨u, g7, g8, rfl, HB, k3, k5, k6, c4, c6, c7, c67, c8, c9⟩ hf hd K hK
   refine box_step (N := 8) rfl rfl (cs := #[.int .i64 0, .int .i64 0, .int .i64 0, .int .i64 0]) (t := 51) (by first | (go_simp; done) | (go_simp; rfl)) ?_
   intro g hg w1 hbx hb
   have hlt : g6 < g := by rw [hg]; exact blk_lt k6
   have h9 : ¬ f 9 = true := fun t => by rw [(c9 t).1] at hf; cases hf
   exact hK _ _ ⟨u, g7, g, rfl, below_step HB hb, blk_below k3 hb, blk_below k5 hb, blk_below k6 hb, fun t t8 t9 => bel4 (c4 t t8 t9) hb, fun t => ⟨(c6 t).1, blk_below (c6 t).2 hb⟩, fun _ => ⟨hlt, by rw [if_neg (show ¬ upd f 7 9 = true from h9)]; exact hbx⟩, fun t _ => by rw [hg]; exact Nat.ne_of_lt (blk_lt (c6 t).2), c8, fun t => ⟨rfl, (c9 t).2⟩⟩
  case o8 =>
   rintro f a w' ⟨u, g7, g8, rfl, HB, k3, k5, k6, c4, c6, c7, c67, c8, c9⟩ hf hd K hK
   have d6 := hd 6 (by kernel_rfl)
   have d1 := hd 1 (by kernel_rfl)
   rw [d6, d1, sel_true, sel_true]
   have kz := (c6 d6).2
   rw [hf, if_neg (by decide)] at kz
   have hl := (c6 d6).1
   have e3' : g3 ≠ g7 := by omega
   have e5' : g5 ≠ g7 := by omega
   have e6' : g6 ≠ g7 := by omega
   have hz := blk_cell kz
   have hz' := blk_frozen kz
   refine skip_ (w1 := ((((w'.setCell ⟨g7, 0, none⟩ (.int .i64 p0)).setCell ⟨g7, 1, none⟩ (.int .i64 p1)).setCell ⟨g7, 2, none⟩ (.int .i64 p2)).setCell ⟨g7, 3, none⟩ (.int .i64 p3))) rfl rfl ?_ (hK _ _ ⟨u, g7, g8, (by simp [Act.put, upd, sel_true, d6, d1]), below_set (below_set (below_set (below_set HB (by omega)) (by omega)) (by omega)) (by omega), blk_far (blk_far (blk_far (blk_far k3 (p := ⟨g7, 0, none⟩) e3' _) (p := ⟨g7, 1, none⟩) e3' _) (p := ⟨g7, 2, none⟩) e3' _) (p := ⟨g7, 3, none⟩) e3' _, blk_far (blk_far (blk_far (blk_far k5 (p := ⟨g7, 0, none⟩) e5' _) (p := ⟨g7, 1, none⟩) e5' _) (p := ⟨g7, 2, none⟩) e5' _) (p := ⟨g7, 3, none⟩) e5' _, blk_far (blk_far (blk_far (blk_far k6 (p := ⟨g7, 0, none⟩) e6' _) (p := ⟨g7, 1, none⟩) e6' _) (p := ⟨g7, 2, none⟩) e6' _) (p := ⟨g7, 3, none⟩) e6' _, (fun _ t => by cases t), fun _ => ⟨hl, (blk_put (cs := #[.int .i64 p0, .int .i64 p1, .int .i64 p2, .int .i64 0]) (cs' := #[.int .i64 p0, .int .i64 p1, .int .i64 p2, .int .i64 p3]) (blk_put (cs := #[.int .i64 p0, .int .i64 p1, .int .i64 0, .int .i64 0]) (cs' := #[.int .i64 p0, .int .i64 p1, .int .i64 p2, .int .i64 0]) (blk_put (cs := #[.int .i64 p0, .int .i64 0, .int .i64 0, .int .i64 0]) (cs' := #[.int .i64 p0, .int .i64 p1, .int .i64 0, .int .i64 0]) (blk_put (cs := #[.int .i64 0, .int .i64 0, .int .i64 0, .int .i64 0]) (cs' := #[.int .i64 p0, .int .i64 0, .int .i64 0, .int .i64 0]) (kz) 0 (.int .i64 p0) rfl) 1 (.int .i64 p1) rfl) 2 (.int .i64 p2) rfl) 3 (.int .i64 p3) rfl)⟩, fun t => ⟨(c7 t).1, blk_far (blk_far (blk_far (blk_far (c7 t).2 (p := ⟨g7, 0, none⟩) (c67 d6 t).symm _) (p := ⟨g7, 1, none⟩) (c67 d6 t).symm _) (p := ⟨g7, 2, none⟩) (c67 d6 t).symm _) (p := ⟨g7, 3, none⟩) (c67 d6 t).symm _⟩, c67, fun _ => ⟨d6, hd 5 (by kernel_rfl)⟩, c9⟩)
   first | (go_simp; done) | (go_simp; rfl)
  case o9 =>
   rintro f a w' ⟨u, g7, g8, rfl, HB, k3, k5, k6, c4, c6, c7, c67, c8, c9⟩ hf hd K hK
   have d7 := hd 7 (by kernel_rfl)
   have d5 := hd 5 (by kernel_rfl)
   rw [d7, d5, sel_true, sel_true]
   have kz := (c7 d7).2
   rw [hf, if_neg (by decide)] at kz
   have hl := (c7 d7).1
   have e3' : g3 ≠ g8 := by omega
   have e5' : g5 ≠ g8 := by omega
   have e6' : g6 ≠ g8 := by omega
   have hz := blk_cell kz
   have hz' := blk_frozen kz
   refine skip_ (w1 := ((((w'.setCell ⟨g8, 0, none⟩ (.int .i64 m0)).setCell ⟨g8, 1, none⟩ (.int .i64 m1)).setCell ⟨g8, 2, none⟩ (.int .i64 m2)).setCell ⟨g8, 3, none⟩ (.int .i64 m3))) rfl rfl ?_ (hK _ _ ⟨u, g7, g8, (by simp [Act.put, upd, sel_true, d7, d5]), below_set (below_set (below_set (below_set HB (by omega)) (by omega)) (by omega)) (by omega), blk_far (blk_far (blk_far (blk_far k3 (p := ⟨g8, 0, none⟩) e3' _) (p := ⟨g8, 1, none⟩) e3' _) (p := ⟨g8, 2, none⟩) e3' _) (p := ⟨g8, 3, none⟩) e3' _, blk_far (blk_far (blk_far (blk_far k5 (p := ⟨g8, 0, none⟩) e5' _) (p := ⟨g8, 1, none⟩) e5' _) (p := ⟨g8, 2, none⟩) e5' _) (p := ⟨g8, 3, none⟩) e5' _, blk_far (blk_far (blk_far (blk_far k6 (p := ⟨g8, 0, none⟩) e6' _) (p := ⟨g8, 1, none⟩) e6' _) (p := ⟨g8, 2, none⟩) e6' _) (p := ⟨g8, 3, none⟩) e6' _, (fun _ _ t => by cases t), fun t => ⟨(c6 t).1, blk_far (blk_far (blk_far (blk_far (c6 t).2 (p := ⟨g8, 0, none⟩) (c67 t d7) _) (p := ⟨g8, 1, none⟩) (c67 t d7) _) (p := ⟨g8, 2, none⟩) (c67 t d7) _) (p := ⟨g8, 3, none⟩) (c67 t d7) _⟩, fun _ => ⟨hl, (blk_put (cs := #[.int .i64 m0, .int .i64 m1, .int .i64 m2, .int .i64 0]) (cs' := #[.int .i64 m0, .int .i64 m1, .int .i64 m2, .int .i64 m3]) (blk_put (cs := #[.int .i64 m0, .int .i64 m1, .int .i64 0, .int .i64 0]) (cs' := #[.int .i64 m0, .int .i64 m1, .int .i64 m2, .int .i64 0]) (blk_put (cs := #[.int .i64 m0, .int .i64 0, .int .i64 0, .int .i64 0]) (cs' := #[.int .i64 m0, .int .i64 m1, .int .i64 0, .int .i64 0]) (blk_put (cs := #[.int .i64 0, .int .i64 0, .int .i64 0, .int .i64 0]) (cs' := #[.int .i64 m0, .int .i64 0, .int .i64 0, .int .i64 0]) (kz) 0 (.int .i64 m0) rfl) 1 (.int .i64 m1) rfl) 2 (.int .i64 m2) rfl) 3 (.int .i64 m3) rfl)⟩, c67, c8, fun _ => ⟨d7, hd 5 (by kernel_rfl)⟩⟩)
   first | (go_simp; done) | (go_simp; rfl)
 case fin =>
  rintro f a w' hall ⟨u, g7, g8, rfl, HB, k3, k5, k6, c4, c6, c7, c67, c8, c9⟩
  have h0 := hall 0 (by decide)
  have h1 := hall 1 (by decide)
  have h2 := hall 2 (by decide)
  have h3 := hall 3 (by decide)
  have h4 := hall 4 (by decide)
  have h5 := hall 5 (by decide)
  have h6 := hall 6 (by decide)
  have h7 := hall 7 (by decide)
  have h8 := hall 8 (by decide)
  have h9 := hall 9 (by decide)
  obtain ⟨l7, k7⟩ := c6 h6
  obtain ⟨l8, k8⟩ := c7 h7
  have n78 := c67 h6 h7
  rw [if_pos h8] at k7
  rw [if_pos h9] at k8
  rw [h0, h1, h2, h3, h4, h5, h6, h7]
  simp only [sel_true]
  clear hall h0 h1 h2 h3 h4 h5 h6 h7 h8 h9 c4 c6 c7 c67 c8 c9 f
  go_wp2
  refine region_inv (fun f a w' => a = { tmps := #[.agg #[.int .i64 a0_0, .int .i64 a0_1, .slice A0_2 l0_2.length c0_2, .int .i64 a0_3, .int .i64 a0_4, .int .i64 a0_5, .int .i64 a0_6, .int .i64 a0_7, .int .i64 a0_8, .int .i64 a0_9, .int .i64 a0_10], .int .i64 a1, .int .i64 a2, .pointer (some ⟨g3, 0, none⟩), undef, .pointer (some ⟨g5, 0, none⟩), .pointer (some ⟨g6, 0, none⟩), .pointer (some ⟨g7, 0, none⟩), .pointer (some ⟨g8, 0, none⟩), .func (.func 68) #[] #[.pointer (some ⟨g5, 0, none⟩)], .agg #[.int .i64 a0_0, .int .i64 a0_1, .slice A0_2 l0_2.length c0_2, .int .i64 a0_3, .int .i64 a0_4, .int .i64 a0_5, .int .i64 a0_6, .int .i64 a0_7, .int .i64 a0_8, .int .i64 a0_9, .int .i64 a0_10], .agg #[.int .i64 p0, .int .i64 p1, .int .i64 p2, .int .i64 p3], .agg #[.int .i64 a0_0, .int .i64 a0_1, .slice A0_2 l0_2.length c0_2, .int .i64 a0_3, .int .i64 a0_4, .int .i64 a0_5, .int .i64 a0_6, .int .i64 a0_7, .int .i64 a0_8, .int .i64 a0_9, .int .i64 a0_10], .int .i64 a1, u, .agg #[.int .i64 m0, .int .i64 m1, .int .i64 m2, .int .i64 m3], .func (.func 68) #[] #[.pointer (some ⟨g5, 0, none⟩)], sel (f 0) (.func (.func 68) #[] #[.pointer (some ⟨g5, 0, none⟩)]), sel (f 1) (.pointer (some ⟨g7, 0, none⟩)), sel (f 2) (.int .i64 p0), sel (f 3) (.pointer (some ⟨g8, 0, none⟩)), sel (f 4) (.int .i64 m0), sel (f 5) (.int .i64 x0), sel (f 6) (.func (.func 68) #[] #[.pointer (some ⟨g5, 0, none⟩)]), sel (f 7) (.pointer (some ⟨g7, 1, none⟩)), sel (f 8) (.int .i64 p1), sel (f 9) (.pointer (some ⟨g8, 1, none⟩)), sel (f 10) (.int .i64 m1), sel (f 11) (.int .i64 x1), sel (f 12) (.func (.func 68) #[] #[.pointer (some ⟨g5, 0, none⟩)]), sel (f 13) (.pointer (some ⟨g7, 2, none⟩)), sel (f 14) (.int .i64 p2), sel (f 15) (.pointer (some ⟨g8, 2, none⟩)), sel (f 16) (.int .i64 m2), sel (f 17) (.int .i64 x2), sel (f 18) (.pointer (some ⟨g7, 3, none⟩)), sel (f 19) (.int .i64 p3), sel (f 20) (.agg #[.int .i64 x0, .int .i64 x1, .int .i64 x2, .int .i64 p3])], defers := [] } ∧ Below w.heap.size w w' ∧ w'.heap[g5]? = some (.cells #[.int .i64 a2] 3 (0, 0)) ∧ w'.heap[g6]? = some (.cells (if f 21 = true then #[.int .i64 x0, .int .i64 x1, .int .i64 x2, .int .i64 p3] else #[.int .i64 0, .int .i64 0, .int .i64 0, .int .i64 0]) 51 (0, 0)) ∧
   w'.heap[g7]? = some (.cells #[.int .i64 p0, .int .i64 p1, .int .i64 p2, .int .i64 p3] 51 (0, 0)) ∧ w'.heap[g8]? = some (.cells #[.int .i64 m0, .int .i64 m1, .int .i64 m2, .int .i64 m3] 51 (0, 0))) (by kernel_rfl) (by kernel_rfl) ?start ?fin ?steps
  case start => exact ⟨rfl, HB.drew, blk_drew k5, blk_drew k6, blk_drew k7, blk_drew k8⟩
  case steps =>
   clear k5 k6 k7 k8 HB
   refine ⟨?o0, ?o1, ?o2, ?o3, ?o4, ?o5, ?o6, ?o7, ?o8, ?o9, ?o10, ?o11, ?o12, ?o13, ?o14, ?o15, ?o16, ?o17, ?o18, ?o19, ?o20, ?o21, trivial⟩
   case o0 =>
    rintro f a w' ⟨rfl, HB, k5, k6, k7, k8⟩ hf hd K hK
    refine value_ (N := some 17) (v := .func (.func 68) #[] #[.pointer (some ⟨g5, 0, none⟩)]) (w1 := w') rfl rfl ?_ (hK _ _ ⟨rfl, HB, k5, k6, k7, k8⟩)
    first | (go_simp; done) | (go_simp; rfl)
   case o1 =>
    rintro f a w' ⟨rfl, HB, k5, k6, k7, k8⟩ hf hd K hK
    refine value_ (N := some 18) (v := .pointer (some ⟨g7, 0, none⟩)) (w1 := w') rfl rfl ?_ (hK _ _ ⟨rfl, HB, k5, k6, k7, k8⟩)
    first | (go_simp; done) | (go_simp; rfl)
   case o2 =>
    rintro f a w' ⟨rfl, HB, k5, k6, k7, k8⟩ hf hd K hK
    have d1 := hd 1 (by kernel_rfl)
    rw [d1, sel_true]
    have hz := blk_cell k7
    refine value_ (N := some 19) (v := .int .i64 p0) (w1 := w') rfl rfl ?_ (hK _ _ ⟨(by simp [Act.put, upd, sel_true, d1]), HB, k5, k6, k7, k8⟩)
    first | (go_simp; done) | (go_simp; rfl)
   case o3 =>
    rintro f a w' ⟨rfl, HB, k5, k6, k7, k8⟩ hf hd K hK
    refine value_ (N := some 20) (v := .pointer (some ⟨g8, 0, none⟩)) (w1 := w') rfl rfl ?_ (hK _ _ ⟨rfl, HB, k5, k6, k7, k8⟩)
    first | (go_simp; done) | (go_simp; rfl)
   case o4 =>
    rintro f a w' ⟨rfl, HB, k5, k6, k7, k8⟩ hf hd K hK
    have d3 := hd 3 (by kernel_rfl)
    rw [d3, sel_true]
    have hz := blk_cell k8
    refine value_ (N := some 21) (v := .int .i64 m0) (w1 := w') rfl rfl ?_ (hK _ _ ⟨(by simp [Act.put, upd, sel_true, d3]), HB, k5, k6, k7, k8⟩)
    first | (go_simp; done) | (go_simp; rfl)
   case o5 =>
    rintro f a w' ⟨rfl, HB, k5, k6, k7, k8⟩ hf hd K hK
    have d0 := hd 0 (by kernel_rfl)
    have d2 := hd 2 (by kernel_rfl)
    have d4 := hd 4 (by kernel_rfl)
    rw [d0, d2, d4, sel_true, sel_true, sel_true]
    refine goesF_ (some 22) #[.pointer (some ⟨g5, 0, none⟩)] Try.func68 (by kernel_rfl) rfl #[.int .i64 p0, .int .i64 m0, .pointer (some ⟨g5, 0, none⟩)] (by rfl) rfl rfl (by rfl) (by simp only [List.map_toArray, List.map_cons, List.map_nil, List.append_toArray, List.cons_append, List.nil_append]; rfl) ?_
    refine (sharp1_calls k a2 p0 m0 x0 g5 _ k5 e4).mono ?_
    rintro e w1 ⟨rfl, hb⟩
    exact ⟨_, rfl, hK _ _ ⟨(by simp [Act.put, upd, sel_true, d0, d2, d4]), below_step HB hb, blk_below k5 hb, blk_below k6 hb, blk_below k7 hb, blk_below k8 hb⟩⟩
   case o6 =>
    rintro f a w' ⟨rfl, HB, k5, k6, k7, k8⟩ hf hd K hK
    refine value_ (N := some 23) (v := .func (.func 68) #[] #[.pointer (some ⟨g5, 0, none⟩)]) (w1 := w') rfl rfl ?_ (hK _ _ ⟨rfl, HB, k5, k6, k7, k8⟩)
    first | (go_simp; done) | (go_simp; rfl)
   case o7 =>
    rintro f a w' ⟨rfl, HB, k5, k6, k7, k8⟩ hf hd K hK
    refine value_ (N := some 24) (v := .pointer (some ⟨g7, 1, none⟩)) (w1 := w') rfl rfl ?_ (hK _ _ ⟨rfl, HB, k5, k6, k7, k8⟩)
    first | (go_simp; done) | (go_simp; rfl)
   case o8 =>
    rintro f a w' ⟨rfl, HB, k5, k6, k7, k8⟩ hf hd K hK
    have d7 := hd 7 (by kernel_rfl)
    rw [d7, sel_true]
    have hz := blk_cell k7
    refine value_ (N := some 25) (v := .int .i64 p1) (w1 := w') rfl rfl ?_ (hK _ _ ⟨(by simp [Act.put, upd, sel_true, d7]), HB, k5, k6, k7, k8⟩)
    first | (go_simp; done) | (go_simp; rfl)
   case o9 =>
    rintro f a w' ⟨rfl, HB, k5, k6, k7, k8⟩ hf hd K hK
    refine value_ (N := some 26) (v := .pointer (some ⟨g8, 1, none⟩)) (w1 := w') rfl rfl ?_ (hK _ _ ⟨rfl, HB, k5, k6, k7, k8⟩)
    first | (go_simp; done) | (go_simp; rfl)
   case o10 =>
    rintro f a w' ⟨rfl, HB, k5, k6, k7, k8⟩ hf hd K hK
    have d9 := hd 9 (by kernel_rfl)
    rw [d9, sel_true]
    have hz := blk_cell k8
    refine value_ (N := some 27) (v := .int .i64 m1) (w1 := w') rfl rfl ?_ (hK _ _ ⟨(by simp [Act.put, upd, sel_true, d9]), HB, k5, k6, k7, k8⟩)
    first | (go_simp; done) | (go_simp; rfl)
   case o11 =>
    rintro f a w' ⟨rfl, HB, k5, k6, k7, k8⟩ hf hd K hK
    have d6 := hd 6 (by kernel_rfl)
    have d8 := hd 8 (by kernel_rfl)
    have d10 := hd 10 (by kernel_rfl)
    rw [d6, d8, d10, sel_true, sel_true, sel_true]
    refine goesF_ (some 28) #[.pointer (some ⟨g5, 0, none⟩)] Try.func68 (by kernel_rfl) rfl #[.int .i64 p1, .int .i64 m1, .pointer (some ⟨g5, 0, none⟩)] (by rfl) rfl rfl (by rfl) (by simp only [List.map_toArray, List.map_cons, List.map_nil, List.append_toArray, List.cons_append, List.nil_append]; rfl) ?_
    refine (sharp1_calls k a2 p1 m1 x1 g5 _ k5 e5).mono ?_
    rintro e w1 ⟨rfl, hb⟩
    exact ⟨_, rfl, hK _ _ ⟨(by simp [Act.put, upd, sel_true, d6, d8, d10]), below_step HB hb, blk_below k5 hb, blk_below k6 hb, blk_below k7 hb, blk_below k8 hb⟩⟩
   case o12 =>
    rintro f a w' ⟨rfl, HB, k5, k6, k7, k8⟩ hf hd K hK
    refine value_ (N := some 29) (v := .func (.func 68) #[] #[.pointer (some ⟨g5, 0, none⟩)]) (w1 := w') rfl rfl ?_ (hK _ _ ⟨rfl, HB, k5, k6, k7, k8⟩)
    first | (go_simp; done) | (go_simp; rfl)
   case o13 =>
    rintro f a w' ⟨rfl, HB, k5, k6, k7, k8⟩ hf hd K hK
    refine value_ (N := some 30) (v := .pointer (some ⟨g7, 2, none⟩)) (w1 := w') rfl rfl ?_ (hK _ _ ⟨rfl, HB, k5, k6, k7, k8⟩)
    first | (go_simp; done) | (go_simp; rfl)
   case o14 =>
    rintro f a w' ⟨rfl, HB, k5, k6, k7, k8⟩ hf hd K hK
    have d13 := hd 13 (by kernel_rfl)
    rw [d13, sel_true]
    have hz := blk_cell k7
    refine value_ (N := some 31) (v := .int .i64 p2) (w1 := w') rfl rfl ?_ (hK _ _ ⟨(by simp [Act.put, upd, sel_true, d13]), HB, k5, k6, k7, k8⟩)
    first | (go_simp; done) | (go_simp; rfl)
   case o15 =>
    rintro f a w' ⟨rfl, HB, k5, k6, k7, k8⟩ hf hd K hK
    refine value_ (N := some 32) (v := .pointer (some ⟨g8, 2, none⟩)) (w1 := w') rfl rfl ?_ (hK _ _ ⟨rfl, HB, k5, k6, k7, k8⟩)
    first | (go_simp; done) | (go_simp; rfl)
   case o16 =>
    rintro f a w' ⟨rfl, HB, k5, k6, k7, k8⟩ hf hd K hK
    have d15 := hd 15 (by kernel_rfl)
    rw [d15, sel_true]
    have hz := blk_cell k8
    refine value_ (N := some 33) (v := .int .i64 m2) (w1 := w') rfl rfl ?_ (hK _ _ ⟨(by simp [Act.put, upd, sel_true, d15]), HB, k5, k6, k7, k8⟩)
    first | (go_simp; done) | (go_simp; rfl)
   case o17 =>
    rintro f a w' ⟨rfl, HB, k5, k6, k7, k8⟩ hf hd K hK
    have d12 := hd 12 (by kernel_rfl)
    have d14 := hd 14 (by kernel_rfl)
    have d16 := hd 16 (by kernel_rfl)
    rw [d12, d14, d16, sel_true, sel_true, sel_true]
    refine goesF_ (some 34) #[.pointer (some ⟨g5, 0, none⟩)] Try.func68 (by kernel_rfl) rfl #[.int .i64 p2, .int .i64 m2, .pointer (some ⟨g5, 0, none⟩)] (by rfl) rfl rfl (by rfl) (by simp only [List.map_toArray, List.map_cons, List.map_nil, List.append_toArray, List.cons_append, List.nil_append]; rfl) ?_
    refine (sharp1_calls k a2 p2 m2 x2 g5 _ k5 e6).mono ?_
    rintro e w1 ⟨rfl, hb⟩
    exact ⟨_, rfl, hK _ _ ⟨(by simp [Act.put, upd, sel_true, d12, d14, d16]), below_step HB hb, blk_below k5 hb, blk_below k6 hb, blk_below k7 hb, blk_below k8 hb⟩⟩
   case o18 =>
    rintro f a w' ⟨rfl, HB, k5, k6, k7, k8⟩ hf hd K hK
    refine value_ (N := some 35) (v := .pointer (some ⟨g7, 3, none⟩)) (w1 := w') rfl rfl ?_ (hK _ _ ⟨rfl, HB, k5, k6, k7, k8⟩)
    first | (go_simp; done) | (go_simp; rfl)
   case o19 =>
    rintro f a w' ⟨rfl, HB, k5, k6, k7, k8⟩ hf hd K hK
    have d18 := hd 18 (by kernel_rfl)
    rw [d18, sel_true]
    have hz := blk_cell k7
    refine value_ (N := some 36) (v := .int .i64 p3) (w1 := w') rfl rfl ?_ (hK _ _ ⟨(by simp [Act.put, upd, sel_true, d18]), HB, k5, k6, k7, k8⟩)
    first | (go_simp; done) | (go_simp; rfl)
   case o20 =>
    rintro f a w' ⟨rfl, HB, k5, k6, k7, k8⟩ hf hd K hK
    have d5 := hd 5 (by kernel_rfl)
    have d11 := hd 11 (by kernel_rfl)
    have d17 := hd 17 (by kernel_rfl)
    have d19 := hd 19 (by kernel_rfl)
    rw [d5, d11, d17, d19, sel_true, sel_true, sel_true, sel_true]
    refine value_ (N := some 37) (v := .agg #[.int .i64 x0, .int .i64 x1, .int .i64 x2, .int .i64 p3]) (w1 := w') rfl rfl ?_ (hK _ _ ⟨(by simp [Act.put, upd, sel_true, d5, d11, d17, d19]), HB, k5, k6, k7, k8⟩)
    first | (go_simp; done) | (go_simp; rfl)
   case o21 =>
    rintro f a w' ⟨rfl, HB, k5, k6, k7, k8⟩ hf hd K hK
    have d20 := hd 20 (by kernel_rfl)
    rw [d20, sel_true]
    rw [hf, if_neg (by decide)] at k6
    have hz := blk_cell k6
    have hz' := blk_frozen k6
    have e5 : g5 ≠ g6 := by omega
    have e7 : g7 ≠ g6 := by omega
    have e8 : g8 ≠ g6 := by omega
    refine skip_ (w1 := ((((w'.setCell ⟨g6, 0, none⟩ (.int .i64 x0)).setCell ⟨g6, 1, none⟩ (.int .i64 x1)).setCell ⟨g6, 2, none⟩ (.int .i64 x2)).setCell ⟨g6, 3, none⟩ (.int .i64 p3))) rfl rfl ?_ (hK _ _ ⟨(by simp [Act.put, upd, sel_true, d20]), below_set (below_set (below_set (below_set HB (by omega)) (by omega)) (by omega)) (by omega), blk_far (blk_far (blk_far (blk_far k5 (p := ⟨g6, 0, none⟩) e5 _) (p := ⟨g6, 1, none⟩) e5 _) (p := ⟨g6, 2, none⟩) e5 _) (p := ⟨g6, 3, none⟩) e5 _, (blk_put (cs := #[.int .i64 x0, .int .i64 x1, .int .i64 x2, .int .i64 0]) (cs' := #[.int .i64 x0, .int .i64 x1, .int .i64 x2, .int .i64 p3]) (blk_put (cs := #[.int .i64 x0, .int .i64 x1, .int .i64 0, .int .i64 0]) (cs' := #[.int .i64 x0, .int .i64 x1, .int .i64 x2, .int .i64 0]) (blk_put (cs := #[.int .i64 x0, .int .i64 0, .int .i64 0, .int .i64 0]) (cs' := #[.int .i64 x0, .int .i64 x1, .int .i64 0, .int .i64 0]) (blk_put (cs := #[.int .i64 0, .int .i64 0, .int .i64 0, .int .i64 0]) (cs' := #[.int .i64 x0, .int .i64 0, .int .i64 0, .int .i64 0]) k6 0 (.int .i64 x0) rfl) 1 (.int .i64 x1) rfl) 2 (.int .i64 x2) rfl) 3 (.int .i64 p3) rfl), blk_far (blk_far (blk_far (blk_far k7 (p := ⟨g6, 0, none⟩) e7 _) (p := ⟨g6, 1, none⟩) e7 _) (p := ⟨g6, 2, none⟩) e7 _) (p := ⟨g6, 3, none⟩) e7 _, blk_far (blk_far (blk_far (blk_far k8 (p := ⟨g6, 0, none⟩) e8 _) (p := ⟨g6, 1, none⟩) e8 _) (p := ⟨g6, 2, none⟩) e8 _) (p := ⟨g6, 3, none⟩) e8 _⟩)
    first | (go_simp; done) | (go_simp; rfl)
  case fin =>
   rintro f a w' hall ⟨rfl, HB, k5, k6, k7, k8⟩
   have h21 := hall 21 (by decide)
   rw [if_pos h21] at k6
   go_wp2
   refine bodyPost_ret (results_cell_row rfl _ _ g6 51 #[.int .i64 x0, .int .i64 x1, .int .i64 x2, .int .i64 p3] (0, 0) _ rfl k6 Try.underlying51 rfl (by kernel_rfl)) rfl ?_
   exact ⟨rfl, HB⟩


/-! ### filter_view_gray: function 56 -/
def filter_view_gray.f (a0_0 : Int) (a0_1 : Int) (l0_2 : List (S51)) (a0_3 : Int) (a0_4 : Int) (a0_5 : Int) (a0_6 : Int) (a0_7 : Int) (a0_8 : Int) (a0_9 : Int) (a0_10 : Int) (a1 : Int) : Option (Int × Int × Int × Int) := (num_Clamp.f a1 0 65535).bind fun t268 => ((filter_view_get.f a0_0 a0_1 l0_2 a0_3 a0_4 a0_5 a0_6 a0_7 a0_8 a0_9 a0_10 0 0).bind fun bt269 => (some (t268, t268, t268, bt269.2.2.2)))
set_option maxHeartbeats 8000000 in
set_option maxRecDepth 100000 in
theorem filter_view_gray.calls (a0_0 : Int) (a0_1 : Int) (A0_2 : Option Addr) (c0_2 : Nat) (l0_2 : List (S51)) (a0_3 : Int) (a0_4 : Int) (a0_5 : Int) (a0_6 : Int) (a0_7 : Int) (a0_8 : Int) (a0_9 : Int) (a0_10 : Int) (a1 : Int) (r1 : Int) (r2 : Int) (r3 : Int) (r4 : Int) (w : World) (hr0_2 : Kd.C k51 w A0_2 l0_2.length l0_2) (hc0_2 : l0_2.length ≤ c0_2) (h : filter_view_gray.f a0_0 a0_1 l0_2 a0_3 a0_4 a0_5 a0_6 a0_7 a0_8 a0_9 a0_10 a1 = some (r1, r2, r3, r4)) :
  Calls Try.prog 56 #[.agg #[.int .i64 a0_0, .int .i64 a0_1, .slice A0_2 l0_2.length c0_2, .int .i64 a0_3, .int .i64 a0_4, .int .i64 a0_5, .int .i64 a0_6, .int .i64 a0_7, .int .i64 a0_8, .int .i64 a0_9, .int .i64 a0_10], .int .i64 a1] w fun e w' => e = .returned (.agg #[.int .i64 r1, .int .i64 r2, .int .i64 r3, .int .i64 r4]) ∧ Below w.heap.size w w' := by
 have hu71 := Try.underlying71
 have hu51 := Try.underlying51
 have HR0_2 := Aside0.mk hr0_2
 have HC0_2 := Aside0.mk hc0_2
 clear hr0_2 hc0_2
 have HB := am (Below.refl w.heap.size w)
 have H : ((num_Clamp.f a1 0 65535).bind fun t268 => ((filter_view_get.f a0_0 a0_1 l0_2 a0_3 a0_4 a0_5 a0_6 a0_7 a0_8 a0_9 a0_10 0 0).bind fun bt269 => (some (t268, t268, t268, bt269.2.2.2)))) = some (r1, r2, r3, r4) := h
 clear h
 replace H := Option.bind_eq_some_iff.mp H
 obtain ⟨t268, A30, H⟩ := H
 replace H : ((filter_view_get.f a0_0 a0_1 l0_2 a0_3 a0_4 a0_5 a0_6 a0_7 a0_8 a0_9 a0_10 0 0).bind fun bt269 => (some (t268, t268, t268, bt269.2.2.2))) = some (r1, r2, r3, r4) := H
 have A3 := Aside0.mk A30
 clear A30
 replace H := Option.bind_eq_some_iff.mp H
 obtain ⟨⟨t269, t270, t271, t272⟩, A40, H⟩ := H
 replace H : (some (t268, t268, t268, t272)) = some (r1, r2, r3, r4) := H
 have A4 := Aside0.mk A40
 clear A40
 simp only [Option.some.injEq, Prod.mk.injEq] at H
 obtain ⟨rfl, rfl, rfl, rfl⟩ := H
 have hfd : ∀ (x y z u : Int) (w : World), (Instr.field 51 (.agg #[.int .i64 x, .int .i64 y, .int .i64 z, .int .i64 u]) 3).run Try.prog w = .ok (.int .i64 u) w := fun _ _ _ _ _ => by kernel_rfl
 go_enter Try.func56, Try.ntmps56
 go_wp2_with (first | ((with_reducible refine gate_dst (N := 2) rfl ?_); refine boxE (N := 2) #[.int .i64 a0_0, .int .i64 a0_1, .slice A0_2 l0_2.length c0_2, .int .i64 a0_3, .int .i64 a0_4, .int .i64 a0_5, .int .i64 a0_6, .int .i64 a0_7, .int .i64 a0_8, .int .i64 a0_9, .int .i64 a0_10] 71 ?_; intro gb266 hg w5 hbox hb; have BK266 := am (hbox); have GW266 := gW hg HB; have GE266 := gW hg HB; replace HB := hYb HB hb; clear hb hbox hg) | ((with_reducible refine gate_dst (N := 4) rfl ?_); refine boxE (N := 4) #[.int .i64 0, .int .i64 0, .int .i64 0, .int .i64 0] 51 ?_; intro gb267 hg w6 hbox hb; have BK267 := am (hbox); have GW267 := gW hg HB; have GE267 := gW hg HB; have NB266_267 := nL hg BK266; have NB267_266 := nG hg BK266; replace BK266 := bY BK266 hb; replace HB := hYb HB hb; clear hb hbox hg) | ((with_reducible refine gate_callee (f := 69) rfl ?_); refine goesP (some 6) Try.func69 #[.int .i64 a1, .int .i64 0, .int .i64 65535] ?_; (with_reducible refine (num_Clamp.calls a1 0 65535 t268 _ A3.out).mono ?_); rintro e w7 ⟨rfl, hb⟩; refine ⟨_, rfl, ?_⟩; replace BK266 := bY BK266 hb; replace BK267 := bY BK267 hb; replace HB := hYb HB hb; (try clear hb); (try clear hb2); (try clear hk); (try clear hi); have hnb8 := NB266_267.out; have hnc8 := NB267_266.out; have hcz9_0 := blk_cell BK266.out; have hfz9_0 := blk_frozen BK266.out) | ((with_reducible refine gate_callee (f := 66) rfl ?_); refine goesP (some 11) Try.func66 #[.agg #[.int .i64 a0_0, .int .i64 a0_1, .slice A0_2 l0_2.length c0_2, .int .i64 a0_3, .int .i64 a0_4, .int .i64 a0_5, .int .i64 a0_6, .int .i64 a0_7, .int .i64 a0_8, .int .i64 a0_9, .int .i64 a0_10], .int .i64 0, .int .i64 0] ?_; (with_reducible refine (filter_view_get.calls a0_0 a0_1 _ _ l0_2 a0_3 a0_4 a0_5 a0_6 a0_7 a0_8 a0_9 a0_10 0 0 t269 t270 t271 t272 _ ?side1 ?side2 A4.out).mono ?_); (case side1 => repeat (first | exact (Kd.C_below HR0_2.out HB.out) | (with_reducible refine Kd.C_alloc ?_ _) | (with_reducible refine Kd.C_drewN ?_ _) | (with_reducible refine Kd.C_drew ?_))); (case side2 => exact HC0_2.out); rintro e w10 ⟨rfl, hb⟩; refine ⟨_, rfl, ?_⟩; replace BK266 := bY BK266 hb; replace BK267 := bY BK267 hb; replace HB := hYb HB hb; (try clear hb); (try clear hb2); (try clear hk); (try clear hi); have hcz11_0 := blk_cell BK267.out; have hfz11_0 := blk_frozen BK267.out))
 refine bodyPost_ret (results_cell_row rfl _ _ gb267 51 #[.int .i64 t268, .int .i64 t268, .int .i64 t268, .int .i64 t272] (0, 0) _ rfl (by refine bO ?_; refine blk_put (cs := #[.int .i64 t268, .int .i64 t268, .int .i64 t268, .int .i64 0]) ?_ 3 _ rfl; refine bO ?_; refine blk_put (cs := #[.int .i64 t268, .int .i64 t268, .int .i64 0, .int .i64 0]) ?_ 2 _ rfl; refine bO ?_; refine blk_put (cs := #[.int .i64 t268, .int .i64 0, .int .i64 0, .int .i64 0]) ?_ 1 _ rfl; refine bO ?_; refine blk_put (cs := #[.int .i64 0, .int .i64 0, .int .i64 0, .int .i64 0]) ?_ 0 _ rfl; refine bO ?_; exact BK267.out) Try.underlying51 rfl (by kernel_rfl)) rfl ?_
 exact ⟨by first | rfl | (simp [errW_none, errW_some] <;> rfl) | (simp [*, errW_none, errW_some] <;> rfl), by repeat (first | (with_reducible first | exact HB.out | apply below_alloc | apply pw_below_drewN | apply below_drew1 | refine below_set ?_ GE266.out | refine below_set ?_ GE267.out) | exact HB.out)⟩

/-! ### pixel_Luma: function 72 -/
def pixel_Luma.f (k : Nat) (a0_0 : Int) (a0_1 : Int) (a0_2 : Int) (a0_3 : Int) : Option (Int) := (pixel_Limit.f a0_0 a0_1 a0_2 a0_3).bind fun bt274 => ((num_Div.f k (wrap64 ((wrap64 ((wrap64 (13933 * bt274.1)) + (wrap64 (46871 * bt274.2.1)))) + (wrap64 (4731 * bt274.2.2.1)))) 65535).bind fun t278 => (some t278))
theorem pixel_Luma.mono : ∀ a0 a1 a2 a3 k, LeO (pixel_Luma.f k a0 a1 a2 a3) (pixel_Luma.f (k + 1) a0 a1 a2 a3) := by
 intro a0 a1 a2 a3 k
 unfold pixel_Luma.f
 repeat' first
   | (with_reducible exact num_Div.mono _ _ _)
   | (with_reducible exact LeO.refl _)
   | (with_reducible exact LeO.none _)
   | (with_reducible refine LeO.ite ?_ ?_)
   | (with_reducible refine LeO.bind ?_ (fun _ => ?_))
   | exact num_Div.mono _ _ _
   | exact LeO.none _
   | refine LeO.ite ?_ ?_
   | refine LeO.bind ?_ (fun _ => ?_)
set_option maxHeartbeats 8000000 in
set_option maxRecDepth 100000 in
theorem pixel_Luma.calls (k : Nat) (a0_0 : Int) (a0_1 : Int) (a0_2 : Int) (a0_3 : Int) (r : Int) (w : World) (h : pixel_Luma.f k a0_0 a0_1 a0_2 a0_3 = some r) :
  Calls Try.prog 72 #[.agg #[.int .i64 a0_0, .int .i64 a0_1, .int .i64 a0_2, .int .i64 a0_3]] w fun e w' => e = .returned (.int .i64 r) ∧ Below w.heap.size w w' := by
 have hu51 := Try.underlying51
 have HB := am (Below.refl w.heap.size w)
 have H : ((pixel_Limit.f a0_0 a0_1 a0_2 a0_3).bind fun bt274 => ((num_Div.f k (wrap64 ((wrap64 ((wrap64 (13933 * bt274.1)) + (wrap64 (46871 * bt274.2.1)))) + (wrap64 (4731 * bt274.2.2.1)))) 65535).bind fun t278 => (some t278))) = some r := h
 clear h
 replace H := Option.bind_eq_some_iff.mp H
 obtain ⟨⟨t274, t275, t276, t277⟩, A20, H⟩ := H
 replace H : ((num_Div.f k (wrap64 ((wrap64 ((wrap64 (13933 * t274)) + (wrap64 (46871 * t275)))) + (wrap64 (4731 * t276)))) 65535).bind fun t278 => (some t278)) = some r := H
 have A2 := Aside0.mk A20
 clear A20
 replace H := Option.bind_eq_some_iff.mp H
 obtain ⟨t278, A30, H⟩ := H
 replace H : (some t278) = some r := H
 have A3 := Aside0.mk A30
 clear A30
 obtain rfl := Option.some.inj H
 go_enter Try.func72, Try.ntmps72
 go_wp2_with (first | ((with_reducible refine gate_dst (N := 1) rfl ?_); refine boxE (N := 1) #[.int .i64 a0_0, .int .i64 a0_1, .int .i64 a0_2, .int .i64 a0_3] 51 ?_; intro gb273 hg w4 hbox hb; have BK273 := am (hbox); have GW273 := gW hg HB; have GE273 := gW hg HB; replace HB := hYb HB hb; clear hb hbox hg; have hcz5_0 := blk_cell BK273.out; have hfz5_0 := blk_frozen BK273.out) | ((with_reducible refine gate_callee (f := 63) rfl ?_); refine goesP (some 4) Try.func63 #[.agg #[.int .i64 a0_0, .int .i64 a0_1, .int .i64 a0_2, .int .i64 a0_3]] ?_; (with_reducible refine (pixel_Limit.calls a0_0 a0_1 a0_2 a0_3 t274 t275 t276 t277 _ A2.out).mono ?_); rintro e w6 ⟨rfl, hb⟩; refine ⟨_, rfl, ?_⟩; replace BK273 := bY BK273 hb; replace HB := hYb HB hb; (try clear hb); (try clear hb2); (try clear hk); (try clear hi); have hcz7_0 := blk_cell BK273.out; have hfz7_0 := blk_frozen BK273.out) | ((with_reducible refine gate_callee (f := 70) rfl ?_); refine goesP (some 16) Try.func70 #[.int .i64 (wrap64 ((wrap64 ((wrap64 (13933 * t274)) + (wrap64 (46871 * t275)))) + (wrap64 (4731 * t276)))), .int .i64 65535] ?_; (with_reducible refine (num_Div.calls k (wrap64 ((wrap64 ((wrap64 (13933 * t274)) + (wrap64 (46871 * t275)))) + (wrap64 (4731 * t276)))) 65535 t278 _ A3.out).mono ?_); rintro e w' ⟨rfl, ⟨nd, rfl⟩⟩; refine ⟨_, rfl, ?_⟩))
 go_ret
 exact ⟨by first | rfl | (simp [errW_none, errW_some] <;> rfl) | (simp [*, errW_none, errW_some] <;> rfl), by repeat (first | (with_reducible first | exact HB.out | apply below_alloc | apply pw_below_drewN | apply below_drew1 | refine below_set ?_ GE273.out) | exact HB.out)⟩

/-! ### filter_view_luma: function 57 -/
def filter_view_luma.f (k : Nat) (a0_0 : Int) (a0_1 : Int) (l0_2 : List (S51)) (a0_3 : Int) (a0_4 : Int) (a0_5 : Int) (a0_6 : Int) (a0_7 : Int) (a0_8 : Int) (a0_9 : Int) (a0_10 : Int) (a1 : Int) (a2 : Int) : Option (Int) := (filter_view_get.f a0_0 a0_1 l0_2 a0_3 a0_4 a0_5 a0_6 a0_7 a0_8 a0_9 a0_10 a1 a2).bind fun bt280 => ((pixel_Luma.f k bt280.1 bt280.2.1 bt280.2.2.1 bt280.2.2.2).bind fun t284 => (some t284))
theorem filter_view_luma.mono : ∀ a0 a1 a2 a3 a4 a5 a6 a7 a8 a9 a10 a11 a12 k, LeO (filter_view_luma.f k a0 a1 a2 a3 a4 a5 a6 a7 a8 a9 a10 a11 a12) (filter_view_luma.f (k + 1) a0 a1 a2 a3 a4 a5 a6 a7 a8 a9 a10 a11 a12) := by
 intro a0 a1 a2 a3 a4 a5 a6 a7 a8 a9 a10 a11 a12 k
 unfold filter_view_luma.f
 repeat' first
   | (with_reducible exact pixel_Luma.mono _ _ _ _ _)
   | (with_reducible exact LeO.refl _)
   | (with_reducible exact LeO.none _)
   | (with_reducible refine LeO.ite ?_ ?_)
   | (with_reducible refine LeO.bind ?_ (fun _ => ?_))
   | exact pixel_Luma.mono _ _ _ _ _
   | exact LeO.none _
   | refine LeO.ite ?_ ?_
   | refine LeO.bind ?_ (fun _ => ?_)
set_option maxHeartbeats 8000000 in
set_option maxRecDepth 100000 in
theorem filter_view_luma.calls (k : Nat) (a0_0 : Int) (a0_1 : Int) (A0_2 : Option Addr) (c0_2 : Nat) (l0_2 : List (S51)) (a0_3 : Int) (a0_4 : Int) (a0_5 : Int) (a0_6 : Int) (a0_7 : Int) (a0_8 : Int) (a0_9 : Int) (a0_10 : Int) (a1 : Int) (a2 : Int) (r : Int) (w : World) (hr0_2 : Kd.C k51 w A0_2 l0_2.length l0_2) (hc0_2 : l0_2.length ≤ c0_2) (h : filter_view_luma.f k a0_0 a0_1 l0_2 a0_3 a0_4 a0_5 a0_6 a0_7 a0_8 a0_9 a0_10 a1 a2 = some r) :
  Calls Try.prog 57 #[.agg #[.int .i64 a0_0, .int .i64 a0_1, .slice A0_2 l0_2.length c0_2, .int .i64 a0_3, .int .i64 a0_4, .int .i64 a0_5, .int .i64 a0_6, .int .i64 a0_7, .int .i64 a0_8, .int .i64 a0_9, .int .i64 a0_10], .int .i64 a1, .int .i64 a2] w fun e w' => e = .returned (.int .i64 r) ∧ Below w.heap.size w w' := by
 have hu71 := Try.underlying71
 have HR0_2 := Aside0.mk hr0_2
 have HC0_2 := Aside0.mk hc0_2
 clear hr0_2 hc0_2
 have HB := am (Below.refl w.heap.size w)
 have H : ((filter_view_get.f a0_0 a0_1 l0_2 a0_3 a0_4 a0_5 a0_6 a0_7 a0_8 a0_9 a0_10 a1 a2).bind fun bt280 => ((pixel_Luma.f k bt280.1 bt280.2.1 bt280.2.2.1 bt280.2.2.2).bind fun t284 => (some t284))) = some r := h
 clear h
 replace H := Option.bind_eq_some_iff.mp H
 obtain ⟨⟨t280, t281, t282, t283⟩, A40, H⟩ := H
 replace H : ((pixel_Luma.f k t280 t281 t282 t283).bind fun t284 => (some t284)) = some r := H
 have A4 := Aside0.mk A40
 clear A40
 replace H := Option.bind_eq_some_iff.mp H
 obtain ⟨t284, A50, H⟩ := H
 replace H : (some t284) = some r := H
 have A5 := Aside0.mk A50
 clear A50
 obtain rfl := Option.some.inj H
 go_enter Try.func57, Try.ntmps57
 go_wp2_with (first | ((with_reducible refine gate_dst (N := 3) rfl ?_); refine boxE (N := 3) #[.int .i64 a0_0, .int .i64 a0_1, .slice A0_2 l0_2.length c0_2, .int .i64 a0_3, .int .i64 a0_4, .int .i64 a0_5, .int .i64 a0_6, .int .i64 a0_7, .int .i64 a0_8, .int .i64 a0_9, .int .i64 a0_10] 71 ?_; intro gb279 hg w6 hbox hb; have BK279 := am (hbox); have GW279 := gW hg HB; have GE279 := gW hg HB; replace HB := hYb HB hb; clear hb hbox hg; have hcz7_0 := blk_cell BK279.out; have hfz7_0 := blk_frozen BK279.out) | ((with_reducible refine gate_callee (f := 66) rfl ?_); refine goesP (some 10) Try.func66 #[.agg #[.int .i64 a0_0, .int .i64 a0_1, .slice A0_2 l0_2.length c0_2, .int .i64 a0_3, .int .i64 a0_4, .int .i64 a0_5, .int .i64 a0_6, .int .i64 a0_7, .int .i64 a0_8, .int .i64 a0_9, .int .i64 a0_10], .int .i64 a1, .int .i64 a2] ?_; (with_reducible refine (filter_view_get.calls a0_0 a0_1 _ _ l0_2 a0_3 a0_4 a0_5 a0_6 a0_7 a0_8 a0_9 a0_10 a1 a2 t280 t281 t282 t283 _ ?side1 ?side2 A4.out).mono ?_); (case side1 => repeat (first | exact (Kd.C_below HR0_2.out HB.out) | (with_reducible refine Kd.C_alloc ?_ _) | (with_reducible refine Kd.C_drewN ?_ _) | (with_reducible refine Kd.C_drew ?_))); (case side2 => exact HC0_2.out); rintro e w8 ⟨rfl, hb⟩; refine ⟨_, rfl, ?_⟩; replace BK279 := bY BK279 hb; replace HB := hYb HB hb; (try clear hb); (try clear hb2); (try clear hk); (try clear hi)) | ((with_reducible refine gate_callee (f := 72) rfl ?_); refine goesP (some 11) Try.func72 #[.agg #[.int .i64 t280, .int .i64 t281, .int .i64 t282, .int .i64 t283]] ?_; (with_reducible refine (pixel_Luma.calls k t280 t281 t282 t283 t284 _ A5.out).mono ?_); rintro e w9 ⟨rfl, hb⟩; refine ⟨_, rfl, ?_⟩; replace BK279 := bY BK279 hb; replace HB := hYb HB hb; (try clear hb); (try clear hb2); (try clear hk); (try clear hi)))
 go_ret
 exact ⟨by first | rfl | (simp [errW_none, errW_some] <;> rfl) | (simp [*, errW_none, errW_some] <;> rfl), by exact beX HB.out⟩

/-! ### num_times: function 83 -/
def num_times.f (a0 : Int) (a1 : Int) : Option (Int × Int) := some (IntKind.u64.wrap ((IntKind.u64.wrap ((IntKind.u64.wrap ((a0 / 4294967296) * (a1 / 4294967296))) + ((IntKind.u64.wrap ((IntKind.u64.wrap ((a0 / 4294967296) * (Go.bits .and .u64 a1 4294967295))) + ((IntKind.u64.wrap ((Go.bits .and .u64 a0 4294967295) * (Go.bits .and .u64 a1 4294967295))) / 4294967296))) / 4294967296))) + ((IntKind.u64.wrap ((IntKind.u64.wrap ((Go.bits .and .u64 a0 4294967295) * (a1 / 4294967296))) + (Go.bits .and .u64 (IntKind.u64.wrap ((IntKind.u64.wrap ((a0 / 4294967296) * (Go.bits .and .u64 a1 4294967295))) + ((IntKind.u64.wrap ((Go.bits .and .u64 a0 4294967295) * (Go.bits .and .u64 a1 4294967295))) / 4294967296))) 4294967295))) / 4294967296)), Go.bits .or .u64 (IntKind.u64.wrap ((IntKind.u64.wrap ((IntKind.u64.wrap ((Go.bits .and .u64 a0 4294967295) * (a1 / 4294967296))) + (Go.bits .and .u64 (IntKind.u64.wrap ((IntKind.u64.wrap ((a0 / 4294967296) * (Go.bits .and .u64 a1 4294967295))) + ((IntKind.u64.wrap ((Go.bits .and .u64 a0 4294967295) * (Go.bits .and .u64 a1 4294967295))) / 4294967296))) 4294967295))) * 4294967296)) (Go.bits .and .u64 (IntKind.u64.wrap ((Go.bits .and .u64 a0 4294967295) * (Go.bits .and .u64 a1 4294967295))) 4294967295))
set_option maxHeartbeats 8000000 in
set_option maxRecDepth 100000 in
theorem num_times.calls (a0 : Int) (a1 : Int) (r1 : Int) (r2 : Int) (w : World) (h : num_times.f a0 a1 = some (r1, r2)) :
  Calls Try.prog 83 #[.int .u64 a0, .int .u64 a1] w fun e w' => e = .returned (.tuple #[.int .u64 r1, .int .u64 r2]) ∧ Drawn0 w w' := by
 have H : (some (IntKind.u64.wrap ((IntKind.u64.wrap ((IntKind.u64.wrap ((a0 / 4294967296) * (a1 / 4294967296))) + ((IntKind.u64.wrap ((IntKind.u64.wrap ((a0 / 4294967296) * (Go.bits .and .u64 a1 4294967295))) + ((IntKind.u64.wrap ((Go.bits .and .u64 a0 4294967295) * (Go.bits .and .u64 a1 4294967295))) / 4294967296))) / 4294967296))) + ((IntKind.u64.wrap ((IntKind.u64.wrap ((Go.bits .and .u64 a0 4294967295) * (a1 / 4294967296))) + (Go.bits .and .u64 (IntKind.u64.wrap ((IntKind.u64.wrap ((a0 / 4294967296) * (Go.bits .and .u64 a1 4294967295))) + ((IntKind.u64.wrap ((Go.bits .and .u64 a0 4294967295) * (Go.bits .and .u64 a1 4294967295))) / 4294967296))) 4294967295))) / 4294967296)), Go.bits .or .u64 (IntKind.u64.wrap ((IntKind.u64.wrap ((IntKind.u64.wrap ((Go.bits .and .u64 a0 4294967295) * (a1 / 4294967296))) + (Go.bits .and .u64 (IntKind.u64.wrap ((IntKind.u64.wrap ((a0 / 4294967296) * (Go.bits .and .u64 a1 4294967295))) + ((IntKind.u64.wrap ((Go.bits .and .u64 a0 4294967295) * (Go.bits .and .u64 a1 4294967295))) / 4294967296))) 4294967295))) * 4294967296)) (Go.bits .and .u64 (IntKind.u64.wrap ((Go.bits .and .u64 a0 4294967295) * (Go.bits .and .u64 a1 4294967295))) 4294967295))) = some (r1, r2) := h
 clear h
 simp only [Option.some.injEq, Prod.mk.injEq] at H
 obtain ⟨rfl, rfl⟩ := H
 go_enter Try.func83, Try.ntmps83
 go_wp2
 go_ret2
 exact ⟨by first | rfl | (simp; done) | (simp [*]; done), by repeat (first | exact Drawn0.refl _ | apply Drawn0.step)⟩

/-! ### num_size: function 84 -/
def num_size.f (a0 : Int) : Option (Int) := if a0 < 0 then (some (IntKind.u64.wrap (-(IntKind.u64.wrap (a0))))) else (some (IntKind.u64.wrap (a0)))
set_option maxHeartbeats 8000000 in
set_option maxRecDepth 100000 in
theorem num_size.calls (a0 : Int) (r : Int) (w : World) (h : num_size.f a0 = some r) :
  Calls Try.prog 84 #[.int .i64 a0] w fun e w' => e = .returned (.int .u64 r) ∧ Drawn0 w w' := by
 have H : (if a0 < 0 then (some (IntKind.u64.wrap (-(IntKind.u64.wrap (a0))))) else (some (IntKind.u64.wrap (a0)))) = some r := h
 clear h
 by_cases c2 : a0 < 0
 ·rw [if_pos c2] at H
  have c2b0 : decide (a0 < 0) = true := decide_eq_true c2
  clear c2
  obtain rfl := Option.some.inj H
  go_enter Try.func84, Try.ntmps84
  go_wp2
  go_ret
  exact ⟨by first | rfl | (simp; done) | (simp [*]; done), by repeat (first | exact Drawn0.refl _ | apply Drawn0.step)⟩
 ·rw [if_neg c2] at H
  have c2b0 : decide (a0 < 0) = false := decide_eq_false c2
  clear c2
  obtain rfl := Option.some.inj H
  go_enter Try.func84, Try.ntmps84
  go_wp2
  go_ret
  exact ⟨by first | rfl | (simp; done) | (simp [*]; done), by repeat (first | exact Drawn0.refl _ | apply Drawn0.step)⟩

end Go.Proofs.Ytocefehnemahhaa.G
