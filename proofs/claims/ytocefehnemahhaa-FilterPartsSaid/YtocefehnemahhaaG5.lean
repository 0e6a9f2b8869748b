-- laid by gprint.py (a program of this proof's writer) out of the translation; Lean checks it.
import Derived.Test.YtocefehnemahhaaG0
import Derived.Test.YtocefehnemahhaaG1
import Derived.Test.YtocefehnemahhaaG4
namespace Go.Proofs.Ytocefehnemahhaa.G
open Go.RowKit Go.Proofs.YtocefehnemahhaaW.PrintWords Go.Proofs.YtocefehnemahhaaW.PrintLast Go.Proofs.YtocefehnemahhaaW.PrintMore
attribute [local go_sem] max2_int min2_int max_two min_two max_three min_three max_four min_four   -- for this text's walks alone
set_option linter.unusedVariables false
set_option linter.unusedSimpArgs false

attribute [local go_sem high] eqA51
/-! ### pixel_Valid: function 50 -/
def pixel_Valid.f (a0_0 : Int) (a0_1 : Int) (a0_2 : Int) (a0_3 : Int) : Option (Bool) := (pixel_Limit.f a0_0 a0_1 a0_2 a0_3).bind fun bt187 => (some (a0_0 == bt187.1 && (a0_1 == bt187.2.1 && (a0_2 == bt187.2.2.1 && (a0_3 == bt187.2.2.2)))))
set_option maxHeartbeats 8000000 in
set_option maxRecDepth 100000 in
theorem pixel_Valid.calls (a0_0 : Int) (a0_1 : Int) (a0_2 : Int) (a0_3 : Int) (r : Bool) (w : World) (h : pixel_Valid.f a0_0 a0_1 a0_2 a0_3 = some r) :
  Calls Try.prog 50 #[.agg #[.int .i64 a0_0, .int .i64 a0_1, .int .i64 a0_2, .int .i64 a0_3]] w fun e w' => e = .returned (.bool r) ∧ Below w.heap.size w w' := by
 have hu51 := Try.underlying51
 have HB := am (Below.refl w.heap.size w)
 have H : ((pixel_Limit.f a0_0 a0_1 a0_2 a0_3).bind fun bt187 => (some (a0_0 == bt187.1 && (a0_1 == bt187.2.1 && (a0_2 == bt187.2.2.1 && (a0_3 == bt187.2.2.2)))))) = some r := h
 clear h
 replace H := Option.bind_eq_some_iff.mp H
 obtain ⟨⟨t187, t188, t189, t190⟩, A20, H⟩ := H
 replace H : (some (a0_0 == t187 && (a0_1 == t188 && (a0_2 == t189 && (a0_3 == t190))))) = some r := H
 have A2 := Aside0.mk A20
 clear A20
 obtain rfl := Option.some.inj H
 go_enter Try.func50, Try.ntmps50
 try go_wp2_with (first | ((with_reducible refine gate_dst (N := 1) rfl ?_); refine boxE (N := 1) #[.int .i64 a0_0, .int .i64 a0_1, .int .i64 a0_2, .int .i64 a0_3] 51 ?_; intro gb186 hg w3 hbox hb; have BK186 := am (hbox); have GW186 := gW hg HB; have GE186 := gW hg HB; replace HB := hYb HB hb; clear hb hbox hg))
 replace BK186 := am (blk_drew BK186.out)
 replace HB := am (below_drew1 HB.out)
 refine start_ (n := 5) (S := fun w' => w'.cell? ⟨gb186, 0, none⟩ = some (.int .i64 a0_0) ∧ w'.cell? ⟨gb186, 1, none⟩ = some (.int .i64 a0_1) ∧ w'.cell? ⟨gb186, 2, none⟩ = some (.int .i64 a0_2) ∧ w'.cell? ⟨gb186, 3, none⟩ = some (.int .i64 a0_3)) (ds := []) #[false, false, false, false, false] (by kernel_rfl) rfl rfl ⟨(blk_cell BK186.out 0).trans rfl, (blk_cell BK186.out 1).trans rfl, (blk_cell BK186.out 2).trans rfl, (blk_cell BK186.out 3).trans rfl⟩ (fun hHeld => ?_)
 generalize w3.drew = w4 at BK186 HB hHeld ⊢
 refine take_ (i := 0) (N := some 3) (v := ?_) (a' := ?_) #[true, false, false, false, false] rfl rfl (by kernel_rfl) (fun _ _ _ h => h) (Or.inl ⟨by rfl, ?_⟩) hHeld ?_ ?_
 rotate_left
 ·rintro w' ⟨s0, s1, s2, s3⟩
  go_simp
  with_reducible rfl
 rotate_left
 ·simp only [Act.put, List.setIfInBounds_toArray, List.set_cons_zero, List.set_cons_succ, i64_w, i32_w]
  rfl
 refine take_ (i := 1) (N := some 4) (v := ?_) (a' := ?_) #[true, true, false, false, false] rfl rfl (by kernel_rfl) (fun _ _ _ h => h) (Or.inl ⟨by rfl, ?_⟩) hHeld ?_ ?_
 rotate_left
 ·rintro w' ⟨s0, s1, s2, s3⟩
  go_simp
  with_reducible rfl
 rotate_left
 ·simp only [Act.put, List.setIfInBounds_toArray, List.set_cons_zero, List.set_cons_succ, i64_w, i32_w]
  rfl
 refine one_ (i := 2) (N := some 5) #[true, true, true, false, false] rfl rfl (by kernel_rfl) (by decide) (fun K hK => ?_)
 refine goes_ Try.func63 (by kernel_rfl) rfl #[.agg #[.int .i64 a0_0, .int .i64 a0_1, .int .i64 a0_2, .int .i64 a0_3]] (by rfl) rfl rfl (by (try simp only [List.map_toArray, List.map_cons, List.map_nil]); first | done | rfl | (simp only [List.length_drop, List.length_take]; rfl)) ?_
 with_reducible refine (pixel_Limit.calls a0_0 a0_1 a0_2 a0_3 t187 t188 t189 t190 _ A2.out).mono ?_
 rintro e w5 ⟨rfl, hb⟩
 refine ⟨_, rfl, ?_⟩
 replace BK186 := bY BK186 hb
 replace HB := hYb HB hb
 (try clear hb)
 (try clear hb2)
 (try clear hk)
 (try clear hi)
 refine hK.out _ _ ⟨(blk_cell BK186.out 0).trans rfl, (blk_cell BK186.out 1).trans rfl, (blk_cell BK186.out 2).trans rfl, (blk_cell BK186.out 3).trans rfl⟩ (fun hHeld => ?_)
 clear hK K
 refine norm_ (a' := ?_) ?_ ?_
 rotate_left
 ·show Act.put _ (some 5) _ = _
  simp only [Act.put, List.setIfInBounds_toArray, List.set_cons_zero, List.set_cons_succ, i64_w, i32_w]
  rfl
 refine pure_ (i := 3) (N := some 6) (v := ?_) (a' := ?_) #[true, true, true, true, false] rfl rfl (by kernel_rfl) (fun _ _ _ h => h) (Or.inl ⟨by rfl, ?_⟩) ?_ ?_
 rotate_left
 ·intro w'
  go_simp
  with_reducible rfl
 rotate_left
 ·simp only [Act.put, List.setIfInBounds_toArray, List.set_cons_zero, List.set_cons_succ, i64_w, i32_w]
  rfl
 refine pure_ (i := 4) (N := some 2) (v := ?_) (a' := ?_) #[true, true, true, true, true] rfl rfl (by kernel_rfl) (fun _ _ _ h => h) (Or.inl ⟨by rfl, ?_⟩) ?_ ?_
 rotate_left
 ·intro w'
  go_simp
  with_reducible rfl
 rotate_left
 ·simp only [Act.put, List.setIfInBounds_toArray, List.set_cons_zero, List.set_cons_succ, i64_w, i32_w]
  rfl
 refine done_ (by kernel_rfl) ?_
 try go_wp2
 go_ret
 exact ⟨by first | rfl | (simp [errW_none, errW_some] <;> rfl) | (simp [*, errW_none, errW_some] <;> rfl), by exact beX HB.out⟩

/-! ### raster_Check: function 37 -/
mutual
def raster_Check.j0 : Nat → Bool → Int → Int → List (S51) → Option (Int)
 | 0, _, _, _, _ => none
 | k + 1, x21, x192000, x192001, x192002 => if x21 = true then (some 15) else (raster_Check.l0 k x192002 (x192002.length : Int) 0)
def raster_Check.l0 : Nat → List (S51) → Int → Int → Option (Int)
 | 0, _, _, _ => none
 | k + 1, x23, x24, x25 => if x25 < x24 then (if 0 ≤ x25 then (if x25 < (x23.length : Int) then ((pixel_Valid.f ((rd_T51 x23 x25).f0) ((rd_T51 x23 x25).f1) ((rd_T51 x23 x25).f2) ((rd_T51 x23 x25).f3)).bind fun t195 => (if t195 = true then (raster_Check.l0 k x23 x24 (wrap64 (x25 + 1))) else (some 2))) else (none)) else (none)) else (some 0)
end
def raster_Check.f (k : Nat) (a0_0 : Int) (a0_1 : Int) (l0_2 : List (S51)) : Option (Int) := (raster_sides.f a0_0 a0_1).bind fun t192 => (if t192 = 0 then (raster_Check.j0 k ((l0_2.length : Int) != (wrap64 (a0_0 * a0_1))) a0_0 a0_1 l0_2) else (raster_Check.j0 k true a0_0 a0_1 l0_2))
theorem raster_Check.mono_l : ∀ k, (∀ y0 y1 y2 y3, LeO (raster_Check.j0 k y0 y1 y2 y3) (raster_Check.j0 (k + 1) y0 y1 y2 y3)) ∧ (∀ y0 y1 y2, LeO (raster_Check.l0 k y0 y1 y2) (raster_Check.l0 (k + 1) y0 y1 y2))
 | 0 => ⟨fun _ _ _ _ r h => by simp [raster_Check.j0] at h, fun _ _ _ r h => by simp [raster_Check.l0] at h⟩
 | k + 1 => by
  obtain ⟨ih0, ih1⟩ := raster_Check.mono_l k
  refine ⟨?_, ?_⟩
  ·intro y0 y1 y2 y3
   unfold raster_Check.j0
   repeat' first
   | (with_reducible exact ih0 _ _ _ _)
   | (with_reducible exact ih1 _ _ _)
   | (with_reducible exact LeO.refl _)
   | (with_reducible exact LeO.none _)
   | (with_reducible refine LeO.ite ?_ ?_)
   | (with_reducible refine LeO.bind ?_ (fun _ => ?_))
   | exact ih0 _ _ _ _
   | exact ih1 _ _ _
   | exact LeO.none _
   | refine LeO.ite ?_ ?_
   | refine LeO.bind ?_ (fun _ => ?_)
  ·intro y0 y1 y2
   unfold raster_Check.l0
   repeat' first
   | (with_reducible exact ih0 _ _ _ _)
   | (with_reducible exact ih1 _ _ _)
   | (with_reducible exact LeO.refl _)
   | (with_reducible exact LeO.none _)
   | (with_reducible refine LeO.ite ?_ ?_)
   | (with_reducible refine LeO.bind ?_ (fun _ => ?_))
   | exact ih0 _ _ _ _
   | exact ih1 _ _ _
   | exact LeO.none _
   | refine LeO.ite ?_ ?_
   | refine LeO.bind ?_ (fun _ => ?_)
theorem raster_Check.mono : ∀ a0 a1 a2 k, LeO (raster_Check.f k a0 a1 a2) (raster_Check.f (k + 1) a0 a1 a2) := by
 intro a0 a1 a2 k
 obtain ⟨ih0, ih1⟩ := raster_Check.mono_l k
 unfold raster_Check.f
 repeat' first
   | (with_reducible exact ih0 _ _ _ _)
   | (with_reducible exact ih1 _ _ _)
   | (with_reducible exact LeO.refl _)
   | (with_reducible exact LeO.none _)
   | (with_reducible refine LeO.ite ?_ ?_)
   | (with_reducible refine LeO.bind ?_ (fun _ => ?_))
   | exact ih0 _ _ _ _
   | exact ih1 _ _ _
   | exact LeO.none _
   | refine LeO.ite ?_ ?_
   | refine LeO.bind ?_ (fun _ => ?_)
set_option maxHeartbeats 8000000 in
set_option maxRecDepth 100000 in
theorem raster_Check.calls (k : Nat) (a0_0 : Int) (a0_1 : Int) (A0_2 : Option Addr) (c0_2 : Nat) (l0_2 : List (S51)) (r : Int) (w : World) (hr0_2 : Kd.C k51 w A0_2 l0_2.length l0_2) (hc0_2 : l0_2.length ≤ c0_2) (h : raster_Check.f k a0_0 a0_1 l0_2 = some r) :
  Calls Try.prog 37 #[.agg #[.int .i64 a0_0, .int .i64 a0_1, .slice A0_2 l0_2.length c0_2]] w fun e w' => e = .returned (.int .i64 r) ∧ Below w.heap.size w w' := by
 have hu36 := Try.underlying36
 have hu51 := Try.underlying51
 have HR0_2 := Aside0.mk hr0_2
 have HC0_2 := Aside0.mk hc0_2
 clear hr0_2 hc0_2
 have HB := am (Below.refl w.heap.size w)
 have H : ((raster_sides.f a0_0 a0_1).bind fun t192 => (if t192 = 0 then (raster_Check.j0 k ((l0_2.length : Int) != (wrap64 (a0_0 * a0_1))) a0_0 a0_1 l0_2) else (raster_Check.j0 k true a0_0 a0_1 l0_2))) = some r := h
 clear h
 have HC2 := Aside0.mk H
 clear H
 go_enter Try.func37, Try.ntmps37
 go_upto_region 1 with (first | ((with_reducible refine gate_dst (N := 1) rfl ?_); (try (refine gate_guard (by rfl) ?_; dsimp only)); refine boxE (N := 1) #[.int .i64 a0_0, .int .i64 a0_1, .slice A0_2 l0_2.length c0_2] 36 ?_; intro gb191 hg w3 hbox hb; have BK191 := am (hbox); have GW191 := gW hg HB; have GE191 := gW hg HB; replace HB := hYb HB hb; clear hb hbox hg))
 (try simp only [Act.put, List.setIfInBounds_toArray, List.set_cons_zero, List.set_cons_succ])
 go_cut [21] (fun v21 wc => ∃ (kq : Nat) (x21_1 : Bool), v21 = .bool x21_1 ∧ Aside0 (raster_Check.j0 kq x21_1 a0_0 a0_1 l0_2 = some r) ∧ Aside0 (kq ≤ k) ∧ Aside0 (wc.heap[gb191]? = some (.cells #[.int .i64 a0_0, .int .i64 a0_1, (.slice A0_2 l0_2.length c0_2)] 36 (0, 0))) ∧ Aside0 (Below w.heap.size w wc))
 case first =>
  have H := HC2.out
  clear HC2
  replace H := Option.bind_eq_some_iff.mp H
  obtain ⟨t192, A40, H⟩ := H
  replace H : (if t192 = 0 then (raster_Check.j0 k ((l0_2.length : Int) != (wrap64 (a0_0 * a0_1))) a0_0 a0_1 l0_2) else (raster_Check.j0 k true a0_0 a0_1 l0_2)) = some r := H
  have A4 := Aside0.mk A40
  clear A40
  by_cases c5 : t192 = 0
  ·rw [if_pos c5] at H
   have c5b0 : (t192 == 0) = true := beq_iff_eq.mpr c5
   have c5b1 : (t192 != 0) = false := bne_eq_false_iff_eq.mpr c5
   clear c5
   (first | rw [c5b0] | (simp only [i64_w, i32_w]; rw [c5b0]) | skip)
   have H' := Aside0.mk H
   clear H
   have hcz6_0 := blk_cell BK191.out
   have hfz6_0 := blk_frozen BK191.out
   go_wp2_with (first | ((with_reducible refine gate_callee (f := 49) rfl ?_); refine goesP (some 9) Try.func49 #[.int .i64 a0_0, .int .i64 a0_1] ?_; (with_reducible refine (raster_sides.calls a0_0 a0_1 t192 _ A4.out).mono ?_); rintro e w' ⟨rfl, ⟨nd, rfl⟩⟩; refine ⟨_, rfl, ?_⟩))
   go_meet
   case rel => exact ⟨_, (((l0_2.length : Int) != (wrap64 (a0_0 * a0_1)))), (by first | rfl | (simp; done) | (simp [*]; done)), H', ⟨by first | omega | exact Nat.le_refl _⟩, ⟨bX BK191.out⟩, ⟨beX HB.out⟩⟩
  ·rw [if_neg c5] at H
   have c5b0 : (t192 == 0) = false := beq_eq_false_iff_ne.mpr c5
   have c5b1 : (t192 != 0) = true := bne_iff_ne.mpr c5
   (first | rw [c5b0] | (simp only [i64_w, i32_w]; rw [c5b0]) | skip)
   have H' := Aside0.mk H
   clear H
   have hcz7_0 := blk_cell BK191.out
   have hfz7_0 := blk_frozen BK191.out
   go_wp2_with (first | ((with_reducible refine gate_callee (f := 49) rfl ?_); refine goesP (some 9) Try.func49 #[.int .i64 a0_0, .int .i64 a0_1] ?_; (with_reducible refine (raster_sides.calls a0_0 a0_1 t192 _ A4.out).mono ?_); rintro e w' ⟨rfl, ⟨nd, rfl⟩⟩; refine ⟨_, rfl, ?_⟩))
   go_meet
   case rel => exact ⟨_, (true), (by first | rfl | (simp; done) | (simp [*]; done)), H', ⟨by first | omega | exact Nat.le_refl _⟩, ⟨bX BK191.out⟩, ⟨beX HB.out⟩⟩
 case rest =>
  clear HC2
  try clear p2
  try clear c3
  try clear c4
  try clear c5
  try clear c5b0
  try clear c5b1
  try clear p6
  try clear hcz6_0
  try clear hcz6_1
  try clear hcz6_2
  try clear hcz7_0
  try clear hcz7_1
  try clear hcz7_2
  try clear hfz6_0
  try clear hfz6_1
  try clear hfz6_2
  try clear hfz7_0
  try clear hfz7_1
  try clear hfz7_2
  obtain ⟨kq, x21_1, rfl, HA, HJ1, BK191, HB⟩ := hcut
  cases kq with
  | zero => exact absurd HA.out (by simp [raster_Check.j0])
  | succ kj1 =>
   have H := HA.out
   clear HA
   simp only [raster_Check.j0] at H
   by_cases c8 : x21_1 = true
   ·subst c8
    have H1 : (some 15) = some r := by rw [if_pos rfl] at H; exact H
    clear H
    have H := H1
    clear H1
    obtain rfl := Option.some.inj H
    go_wp2
    go_ret
    exact ⟨by first | rfl | (simp [errW_none, errW_some] <;> rfl) | (simp [*, errW_none, errW_some] <;> rfl), by exact beX HB.out⟩
   ·replace c8 := Bool.eq_false_iff.mpr c8
    subst c8
    have H1 : (raster_Check.l0 kj1 l0_2 (l0_2.length : Int) 0) = some r := by rw [if_neg (show ¬ (false = true) by decide)] at H; exact H
    clear H
    have H := H1
    clear H1
    have H' := Aside0.mk H
    clear H
    have hcz9_0 := blk_cell BK191.out
    have hfz9_0 := blk_frozen BK191.out
    go_wp2
    go_loopg [25] kj1 (fun kq v25 w' => ∃ (x25_2 : Int), v25 = .int .i64 x25_2 ∧ Aside0 (raster_Check.l0 kq l0_2 (l0_2.length : Int) x25_2 = some r) ∧ Aside0 (kq ≤ kj1) ∧ Aside0 (w'.heap[gb191]? = some (.cells #[.int .i64 a0_0, .int .i64 a0_1, (.slice A0_2 l0_2.length c0_2)] 36 (0, 0))) ∧ Aside0 (Below w.heap.size w w'))
    case atStart => exact ⟨(0), (by first | rfl | (simp; done) | (simp [*]; done)), H', ⟨Nat.le_refl _⟩, ⟨bX BK191.out⟩, ⟨beX HB.out⟩⟩
    case round =>
     clear H'
     try clear p2
     try clear c3
     try clear c4
     try clear c5
     try clear c5b0
     try clear c5b1
     try clear p6
     try clear c8
     try clear hcz6_0
     try clear hcz6_1
     try clear hcz6_2
     try clear hcz7_0
     try clear hcz7_1
     try clear hcz7_2
     try clear hcz9_0
     try clear hcz9_1
     try clear hcz9_2
     try clear hfz6_0
     try clear hfz6_1
     try clear hfz6_2
     try clear hfz7_0
     try clear hfz7_1
     try clear hfz7_2
     try clear hfz9_0
     try clear hfz9_1
     try clear hfz9_2
     try clear p2
     try clear p6
     obtain ⟨x25_2, rfl, HA, HK2, BK191, HB⟩ := hrel
     cases gk with
     | zero => exact absurd HA.out (by simp [raster_Check.l0])
     | succ k2 =>
      have H := HA.out
      clear HA
      simp only [raster_Check.l0] at H
      by_cases c10 : x25_2 < (l0_2.length : Int)
      ·rw [if_pos c10] at H
       have c10b0 : decide (x25_2 < (l0_2.length : Int)) = true := decide_eq_true c10
       clear c10
       by_cases c11 : 0 ≤ x25_2
       ·rw [if_pos c11] at H
        have c11b0 : decide (0 ≤ x25_2) = true := decide_eq_true c11
        clear c11
        by_cases c12 : x25_2 < (l0_2.length : Int)
        ·rw [if_pos c12] at H
         have c12b0 : decide (x25_2 < (l0_2.length : Int)) = true := decide_eq_true c12
         clear c12
         replace H := Option.bind_eq_some_iff.mp H
         obtain ⟨t195, A130, H⟩ := H
         replace H : (if t195 = true then (raster_Check.l0 k2 l0_2 (l0_2.length : Int) (wrap64 (x25_2 + 1))) else (some 2)) = some r := H
         have A13 := Aside0.mk A130
         clear A130
         by_cases c14 : t195 = true
         ·subst c14
          have H1 : (raster_Check.l0 k2 l0_2 (l0_2.length : Int) (wrap64 (x25_2 + 1))) = some r := by rw [if_pos rfl] at H; exact H
          clear H
          have H := H1
          clear H1
          have H' := Aside0.mk H
          clear H
          have p193 : 0 ≤ (x25_2 : Int) := of_decide_eq_true (by first | (with_reducible assumption) | assumption)
          have q193 : x25_2 < (l0_2.length : Int) := of_decide_eq_true (by first | (with_reducible assumption) | assumption)
          obtain ⟨ad193, e193, hx193_0, hx193_1, hx193_2, hx193_3⟩ := at_T51 HR0_2.out x25_2 p193 q193
          cases e193
          replace hx193_0 := (HB.out.cell (World.block_lt_of_cell? w _ hx193_0)).trans hx193_0
          replace hx193_1 := (HB.out.cell (World.block_lt_of_cell? w _ hx193_1)).trans hx193_1
          replace hx193_2 := (HB.out.cell (World.block_lt_of_cell? w _ hx193_2)).trans hx193_2
          replace hx193_3 := (HB.out.cell (World.block_lt_of_cell? w _ hx193_3)).trans hx193_3
          replace p193 := eq_true p193
          replace q193 := eq_true q193
          go_wp2_with (first | ((with_reducible refine gate_dst (N := 4) rfl ?_); (try (refine gate_guard (by rfl) ?_; dsimp only)); refine boxE (N := 4) #[.int .i64 0, .int .i64 0, .int .i64 0, .int .i64 0] 51 ?_; intro gb194 hg w15 hbox hb; have BK194 := am (hbox); have GW194 := gW hg HB; have GE194 := gW hg HB; have NB191_194 := nL hg BK191; have NB194_191 := nG hg BK191; replace BK191 := bY BK191 hb; replace HB := hYb HB hb; clear hb hbox hg; have hnb16 := NB194_191.out; have hnc16 := NB191_194.out; have hcz17_0 := blk_cell BK194.out; have hfz17_0 := blk_frozen BK194.out) | ((with_reducible refine gate_callee (f := 50) rfl ?_); refine goesP (some 30) Try.func50 #[.agg #[.int .i64 ((rd_T51 l0_2 x25_2).f0), .int .i64 ((rd_T51 l0_2 x25_2).f1), .int .i64 ((rd_T51 l0_2 x25_2).f2), .int .i64 ((rd_T51 l0_2 x25_2).f3)]] ?_; (with_reducible refine (pixel_Valid.calls ((rd_T51 l0_2 x25_2).f0) ((rd_T51 l0_2 x25_2).f1) ((rd_T51 l0_2 x25_2).f2) ((rd_T51 l0_2 x25_2).f3) true _ A13.out).mono ?_); rintro e w18 ⟨rfl, hb⟩; refine ⟨_, rfl, ?_⟩; replace BK191 := am (blk_below (g := gb191) (o := .cells #[.int .i64 a0_0, .int .i64 a0_1, .slice (some ad193) l0_2.length c0_2] 36 (0, 0)) (by refine bO ?_; refine blk_far ?_ NB191_194.out _; refine bO ?_; refine blk_far ?_ NB191_194.out _; refine bO ?_; refine blk_far ?_ NB191_194.out _; refine bO ?_; refine blk_far ?_ NB191_194.out _; refine bO ?_; exact BK191.out) hb); replace BK194 := am (blk_below (g := gb194) (o := .cells #[.int .i64 ((rd_T51 l0_2 x25_2).f0), .int .i64 ((rd_T51 l0_2 x25_2).f1), .int .i64 ((rd_T51 l0_2 x25_2).f2), .int .i64 ((rd_T51 l0_2 x25_2).f3)] 51 (0, 0)) (by refine bO ?_; refine blk_put (cs := #[.int .i64 ((rd_T51 l0_2 x25_2).f0), .int .i64 ((rd_T51 l0_2 x25_2).f1), .int .i64 ((rd_T51 l0_2 x25_2).f2), .int .i64 0]) ?_ 3 _ rfl; refine bO ?_; refine blk_put (cs := #[.int .i64 ((rd_T51 l0_2 x25_2).f0), .int .i64 ((rd_T51 l0_2 x25_2).f1), .int .i64 0, .int .i64 0]) ?_ 2 _ rfl; refine bO ?_; refine blk_put (cs := #[.int .i64 ((rd_T51 l0_2 x25_2).f0), .int .i64 0, .int .i64 0, .int .i64 0]) ?_ 1 _ rfl; refine bO ?_; refine blk_put (cs := #[.int .i64 0, .int .i64 0, .int .i64 0, .int .i64 0]) ?_ 0 _ rfl; refine bO ?_; exact BK194.out) hb); replace HB := am (below_step (by repeat (first | (with_reducible first | exact HB.out | apply below_alloc | apply pw_below_drewN | apply below_drew1 | refine below_set ?_ GE191.out | refine below_set ?_ GE194.out) | exact HB.out)) hb); (try clear hb); (try clear hb2); (try clear hk); (try clear hi)))
          go_roundg k2
          case measure => have := HJ1.out; have := HK2.out; omega
          case rel => exact ⟨(wrap64 (x25_2 + 1)), (by first | rfl | (simp; done) | (simp [*]; done)), H', ⟨by have := HJ1.out; have := HK2.out; omega⟩, ⟨bX BK191.out⟩, ⟨beX HB.out⟩⟩
         ·replace c14 := Bool.eq_false_iff.mpr c14
          subst c14
          have H1 : (some 2) = some r := by rw [if_neg (show ¬ (false = true) by decide)] at H; exact H
          clear H
          have H := H1
          clear H1
          obtain rfl := Option.some.inj H
          have p193 : 0 ≤ (x25_2 : Int) := of_decide_eq_true (by first | (with_reducible assumption) | assumption)
          have q193 : x25_2 < (l0_2.length : Int) := of_decide_eq_true (by first | (with_reducible assumption) | assumption)
          obtain ⟨ad193, e193, hx193_0, hx193_1, hx193_2, hx193_3⟩ := at_T51 HR0_2.out x25_2 p193 q193
          cases e193
          replace hx193_0 := (HB.out.cell (World.block_lt_of_cell? w _ hx193_0)).trans hx193_0
          replace hx193_1 := (HB.out.cell (World.block_lt_of_cell? w _ hx193_1)).trans hx193_1
          replace hx193_2 := (HB.out.cell (World.block_lt_of_cell? w _ hx193_2)).trans hx193_2
          replace hx193_3 := (HB.out.cell (World.block_lt_of_cell? w _ hx193_3)).trans hx193_3
          replace p193 := eq_true p193
          replace q193 := eq_true q193
          go_wp2_with (first | ((with_reducible refine gate_dst (N := 4) rfl ?_); (try (refine gate_guard (by rfl) ?_; dsimp only)); refine boxE (N := 4) #[.int .i64 0, .int .i64 0, .int .i64 0, .int .i64 0] 51 ?_; intro gb194 hg w19 hbox hb; have BK194 := am (hbox); have GW194 := gW hg HB; have GE194 := gW hg HB; have NB191_194 := nL hg BK191; have NB194_191 := nG hg BK191; replace BK191 := bY BK191 hb; replace HB := hYb HB hb; clear hb hbox hg; have hnb20 := NB194_191.out; have hnc20 := NB191_194.out; have hcz21_0 := blk_cell BK194.out; have hfz21_0 := blk_frozen BK194.out) | ((with_reducible refine gate_callee (f := 50) rfl ?_); refine goesP (some 30) Try.func50 #[.agg #[.int .i64 ((rd_T51 l0_2 x25_2).f0), .int .i64 ((rd_T51 l0_2 x25_2).f1), .int .i64 ((rd_T51 l0_2 x25_2).f2), .int .i64 ((rd_T51 l0_2 x25_2).f3)]] ?_; (with_reducible refine (pixel_Valid.calls ((rd_T51 l0_2 x25_2).f0) ((rd_T51 l0_2 x25_2).f1) ((rd_T51 l0_2 x25_2).f2) ((rd_T51 l0_2 x25_2).f3) false _ A13.out).mono ?_); rintro e w22 ⟨rfl, hb⟩; refine ⟨_, rfl, ?_⟩; replace BK191 := am (blk_below (g := gb191) (o := .cells #[.int .i64 a0_0, .int .i64 a0_1, .slice (some ad193) l0_2.length c0_2] 36 (0, 0)) (by refine bO ?_; refine blk_far ?_ NB191_194.out _; refine bO ?_; refine blk_far ?_ NB191_194.out _; refine bO ?_; refine blk_far ?_ NB191_194.out _; refine bO ?_; refine blk_far ?_ NB191_194.out _; refine bO ?_; exact BK191.out) hb); replace BK194 := am (blk_below (g := gb194) (o := .cells #[.int .i64 ((rd_T51 l0_2 x25_2).f0), .int .i64 ((rd_T51 l0_2 x25_2).f1), .int .i64 ((rd_T51 l0_2 x25_2).f2), .int .i64 ((rd_T51 l0_2 x25_2).f3)] 51 (0, 0)) (by refine bO ?_; refine blk_put (cs := #[.int .i64 ((rd_T51 l0_2 x25_2).f0), .int .i64 ((rd_T51 l0_2 x25_2).f1), .int .i64 ((rd_T51 l0_2 x25_2).f2), .int .i64 0]) ?_ 3 _ rfl; refine bO ?_; refine blk_put (cs := #[.int .i64 ((rd_T51 l0_2 x25_2).f0), .int .i64 ((rd_T51 l0_2 x25_2).f1), .int .i64 0, .int .i64 0]) ?_ 2 _ rfl; refine bO ?_; refine blk_put (cs := #[.int .i64 ((rd_T51 l0_2 x25_2).f0), .int .i64 0, .int .i64 0, .int .i64 0]) ?_ 1 _ rfl; refine bO ?_; refine blk_put (cs := #[.int .i64 0, .int .i64 0, .int .i64 0, .int .i64 0]) ?_ 0 _ rfl; refine bO ?_; exact BK194.out) hb); replace HB := am (below_step (by repeat (first | (with_reducible first | exact HB.out | apply below_alloc | apply pw_below_drewN | apply below_drew1 | refine below_set ?_ GE191.out | refine below_set ?_ GE194.out) | exact HB.out)) hb); (try clear hb); (try clear hb2); (try clear hk); (try clear hi)))
          go_ret
          exact ⟨by first | rfl | (simp [errW_none, errW_some] <;> rfl) | (simp [*, errW_none, errW_some] <;> rfl), by exact beX HB.out⟩
        ·rw [if_neg c12] at H
         exact absurd H (by simp)
       ·rw [if_neg c11] at H
        exact absurd H (by simp)
      ·rw [if_neg c10] at H
       have c10b0 : decide (x25_2 < (l0_2.length : Int)) = false := decide_eq_false c10
       clear c10
       obtain rfl := Option.some.inj H
       go_wp2
       go_ret
       exact ⟨by first | rfl | (simp [errW_none, errW_some] <;> rfl) | (simp [*, errW_none, errW_some] <;> rfl), by exact beX HB.out⟩

/-- A state of type 86 at block g of W; what its slices lead to came in by w0. -/
def IsS86 (w0 W : World) (g : Nat) (f0 : Int) (f1 : Int) (f2 : Int) (f3 : Int) (f4 : Int) : Prop := W.heap[g]? = some (.cells #[.int .i64 f0, .int .i64 f1, .int .i64 f2, .int .i64 f3, .int .i64 f4] 86 (0, 0)) ∧ w0.heap.size ≤ g
theorem IsS86.grown {w0 W : World} {g : Nat} {f0 : Int} {f1 : Int} {f2 : Int} {f3 : Int} {f4 : Int} {W1 : World} {row : Option Nat} (h : IsS86 w0 W g f0 f1 f2 f3 f4) (hw : W.grownBy W1 row) (hne : some g ≠ row) : IsS86 w0 W1 g f0 f1 f2 f3 f4 := by
  obtain ⟨hb, hg⟩ := h
  exact ⟨blk_grown hb hw hne, hg⟩
theorem IsS86.own_neN {w0 W : World} {g : Nat} {f0 : Int} {f1 : Int} {f2 : Int} {f3 : Int} {f4 : Int} {α : Type} {d : Kd α} {e : Nat} {base : Nat} {ok : Nat → Prop} {v : Value} {xs : List α} (h : IsS86 w0 W g f0 f1 f2 f3 f4) (ho : Kd.N d e W base ok v xs) (ht : e ≠ 86) : some g ≠ v.ownBlock := by
  obtain ⟨hb, hg⟩ := h
  exact Kd.N_ne ho hb ht
theorem IsS86.fresh {w0 W : World} {g : Nat} {f0 : Int} {f1 : Int} {f2 : Int} {f3 : Int} {f4 : Int} (h : IsS86 w0 W g f0 f1 f2 f3 f4) : ∀ k, W.heap.size ≤ k → k ≠ g := by
  obtain ⟨hb, hg⟩ := h
  exact Kd.freshB hb
theorem IsS86.kept {w0 W : World} {g : Nat} {f0 : Int} {f1 : Int} {f2 : Int} {f3 : Int} {f4 : Int} {W1 : World} {S : Nat → Prop} (h : IsS86 w0 W g f0 f1 f2 f3 f4) (hk : Kept W W1 S) (hne : ¬ S g) : IsS86 w0 W1 g f0 f1 f2 f3 f4 := by
  obtain ⟨hb, hg⟩ := h
  exact ⟨blk_kept hb hk hne, hg⟩
theorem IsS86.below {w0 W : World} {g : Nat} {f0 : Int} {f1 : Int} {f2 : Int} {f3 : Int} {f4 : Int} {W1 : World} (h : IsS86 w0 W g f0 f1 f2 f3 f4) (hw : Below W.heap.size W W1) : IsS86 w0 W1 g f0 f1 f2 f3 f4 := h.grown (grown_of_below hw none) (by simp)
theorem IsS86.alloc {w0 W : World} {g : Nat} {f0 : Int} {f1 : Int} {f2 : Int} {f3 : Int} {f4 : Int} (h : IsS86 w0 W g f0 f1 f2 f3 f4) (o : Obj) : IsS86 w0 (W.alloc o) g f0 f1 f2 f3 f4 := h.below (below_alloc (Below.refl _ _) o)
theorem IsS86.drewN {w0 W : World} {g : Nat} {f0 : Int} {f1 : Int} {f2 : Int} {f3 : Int} {f4 : Int} (h : IsS86 w0 W g f0 f1 f2 f3 f4) (m : Nat) : IsS86 w0 (W.drewN m) g f0 f1 f2 f3 f4 := h
theorem IsS86.drew {w0 W : World} {g : Nat} {f0 : Int} {f1 : Int} {f2 : Int} {f3 : Int} {f4 : Int} (h : IsS86 w0 W g f0 f1 f2 f3 f4) : IsS86 w0 W.drew g f0 f1 f2 f3 f4 := h
theorem IsS86.at_ {w0 W : World} {g : Nat} {f0 : Int} {f1 : Int} {f2 : Int} {f3 : Int} {f4 : Int} {w' : World} {m : Nat} (hq : W.drewN m = w') (h : IsS86 w0 W g f0 f1 f2 f3 f4) : IsS86 w0 w' g f0 f1 f2 f3 f4 := by subst hq; exact IsS86.drewN h m
theorem IsS86.apart {w0 W : World} {g : Nat} {f0 : Int} {f1 : Int} {f2 : Int} {f3 : Int} {f4 : Int} {α : Type} {d : Kd α} {e : Nat} {base : Nat} {ok : Nat → Prop} {v : Value} {xs : List α} (h : IsS86 w0 W g f0 f1 f2 f3 f4) (ho : d.R e W base ok v xs) (ht : ∀ q, q ∈ e :: d.E → q ≠ 86) : d.R e W base (fun k => ok k ∧ k ≠ g) v xs := by
  obtain ⟨hb, hg⟩ := h
  exact Kd.R_types ho hb ht
theorem IsS86.own_ne {w0 W : World} {g : Nat} {f0 : Int} {f1 : Int} {f2 : Int} {f3 : Int} {f4 : Int} {α : Type} {d : Kd α} {e : Nat} {base : Nat} {ok : Nat → Prop} {v : Value} {xs : List α} (h : IsS86 w0 W g f0 f1 f2 f3 f4) (ho : d.R e W base ok v xs) (ht : e ≠ 86) : some g ≠ v.ownBlock := by
  obtain ⟨hb, hg⟩ := h
  exact Kd.R_ne ho hb ht
theorem IsS86.apartQ {w0 W : World} {g : Nat} {f0 : Int} {f1 : Int} {f2 : Int} {f3 : Int} {f4 : Int} {α : Type} {d : Kd α} {e : Nat} {base : Nat} {ok : Nat → Prop} {v : Value} {xs : List α} (h : IsS86 w0 W g f0 f1 f2 f3 f4) (ho : d.Q e W base ok v xs) (ht : ∀ q, q ∈ e :: d.E → q ≠ 86) : d.Q e W base (fun k => ok k ∧ k ≠ g) v xs := by
  obtain ⟨hb, hg⟩ := h
  exact Kd.Q_types ho hb ht
theorem IsS86.own_neQ {w0 W : World} {g : Nat} {f0 : Int} {f1 : Int} {f2 : Int} {f3 : Int} {f4 : Int} {α : Type} {d : Kd α} {e : Nat} {base : Nat} {ok : Nat → Prop} {v : Value} {xs : List α} (h : IsS86 w0 W g f0 f1 f2 f3 f4) (ho : d.Q e W base ok v xs) (ht : e ≠ 86) : some g ≠ v.ownBlock := by
  obtain ⟨hb, hg⟩ := h
  exact Kd.Q_ne ho hb ht
theorem IsS86.apartS {w0 W : World} {g : Nat} {f0 : Int} {f1 : Int} {f2 : Int} {f3 : Int} {f4 : Int} {α : Type} {d : Kd α} {e : Nat} {base : Nat} {ok : Nat → Prop} {v : Value} {xs : List α} (h : IsS86 w0 W g f0 f1 f2 f3 f4) (ho : d.S e W base ok v xs) (ht : ∀ q, q ∈ e :: d.E → q ≠ 86) : d.S e W base (fun k => ok k ∧ k ≠ g) v xs := by
  obtain ⟨hb, hg⟩ := h
  exact Kd.S_types ho hb ht
theorem IsS86.own_neS {w0 W : World} {g : Nat} {f0 : Int} {f1 : Int} {f2 : Int} {f3 : Int} {f4 : Int} {α : Type} {d : Kd α} {e : Nat} {base : Nat} {ok : Nat → Prop} {v : Value} {xs : List α} (h : IsS86 w0 W g f0 f1 f2 f3 f4) (ho : d.S e W base ok v xs) (ht : e ≠ 86) : some g ≠ v.ownBlock := by
  obtain ⟨hb, hg⟩ := h
  exact Kd.S_ne ho hb ht
theorem IsS86.lt {w0 W : World} {g : Nat} {f0 : Int} {f1 : Int} {f2 : Int} {f3 : Int} {f4 : Int} (h : IsS86 w0 W g f0 f1 f2 f3 f4) : g < W.heap.size := by
  obtain ⟨hb, hg⟩ := h
  exact blk_lt hb
theorem IsS86.ge {w0 W : World} {g : Nat} {f0 : Int} {f1 : Int} {f2 : Int} {f3 : Int} {f4 : Int} (h : IsS86 w0 W g f0 f1 f2 f3 f4) : w0.heap.size ≤ g := by
  obtain ⟨hb, hg⟩ := h
  exact hg
theorem IsS86.ne_blk {w0 W : World} {g : Nat} {f0 : Int} {f1 : Int} {f2 : Int} {f3 : Int} {f4 : Int} {a : Nat} {cs : Array Value} {t : TypeId} {fr : Nat × Nat} (h : IsS86 w0 W g f0 f1 f2 f3 f4) (hb2 : W.heap[a]? = some (.cells cs t fr)) (ht : t ≠ 86) : g ≠ a := by
  obtain ⟨hb, hg⟩ := h
  rintro rfl
  rw [hb] at hb2
  injection hb2 with hb2
  injection hb2 with _ ht2
  exact ht ht2.symm
theorem IsS86.far {w0 W : World} {g : Nat} {f0 : Int} {f1 : Int} {f2 : Int} {f3 : Int} {f4 : Int} {p : Addr} (h : IsS86 w0 W g f0 f1 f2 f3 f4) (hne : g ≠ p.block) (u : Value) : IsS86 w0 (W.setCell p u) g f0 f1 f2 f3 f4 := by
  obtain ⟨hb, hg⟩ := h
  exact ⟨blk_far hb hne u, hg⟩
theorem cellS86_0 {W : World} {g : Nat} {f0 : Int} {f1 : Int} {f2 : Int} {f3 : Int} {f4 : Int} (h : W.heap[g]? = some (.cells #[.int .i64 f0, .int .i64 f1, .int .i64 f2, .int .i64 f3, .int .i64 f4] 86 (0, 0))) : W.cell? ⟨g, 0, none⟩ = some (.int .i64 f0) := (blk_cell h 0).trans rfl
theorem IsS86.set_0 {w0 W : World} {g : Nat} {f0 : Int} {f1 : Int} {f2 : Int} {f3 : Int} {f4 : Int} (h : IsS86 w0 W g f0 f1 f2 f3 f4) (x : Int) : IsS86 w0 (W.setCell ⟨g, 0, none⟩ (.int .i64 x)) g x f1 f2 f3 f4 := by
  obtain ⟨hb, hg⟩ := h
  exact ⟨by simpa using blk_set hb 0 (.int .i64 x), hg⟩
theorem cellS86_1 {W : World} {g : Nat} {f0 : Int} {f1 : Int} {f2 : Int} {f3 : Int} {f4 : Int} (h : W.heap[g]? = some (.cells #[.int .i64 f0, .int .i64 f1, .int .i64 f2, .int .i64 f3, .int .i64 f4] 86 (0, 0))) : W.cell? ⟨g, 1, none⟩ = some (.int .i64 f1) := (blk_cell h 1).trans rfl
theorem IsS86.set_1 {w0 W : World} {g : Nat} {f0 : Int} {f1 : Int} {f2 : Int} {f3 : Int} {f4 : Int} (h : IsS86 w0 W g f0 f1 f2 f3 f4) (x : Int) : IsS86 w0 (W.setCell ⟨g, 1, none⟩ (.int .i64 x)) g f0 x f2 f3 f4 := by
  obtain ⟨hb, hg⟩ := h
  exact ⟨by simpa using blk_set hb 1 (.int .i64 x), hg⟩
theorem cellS86_2 {W : World} {g : Nat} {f0 : Int} {f1 : Int} {f2 : Int} {f3 : Int} {f4 : Int} (h : W.heap[g]? = some (.cells #[.int .i64 f0, .int .i64 f1, .int .i64 f2, .int .i64 f3, .int .i64 f4] 86 (0, 0))) : W.cell? ⟨g, 2, none⟩ = some (.int .i64 f2) := (blk_cell h 2).trans rfl
theorem IsS86.set_2 {w0 W : World} {g : Nat} {f0 : Int} {f1 : Int} {f2 : Int} {f3 : Int} {f4 : Int} (h : IsS86 w0 W g f0 f1 f2 f3 f4) (x : Int) : IsS86 w0 (W.setCell ⟨g, 2, none⟩ (.int .i64 x)) g f0 f1 x f3 f4 := by
  obtain ⟨hb, hg⟩ := h
  exact ⟨by simpa using blk_set hb 2 (.int .i64 x), hg⟩
theorem cellS86_3 {W : World} {g : Nat} {f0 : Int} {f1 : Int} {f2 : Int} {f3 : Int} {f4 : Int} (h : W.heap[g]? = some (.cells #[.int .i64 f0, .int .i64 f1, .int .i64 f2, .int .i64 f3, .int .i64 f4] 86 (0, 0))) : W.cell? ⟨g, 3, none⟩ = some (.int .i64 f3) := (blk_cell h 3).trans rfl
theorem IsS86.set_3 {w0 W : World} {g : Nat} {f0 : Int} {f1 : Int} {f2 : Int} {f3 : Int} {f4 : Int} (h : IsS86 w0 W g f0 f1 f2 f3 f4) (x : Int) : IsS86 w0 (W.setCell ⟨g, 3, none⟩ (.int .i64 x)) g f0 f1 f2 x f4 := by
  obtain ⟨hb, hg⟩ := h
  exact ⟨by simpa using blk_set hb 3 (.int .i64 x), hg⟩
theorem cellS86_4 {W : World} {g : Nat} {f0 : Int} {f1 : Int} {f2 : Int} {f3 : Int} {f4 : Int} (h : W.heap[g]? = some (.cells #[.int .i64 f0, .int .i64 f1, .int .i64 f2, .int .i64 f3, .int .i64 f4] 86 (0, 0))) : W.cell? ⟨g, 4, none⟩ = some (.int .i64 f4) := (blk_cell h 4).trans rfl
theorem IsS86.set_4 {w0 W : World} {g : Nat} {f0 : Int} {f1 : Int} {f2 : Int} {f3 : Int} {f4 : Int} (h : IsS86 w0 W g f0 f1 f2 f3 f4) (x : Int) : IsS86 w0 (W.setCell ⟨g, 4, none⟩ (.int .i64 x)) g f0 f1 f2 f3 x := by
  obtain ⟨hb, hg⟩ := h
  exact ⟨by simpa using blk_set hb 4 (.int .i64 x), hg⟩
theorem IsS86.new (w0 W : World) (f0 : Int) (f1 : Int) (f2 : Int) (f3 : Int) (f4 : Int) (hB : Below w0.heap.size w0 W) : IsS86 w0 (W.alloc (.cells #[.int .i64 f0, .int .i64 f1, .int .i64 f2, .int .i64 f3, .int .i64 f4] 86)) W.heap.size f0 f1 f2 f3 f4 := ⟨by simpa using heap_alloc_new W _, hB.size⟩

/-! ### filter_total_add: function 64: proved by hand -/
def filter_total_add.f (s0 s1 s2 s3 s4 p0 p1 p2 p3 n : Int) : Option (Int × Int × Int × Int × Int) := some (wrap64 (s0 + n), wrap64 (s1 + wrap64 (n * p3)), wrap64 (s2 + wrap64 (wrap64 (n * p3) * p0)), wrap64 (s3 + wrap64 (wrap64 (n * p3) * p1)), wrap64 (s4 + wrap64 (wrap64 (n * p3) * p2)))
set_option maxHeartbeats 8000000 in
set_option maxRecDepth 100000 in
theorem filter_total_add.calls (g : Nat) (s0 s1 s2 s3 s4 p0 p1 p2 p3 n r1 r2 r3 r4 r5 : Int) (w0 w : World) (hI : IsS86 w0 w g s0 s1 s2 s3 s4) (hB : Below w0.heap.size w0 w) (h : filter_total_add.f s0 s1 s2 s3 s4 p0 p1 p2 p3 n = some (r1, r2, r3, r4, r5)) :
  Calls Try.prog 64 #[.pointer (some ⟨g, 0, none⟩), .agg #[.int .i64 p0, .int .i64 p1, .int .i64 p2, .int .i64 p3], .int .i64 n] w fun e w' => e = .returned (.tuple #[]) ∧ IsS86 w0 w' g r1 r2 r3 r4 r5 ∧ Below w0.heap.size w0 w' ∧ KeepBut w w' g none := by
 simp only [filter_total_add.f, Option.some.injEq, Prod.mk.injEq] at h
 obtain ⟨rfl, rfl, rfl, rfl, rfl⟩ := h
 have HI0 := Aside0.mk hI
 have HK := am (KeepBut.refl w g none)
 have HB := Aside0.mk hB
 have HL := Aside0.mk hB.size
 clear hI hB
 go_enter Try.func64, Try.ntmps64
 go_wp2_with (first
  | ((with_reducible refine gate_dst (N := 4) rfl ?_); refine boxE (N := 4) #[.int .i64 p0, .int .i64 p1, .int .i64 p2, .int .i64 p3] 51 ?_; intro g2 hg2 W1 hbox2 hb1; have BK := Aside0.mk hbox2; have NE : Aside0 (g2 ≠ g) := ⟨by have := HI0.out.lt; omega⟩; have GE : Aside0 (w.heap.size ≤ g2) := ⟨by omega⟩; have HI1 := am (HI0.out.below hb1); have HB1 := am (below_step HB.out hb1); have HK1 := am (HK.out.trans (KeepBut.of_below hb1 g none) (.inl rfl)); clear hbox2 hb1 hg2 HI0 HB HK; have HI := HI1; have HB := HB1; have HK := HK1; clear HI1 HB1 HK1; have hcz_0 := cellS86_0 HI.out.1; have hfz_0 := blk_frozen HI.out.1 0))
 generalize hWq : World.setCell _ ⟨g, 0, none⟩ _ = Wq
 have HI5 : Aside0 (IsS86 w0 Wq g (wrap64 (s0 + n)) s1 s2 s3 s4) := ⟨by rw [← hWq]; exact (by repeat (first | exact HI.out | apply IsS86.set_0 | apply IsS86.drewN | apply IsS86.drew))⟩
 have BK5 : Aside0 (Wq.heap[g2]? = some (.cells #[.int .i64 p0, .int .i64 p1, .int .i64 p2, .int .i64 p3] 51 (0, 0))) := ⟨by rw [← hWq]; exact (by repeat (first | exact BK.out | refine blk_far ?_ (p := ⟨g, 0, none⟩) NE.out _ | refine blk_drewN ?_ _ | refine blk_drew ?_))⟩
 have HK5 : Aside0 (KeepBut w Wq g none) := ⟨by rw [← hWq]; exact (by repeat (first | exact HK.out | apply KeepBut.set_ | apply keep_drewN | apply keep_drew))⟩
 have HB5 : Aside0 (Below w0.heap.size w0 Wq) := ⟨by rw [← hWq]; exact (by repeat (first | exact HB.out | refine below_set (g := g) ?_ (IsS86.ge HI.out) | apply pw_below_drewN | apply below_drew1))⟩
 clear HI HK HB BK hWq
 have HI := HI5
 have HK := HK5
 have HB := HB5
 have BK := BK5
 clear HI5 HK5 HB5 BK5
 have hcz_1 := cellS86_1 HI.out.1
 have hfz_1 := blk_frozen HI.out.1 1
 have hp3 := blk_cell BK.out 3
 skip
 go_still_tail 9, (by kernel_rfl)
 change wpList _ _ _ _ _ (World.drew _)
 go_wp2
 generalize hWq : World.drew (World.setCell _ ⟨g, 1, none⟩ _) = Wq
 have HI5 : Aside0 (IsS86 w0 Wq g (wrap64 (s0 + n)) (wrap64 (s1 + wrap64 (n * p3))) s2 s3 s4) := ⟨by rw [← hWq]; exact (by repeat (first | exact HI.out | apply IsS86.set_1 | apply IsS86.drewN | apply IsS86.drew))⟩
 have BK5 : Aside0 (Wq.heap[g2]? = some (.cells #[.int .i64 p0, .int .i64 p1, .int .i64 p2, .int .i64 p3] 51 (0, 0))) := ⟨by rw [← hWq]; exact (by repeat (first | exact BK.out | refine blk_far ?_ (p := ⟨g, 1, none⟩) NE.out _ | refine blk_drewN ?_ _ | refine blk_drew ?_))⟩
 have HK5 : Aside0 (KeepBut w Wq g none) := ⟨by rw [← hWq]; exact (by repeat (first | exact HK.out | apply KeepBut.set_ | apply keep_drewN | apply keep_drew))⟩
 have HB5 : Aside0 (Below w0.heap.size w0 Wq) := ⟨by rw [← hWq]; exact (by repeat (first | exact HB.out | refine below_set (g := g) ?_ (IsS86.ge HI.out) | apply pw_below_drewN | apply below_drew1))⟩
 clear HI HK HB BK hWq
 have HI := HI5
 have HK := HK5
 have HB := HB5
 have BK := BK5
 clear HI5 HK5 HB5 BK5
 have hcz_2 := cellS86_2 HI.out.1
 have hfz_2 := blk_frozen HI.out.1 2
 have hp3 := blk_cell BK.out 3
 have hpc := blk_cell BK.out 0
 go_still_tail 12, (by kernel_rfl)
 change wpList _ _ _ _ _ (World.drew _)
 go_wp2
 generalize hWq : World.drew (World.setCell _ ⟨g, 2, none⟩ _) = Wq
 have HI5 : Aside0 (IsS86 w0 Wq g (wrap64 (s0 + n)) (wrap64 (s1 + wrap64 (n * p3))) (wrap64 (s2 + wrap64 (wrap64 (n * p3) * p0))) s3 s4) := ⟨by rw [← hWq]; exact (by repeat (first | exact HI.out | apply IsS86.set_2 | apply IsS86.drewN | apply IsS86.drew))⟩
 have BK5 : Aside0 (Wq.heap[g2]? = some (.cells #[.int .i64 p0, .int .i64 p1, .int .i64 p2, .int .i64 p3] 51 (0, 0))) := ⟨by rw [← hWq]; exact (by repeat (first | exact BK.out | refine blk_far ?_ (p := ⟨g, 2, none⟩) NE.out _ | refine blk_drewN ?_ _ | refine blk_drew ?_))⟩
 have HK5 : Aside0 (KeepBut w Wq g none) := ⟨by rw [← hWq]; exact (by repeat (first | exact HK.out | apply KeepBut.set_ | apply keep_drewN | apply keep_drew))⟩
 have HB5 : Aside0 (Below w0.heap.size w0 Wq) := ⟨by rw [← hWq]; exact (by repeat (first | exact HB.out | refine below_set (g := g) ?_ (IsS86.ge HI.out) | apply pw_below_drewN | apply below_drew1))⟩
 clear HI HK HB BK hWq
 have HI := HI5
 have HK := HK5
 have HB := HB5
 have BK := BK5
 clear HI5 HK5 HB5 BK5
 have hcz_3 := cellS86_3 HI.out.1
 have hfz_3 := blk_frozen HI.out.1 3
 have hp3 := blk_cell BK.out 3
 have hpc := blk_cell BK.out 1
 go_still_tail 12, (by kernel_rfl)
 change wpList _ _ _ _ _ (World.drew _)
 go_wp2
 generalize hWq : World.drew (World.setCell _ ⟨g, 3, none⟩ _) = Wq
 have HI5 : Aside0 (IsS86 w0 Wq g (wrap64 (s0 + n)) (wrap64 (s1 + wrap64 (n * p3))) (wrap64 (s2 + wrap64 (wrap64 (n * p3) * p0))) (wrap64 (s3 + wrap64 (wrap64 (n * p3) * p1))) s4) := ⟨by rw [← hWq]; exact (by repeat (first | exact HI.out | apply IsS86.set_3 | apply IsS86.drewN | apply IsS86.drew))⟩
 have BK5 : Aside0 (Wq.heap[g2]? = some (.cells #[.int .i64 p0, .int .i64 p1, .int .i64 p2, .int .i64 p3] 51 (0, 0))) := ⟨by rw [← hWq]; exact (by repeat (first | exact BK.out | refine blk_far ?_ (p := ⟨g, 3, none⟩) NE.out _ | refine blk_drewN ?_ _ | refine blk_drew ?_))⟩
 have HK5 : Aside0 (KeepBut w Wq g none) := ⟨by rw [← hWq]; exact (by repeat (first | exact HK.out | apply KeepBut.set_ | apply keep_drewN | apply keep_drew))⟩
 have HB5 : Aside0 (Below w0.heap.size w0 Wq) := ⟨by rw [← hWq]; exact (by repeat (first | exact HB.out | refine below_set (g := g) ?_ (IsS86.ge HI.out) | apply pw_below_drewN | apply below_drew1))⟩
 clear HI HK HB BK hWq
 have HI := HI5
 have HK := HK5
 have HB := HB5
 have BK := BK5
 clear HI5 HK5 HB5 BK5
 have hcz_4 := cellS86_4 HI.out.1
 have hfz_4 := blk_frozen HI.out.1 4
 have hp3 := blk_cell BK.out 3
 have hpc := blk_cell BK.out 2
 go_still_tail 12, (by kernel_rfl)
 change wpList _ _ _ _ _ (World.drew _)
 go_wp2
 first | go_end0 | ((try simp only [Exit.inBlock, Exit.then]); refine bodyPost_ret (results_none rfl _ _ _) rfl ?_)
 exact ⟨rfl, (by repeat (first | exact HI.out | apply IsS86.set_4 | apply IsS86.drewN | apply IsS86.drew)), (by repeat (first | exact HB.out | refine below_set (g := g) ?_ (IsS86.ge HI.out) | apply pw_below_drewN | apply below_drew1)), (by repeat (first | exact HK.out | apply KeepBut.set_ | apply keep_drewN | apply keep_drew))⟩


/-! ### num_Floor: function 82 -/
def num_Floor.f (a0 : Int) (a1 : Int) : Option (Int) := if a1 = 0 then (some 0) else (if a1 = (-1) then (if a0 = (-9223372036854775808) then (some 9223372036854775807) else (some (wrap64 (-a0)))) else (if (Int.tmod a0 a1) = 0 then (some (wrap64 (Int.tdiv a0 a1))) else (if ((decide (a0 < 0)) != (decide (a1 < 0))) = true then (some (wrap64 ((wrap64 (Int.tdiv a0 a1)) - 1))) else (some (wrap64 (Int.tdiv a0 a1))))))
set_option maxHeartbeats 8000000 in
set_option maxRecDepth 100000 in
theorem num_Floor.calls (a0 : Int) (a1 : Int) (r : Int) (w : World) (h : num_Floor.f a0 a1 = some r) :
  Calls Try.prog 82 #[.int .i64 a0, .int .i64 a1] w fun e w' => e = .returned (.int .i64 r) ∧ Drawn0 w w' := by
 have H : (if a1 = 0 then (some 0) else (if a1 = (-1) then (if a0 = (-9223372036854775808) then (some 9223372036854775807) else (some (wrap64 (-a0)))) else (if (Int.tmod a0 a1) = 0 then (some (wrap64 (Int.tdiv a0 a1))) else (if ((decide (a0 < 0)) != (decide (a1 < 0))) = true then (some (wrap64 ((wrap64 (Int.tdiv a0 a1)) - 1))) else (some (wrap64 (Int.tdiv a0 a1))))))) = some r := h
 clear h
 by_cases c3 : a1 = 0
 ·rw [if_pos c3] at H
  have c3b0 : (a1 == 0) = true := beq_iff_eq.mpr c3
  have c3b1 : (a1 != 0) = false := bne_eq_false_iff_eq.mpr c3
  clear c3
  obtain rfl := Option.some.inj H
  go_enter Try.func82, Try.ntmps82
  go_wp2
  go_ret
  exact ⟨by first | rfl | (simp; done) | (simp [*]; done), by repeat (first | exact Drawn0.refl _ | apply Drawn0.step)⟩
 ·rw [if_neg c3] at H
  have c3b0 : (a1 == 0) = false := beq_eq_false_iff_ne.mpr c3
  have c3b1 : (a1 != 0) = true := bne_iff_ne.mpr c3
  by_cases c4 : a1 = (-1)
  ·rw [if_pos c4] at H
   have c4b0 : (a1 == (-1)) = true := beq_iff_eq.mpr c4
   have c4b1 : (a1 != (-1)) = false := bne_eq_false_iff_eq.mpr c4
   clear c4
   by_cases c5 : a0 = (-9223372036854775808)
   ·rw [if_pos c5] at H
    have c5b0 : (a0 == (-9223372036854775808)) = true := beq_iff_eq.mpr c5
    have c5b1 : (a0 != (-9223372036854775808)) = false := bne_eq_false_iff_eq.mpr c5
    clear c5
    obtain rfl := Option.some.inj H
    go_enter Try.func82, Try.ntmps82
    go_wp2
    go_ret
    exact ⟨by first | rfl | (simp; done) | (simp [*]; done), by repeat (first | exact Drawn0.refl _ | apply Drawn0.step)⟩
   ·rw [if_neg c5] at H
    have c5b0 : (a0 == (-9223372036854775808)) = false := beq_eq_false_iff_ne.mpr c5
    have c5b1 : (a0 != (-9223372036854775808)) = true := bne_iff_ne.mpr c5
    obtain rfl := Option.some.inj H
    go_enter Try.func82, Try.ntmps82
    go_wp2
    go_ret
    exact ⟨by first | rfl | (simp; done) | (simp [*]; done), by repeat (first | exact Drawn0.refl _ | apply Drawn0.step)⟩
  ·rw [if_neg c4] at H
   have c4b0 : (a1 == (-1)) = false := beq_eq_false_iff_ne.mpr c4
   have c4b1 : (a1 != (-1)) = true := bne_iff_ne.mpr c4
   by_cases c6 : (Int.tmod a0 a1) = 0
   ·rw [if_pos c6] at H
    have c6b0 : ((Int.tmod a0 a1) == 0) = true := beq_iff_eq.mpr c6
    have c6b1 : ((Int.tmod a0 a1) != 0) = false := bne_eq_false_iff_eq.mpr c6
    clear c6
    obtain rfl := Option.some.inj H
    go_enter Try.func82, Try.ntmps82
    go_wp2
    go_ret
    exact ⟨by first | rfl | (simp; done) | (simp [*]; done), by repeat (first | exact Drawn0.refl _ | apply Drawn0.step)⟩
   ·rw [if_neg c6] at H
    have c6b0 : ((Int.tmod a0 a1) == 0) = false := beq_eq_false_iff_ne.mpr c6
    have c6b1 : ((Int.tmod a0 a1) != 0) = true := bne_iff_ne.mpr c6
    by_cases c7 : ((decide (a0 < 0)) != (decide (a1 < 0))) = true
    ·rw [if_pos c7] at H
     have c7b0 : ((decide (a0 < 0)) != (decide (a1 < 0))) = true := c7
     (try (have c7b1 : decide ((decide (a0 < 0)) = (decide (a1 < 0))) = false := by simpa using c7))
     (try (have c7b2 : ((decide (a0 < 0)) == (decide (a1 < 0))) = false := by simpa using c7))
     (try (have c7b3 : ¬ ((decide (a0 < 0)) = (decide (a1 < 0))) := by simpa using c7))
     clear c7
     obtain rfl := Option.some.inj H
     go_enter Try.func82, Try.ntmps82
     go_wp2
     go_ret
     exact ⟨by first | rfl | (simp; done) | (simp [*]; done), by repeat (first | exact Drawn0.refl _ | apply Drawn0.step)⟩
    ·rw [if_neg c7] at H
     have c7b0 : ((decide (a0 < 0)) != (decide (a1 < 0))) = false := by simpa using c7
     (try (have c7b1 : decide ((decide (a0 < 0)) = (decide (a1 < 0))) = true := by simpa using c7))
     (try (have c7b2 : ((decide (a0 < 0)) == (decide (a1 < 0))) = true := by simpa using c7))
     clear c7
     obtain rfl := Option.some.inj H
     go_enter Try.func82, Try.ntmps82
     go_wp2
     go_ret
     exact ⟨by first | rfl | (simp; done) | (simp [*]; done), by repeat (first | exact Drawn0.refl _ | apply Drawn0.step)⟩

/-! ### num_Div: function 70 -/
def num_Div.j0 : Nat → Int → Int → Int → Bool → Option (Int)
 | 0, _, _, _, _ => none
 | k + 1, x0, x1, x5, x15 => if x15 = true then (some x5) else (if x1 > 0 then (if (wrap64 (x0 - (wrap64 (x5 * x1)))) ≥ (wrap64 (x1 - (wrap64 (x0 - (wrap64 (x5 * x1)))))) then (some (wrap64 (x5 + 1))) else (if x1 < 0 then (if (wrap64 (x0 - (wrap64 (x5 * x1)))) ≤ (wrap64 (x1 - (wrap64 (x0 - (wrap64 (x5 * x1)))))) then (some (wrap64 (x5 + 1))) else (some x5)) else (some x5))) else (if x1 < 0 then (if (wrap64 (x0 - (wrap64 (x5 * x1)))) ≤ (wrap64 (x1 - (wrap64 (x0 - (wrap64 (x5 * x1)))))) then (some (wrap64 (x5 + 1))) else (some x5)) else (some x5)))
def num_Div.f (k : Nat) (a0 : Int) (a1 : Int) : Option (Int) := (num_Floor.f a0 a1).bind fun t196 => (if a1 = 0 then (num_Div.j0 k a0 a1 t196 true) else (num_Div.j0 k a0 a1 t196 (a1 == (-1))))
theorem num_Div.mono_l : ∀ k, (∀ y0 y1 y2 y3, LeO (num_Div.j0 k y0 y1 y2 y3) (num_Div.j0 (k + 1) y0 y1 y2 y3))
 | 0 => fun _ _ _ _ r h => by simp [num_Div.j0] at h
 | k + 1 => by
  have ih0 := num_Div.mono_l k
  ·intro y0 y1 y2 y3
   unfold num_Div.j0
   repeat' first
   | (with_reducible exact ih0 _ _ _ _)
   | (with_reducible exact LeO.refl _)
   | (with_reducible exact LeO.none _)
   | (with_reducible refine LeO.ite ?_ ?_)
   | (with_reducible refine LeO.bind ?_ (fun _ => ?_))
   | exact ih0 _ _ _ _
   | exact LeO.none _
   | refine LeO.ite ?_ ?_
   | refine LeO.bind ?_ (fun _ => ?_)
theorem num_Div.mono : ∀ a0 a1 k, LeO (num_Div.f k a0 a1) (num_Div.f (k + 1) a0 a1) := by
 intro a0 a1 k
 have ih0 := num_Div.mono_l k
 unfold num_Div.f
 repeat' first
   | (with_reducible exact ih0 _ _ _ _)
   | (with_reducible exact LeO.refl _)
   | (with_reducible exact LeO.none _)
   | (with_reducible refine LeO.ite ?_ ?_)
   | (with_reducible refine LeO.bind ?_ (fun _ => ?_))
   | exact ih0 _ _ _ _
   | exact LeO.none _
   | refine LeO.ite ?_ ?_
   | refine LeO.bind ?_ (fun _ => ?_)
set_option maxHeartbeats 8000000 in
set_option maxRecDepth 100000 in
theorem num_Div.calls (k : Nat) (a0 : Int) (a1 : Int) (r : Int) (w : World) (h : num_Div.f k a0 a1 = some r) :
  Calls Try.prog 70 #[.int .i64 a0, .int .i64 a1] w fun e w' => e = .returned (.int .i64 r) ∧ Drawn0 w w' := by
 have H : ((num_Floor.f a0 a1).bind fun t196 => (if a1 = 0 then (num_Div.j0 k a0 a1 t196 true) else (num_Div.j0 k a0 a1 t196 (a1 == (-1))))) = some r := h
 clear h
 replace H := Option.bind_eq_some_iff.mp H
 obtain ⟨t196, A30, H⟩ := H
 replace H : (if a1 = 0 then (num_Div.j0 k a0 a1 t196 true) else (num_Div.j0 k a0 a1 t196 (a1 == (-1)))) = some r := H
 have A3 := Aside0.mk A30
 clear A30
 have HC4 := Aside0.mk H
 clear H
 go_enter Try.func70, Try.ntmps70
 go_upto_region 2 with (first | ((with_reducible refine gate_callee (f := 82) rfl ?_); refine goesP (some 9) Try.func82 #[.int .i64 a0, .int .i64 a1] ?_; (with_reducible refine (num_Floor.calls a0 a1 t196 _ A3.out).mono ?_); rintro e w' ⟨rfl, ⟨nd, rfl⟩⟩; refine ⟨_, rfl, ?_⟩))
 (try simp only [Act.put, List.setIfInBounds_toArray, List.set_cons_zero, List.set_cons_succ])
 go_cut [15] (fun v15 wc => ∃ (kq : Nat) (x15_3 : Bool), v15 = .bool x15_3 ∧ Aside0 (num_Div.j0 kq a0 a1 t196 x15_3 = some r) ∧ Aside0 (kq ≤ k) ∧ Drawn0 w wc)
 case first =>
  have H := HC4.out
  clear HC4
  by_cases c5 : a1 = 0
  ·rw [if_pos c5] at H
   have c5b0 : (a1 == 0) = true := beq_iff_eq.mpr c5
   have c5b1 : (a1 != 0) = false := bne_eq_false_iff_eq.mpr c5
   clear c5
   (first | rw [c5b0] | (simp only [i64_w, i32_w]; rw [c5b0]) | skip)
   have H' := Aside0.mk H
   clear H
   go_wp2
   go_meet
   case rel => exact ⟨_, (true), (by first | rfl | (simp; done) | (simp [*]; done)), H', ⟨by first | omega | exact Nat.le_refl _⟩, by repeat (first | exact Drawn0.refl _ | apply Drawn0.step)⟩
  ·rw [if_neg c5] at H
   have c5b0 : (a1 == 0) = false := beq_eq_false_iff_ne.mpr c5
   have c5b1 : (a1 != 0) = true := bne_iff_ne.mpr c5
   (first | rw [c5b0] | (simp only [i64_w, i32_w]; rw [c5b0]) | skip)
   have H' := Aside0.mk H
   clear H
   go_wp2
   go_meet
   case rel => exact ⟨_, ((a1 == (-1))), (by first | rfl | (simp; done) | (simp [*]; done)), H', ⟨by first | omega | exact Nat.le_refl _⟩, by repeat (first | exact Drawn0.refl _ | apply Drawn0.step)⟩
 case rest =>
  clear HC4
  try clear p2
  try clear c5
  try clear c5b0
  try clear c5b1
  obtain ⟨kq, x15_3, rfl, HA, HJ3, ⟨mc3, rfl⟩⟩ := hcut
  cases kq with
  | zero => exact absurd HA.out (by simp [num_Div.j0])
  | succ kj3 =>
   have H := HA.out
   clear HA
   simp only [num_Div.j0] at H
   by_cases c6 : x15_3 = true
   ·subst c6
    have H1 : (some t196) = some r := by rw [if_pos rfl] at H; exact H
    clear H
    have H := H1
    clear H1
    obtain rfl := Option.some.inj H
    go_wp2
    go_ret
    exact ⟨by first | rfl | (simp; done) | (simp [*]; done), by repeat (first | exact Drawn0.refl _ | apply Drawn0.step)⟩
   ·replace c6 := Bool.eq_false_iff.mpr c6
    subst c6
    have H1 : (if a1 > 0 then (if (wrap64 (a0 - (wrap64 (t196 * a1)))) ≥ (wrap64 (a1 - (wrap64 (a0 - (wrap64 (t196 * a1)))))) then (some (wrap64 (t196 + 1))) else (if a1 < 0 then (if (wrap64 (a0 - (wrap64 (t196 * a1)))) ≤ (wrap64 (a1 - (wrap64 (a0 - (wrap64 (t196 * a1)))))) then (some (wrap64 (t196 + 1))) else (some t196)) else (some t196))) else (if a1 < 0 then (if (wrap64 (a0 - (wrap64 (t196 * a1)))) ≤ (wrap64 (a1 - (wrap64 (a0 - (wrap64 (t196 * a1)))))) then (some (wrap64 (t196 + 1))) else (some t196)) else (some t196))) = some r := by rw [if_neg (show ¬ (false = true) by decide)] at H; exact H
    clear H
    have H := H1
    clear H1
    by_cases c7 : a1 > 0
    ·rw [if_pos c7] at H
     have c7b0 : decide (0 < a1) = true := decide_eq_true c7
     clear c7
     by_cases c8 : (wrap64 (a0 - (wrap64 (t196 * a1)))) ≥ (wrap64 (a1 - (wrap64 (a0 - (wrap64 (t196 * a1))))))
     ·rw [if_pos c8] at H
      have c8b0 : decide ((wrap64 (a1 - (wrap64 (a0 - (wrap64 (t196 * a1)))))) ≤ (wrap64 (a0 - (wrap64 (t196 * a1))))) = true := decide_eq_true c8
      clear c8
      obtain rfl := Option.some.inj H
      go_wp2
      go_ret
      exact ⟨by first | rfl | (simp; done) | (simp [*]; done), by repeat (first | exact Drawn0.refl _ | apply Drawn0.step)⟩
     ·rw [if_neg c8] at H
      have c8b0 : decide ((wrap64 (a1 - (wrap64 (a0 - (wrap64 (t196 * a1)))))) ≤ (wrap64 (a0 - (wrap64 (t196 * a1))))) = false := decide_eq_false c8
      clear c8
      by_cases c9 : a1 < 0
      ·rw [if_pos c9] at H
       have c9b0 : decide (a1 < 0) = true := decide_eq_true c9
       clear c9
       by_cases c10 : (wrap64 (a0 - (wrap64 (t196 * a1)))) ≤ (wrap64 (a1 - (wrap64 (a0 - (wrap64 (t196 * a1))))))
       ·rw [if_pos c10] at H
        have c10b0 : decide ((wrap64 (a0 - (wrap64 (t196 * a1)))) ≤ (wrap64 (a1 - (wrap64 (a0 - (wrap64 (t196 * a1))))))) = true := decide_eq_true c10
        clear c10
        obtain rfl := Option.some.inj H
        go_wp2
        go_ret
        exact ⟨by first | rfl | (simp; done) | (simp [*]; done), by repeat (first | exact Drawn0.refl _ | apply Drawn0.step)⟩
       ·rw [if_neg c10] at H
        have c10b0 : decide ((wrap64 (a0 - (wrap64 (t196 * a1)))) ≤ (wrap64 (a1 - (wrap64 (a0 - (wrap64 (t196 * a1))))))) = false := decide_eq_false c10
        clear c10
        obtain rfl := Option.some.inj H
        go_wp2
        go_ret
        exact ⟨by first | rfl | (simp; done) | (simp [*]; done), by repeat (first | exact Drawn0.refl _ | apply Drawn0.step)⟩
      ·rw [if_neg c9] at H
       have c9b0 : decide (a1 < 0) = false := decide_eq_false c9
       clear c9
       obtain rfl := Option.some.inj H
       go_wp2
       go_ret
       exact ⟨by first | rfl | (simp; done) | (simp [*]; done), by repeat (first | exact Drawn0.refl _ | apply Drawn0.step)⟩
    ·rw [if_neg c7] at H
     have c7b0 : decide (0 < a1) = false := decide_eq_false c7
     clear c7
     by_cases c11 : a1 < 0
     ·rw [if_pos c11] at H
      have c11b0 : decide (a1 < 0) = true := decide_eq_true c11
      clear c11
      by_cases c12 : (wrap64 (a0 - (wrap64 (t196 * a1)))) ≤ (wrap64 (a1 - (wrap64 (a0 - (wrap64 (t196 * a1))))))
      ·rw [if_pos c12] at H
       have c12b0 : decide ((wrap64 (a0 - (wrap64 (t196 * a1)))) ≤ (wrap64 (a1 - (wrap64 (a0 - (wrap64 (t196 * a1))))))) = true := decide_eq_true c12
       clear c12
       obtain rfl := Option.some.inj H
       go_wp2
       go_ret
       exact ⟨by first | rfl | (simp; done) | (simp [*]; done), by repeat (first | exact Drawn0.refl _ | apply Drawn0.step)⟩
      ·rw [if_neg c12] at H
       have c12b0 : decide ((wrap64 (a0 - (wrap64 (t196 * a1)))) ≤ (wrap64 (a1 - (wrap64 (a0 - (wrap64 (t196 * a1))))))) = false := decide_eq_false c12
       clear c12
       obtain rfl := Option.some.inj H
       go_wp2
       go_ret
       exact ⟨by first | rfl | (simp; done) | (simp [*]; done), by repeat (first | exact Drawn0.refl _ | apply Drawn0.step)⟩
     ·rw [if_neg c11] at H
      have c11b0 : decide (a1 < 0) = false := decide_eq_false c11
      clear c11
      obtain rfl := Option.some.inj H
      go_wp2
      go_ret
      exact ⟨by first | rfl | (simp; done) | (simp [*]; done), by repeat (first | exact Drawn0.refl _ | apply Drawn0.step)⟩

end Go.Proofs.Ytocefehnemahhaa.G
