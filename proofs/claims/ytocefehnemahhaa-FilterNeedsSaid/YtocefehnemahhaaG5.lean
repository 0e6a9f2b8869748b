-- laid by gprint.py (a program of this proof's writer) out of the translation; Lean checks it.
import Derived.Test.YtocefehnemahhaaG0
import Derived.Test.YtocefehnemahhaaG4
namespace Go.Proofs.Ytocefehnemahhaa.G
open Go.RowKit Go.Proofs.YtocefehnemahhaaW.PrintWords Go.Proofs.YtocefehnemahhaaW.PrintLast Go.Proofs.YtocefehnemahhaaW.PrintMore
attribute [local go_sem] max2_int min2_int max_two min_two max_three min_three max_four min_four   -- for this text's walks alone
set_option linter.unusedVariables false
set_option linter.unusedSimpArgs false

/-! ### imageeditorref16_Check: function 10 -/
def imageeditorref16_Check.j0 : Nat → List Int → Bool → Int → Bool → Option (Int)
 | 0, _, _, _, _ => none
 | k + 1, x1, x5, x14, x15 => if x15 = true then (if 0 < (x1.length : Int) then ((imageeditorref16_within.f (rd x1 0) 0 16).bind fun t182 => (if t182 = true then (some 0) else (some 2))) else (none)) else (if x14 = 2 then (if 0 < (x1.length : Int) then ((imageeditorref16_within.f (rd x1 0) 0 7).bind fun t184 => (if t184 = true then (some 0) else (some 2))) else (none)) else (if x14 = 4 then (if 0 < (x1.length : Int) then ((imageeditorref16_within.f (rd x1 0) 0 4).bind fun t186 => (if t186 = true then (some 0) else (some 2))) else (none)) else (if x14 = 3 then (if 0 < (x1.length : Int) then ((imageeditorref16_within.f (rd x1 0) 0 16).bind fun t188 => (if t188 = true then (if 1 < (x1.length : Int) then ((imageeditorref16_within.f (rd x1 1) 0 262140).bind fun t190 => (if t190 = true then (some 0) else (some 2))) else (none)) else (some 2))) else (none)) else (if x14 = 9 then (if 0 < (x1.length : Int) then ((imageeditorref16_within.f (rd x1 0) (-16) 16).bind fun t192 => (if t192 = true then (if 1 < (x1.length : Int) then ((imageeditorref16_within.f (rd x1 1) (-16) 16).bind fun t194 => (if t194 = true then (some 0) else (some 2))) else (none)) else (some 2))) else (none)) else (if x14 = 10 then (if 0 < (x1.length : Int) then ((imageeditorref16_within.f (rd x1 0) 1 16).bind fun t196 => (if t196 = true then (some 0) else (some 2))) else (none)) else (if x5 = true then (some 0) else (some 2)))))))
def imageeditorref16_Check.f (k : Nat) (a0 : Int) (l1 : List Int) : Option (Int) := (imageeditorref16_within.f a0 1 10).bind fun t179 => (if t179 = true then ((imageeditorref16_count.f k a0).bind fun t180 => (if (l1.length : Int) = t180 then (if a0 = 1 then (imageeditorref16_Check.j0 k l1 true a0 (a0 == 1)) else (if a0 = 7 then (imageeditorref16_Check.j0 k l1 true a0 (a0 == 7)) else (imageeditorref16_Check.j0 k l1 true a0 (a0 == 8)))) else (some 1))) else (some 8))
theorem imageeditorref16_Check.mono_l : ∀ k, (∀ y0 y1 y2 y3, LeO (imageeditorref16_Check.j0 k y0 y1 y2 y3) (imageeditorref16_Check.j0 (k + 1) y0 y1 y2 y3))
 | 0 => fun _ _ _ _ r h => by simp [imageeditorref16_Check.j0] at h
 | k + 1 => by
  have ih0 := imageeditorref16_Check.mono_l k
  ·intro y0 y1 y2 y3
   unfold imageeditorref16_Check.j0
   repeat' first
   | (with_reducible exact ih0 _ _ _ _)
   | (with_reducible exact imageeditorref16_count.mono _ _)
   | (with_reducible exact LeO.refl _)
   | (with_reducible exact LeO.none _)
   | (with_reducible refine LeO.ite ?_ ?_)
   | (with_reducible refine LeO.bind ?_ (fun _ => ?_))
   | exact ih0 _ _ _ _
   | exact imageeditorref16_count.mono _ _
   | exact LeO.none _
   | refine LeO.ite ?_ ?_
   | refine LeO.bind ?_ (fun _ => ?_)
theorem imageeditorref16_Check.mono : ∀ a0 a1 k, LeO (imageeditorref16_Check.f k a0 a1) (imageeditorref16_Check.f (k + 1) a0 a1) := by
 intro a0 a1 k
 have ih0 := imageeditorref16_Check.mono_l k
 unfold imageeditorref16_Check.f
 repeat' first
   | (with_reducible exact ih0 _ _ _ _)
   | (with_reducible exact imageeditorref16_count.mono _ _)
   | (with_reducible exact LeO.refl _)
   | (with_reducible exact LeO.none _)
   | (with_reducible refine LeO.ite ?_ ?_)
   | (with_reducible refine LeO.bind ?_ (fun _ => ?_))
   | exact ih0 _ _ _ _
   | exact imageeditorref16_count.mono _ _
   | exact LeO.none _
   | refine LeO.ite ?_ ?_
   | refine LeO.bind ?_ (fun _ => ?_)
set_option maxHeartbeats 8000000 in
set_option maxRecDepth 100000 in
theorem imageeditorref16_Check.calls (k : Nat) (a0 : Int) (A1 : Option Addr) (c1 : Nat) (l1 : List Int) (r : Int) (w : World) (hr1 : Kd.C (Kd.int .i64) w A1 l1.length l1) (hc1 : l1.length ≤ c1) (h : imageeditorref16_Check.f k a0 l1 = some r) :
  Calls Try.prog 10 #[.int .i64 a0, .slice A1 l1.length c1] w fun e w' => e = .returned (.int .i64 r) ∧ Drawn0 w w' := by
 have HR1 := Aside0.mk hr1
 have HC1 := Aside0.mk hc1
 clear hr1 hc1
 have H : ((imageeditorref16_within.f a0 1 10).bind fun t179 => (if t179 = true then ((imageeditorref16_count.f k a0).bind fun t180 => (if (l1.length : Int) = t180 then (if a0 = 1 then (imageeditorref16_Check.j0 k l1 true a0 (a0 == 1)) else (if a0 = 7 then (imageeditorref16_Check.j0 k l1 true a0 (a0 == 7)) else (imageeditorref16_Check.j0 k l1 true a0 (a0 == 8)))) else (some 1))) else (some 8))) = some r := h
 clear h
 replace H := Option.bind_eq_some_iff.mp H
 obtain ⟨t179, A30, H⟩ := H
 replace H : (if t179 = true then ((imageeditorref16_count.f k a0).bind fun t180 => (if (l1.length : Int) = t180 then (if a0 = 1 then (imageeditorref16_Check.j0 k l1 true a0 (a0 == 1)) else (if a0 = 7 then (imageeditorref16_Check.j0 k l1 true a0 (a0 == 7)) else (imageeditorref16_Check.j0 k l1 true a0 (a0 == 8)))) else (some 1))) else (some 8)) = some r := H
 have A3 := Aside0.mk A30
 clear A30
 by_cases c4 : t179 = true
 ·subst c4
  have H1 : ((imageeditorref16_count.f k a0).bind fun t180 => (if (l1.length : Int) = t180 then (if a0 = 1 then (imageeditorref16_Check.j0 k l1 true a0 (a0 == 1)) else (if a0 = 7 then (imageeditorref16_Check.j0 k l1 true a0 (a0 == 7)) else (imageeditorref16_Check.j0 k l1 true a0 (a0 == 8)))) else (some 1))) = some r := by rw [if_pos rfl] at H; exact H
  clear H
  have H := H1
  clear H1
  replace H := Option.bind_eq_some_iff.mp H
  obtain ⟨t180, A50, H⟩ := H
  replace H : (if (l1.length : Int) = t180 then (if a0 = 1 then (imageeditorref16_Check.j0 k l1 true a0 (a0 == 1)) else (if a0 = 7 then (imageeditorref16_Check.j0 k l1 true a0 (a0 == 7)) else (imageeditorref16_Check.j0 k l1 true a0 (a0 == 8)))) else (some 1)) = some r := H
  have A5 := Aside0.mk A50
  clear A50
  by_cases c6 : (l1.length : Int) = t180
  ·rw [if_pos c6] at H
   have c6b0 : ((l1.length : Int) == t180) = true := beq_iff_eq.mpr c6
   have c6b1 : ((l1.length : Int) != t180) = false := bne_eq_false_iff_eq.mpr c6
   clear c6
   have HC7 := Aside0.mk H
   clear H
   go_enter Try.func10, Try.ntmps10
   go_upto_if 15 with (first | ((with_reducible refine gate_callee (f := 32) rfl ?_); refine goesL_ (some 7) rfl rfl Try.func32 (by kernel_rfl) rfl #[.int .i64 a0, .int .i64 1, .int .i64 10] rfl (by (try simp only [List.map_toArray, List.map_cons, List.map_nil]); first | done | rfl | (simp only [List.length_drop, List.length_take]; rfl)) ?_; (with_reducible refine (imageeditorref16_within.calls a0 1 10 true _ A3.out).mono ?_); rintro e w' ⟨rfl, ⟨nd, rfl⟩⟩; refine ⟨_, rfl, ?_⟩) | ((with_reducible refine gate_callee (f := 33) rfl ?_); refine goesL_ (some 12) rfl rfl Try.func33 (by kernel_rfl) rfl #[.int .i64 a0] rfl (by (try simp only [List.map_toArray, List.map_cons, List.map_nil]); first | done | rfl | (simp only [List.length_drop, List.length_take]; rfl)) ?_; (with_reducible refine (imageeditorref16_count.calls k a0 t180 _ A5.out).mono ?_); rintro e w' ⟨rfl, ⟨nd, rfl⟩⟩; refine ⟨_, rfl, ?_⟩))
   (try simp only [Act.put, List.setIfInBounds_toArray, List.set_cons_zero, List.set_cons_succ])
   go_cut [15] (fun v15 wc => ∃ (kq : Nat) (x15_6 : Bool), v15 = .bool x15_6 ∧ Aside0 (imageeditorref16_Check.j0 kq l1 true a0 x15_6 = some r) ∧ Aside0 (kq ≤ k) ∧ Drawn0 w wc)
   case first =>
    have H := HC7.out
    clear HC7
    by_cases c8 : a0 = 1
    ·rw [if_pos c8] at H
     have c8b0 : (a0 == 1) = true := beq_iff_eq.mpr c8
     have c8b1 : (a0 != 1) = false := bne_eq_false_iff_eq.mpr c8
     clear c8
     (first | rw [c8b0] | (simp only [i64_w, i32_w]; rw [c8b0]) | skip)
     have H' := Aside0.mk H
     clear H
     go_wp2
     go_meet
     case rel => exact ⟨_, ((a0 == 1)), (by first | rfl | (simp; done) | (simp [*]; done)), H', ⟨by first | omega | exact Nat.le_refl _⟩, by repeat (first | exact Drawn0.refl _ | apply Drawn0.step)⟩
    ·rw [if_neg c8] at H
     have c8b0 : (a0 == 1) = false := beq_eq_false_iff_ne.mpr c8
     have c8b1 : (a0 != 1) = true := bne_iff_ne.mpr c8
     (first | rw [c8b0] | (simp only [i64_w, i32_w]; rw [c8b0]) | skip)
     by_cases c9 : a0 = 7
     ·rw [if_pos c9] at H
      have c9b0 : (a0 == 7) = true := beq_iff_eq.mpr c9
      have c9b1 : (a0 != 7) = false := bne_eq_false_iff_eq.mpr c9
      clear c9
      have H' := Aside0.mk H
      clear H
      go_wp2
      go_meet
      case rel => exact ⟨_, ((a0 == 7)), (by first | rfl | (simp; done) | (simp [*]; done)), H', ⟨by first | omega | exact Nat.le_refl _⟩, by repeat (first | exact Drawn0.refl _ | apply Drawn0.step)⟩
     ·rw [if_neg c9] at H
      have c9b0 : (a0 == 7) = false := beq_eq_false_iff_ne.mpr c9
      have c9b1 : (a0 != 7) = true := bne_iff_ne.mpr c9
      have H' := Aside0.mk H
      clear H
      go_wp2
      go_meet
      case rel => exact ⟨_, ((a0 == 8)), (by first | rfl | (simp; done) | (simp [*]; done)), H', ⟨by first | omega | exact Nat.le_refl _⟩, by repeat (first | exact Drawn0.refl _ | apply Drawn0.step)⟩
   case rest =>
    clear HC7
    try clear c1
    try clear p2
    try clear c3
    try clear c4
    try clear c6
    try clear c6b0
    try clear c6b1
    try clear c8
    try clear c8b0
    try clear c8b1
    try clear c9
    try clear c9b0
    try clear c9b1
    obtain ⟨kq, x15_6, rfl, HA, HJ6, ⟨mc6, rfl⟩⟩ := hcut
    cases kq with
    | zero => exact absurd HA.out (by simp [imageeditorref16_Check.j0])
    | succ kj6 =>
     have H := HA.out
     clear HA
     simp only [imageeditorref16_Check.j0] at H
     by_cases c10 : x15_6 = true
     ·subst c10
      have H1 : (if 0 < (l1.length : Int) then ((imageeditorref16_within.f (rd l1 0) 0 16).bind fun t182 => (if t182 = true then (some 0) else (some 2))) else (none)) = some r := by rw [if_pos rfl] at H; exact H
      clear H
      have H := H1
      clear H1
      by_cases c11 : 0 < (l1.length : Int)
      ·rw [if_pos c11] at H
       have c11b0 : decide (0 < (l1.length : Int)) = true := decide_eq_true c11
       have c11b1 : decide (0 < l1.length) = true := decide_eq_true (by omega)
       clear c11
       replace H := Option.bind_eq_some_iff.mp H
       obtain ⟨t182, A120, H⟩ := H
       replace H : (if t182 = true then (some 0) else (some 2)) = some r := H
       have A12 := Aside0.mk A120
       clear A120
       by_cases c13 : t182 = true
       ·subst c13
        have H1 : (some 0) = some r := by rw [if_pos rfl] at H; exact H
        clear H
        have H := H1
        clear H1
        obtain rfl := Option.some.inj H
        have p181 : 0 ≤ (0 : Int) := (by omega)
        have q181 : 0 < (l1.length : Int) := of_decide_eq_true (by first | (with_reducible assumption) | assumption)
        obtain ⟨ad181, e181, hx181_0⟩ := Kd.at_int HR1.out 0 p181 q181
        cases e181
        have qi181 : (0 < l1.length) = True := eq_true (by omega)
        (try rw [show ((0 : Int)).toNat = 0 from rfl] at hx181_0)
        (try rw [Addr.add_zero'] at hx181_0)
        replace p181 := eq_true p181
        replace q181 := eq_true q181
        go_wp2_with (first | ((with_reducible refine gate_callee (f := 32) rfl ?_); refine goesL_ (some 22) rfl rfl Try.func32 (by kernel_rfl) rfl #[.int .i64 (rd l1 0), .int .i64 0, .int .i64 16] rfl (by (try simp only [List.map_toArray, List.map_cons, List.map_nil]); first | done | rfl | (simp only [List.length_drop, List.length_take]; rfl)) ?_; (with_reducible refine (imageeditorref16_within.calls (rd l1 0) 0 16 true _ A12.out).mono ?_); rintro e w' ⟨rfl, ⟨nd, rfl⟩⟩; refine ⟨_, rfl, ?_⟩))
        go_ret
        exact ⟨by first | rfl | (simp; done) | (simp [*]; done), by repeat (first | exact Drawn0.refl _ | apply Drawn0.step)⟩
       ·replace c13 := Bool.eq_false_iff.mpr c13
        subst c13
        have H1 : (some 2) = some r := by rw [if_neg (show ¬ (false = true) by decide)] at H; exact H
        clear H
        have H := H1
        clear H1
        obtain rfl := Option.some.inj H
        have p181 : 0 ≤ (0 : Int) := (by omega)
        have q181 : 0 < (l1.length : Int) := of_decide_eq_true (by first | (with_reducible assumption) | assumption)
        obtain ⟨ad181, e181, hx181_0⟩ := Kd.at_int HR1.out 0 p181 q181
        cases e181
        have qi181 : (0 < l1.length) = True := eq_true (by omega)
        (try rw [show ((0 : Int)).toNat = 0 from rfl] at hx181_0)
        (try rw [Addr.add_zero'] at hx181_0)
        replace p181 := eq_true p181
        replace q181 := eq_true q181
        go_wp2_with (first | ((with_reducible refine gate_callee (f := 32) rfl ?_); refine goesL_ (some 22) rfl rfl Try.func32 (by kernel_rfl) rfl #[.int .i64 (rd l1 0), .int .i64 0, .int .i64 16] rfl (by (try simp only [List.map_toArray, List.map_cons, List.map_nil]); first | done | rfl | (simp only [List.length_drop, List.length_take]; rfl)) ?_; (with_reducible refine (imageeditorref16_within.calls (rd l1 0) 0 16 false _ A12.out).mono ?_); rintro e w' ⟨rfl, ⟨nd, rfl⟩⟩; refine ⟨_, rfl, ?_⟩))
        go_ret
        exact ⟨by first | rfl | (simp; done) | (simp [*]; done), by repeat (first | exact Drawn0.refl _ | apply Drawn0.step)⟩
      ·rw [if_neg c11] at H
       exact absurd H (by simp)
     ·replace c10 := Bool.eq_false_iff.mpr c10
      subst c10
      have H1 : (if a0 = 2 then (if 0 < (l1.length : Int) then ((imageeditorref16_within.f (rd l1 0) 0 7).bind fun t184 => (if t184 = true then (some 0) else (some 2))) else (none)) else (if a0 = 4 then (if 0 < (l1.length : Int) then ((imageeditorref16_within.f (rd l1 0) 0 4).bind fun t186 => (if t186 = true then (some 0) else (some 2))) else (none)) else (if a0 = 3 then (if 0 < (l1.length : Int) then ((imageeditorref16_within.f (rd l1 0) 0 16).bind fun t188 => (if t188 = true then (if 1 < (l1.length : Int) then ((imageeditorref16_within.f (rd l1 1) 0 262140).bind fun t190 => (if t190 = true then (some 0) else (some 2))) else (none)) else (some 2))) else (none)) else (if a0 = 9 then (if 0 < (l1.length : Int) then ((imageeditorref16_within.f (rd l1 0) (-16) 16).bind fun t192 => (if t192 = true then (if 1 < (l1.length : Int) then ((imageeditorref16_within.f (rd l1 1) (-16) 16).bind fun t194 => (if t194 = true then (some 0) else (some 2))) else (none)) else (some 2))) else (none)) else (if a0 = 10 then (if 0 < (l1.length : Int) then ((imageeditorref16_within.f (rd l1 0) 1 16).bind fun t196 => (if t196 = true then (some 0) else (some 2))) else (none)) else (if true = true then (some 0) else (some 2))))))) = some r := by rw [if_neg (show ¬ (false = true) by decide)] at H; exact H
      clear H
      have H := H1
      clear H1
      by_cases c14 : a0 = 2
      ·rw [if_pos c14] at H
       have c14b0 : (a0 == 2) = true := beq_iff_eq.mpr c14
       have c14b1 : (a0 != 2) = false := bne_eq_false_iff_eq.mpr c14
       clear c14
       by_cases c15 : 0 < (l1.length : Int)
       ·rw [if_pos c15] at H
        have c15b0 : decide (0 < (l1.length : Int)) = true := decide_eq_true c15
        have c15b1 : decide (0 < l1.length) = true := decide_eq_true (by omega)
        clear c15
        replace H := Option.bind_eq_some_iff.mp H
        obtain ⟨t184, A160, H⟩ := H
        replace H : (if t184 = true then (some 0) else (some 2)) = some r := H
        have A16 := Aside0.mk A160
        clear A160
        by_cases c17 : t184 = true
        ·subst c17
         have H1 : (some 0) = some r := by rw [if_pos rfl] at H; exact H
         clear H
         have H := H1
         clear H1
         obtain rfl := Option.some.inj H
         have p183 : 0 ≤ (0 : Int) := (by omega)
         have q183 : 0 < (l1.length : Int) := of_decide_eq_true (by first | (with_reducible assumption) | assumption)
         obtain ⟨ad183, e183, hx183_0⟩ := Kd.at_int HR1.out 0 p183 q183
         cases e183
         have qi183 : (0 < l1.length) = True := eq_true (by omega)
         (try rw [show ((0 : Int)).toNat = 0 from rfl] at hx183_0)
         (try rw [Addr.add_zero'] at hx183_0)
         replace p183 := eq_true p183
         replace q183 := eq_true q183
         go_wp2_with (first | ((with_reducible refine gate_callee (f := 32) rfl ?_); refine goesL_ (some 28) rfl rfl Try.func32 (by kernel_rfl) rfl #[.int .i64 (rd l1 0), .int .i64 0, .int .i64 7] rfl (by (try simp only [List.map_toArray, List.map_cons, List.map_nil]); first | done | rfl | (simp only [List.length_drop, List.length_take]; rfl)) ?_; (with_reducible refine (imageeditorref16_within.calls (rd l1 0) 0 7 true _ A16.out).mono ?_); rintro e w' ⟨rfl, ⟨nd, rfl⟩⟩; refine ⟨_, rfl, ?_⟩))
         go_ret
         exact ⟨by first | rfl | (simp; done) | (simp [*]; done), by repeat (first | exact Drawn0.refl _ | apply Drawn0.step)⟩
        ·replace c17 := Bool.eq_false_iff.mpr c17
         subst c17
         have H1 : (some 2) = some r := by rw [if_neg (show ¬ (false = true) by decide)] at H; exact H
         clear H
         have H := H1
         clear H1
         obtain rfl := Option.some.inj H
         have p183 : 0 ≤ (0 : Int) := (by omega)
         have q183 : 0 < (l1.length : Int) := of_decide_eq_true (by first | (with_reducible assumption) | assumption)
         obtain ⟨ad183, e183, hx183_0⟩ := Kd.at_int HR1.out 0 p183 q183
         cases e183
         have qi183 : (0 < l1.length) = True := eq_true (by omega)
         (try rw [show ((0 : Int)).toNat = 0 from rfl] at hx183_0)
         (try rw [Addr.add_zero'] at hx183_0)
         replace p183 := eq_true p183
         replace q183 := eq_true q183
         go_wp2_with (first | ((with_reducible refine gate_callee (f := 32) rfl ?_); refine goesL_ (some 28) rfl rfl Try.func32 (by kernel_rfl) rfl #[.int .i64 (rd l1 0), .int .i64 0, .int .i64 7] rfl (by (try simp only [List.map_toArray, List.map_cons, List.map_nil]); first | done | rfl | (simp only [List.length_drop, List.length_take]; rfl)) ?_; (with_reducible refine (imageeditorref16_within.calls (rd l1 0) 0 7 false _ A16.out).mono ?_); rintro e w' ⟨rfl, ⟨nd, rfl⟩⟩; refine ⟨_, rfl, ?_⟩))
         go_ret
         exact ⟨by first | rfl | (simp; done) | (simp [*]; done), by repeat (first | exact Drawn0.refl _ | apply Drawn0.step)⟩
       ·rw [if_neg c15] at H
        exact absurd H (by simp)
      ·rw [if_neg c14] at H
       have c14b0 : (a0 == 2) = false := beq_eq_false_iff_ne.mpr c14
       have c14b1 : (a0 != 2) = true := bne_iff_ne.mpr c14
       by_cases c18 : a0 = 4
       ·rw [if_pos c18] at H
        have c18b0 : (a0 == 4) = true := beq_iff_eq.mpr c18
        have c18b1 : (a0 != 4) = false := bne_eq_false_iff_eq.mpr c18
        clear c18
        by_cases c19 : 0 < (l1.length : Int)
        ·rw [if_pos c19] at H
         have c19b0 : decide (0 < (l1.length : Int)) = true := decide_eq_true c19
         have c19b1 : decide (0 < l1.length) = true := decide_eq_true (by omega)
         clear c19
         replace H := Option.bind_eq_some_iff.mp H
         obtain ⟨t186, A200, H⟩ := H
         replace H : (if t186 = true then (some 0) else (some 2)) = some r := H
         have A20 := Aside0.mk A200
         clear A200
         by_cases c21 : t186 = true
         ·subst c21
          have H1 : (some 0) = some r := by rw [if_pos rfl] at H; exact H
          clear H
          have H := H1
          clear H1
          obtain rfl := Option.some.inj H
          have p185 : 0 ≤ (0 : Int) := (by omega)
          have q185 : 0 < (l1.length : Int) := of_decide_eq_true (by first | (with_reducible assumption) | assumption)
          obtain ⟨ad185, e185, hx185_0⟩ := Kd.at_int HR1.out 0 p185 q185
          cases e185
          have qi185 : (0 < l1.length) = True := eq_true (by omega)
          (try rw [show ((0 : Int)).toNat = 0 from rfl] at hx185_0)
          (try rw [Addr.add_zero'] at hx185_0)
          replace p185 := eq_true p185
          replace q185 := eq_true q185
          go_wp2_with (first | ((with_reducible refine gate_callee (f := 32) rfl ?_); refine goesL_ (some 34) rfl rfl Try.func32 (by kernel_rfl) rfl #[.int .i64 (rd l1 0), .int .i64 0, .int .i64 4] rfl (by (try simp only [List.map_toArray, List.map_cons, List.map_nil]); first | done | rfl | (simp only [List.length_drop, List.length_take]; rfl)) ?_; (with_reducible refine (imageeditorref16_within.calls (rd l1 0) 0 4 true _ A20.out).mono ?_); rintro e w' ⟨rfl, ⟨nd, rfl⟩⟩; refine ⟨_, rfl, ?_⟩))
          go_ret
          exact ⟨by first | rfl | (simp; done) | (simp [*]; done), by repeat (first | exact Drawn0.refl _ | apply Drawn0.step)⟩
         ·replace c21 := Bool.eq_false_iff.mpr c21
          subst c21
          have H1 : (some 2) = some r := by rw [if_neg (show ¬ (false = true) by decide)] at H; exact H
          clear H
          have H := H1
          clear H1
          obtain rfl := Option.some.inj H
          have p185 : 0 ≤ (0 : Int) := (by omega)
          have q185 : 0 < (l1.length : Int) := of_decide_eq_true (by first | (with_reducible assumption) | assumption)
          obtain ⟨ad185, e185, hx185_0⟩ := Kd.at_int HR1.out 0 p185 q185
          cases e185
          have qi185 : (0 < l1.length) = True := eq_true (by omega)
          (try rw [show ((0 : Int)).toNat = 0 from rfl] at hx185_0)
          (try rw [Addr.add_zero'] at hx185_0)
          replace p185 := eq_true p185
          replace q185 := eq_true q185
          go_wp2_with (first | ((with_reducible refine gate_callee (f := 32) rfl ?_); refine goesL_ (some 34) rfl rfl Try.func32 (by kernel_rfl) rfl #[.int .i64 (rd l1 0), .int .i64 0, .int .i64 4] rfl (by (try simp only [List.map_toArray, List.map_cons, List.map_nil]); first | done | rfl | (simp only [List.length_drop, List.length_take]; rfl)) ?_; (with_reducible refine (imageeditorref16_within.calls (rd l1 0) 0 4 false _ A20.out).mono ?_); rintro e w' ⟨rfl, ⟨nd, rfl⟩⟩; refine ⟨_, rfl, ?_⟩))
          go_ret
          exact ⟨by first | rfl | (simp; done) | (simp [*]; done), by repeat (first | exact Drawn0.refl _ | apply Drawn0.step)⟩
        ·rw [if_neg c19] at H
         exact absurd H (by simp)
       ·rw [if_neg c18] at H
        have c18b0 : (a0 == 4) = false := beq_eq_false_iff_ne.mpr c18
        have c18b1 : (a0 != 4) = true := bne_iff_ne.mpr c18
        by_cases c22 : a0 = 3
        ·rw [if_pos c22] at H
         have c22b0 : (a0 == 3) = true := beq_iff_eq.mpr c22
         have c22b1 : (a0 != 3) = false := bne_eq_false_iff_eq.mpr c22
         clear c22
         by_cases c23 : 0 < (l1.length : Int)
         ·rw [if_pos c23] at H
          have c23b0 : decide (0 < (l1.length : Int)) = true := decide_eq_true c23
          have c23b1 : decide (0 < l1.length) = true := decide_eq_true (by omega)
          clear c23
          replace H := Option.bind_eq_some_iff.mp H
          obtain ⟨t188, A240, H⟩ := H
          replace H : (if t188 = true then (if 1 < (l1.length : Int) then ((imageeditorref16_within.f (rd l1 1) 0 262140).bind fun t190 => (if t190 = true then (some 0) else (some 2))) else (none)) else (some 2)) = some r := H
          have A24 := Aside0.mk A240
          clear A240
          by_cases c25 : t188 = true
          ·subst c25
           have H1 : (if 1 < (l1.length : Int) then ((imageeditorref16_within.f (rd l1 1) 0 262140).bind fun t190 => (if t190 = true then (some 0) else (some 2))) else (none)) = some r := by rw [if_pos rfl] at H; exact H
           clear H
           have H := H1
           clear H1
           by_cases c26 : 1 < (l1.length : Int)
           ·rw [if_pos c26] at H
            have c26b0 : decide (1 < (l1.length : Int)) = true := decide_eq_true c26
            have c26b1 : decide (1 < l1.length) = true := decide_eq_true (by omega)
            clear c26
            replace H := Option.bind_eq_some_iff.mp H
            obtain ⟨t190, A270, H⟩ := H
            replace H : (if t190 = true then (some 0) else (some 2)) = some r := H
            have A27 := Aside0.mk A270
            clear A270
            by_cases c28 : t190 = true
            ·subst c28
             have H1 : (some 0) = some r := by rw [if_pos rfl] at H; exact H
             clear H
             have H := H1
             clear H1
             obtain rfl := Option.some.inj H
             have p187 : 0 ≤ (0 : Int) := (by omega)
             have q187 : 0 < (l1.length : Int) := of_decide_eq_true (by first | (with_reducible assumption) | assumption)
             obtain ⟨ad187, e187, hx187_0⟩ := Kd.at_int HR1.out 0 p187 q187
             cases e187
             have qi187 : (0 < l1.length) = True := eq_true (by omega)
             (try rw [show ((0 : Int)).toNat = 0 from rfl] at hx187_0)
             (try rw [Addr.add_zero'] at hx187_0)
             replace p187 := eq_true p187
             replace q187 := eq_true q187
             go_wp2_with (first | ((with_reducible refine gate_callee (f := 32) rfl ?_); refine goesL_ (some 40) rfl rfl Try.func32 (by kernel_rfl) rfl #[.int .i64 (rd l1 0), .int .i64 0, .int .i64 16] rfl (by (try simp only [List.map_toArray, List.map_cons, List.map_nil]); first | done | rfl | (simp only [List.length_drop, List.length_take]; rfl)) ?_; (with_reducible refine (imageeditorref16_within.calls (rd l1 0) 0 16 true _ A24.out).mono ?_); rintro e w' ⟨rfl, ⟨nd, rfl⟩⟩; refine ⟨_, rfl, ?_⟩; have p189 : 0 ≤ (1 : Int) := (by omega); have q189 : 1 < (l1.length : Int) := of_decide_eq_true (by first | (with_reducible assumption) | assumption); obtain ⟨ad189, e189, hx189_0⟩ := Kd.at_int HR1.out 1 p189 q189; obtain rfl : ad187 = ad189 := (by injection e189); (try simp only [show (1 : Int).toNat = 1 from rfl, Nat.reduceMul, Nat.reduceEqDiff, Go.Addr.add, ↓reduceIte] at hx189_0); have qi189 : (1 < l1.length) = True := eq_true (by omega); (try rw [show ((1 : Int)).toNat = 1 from rfl] at hx189_0); replace p189 := eq_true p189; replace q189 := eq_true q189) | (go_at_call 32; (with_reducible refine (imageeditorref16_within.calls (rd l1 1) 0 262140 true _ A27.out).mono ?_); rintro e w' ⟨rfl, ⟨nd, rfl⟩⟩))
             go_ret
             exact ⟨by first | rfl | (simp; done) | (simp [*]; done), by repeat (first | exact Drawn0.refl _ | apply Drawn0.step)⟩
            ·replace c28 := Bool.eq_false_iff.mpr c28
             subst c28
             have H1 : (some 2) = some r := by rw [if_neg (show ¬ (false = true) by decide)] at H; exact H
             clear H
             have H := H1
             clear H1
             obtain rfl := Option.some.inj H
             have p187 : 0 ≤ (0 : Int) := (by omega)
             have q187 : 0 < (l1.length : Int) := of_decide_eq_true (by first | (with_reducible assumption) | assumption)
             obtain ⟨ad187, e187, hx187_0⟩ := Kd.at_int HR1.out 0 p187 q187
             cases e187
             have qi187 : (0 < l1.length) = True := eq_true (by omega)
             (try rw [show ((0 : Int)).toNat = 0 from rfl] at hx187_0)
             (try rw [Addr.add_zero'] at hx187_0)
             replace p187 := eq_true p187
             replace q187 := eq_true q187
             go_wp2_with (first | ((with_reducible refine gate_callee (f := 32) rfl ?_); refine goesL_ (some 40) rfl rfl Try.func32 (by kernel_rfl) rfl #[.int .i64 (rd l1 0), .int .i64 0, .int .i64 16] rfl (by (try simp only [List.map_toArray, List.map_cons, List.map_nil]); first | done | rfl | (simp only [List.length_drop, List.length_take]; rfl)) ?_; (with_reducible refine (imageeditorref16_within.calls (rd l1 0) 0 16 true _ A24.out).mono ?_); rintro e w' ⟨rfl, ⟨nd, rfl⟩⟩; refine ⟨_, rfl, ?_⟩; have p189 : 0 ≤ (1 : Int) := (by omega); have q189 : 1 < (l1.length : Int) := of_decide_eq_true (by first | (with_reducible assumption) | assumption); obtain ⟨ad189, e189, hx189_0⟩ := Kd.at_int HR1.out 1 p189 q189; obtain rfl : ad187 = ad189 := (by injection e189); (try simp only [show (1 : Int).toNat = 1 from rfl, Nat.reduceMul, Nat.reduceEqDiff, Go.Addr.add, ↓reduceIte] at hx189_0); have qi189 : (1 < l1.length) = True := eq_true (by omega); (try rw [show ((1 : Int)).toNat = 1 from rfl] at hx189_0); replace p189 := eq_true p189; replace q189 := eq_true q189) | (go_at_call 32; (with_reducible refine (imageeditorref16_within.calls (rd l1 1) 0 262140 false _ A27.out).mono ?_); rintro e w' ⟨rfl, ⟨nd, rfl⟩⟩))
             go_ret
             exact ⟨by first | rfl | (simp; done) | (simp [*]; done), by repeat (first | exact Drawn0.refl _ | apply Drawn0.step)⟩
           ·rw [if_neg c26] at H
            exact absurd H (by simp)
          ·replace c25 := Bool.eq_false_iff.mpr c25
           subst c25
           have H1 : (some 2) = some r := by rw [if_neg (show ¬ (false = true) by decide)] at H; exact H
           clear H
           have H := H1
           clear H1
           obtain rfl := Option.some.inj H
           have p187 : 0 ≤ (0 : Int) := (by omega)
           have q187 : 0 < (l1.length : Int) := of_decide_eq_true (by first | (with_reducible assumption) | assumption)
           obtain ⟨ad187, e187, hx187_0⟩ := Kd.at_int HR1.out 0 p187 q187
           cases e187
           have qi187 : (0 < l1.length) = True := eq_true (by omega)
           (try rw [show ((0 : Int)).toNat = 0 from rfl] at hx187_0)
           (try rw [Addr.add_zero'] at hx187_0)
           replace p187 := eq_true p187
           replace q187 := eq_true q187
           go_wp2_with (first | ((with_reducible refine gate_callee (f := 32) rfl ?_); refine goesL_ (some 40) rfl rfl Try.func32 (by kernel_rfl) rfl #[.int .i64 (rd l1 0), .int .i64 0, .int .i64 16] rfl (by (try simp only [List.map_toArray, List.map_cons, List.map_nil]); first | done | rfl | (simp only [List.length_drop, List.length_take]; rfl)) ?_; (with_reducible refine (imageeditorref16_within.calls (rd l1 0) 0 16 false _ A24.out).mono ?_); rintro e w' ⟨rfl, ⟨nd, rfl⟩⟩; refine ⟨_, rfl, ?_⟩))
           go_ret
           exact ⟨by first | rfl | (simp; done) | (simp [*]; done), by repeat (first | exact Drawn0.refl _ | apply Drawn0.step)⟩
         ·rw [if_neg c23] at H
          exact absurd H (by simp)
        ·rw [if_neg c22] at H
         have c22b0 : (a0 == 3) = false := beq_eq_false_iff_ne.mpr c22
         have c22b1 : (a0 != 3) = true := bne_iff_ne.mpr c22
         by_cases c29 : a0 = 9
         ·rw [if_pos c29] at H
          have c29b0 : (a0 == 9) = true := beq_iff_eq.mpr c29
          have c29b1 : (a0 != 9) = false := bne_eq_false_iff_eq.mpr c29
          clear c29
          by_cases c30 : 0 < (l1.length : Int)
          ·rw [if_pos c30] at H
           have c30b0 : decide (0 < (l1.length : Int)) = true := decide_eq_true c30
           have c30b1 : decide (0 < l1.length) = true := decide_eq_true (by omega)
           clear c30
           replace H := Option.bind_eq_some_iff.mp H
           obtain ⟨t192, A310, H⟩ := H
           replace H : (if t192 = true then (if 1 < (l1.length : Int) then ((imageeditorref16_within.f (rd l1 1) (-16) 16).bind fun t194 => (if t194 = true then (some 0) else (some 2))) else (none)) else (some 2)) = some r := H
           have A31 := Aside0.mk A310
           clear A310
           by_cases c32 : t192 = true
           ·subst c32
            have H1 : (if 1 < (l1.length : Int) then ((imageeditorref16_within.f (rd l1 1) (-16) 16).bind fun t194 => (if t194 = true then (some 0) else (some 2))) else (none)) = some r := by rw [if_pos rfl] at H; exact H
            clear H
            have H := H1
            clear H1
            by_cases c33 : 1 < (l1.length : Int)
            ·rw [if_pos c33] at H
             have c33b0 : decide (1 < (l1.length : Int)) = true := decide_eq_true c33
             have c33b1 : decide (1 < l1.length) = true := decide_eq_true (by omega)
             clear c33
             replace H := Option.bind_eq_some_iff.mp H
             obtain ⟨t194, A340, H⟩ := H
             replace H : (if t194 = true then (some 0) else (some 2)) = some r := H
             have A34 := Aside0.mk A340
             clear A340
             by_cases c35 : t194 = true
             ·subst c35
              have H1 : (some 0) = some r := by rw [if_pos rfl] at H; exact H
              clear H
              have H := H1
              clear H1
              obtain rfl := Option.some.inj H
              have p191 : 0 ≤ (0 : Int) := (by omega)
              have q191 : 0 < (l1.length : Int) := of_decide_eq_true (by first | (with_reducible assumption) | assumption)
              obtain ⟨ad191, e191, hx191_0⟩ := Kd.at_int HR1.out 0 p191 q191
              cases e191
              have qi191 : (0 < l1.length) = True := eq_true (by omega)
              (try rw [show ((0 : Int)).toNat = 0 from rfl] at hx191_0)
              (try rw [Addr.add_zero'] at hx191_0)
              replace p191 := eq_true p191
              replace q191 := eq_true q191
              go_wp2_with (first | ((with_reducible refine gate_callee (f := 32) rfl ?_); refine goesL_ (some 52) rfl rfl Try.func32 (by kernel_rfl) rfl #[.int .i64 (rd l1 0), .int .i64 (-16), .int .i64 16] rfl (by (try simp only [List.map_toArray, List.map_cons, List.map_nil]); first | done | rfl | (simp only [List.length_drop, List.length_take]; rfl)) ?_; (with_reducible refine (imageeditorref16_within.calls (rd l1 0) (-16) 16 true _ A31.out).mono ?_); rintro e w' ⟨rfl, ⟨nd, rfl⟩⟩; refine ⟨_, rfl, ?_⟩; have p193 : 0 ≤ (1 : Int) := (by omega); have q193 : 1 < (l1.length : Int) := of_decide_eq_true (by first | (with_reducible assumption) | assumption); obtain ⟨ad193, e193, hx193_0⟩ := Kd.at_int HR1.out 1 p193 q193; obtain rfl : ad191 = ad193 := (by injection e193); (try simp only [show (1 : Int).toNat = 1 from rfl, Nat.reduceMul, Nat.reduceEqDiff, Go.Addr.add, ↓reduceIte] at hx193_0); have qi193 : (1 < l1.length) = True := eq_true (by omega); (try rw [show ((1 : Int)).toNat = 1 from rfl] at hx193_0); replace p193 := eq_true p193; replace q193 := eq_true q193) | (go_at_call 32; (with_reducible refine (imageeditorref16_within.calls (rd l1 1) (-16) 16 true _ A34.out).mono ?_); rintro e w' ⟨rfl, ⟨nd, rfl⟩⟩))
              go_ret
              exact ⟨by first | rfl | (simp; done) | (simp [*]; done), by repeat (first | exact Drawn0.refl _ | apply Drawn0.step)⟩
             ·replace c35 := Bool.eq_false_iff.mpr c35
              subst c35
              have H1 : (some 2) = some r := by rw [if_neg (show ¬ (false = true) by decide)] at H; exact H
              clear H
              have H := H1
              clear H1
              obtain rfl := Option.some.inj H
              have p191 : 0 ≤ (0 : Int) := (by omega)
              have q191 : 0 < (l1.length : Int) := of_decide_eq_true (by first | (with_reducible assumption) | assumption)
              obtain ⟨ad191, e191, hx191_0⟩ := Kd.at_int HR1.out 0 p191 q191
              cases e191
              have qi191 : (0 < l1.length) = True := eq_true (by omega)
              (try rw [show ((0 : Int)).toNat = 0 from rfl] at hx191_0)
              (try rw [Addr.add_zero'] at hx191_0)
              replace p191 := eq_true p191
              replace q191 := eq_true q191
              go_wp2_with (first | ((with_reducible refine gate_callee (f := 32) rfl ?_); refine goesL_ (some 52) rfl rfl Try.func32 (by kernel_rfl) rfl #[.int .i64 (rd l1 0), .int .i64 (-16), .int .i64 16] rfl (by (try simp only [List.map_toArray, List.map_cons, List.map_nil]); first | done | rfl | (simp only [List.length_drop, List.length_take]; rfl)) ?_; (with_reducible refine (imageeditorref16_within.calls (rd l1 0) (-16) 16 true _ A31.out).mono ?_); rintro e w' ⟨rfl, ⟨nd, rfl⟩⟩; refine ⟨_, rfl, ?_⟩; have p193 : 0 ≤ (1 : Int) := (by omega); have q193 : 1 < (l1.length : Int) := of_decide_eq_true (by first | (with_reducible assumption) | assumption); obtain ⟨ad193, e193, hx193_0⟩ := Kd.at_int HR1.out 1 p193 q193; obtain rfl : ad191 = ad193 := (by injection e193); (try simp only [show (1 : Int).toNat = 1 from rfl, Nat.reduceMul, Nat.reduceEqDiff, Go.Addr.add, ↓reduceIte] at hx193_0); have qi193 : (1 < l1.length) = True := eq_true (by omega); (try rw [show ((1 : Int)).toNat = 1 from rfl] at hx193_0); replace p193 := eq_true p193; replace q193 := eq_true q193) | (go_at_call 32; (with_reducible refine (imageeditorref16_within.calls (rd l1 1) (-16) 16 false _ A34.out).mono ?_); rintro e w' ⟨rfl, ⟨nd, rfl⟩⟩))
              go_ret
              exact ⟨by first | rfl | (simp; done) | (simp [*]; done), by repeat (first | exact Drawn0.refl _ | apply Drawn0.step)⟩
            ·rw [if_neg c33] at H
             exact absurd H (by simp)
           ·replace c32 := Bool.eq_false_iff.mpr c32
            subst c32
            have H1 : (some 2) = some r := by rw [if_neg (show ¬ (false = true) by decide)] at H; exact H
            clear H
            have H := H1
            clear H1
            obtain rfl := Option.some.inj H
            have p191 : 0 ≤ (0 : Int) := (by omega)
            have q191 : 0 < (l1.length : Int) := of_decide_eq_true (by first | (with_reducible assumption) | assumption)
            obtain ⟨ad191, e191, hx191_0⟩ := Kd.at_int HR1.out 0 p191 q191
            cases e191
            have qi191 : (0 < l1.length) = True := eq_true (by omega)
            (try rw [show ((0 : Int)).toNat = 0 from rfl] at hx191_0)
            (try rw [Addr.add_zero'] at hx191_0)
            replace p191 := eq_true p191
            replace q191 := eq_true q191
            go_wp2_with (first | ((with_reducible refine gate_callee (f := 32) rfl ?_); refine goesL_ (some 52) rfl rfl Try.func32 (by kernel_rfl) rfl #[.int .i64 (rd l1 0), .int .i64 (-16), .int .i64 16] rfl (by (try simp only [List.map_toArray, List.map_cons, List.map_nil]); first | done | rfl | (simp only [List.length_drop, List.length_take]; rfl)) ?_; (with_reducible refine (imageeditorref16_within.calls (rd l1 0) (-16) 16 false _ A31.out).mono ?_); rintro e w' ⟨rfl, ⟨nd, rfl⟩⟩; refine ⟨_, rfl, ?_⟩))
            go_ret
            exact ⟨by first | rfl | (simp; done) | (simp [*]; done), by repeat (first | exact Drawn0.refl _ | apply Drawn0.step)⟩
          ·rw [if_neg c30] at H
           exact absurd H (by simp)
         ·rw [if_neg c29] at H
          have c29b0 : (a0 == 9) = false := beq_eq_false_iff_ne.mpr c29
          have c29b1 : (a0 != 9) = true := bne_iff_ne.mpr c29
          by_cases c36 : a0 = 10
          ·rw [if_pos c36] at H
           have c36b0 : (a0 == 10) = true := beq_iff_eq.mpr c36
           have c36b1 : (a0 != 10) = false := bne_eq_false_iff_eq.mpr c36
           clear c36
           by_cases c37 : 0 < (l1.length : Int)
           ·rw [if_pos c37] at H
            have c37b0 : decide (0 < (l1.length : Int)) = true := decide_eq_true c37
            have c37b1 : decide (0 < l1.length) = true := decide_eq_true (by omega)
            clear c37
            replace H := Option.bind_eq_some_iff.mp H
            obtain ⟨t196, A380, H⟩ := H
            replace H : (if t196 = true then (some 0) else (some 2)) = some r := H
            have A38 := Aside0.mk A380
            clear A380
            by_cases c39 : t196 = true
            ·subst c39
             have H1 : (some 0) = some r := by rw [if_pos rfl] at H; exact H
             clear H
             have H := H1
             clear H1
             obtain rfl := Option.some.inj H
             have p195 : 0 ≤ (0 : Int) := (by omega)
             have q195 : 0 < (l1.length : Int) := of_decide_eq_true (by first | (with_reducible assumption) | assumption)
             obtain ⟨ad195, e195, hx195_0⟩ := Kd.at_int HR1.out 0 p195 q195
             cases e195
             have qi195 : (0 < l1.length) = True := eq_true (by omega)
             (try rw [show ((0 : Int)).toNat = 0 from rfl] at hx195_0)
             (try rw [Addr.add_zero'] at hx195_0)
             replace p195 := eq_true p195
             replace q195 := eq_true q195
             go_wp2_with (first | ((with_reducible refine gate_callee (f := 32) rfl ?_); refine goesL_ (some 64) rfl rfl Try.func32 (by kernel_rfl) rfl #[.int .i64 (rd l1 0), .int .i64 1, .int .i64 16] rfl (by (try simp only [List.map_toArray, List.map_cons, List.map_nil]); first | done | rfl | (simp only [List.length_drop, List.length_take]; rfl)) ?_; (with_reducible refine (imageeditorref16_within.calls (rd l1 0) 1 16 true _ A38.out).mono ?_); rintro e w' ⟨rfl, ⟨nd, rfl⟩⟩; refine ⟨_, rfl, ?_⟩))
             go_ret
             exact ⟨by first | rfl | (simp; done) | (simp [*]; done), by repeat (first | exact Drawn0.refl _ | apply Drawn0.step)⟩
            ·replace c39 := Bool.eq_false_iff.mpr c39
             subst c39
             have H1 : (some 2) = some r := by rw [if_neg (show ¬ (false = true) by decide)] at H; exact H
             clear H
             have H := H1
             clear H1
             obtain rfl := Option.some.inj H
             have p195 : 0 ≤ (0 : Int) := (by omega)
             have q195 : 0 < (l1.length : Int) := of_decide_eq_true (by first | (with_reducible assumption) | assumption)
             obtain ⟨ad195, e195, hx195_0⟩ := Kd.at_int HR1.out 0 p195 q195
             cases e195
             have qi195 : (0 < l1.length) = True := eq_true (by omega)
             (try rw [show ((0 : Int)).toNat = 0 from rfl] at hx195_0)
             (try rw [Addr.add_zero'] at hx195_0)
             replace p195 := eq_true p195
             replace q195 := eq_true q195
             go_wp2_with (first | ((with_reducible refine gate_callee (f := 32) rfl ?_); refine goesL_ (some 64) rfl rfl Try.func32 (by kernel_rfl) rfl #[.int .i64 (rd l1 0), .int .i64 1, .int .i64 16] rfl (by (try simp only [List.map_toArray, List.map_cons, List.map_nil]); first | done | rfl | (simp only [List.length_drop, List.length_take]; rfl)) ?_; (with_reducible refine (imageeditorref16_within.calls (rd l1 0) 1 16 false _ A38.out).mono ?_); rintro e w' ⟨rfl, ⟨nd, rfl⟩⟩; refine ⟨_, rfl, ?_⟩))
             go_ret
             exact ⟨by first | rfl | (simp; done) | (simp [*]; done), by repeat (first | exact Drawn0.refl _ | apply Drawn0.step)⟩
           ·rw [if_neg c37] at H
            exact absurd H (by simp)
          ·rw [if_neg c36] at H
           have c36b0 : (a0 == 10) = false := beq_eq_false_iff_ne.mpr c36
           have c36b1 : (a0 != 10) = true := bne_iff_ne.mpr c36
           by_cases c40 : true = true
           ·clear c40
            have H1 : (some 0) = some r := by rw [if_pos rfl] at H; exact H
            clear H
            have H := H1
            clear H1
            obtain rfl := Option.some.inj H
            go_wp2
            go_ret
            exact ⟨by first | rfl | (simp; done) | (simp [*]; done), by repeat (first | exact Drawn0.refl _ | apply Drawn0.step)⟩
           ·exact absurd rfl c40
  ·rw [if_neg c6] at H
   have c6b0 : ((l1.length : Int) == t180) = false := beq_eq_false_iff_ne.mpr c6
   have c6b1 : ((l1.length : Int) != t180) = true := bne_iff_ne.mpr c6
   obtain rfl := Option.some.inj H
   go_enter Try.func10, Try.ntmps10
   go_wp2_with (first | ((with_reducible refine gate_callee (f := 32) rfl ?_); refine goesL_ (some 7) rfl rfl Try.func32 (by kernel_rfl) rfl #[.int .i64 a0, .int .i64 1, .int .i64 10] rfl (by (try simp only [List.map_toArray, List.map_cons, List.map_nil]); first | done | rfl | (simp only [List.length_drop, List.length_take]; rfl)) ?_; (with_reducible refine (imageeditorref16_within.calls a0 1 10 true _ A3.out).mono ?_); rintro e w' ⟨rfl, ⟨nd, rfl⟩⟩; refine ⟨_, rfl, ?_⟩) | ((with_reducible refine gate_callee (f := 33) rfl ?_); refine goesL_ (some 12) rfl rfl Try.func33 (by kernel_rfl) rfl #[.int .i64 a0] rfl (by (try simp only [List.map_toArray, List.map_cons, List.map_nil]); first | done | rfl | (simp only [List.length_drop, List.length_take]; rfl)) ?_; (with_reducible refine (imageeditorref16_count.calls k a0 t180 _ A5.out).mono ?_); rintro e w' ⟨rfl, ⟨nd, rfl⟩⟩; refine ⟨_, rfl, ?_⟩))
   go_ret
   exact ⟨by first | rfl | (simp; done) | (simp [*]; done), by repeat (first | exact Drawn0.refl _ | apply Drawn0.step)⟩
 ·replace c4 := Bool.eq_false_iff.mpr c4
  subst c4
  have H1 : (some 8) = some r := by rw [if_neg (show ¬ (false = true) by decide)] at H; exact H
  clear H
  have H := H1
  clear H1
  obtain rfl := Option.some.inj H
  go_enter Try.func10, Try.ntmps10
  go_wp2_with (first | ((with_reducible refine gate_callee (f := 32) rfl ?_); refine goesL_ (some 7) rfl rfl Try.func32 (by kernel_rfl) rfl #[.int .i64 a0, .int .i64 1, .int .i64 10] rfl (by (try simp only [List.map_toArray, List.map_cons, List.map_nil]); first | done | rfl | (simp only [List.length_drop, List.length_take]; rfl)) ?_; (with_reducible refine (imageeditorref16_within.calls a0 1 10 false _ A3.out).mono ?_); rintro e w' ⟨rfl, ⟨nd, rfl⟩⟩; refine ⟨_, rfl, ?_⟩))
  go_ret
  exact ⟨by first | rfl | (simp; done) | (simp [*]; done), by repeat (first | exact Drawn0.refl _ | apply Drawn0.step)⟩

/-! ### imageeditorref16_Reach: function 12 -/
def imageeditorref16_Reach.j0 : Nat → List Int → Int → Bool → Option (Int)
 | 0, _, _, _ => none
 | k + 1, x1, x9, x10 => if x10 = true then (some 1) else (if x9 = 9 then (if 0 < (x1.length : Int) then (if 1 < (x1.length : Int) then (some (mx (mx (mx (rd x1 0) (wrap64 (-(rd x1 0)))) (rd x1 1)) (wrap64 (-(rd x1 1))))) else (none)) else (none)) else (if x9 = 10 then (if 0 < (x1.length : Int) then (some (wrap64 ((rd x1 0) - 1))) else (none)) else (if 0 < (x1.length : Int) then (some (rd x1 0)) else (none))))
def imageeditorref16_Reach.f (k : Nat) (a0 : Int) (l1 : List Int) : Option (Int) := (imageeditorref16_Check.f k a0 l1).bind fun t197 => (if t197 = 0 then (if a0 = 5 then (imageeditorref16_Reach.j0 k l1 a0 (a0 == 5)) else (imageeditorref16_Reach.j0 k l1 a0 (a0 == 6))) else (some 0))
theorem imageeditorref16_Reach.mono_l : ∀ k, (∀ y0 y1 y2, LeO (imageeditorref16_Reach.j0 k y0 y1 y2) (imageeditorref16_Reach.j0 (k + 1) y0 y1 y2))
 | 0 => fun _ _ _ r h => by simp [imageeditorref16_Reach.j0] at h
 | k + 1 => by
  have ih0 := imageeditorref16_Reach.mono_l k
  ·intro y0 y1 y2
   unfold imageeditorref16_Reach.j0
   repeat' first
   | (with_reducible exact ih0 _ _ _)
   | (with_reducible exact imageeditorref16_Check.mono _ _ _)
   | (with_reducible exact LeO.refl _)
   | (with_reducible exact LeO.none _)
   | (with_reducible refine LeO.ite ?_ ?_)
   | (with_reducible refine LeO.bind ?_ (fun _ => ?_))
   | exact ih0 _ _ _
   | exact imageeditorref16_Check.mono _ _ _
   | exact LeO.none _
   | refine LeO.ite ?_ ?_
   | refine LeO.bind ?_ (fun _ => ?_)
theorem imageeditorref16_Reach.mono : ∀ a0 a1 k, LeO (imageeditorref16_Reach.f k a0 a1) (imageeditorref16_Reach.f (k + 1) a0 a1) := by
 intro a0 a1 k
 have ih0 := imageeditorref16_Reach.mono_l k
 unfold imageeditorref16_Reach.f
 repeat' first
   | (with_reducible exact ih0 _ _ _)
   | (with_reducible exact imageeditorref16_Check.mono _ _ _)
   | (with_reducible exact LeO.refl _)
   | (with_reducible exact LeO.none _)
   | (with_reducible refine LeO.ite ?_ ?_)
   | (with_reducible refine LeO.bind ?_ (fun _ => ?_))
   | exact ih0 _ _ _
   | exact imageeditorref16_Check.mono _ _ _
   | exact LeO.none _
   | refine LeO.ite ?_ ?_
   | refine LeO.bind ?_ (fun _ => ?_)
set_option maxHeartbeats 8000000 in
set_option maxRecDepth 100000 in
theorem imageeditorref16_Reach.calls (k : Nat) (a0 : Int) (A1 : Option Addr) (c1 : Nat) (l1 : List Int) (r : Int) (w : World) (hr1 : Kd.C (Kd.int .i64) w A1 l1.length l1) (hc1 : l1.length ≤ c1) (h : imageeditorref16_Reach.f k a0 l1 = some r) :
  Calls Try.prog 12 #[.int .i64 a0, .slice A1 l1.length c1] w fun e w' => e = .returned (.int .i64 r) ∧ Below w.heap.size w w' := by
 have HR1 := Aside0.mk hr1
 have HC1 := Aside0.mk hc1
 clear hr1 hc1
 have HB := am (Below.refl w.heap.size w)
 have H : ((imageeditorref16_Check.f k a0 l1).bind fun t197 => (if t197 = 0 then (if a0 = 5 then (imageeditorref16_Reach.j0 k l1 a0 (a0 == 5)) else (imageeditorref16_Reach.j0 k l1 a0 (a0 == 6))) else (some 0))) = some r := h
 clear h
 replace H := Option.bind_eq_some_iff.mp H
 obtain ⟨t197, A30, H⟩ := H
 replace H : (if t197 = 0 then (if a0 = 5 then (imageeditorref16_Reach.j0 k l1 a0 (a0 == 5)) else (imageeditorref16_Reach.j0 k l1 a0 (a0 == 6))) else (some 0)) = some r := H
 have A3 := Aside0.mk A30
 clear A30
 by_cases c4 : t197 = 0
 ·rw [if_pos c4] at H
  have c4b0 : (t197 == 0) = true := beq_iff_eq.mpr c4
  have c4b1 : (t197 != 0) = false := bne_eq_false_iff_eq.mpr c4
  clear c4
  have HC5 := Aside0.mk H
  clear H
  go_enter Try.func12, Try.ntmps12
  go_upto_if 10 with (first | (go_at_call 10; (with_reducible refine (imageeditorref16_Check.calls k a0 _ _ l1 t197 _ ?side1 ?side2 A3.out).mono ?_); (case side1 => repeat (first | exact HR1.out | (with_reducible refine Kd.C_alloc ?_ _) | (with_reducible refine Kd.C_drewN ?_ _) | (with_reducible refine Kd.C_drew ?_))); (case side2 => exact HC1.out); rintro e w' ⟨rfl, ⟨nd, rfl⟩⟩; (try first | exact ⟨rfl, _, World.drewN_drewN _ _ _⟩ | exact ⟨rfl, _, Eq.trans (World.drewN_drewN _ _ _) (congrArg (World.drewN _) (Nat.add_assoc _ _ _))⟩)))
  repeat (go_quiet (first | (go_at_call 10; (with_reducible refine (imageeditorref16_Check.calls k a0 _ _ l1 t197 _ ?side1 ?side2 A3.out).mono ?_); (case side1 => repeat (first | exact HR1.out | (with_reducible refine Kd.C_alloc ?_ _) | (with_reducible refine Kd.C_drewN ?_ _) | (with_reducible refine Kd.C_drew ?_))); (case side2 => exact HC1.out); rintro e w' ⟨rfl, ⟨nd, rfl⟩⟩; (try first | exact ⟨rfl, _, World.drewN_drewN _ _ _⟩ | exact ⟨rfl, _, Eq.trans (World.drewN_drewN _ _ _) (congrArg (World.drewN _) (Nat.add_assoc _ _ _))⟩))); go_upto_if 10 with (first | (go_at_call 10; (with_reducible refine (imageeditorref16_Check.calls k a0 _ _ l1 t197 _ ?side1 ?side2 A3.out).mono ?_); (case side1 => repeat (first | exact HR1.out | (with_reducible refine Kd.C_alloc ?_ _) | (with_reducible refine Kd.C_drewN ?_ _) | (with_reducible refine Kd.C_drew ?_))); (case side2 => exact HC1.out); rintro e w' ⟨rfl, ⟨nd, rfl⟩⟩; (try first | exact ⟨rfl, _, World.drewN_drewN _ _ _⟩ | exact ⟨rfl, _, Eq.trans (World.drewN_drewN _ _ _) (congrArg (World.drewN _) (Nat.add_assoc _ _ _))⟩))))
  (try simp only [Act.put, List.setIfInBounds_toArray, List.set_cons_zero, List.set_cons_succ])
  go_cut [10] (fun v10 wc => ∃ (kq : Nat) (x10_4 : Bool), v10 = .bool x10_4 ∧ Aside0 (imageeditorref16_Reach.j0 kq l1 a0 x10_4 = some r) ∧ Aside0 (kq ≤ k) ∧ Aside0 (Below w.heap.size w wc))
  case first =>
   have H := HC5.out
   clear HC5
   by_cases c6 : a0 = 5
   ·rw [if_pos c6] at H
    have c6b0 : (a0 == 5) = true := beq_iff_eq.mpr c6
    have c6b1 : (a0 != 5) = false := bne_eq_false_iff_eq.mpr c6
    clear c6
    (first | rw [c6b0] | (simp only [i64_w, i32_w]; rw [c6b0]) | skip)
    have H' := Aside0.mk H
    clear H
    go_wp2
    repeat (go_quiet (fail); try go_wp2)
    go_meet
    case rel => exact ⟨_, ((a0 == 5)), (by first | rfl | (simp; done) | (simp [*]; done)), H', ⟨by first | omega | exact Nat.le_refl _⟩, ⟨beX HB.out⟩⟩
   ·rw [if_neg c6] at H
    have c6b0 : (a0 == 5) = false := beq_eq_false_iff_ne.mpr c6
    have c6b1 : (a0 != 5) = true := bne_iff_ne.mpr c6
    (first | rw [c6b0] | (simp only [i64_w, i32_w]; rw [c6b0]) | skip)
    have H' := Aside0.mk H
    clear H
    go_wp2
    repeat (go_quiet (fail); try go_wp2)
    go_meet
    case rel => exact ⟨_, ((a0 == 6)), (by first | rfl | (simp; done) | (simp [*]; done)), H', ⟨by first | omega | exact Nat.le_refl _⟩, ⟨beX HB.out⟩⟩
  case rest =>
   clear HC5
   try clear c1
   try clear p2
   try clear c4
   try clear c4b0
   try clear c4b1
   try clear c6
   try clear c6b0
   try clear c6b1
   obtain ⟨kq, x10_4, rfl, HA, HJ4, HB⟩ := hcut
   cases kq with
   | zero => exact absurd HA.out (by simp [imageeditorref16_Reach.j0])
   | succ kj4 =>
    have H := HA.out
    clear HA
    simp only [imageeditorref16_Reach.j0] at H
    by_cases c7 : x10_4 = true
    ·subst c7
     have H1 : (some 1) = some r := by rw [if_pos rfl] at H; exact H
     clear H
     have H := H1
     clear H1
     obtain rfl := Option.some.inj H
     go_wp2
     repeat (go_quiet (fail); try go_wp2)
     go_ret
     exact ⟨by first | rfl | (simp [errW_none, errW_some] <;> rfl) | (simp [*, errW_none, errW_some] <;> rfl), by exact beX HB.out⟩
    ·replace c7 := Bool.eq_false_iff.mpr c7
     subst c7
     have H1 : (if a0 = 9 then (if 0 < (l1.length : Int) then (if 1 < (l1.length : Int) then (some (mx (mx (mx (rd l1 0) (wrap64 (-(rd l1 0)))) (rd l1 1)) (wrap64 (-(rd l1 1))))) else (none)) else (none)) else (if a0 = 10 then (if 0 < (l1.length : Int) then (some (wrap64 ((rd l1 0) - 1))) else (none)) else (if 0 < (l1.length : Int) then (some (rd l1 0)) else (none)))) = some r := by rw [if_neg (show ¬ (false = true) by decide)] at H; exact H
     clear H
     have H := H1
     clear H1
     by_cases c8 : a0 = 9
     ·rw [if_pos c8] at H
      have c8b0 : (a0 == 9) = true := beq_iff_eq.mpr c8
      have c8b1 : (a0 != 9) = false := bne_eq_false_iff_eq.mpr c8
      clear c8
      by_cases c9 : 0 < (l1.length : Int)
      ·rw [if_pos c9] at H
       have c9b0 : decide (0 < (l1.length : Int)) = true := decide_eq_true c9
       have c9b1 : decide (0 < l1.length) = true := decide_eq_true (by omega)
       clear c9
       by_cases c10 : 1 < (l1.length : Int)
       ·rw [if_pos c10] at H
        have c10b0 : decide (1 < (l1.length : Int)) = true := decide_eq_true c10
        have c10b1 : decide (1 < l1.length) = true := decide_eq_true (by omega)
        clear c10
        obtain ⟨ji11, hji11⟩ : ∃ j_ : Int, (mx (rd l1 0) (wrap64 (-(rd l1 0)))) = j_ := ⟨_, rfl⟩
        replace H : (some (mx (mx (ji11) (rd l1 1)) (wrap64 (-(rd l1 1))))) = some r := by first | (rw [hji11] at H; exact H) | (simp only [hji11] at H ⊢; exact H)
        have hji11_ : (if (rd l1 0) < (wrap64 (-(rd l1 0))) then (wrap64 (-(rd l1 0))) else (rd l1 0)) = ji11 := hji11
        obtain ⟨ji12, hji12⟩ : ∃ j_ : Int, (mx (ji11) (rd l1 1)) = j_ := ⟨_, rfl⟩
        replace H : (some (mx (ji12) (wrap64 (-(rd l1 1))))) = some r := by first | (rw [hji12] at H; exact H) | (simp only [hji12] at H ⊢; exact H)
        have hji12_ : (if (ji11) < (rd l1 1) then (rd l1 1) else (ji11)) = ji12 := hji12
        obtain ⟨ji13, hji13⟩ : ∃ j_ : Int, (mx (ji12) (wrap64 (-(rd l1 1)))) = j_ := ⟨_, rfl⟩
        replace H : (some ji13) = some r := by first | (rw [hji13] at H; exact H) | (simp only [hji13] at H ⊢; exact H)
        have hji13_ : (if (ji12) < (wrap64 (-(rd l1 1))) then (wrap64 (-(rd l1 1))) else (ji12)) = ji13 := hji13
        obtain rfl := Option.some.inj H
        have p198 : 0 ≤ (0 : Int) := (by omega)
        have q198 : 0 < (l1.length : Int) := of_decide_eq_true (by first | (with_reducible assumption) | assumption)
        obtain ⟨ad198, e198, hx198_0⟩ := Kd.at_int HR1.out 0 p198 q198
        cases e198
        have qi198 : (0 < l1.length) = True := eq_true (by omega)
        (try rw [show ((0 : Int)).toNat = 0 from rfl] at hx198_0)
        (try rw [Addr.add_zero'] at hx198_0)
        replace hx198_0 := (HB.out.cell (World.block_lt_of_cell? w _ hx198_0)).trans hx198_0
        replace p198 := eq_true p198
        replace q198 := eq_true q198
        have p199 : 0 ≤ (0 : Int) := (by omega)
        have q199 : 0 < (l1.length : Int) := of_decide_eq_true (by first | (with_reducible assumption) | assumption)
        obtain ⟨ad199, e199, hx199_0⟩ := Kd.at_int HR1.out 0 p199 q199
        obtain rfl : ad198 = ad199 := (by injection e199)
        have qi199 : (0 < l1.length) = True := eq_true (by omega)
        (try rw [show ((0 : Int)).toNat = 0 from rfl] at hx199_0)
        (try rw [Addr.add_zero'] at hx199_0)
        replace hx199_0 := (HB.out.cell (World.block_lt_of_cell? w _ hx199_0)).trans hx199_0
        replace p199 := eq_true p199
        replace q199 := eq_true q199
        have p200 : 0 ≤ (1 : Int) := (by omega)
        have q200 : 1 < (l1.length : Int) := of_decide_eq_true (by first | (with_reducible assumption) | assumption)
        obtain ⟨ad200, e200, hx200_0⟩ := Kd.at_int HR1.out 1 p200 q200
        obtain rfl : ad198 = ad200 := (by injection e200)
        (try simp only [show (1 : Int).toNat = 1 from rfl, Nat.reduceMul, Nat.reduceEqDiff, Go.Addr.add, ↓reduceIte] at hx200_0)
        have qi200 : (1 < l1.length) = True := eq_true (by omega)
        (try rw [show ((1 : Int)).toNat = 1 from rfl] at hx200_0)
        replace hx200_0 := (HB.out.cell (World.block_lt_of_cell? w _ hx200_0)).trans hx200_0
        replace p200 := eq_true p200
        replace q200 := eq_true q200
        have p201 : 0 ≤ (1 : Int) := (by omega)
        have q201 : 1 < (l1.length : Int) := of_decide_eq_true (by first | (with_reducible assumption) | assumption)
        obtain ⟨ad201, e201, hx201_0⟩ := Kd.at_int HR1.out 1 p201 q201
        obtain rfl : ad198 = ad201 := (by injection e201)
        (try simp only [show (1 : Int).toNat = 1 from rfl, Nat.reduceMul, Nat.reduceEqDiff, Go.Addr.add, ↓reduceIte] at hx201_0)
        have qi201 : (1 < l1.length) = True := eq_true (by omega)
        (try rw [show ((1 : Int)).toNat = 1 from rfl] at hx201_0)
        replace hx201_0 := (HB.out.cell (World.block_lt_of_cell? w _ hx201_0)).trans hx201_0
        replace p201 := eq_true p201
        replace q201 := eq_true q201
        go_wp2
        repeat (go_quiet (fail); try go_wp2)
        go_ret
        exact ⟨by first | rfl | (simp [errW_none, errW_some] <;> rfl) | (simp only [← hji11, ← hji12, ← hji13]; first | rfl | (simp [errW_none, errW_some] <;> rfl)) | (simp [*, errW_none, errW_some] <;> rfl), by exact beX HB.out⟩
       ·rw [if_neg c10] at H
        exact absurd H (by simp)
      ·rw [if_neg c9] at H
       exact absurd H (by simp)
     ·rw [if_neg c8] at H
      have c8b0 : (a0 == 9) = false := beq_eq_false_iff_ne.mpr c8
      have c8b1 : (a0 != 9) = true := bne_iff_ne.mpr c8
      by_cases c14 : a0 = 10
      ·rw [if_pos c14] at H
       have c14b0 : (a0 == 10) = true := beq_iff_eq.mpr c14
       have c14b1 : (a0 != 10) = false := bne_eq_false_iff_eq.mpr c14
       clear c14
       by_cases c15 : 0 < (l1.length : Int)
       ·rw [if_pos c15] at H
        have c15b0 : decide (0 < (l1.length : Int)) = true := decide_eq_true c15
        have c15b1 : decide (0 < l1.length) = true := decide_eq_true (by omega)
        clear c15
        obtain rfl := Option.some.inj H
        have p202 : 0 ≤ (0 : Int) := (by omega)
        have q202 : 0 < (l1.length : Int) := of_decide_eq_true (by first | (with_reducible assumption) | assumption)
        obtain ⟨ad202, e202, hx202_0⟩ := Kd.at_int HR1.out 0 p202 q202
        cases e202
        have qi202 : (0 < l1.length) = True := eq_true (by omega)
        (try rw [show ((0 : Int)).toNat = 0 from rfl] at hx202_0)
        (try rw [Addr.add_zero'] at hx202_0)
        replace hx202_0 := (HB.out.cell (World.block_lt_of_cell? w _ hx202_0)).trans hx202_0
        replace p202 := eq_true p202
        replace q202 := eq_true q202
        go_wp2
        repeat (go_quiet (fail); try go_wp2)
        go_ret
        exact ⟨by first | rfl | (simp [errW_none, errW_some] <;> rfl) | (simp [*, errW_none, errW_some] <;> rfl), by exact beX HB.out⟩
       ·rw [if_neg c15] at H
        exact absurd H (by simp)
      ·rw [if_neg c14] at H
       have c14b0 : (a0 == 10) = false := beq_eq_false_iff_ne.mpr c14
       have c14b1 : (a0 != 10) = true := bne_iff_ne.mpr c14
       by_cases c16 : 0 < (l1.length : Int)
       ·rw [if_pos c16] at H
        have c16b0 : decide (0 < (l1.length : Int)) = true := decide_eq_true c16
        have c16b1 : decide (0 < l1.length) = true := decide_eq_true (by omega)
        clear c16
        obtain rfl := Option.some.inj H
        have p203 : 0 ≤ (0 : Int) := (by omega)
        have q203 : 0 < (l1.length : Int) := of_decide_eq_true (by first | (with_reducible assumption) | assumption)
        obtain ⟨ad203, e203, hx203_0⟩ := Kd.at_int HR1.out 0 p203 q203
        cases e203
        have qi203 : (0 < l1.length) = True := eq_true (by omega)
        (try rw [show ((0 : Int)).toNat = 0 from rfl] at hx203_0)
        (try rw [Addr.add_zero'] at hx203_0)
        replace hx203_0 := (HB.out.cell (World.block_lt_of_cell? w _ hx203_0)).trans hx203_0
        replace p203 := eq_true p203
        replace q203 := eq_true q203
        go_wp2
        repeat (go_quiet (fail); try go_wp2)
        go_ret
        exact ⟨by first | rfl | (simp [errW_none, errW_some] <;> rfl) | (simp [*, errW_none, errW_some] <;> rfl), by exact beX HB.out⟩
       ·rw [if_neg c16] at H
        exact absurd H (by simp)
 ·rw [if_neg c4] at H
  have c4b0 : (t197 == 0) = false := beq_eq_false_iff_ne.mpr c4
  have c4b1 : (t197 != 0) = true := bne_iff_ne.mpr c4
  obtain rfl := Option.some.inj H
  go_enter Try.func12, Try.ntmps12
  go_wp2_with (first | (go_at_call 10; (with_reducible refine (imageeditorref16_Check.calls k a0 _ _ l1 t197 _ ?side1 ?side2 A3.out).mono ?_); (case side1 => repeat (first | exact HR1.out | (with_reducible refine Kd.C_alloc ?_ _) | (with_reducible refine Kd.C_drewN ?_ _) | (with_reducible refine Kd.C_drew ?_))); (case side2 => exact HC1.out); rintro e w' ⟨rfl, ⟨nd, rfl⟩⟩; (try first | exact ⟨rfl, _, World.drewN_drewN _ _ _⟩ | exact ⟨rfl, _, Eq.trans (World.drewN_drewN _ _ _) (congrArg (World.drewN _) (Nat.add_assoc _ _ _))⟩)))
  repeat (go_quiet (first | (go_at_call 10; (with_reducible refine (imageeditorref16_Check.calls k a0 _ _ l1 t197 _ ?side1 ?side2 A3.out).mono ?_); (case side1 => repeat (first | exact HR1.out | (with_reducible refine Kd.C_alloc ?_ _) | (with_reducible refine Kd.C_drewN ?_ _) | (with_reducible refine Kd.C_drew ?_))); (case side2 => exact HC1.out); rintro e w' ⟨rfl, ⟨nd, rfl⟩⟩; (try first | exact ⟨rfl, _, World.drewN_drewN _ _ _⟩ | exact ⟨rfl, _, Eq.trans (World.drewN_drewN _ _ _) (congrArg (World.drewN _) (Nat.add_assoc _ _ _))⟩))); try go_wp2_with (first | (go_at_call 10; (with_reducible refine (imageeditorref16_Check.calls k a0 _ _ l1 t197 _ ?side1 ?side2 A3.out).mono ?_); (case side1 => repeat (first | exact HR1.out | (with_reducible refine Kd.C_alloc ?_ _) | (with_reducible refine Kd.C_drewN ?_ _) | (with_reducible refine Kd.C_drew ?_))); (case side2 => exact HC1.out); rintro e w' ⟨rfl, ⟨nd, rfl⟩⟩; (try first | exact ⟨rfl, _, World.drewN_drewN _ _ _⟩ | exact ⟨rfl, _, Eq.trans (World.drewN_drewN _ _ _) (congrArg (World.drewN _) (Nat.add_assoc _ _ _))⟩))))
  go_ret
  exact ⟨by first | rfl | (simp [errW_none, errW_some] <;> rfl) | (simp [*, errW_none, errW_some] <;> rfl), by exact beX HB.out⟩

end Go.Proofs.Ytocefehnemahhaa.G
