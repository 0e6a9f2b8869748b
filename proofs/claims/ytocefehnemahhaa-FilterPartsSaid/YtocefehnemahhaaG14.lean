-- laid by gprint.py (a program of this proof's writer) out of the translation; Lean checks it.
import Derived.Test.YtocefehnemahhaaG0
import Derived.Test.YtocefehnemahhaaG13
namespace Go.Proofs.Ytocefehnemahhaa.G
open Go.RowKit Go.Proofs.YtocefehnemahhaaW.PrintWords Go.Proofs.YtocefehnemahhaaW.PrintLast Go.Proofs.YtocefehnemahhaaW.PrintMore
attribute [local go_sem] max2_int min2_int max_two min_two max_three min_three max_four min_four   -- for this text's walks alone
set_option linter.unusedVariables false
set_option linter.unusedSimpArgs false

/-! ### imageeditorref16_Check: function 10 -/
def imageeditorref16_Check.j0 : Nat → List Int → Bool → Int → Bool → Option (Int)
 | 0, _, _, _, _ => none
 | k + 1, x1, x5, x14, x15 => if x15 = true then (if 0 < (x1.length : Int) then ((imageeditorref16_within.f (rd x1 0) 0 16).bind fun t383 => (if t383 = true then (some 0) else (some 2))) else (none)) else (if x14 = 2 then (if 0 < (x1.length : Int) then ((imageeditorref16_within.f (rd x1 0) 0 7).bind fun t385 => (if t385 = true then (some 0) else (some 2))) else (none)) else (if x14 = 4 then (if 0 < (x1.length : Int) then ((imageeditorref16_within.f (rd x1 0) 0 4).bind fun t387 => (if t387 = true then (some 0) else (some 2))) else (none)) else (if x14 = 3 then (if 0 < (x1.length : Int) then ((imageeditorref16_within.f (rd x1 0) 0 16).bind fun t389 => (if t389 = true then (if 1 < (x1.length : Int) then ((imageeditorref16_within.f (rd x1 1) 0 262140).bind fun t391 => (if t391 = true then (some 0) else (some 2))) else (none)) else (some 2))) else (none)) else (if x14 = 9 then (if 0 < (x1.length : Int) then ((imageeditorref16_within.f (rd x1 0) (-16) 16).bind fun t393 => (if t393 = true then (if 1 < (x1.length : Int) then ((imageeditorref16_within.f (rd x1 1) (-16) 16).bind fun t395 => (if t395 = true then (some 0) else (some 2))) else (none)) else (some 2))) else (none)) else (if x14 = 10 then (if 0 < (x1.length : Int) then ((imageeditorref16_within.f (rd x1 0) 1 16).bind fun t397 => (if t397 = true then (some 0) else (some 2))) else (none)) else (if x5 = true then (some 0) else (some 2)))))))
def imageeditorref16_Check.f (k : Nat) (a0 : Int) (l1 : List Int) : Option (Int) := (imageeditorref16_within.f a0 1 10).bind fun t380 => (if t380 = true then ((imageeditorref16_count.f k a0).bind fun t381 => (if (l1.length : Int) = t381 then (if a0 = 1 then (imageeditorref16_Check.j0 k l1 true a0 (a0 == 1)) else (if a0 = 7 then (imageeditorref16_Check.j0 k l1 true a0 (a0 == 7)) else (imageeditorref16_Check.j0 k l1 true a0 (a0 == 8)))) else (some 1))) else (some 8))
theorem imageeditorref16_Check.mono_l : ∀ k, (∀ y0 y1 y2 y3, LeO (imageeditorref16_Check.j0 k y0 y1 y2 y3) (imageeditorref16_Check.j0 (k + 1) y0 y1 y2 y3))
 | 0 => fun _ _ _ _ r h => by simp [imageeditorref16_Check.j0] at h
 | k + 1 => by
  have ih0 := imageeditorref16_Check.mono_l k
  ·intro y0 y1 y2 y3
   unfold imageeditorref16_Check.j0
   repeat' first
   | (with_reducible exact ih0 _ _ _ _)
   | (with_reducible exact imageeditorref16_count.mono _ _)
   | (with_reducible exact LeO.refl _)
   | (with_reducible exact LeO.none _)
   | (with_reducible refine LeO.ite ?_ ?_)
   | (with_reducible refine LeO.bind ?_ (fun _ => ?_))
   | exact ih0 _ _ _ _
   | exact imageeditorref16_count.mono _ _
   | exact LeO.none _
   | refine LeO.ite ?_ ?_
   | refine LeO.bind ?_ (fun _ => ?_)
theorem imageeditorref16_Check.mono : ∀ a0 a1 k, LeO (imageeditorref16_Check.f k a0 a1) (imageeditorref16_Check.f (k + 1) a0 a1) := by
 intro a0 a1 k
 have ih0 := imageeditorref16_Check.mono_l k
 unfold imageeditorref16_Check.f
 repeat' first
   | (with_reducible exact ih0 _ _ _ _)
   | (with_reducible exact imageeditorref16_count.mono _ _)
   | (with_reducible exact LeO.refl _)
   | (with_reducible exact LeO.none _)
   | (with_reducible refine LeO.ite ?_ ?_)
   | (with_reducible refine LeO.bind ?_ (fun _ => ?_))
   | exact ih0 _ _ _ _
   | exact imageeditorref16_count.mono _ _
   | exact LeO.none _
   | refine LeO.ite ?_ ?_
   | refine LeO.bind ?_ (fun _ => ?_)
set_option maxHeartbeats 8000000 in
set_option maxRecDepth 100000 in
theorem imageeditorref16_Check.calls (k : Nat) (a0 : Int) (A1 : Option Addr) (c1 : Nat) (l1 : List Int) (r : Int) (w : World) (hr1 : Kd.C (Kd.int .i64) w A1 l1.length l1) (hc1 : l1.length ≤ c1) (h : imageeditorref16_Check.f k a0 l1 = some r) :
  Calls Try.prog 10 #[.int .i64 a0, .slice A1 l1.length c1] w fun e w' => e = .returned (.int .i64 r) ∧ Drawn0 w w' := by
 have HR1 := Aside0.mk hr1
 have HC1 := Aside0.mk hc1
 clear hr1 hc1
 have H : ((imageeditorref16_within.f a0 1 10).bind fun t380 => (if t380 = true then ((imageeditorref16_count.f k a0).bind fun t381 => (if (l1.length : Int) = t381 then (if a0 = 1 then (imageeditorref16_Check.j0 k l1 true a0 (a0 == 1)) else (if a0 = 7 then (imageeditorref16_Check.j0 k l1 true a0 (a0 == 7)) else (imageeditorref16_Check.j0 k l1 true a0 (a0 == 8)))) else (some 1))) else (some 8))) = some r := h
 clear h
 replace H := Option.bind_eq_some_iff.mp H
 obtain ⟨t380, A30, H⟩ := H
 replace H : (if t380 = true then ((imageeditorref16_count.f k a0).bind fun t381 => (if (l1.length : Int) = t381 then (if a0 = 1 then (imageeditorref16_Check.j0 k l1 true a0 (a0 == 1)) else (if a0 = 7 then (imageeditorref16_Check.j0 k l1 true a0 (a0 == 7)) else (imageeditorref16_Check.j0 k l1 true a0 (a0 == 8)))) else (some 1))) else (some 8)) = some r := H
 have A3 := Aside0.mk A30
 clear A30
 by_cases c4 : t380 = true
 ·subst c4
  have H1 : ((imageeditorref16_count.f k a0).bind fun t381 => (if (l1.length : Int) = t381 then (if a0 = 1 then (imageeditorref16_Check.j0 k l1 true a0 (a0 == 1)) else (if a0 = 7 then (imageeditorref16_Check.j0 k l1 true a0 (a0 == 7)) else (imageeditorref16_Check.j0 k l1 true a0 (a0 == 8)))) else (some 1))) = some r := by rw [if_pos rfl] at H; exact H
  clear H
  have H := H1
  clear H1
  replace H := Option.bind_eq_some_iff.mp H
  obtain ⟨t381, A50, H⟩ := H
  replace H : (if (l1.length : Int) = t381 then (if a0 = 1 then (imageeditorref16_Check.j0 k l1 true a0 (a0 == 1)) else (if a0 = 7 then (imageeditorref16_Check.j0 k l1 true a0 (a0 == 7)) else (imageeditorref16_Check.j0 k l1 true a0 (a0 == 8)))) else (some 1)) = some r := H
  have A5 := Aside0.mk A50
  clear A50
  by_cases c6 : (l1.length : Int) = t381
  ·rw [if_pos c6] at H
   have c6b0 : ((l1.length : Int) == t381) = true := beq_iff_eq.mpr c6
   have c6b1 : ((l1.length : Int) != t381) = false := bne_eq_false_iff_eq.mpr c6
   clear c6
   have HC7 := Aside0.mk H
   clear H
   go_enter Try.func10, Try.ntmps10
   go_upto_if 15 with (first | ((with_reducible refine gate_callee (f := 32) rfl ?_); refine goesP (some 7) Try.func32 #[.int .i64 a0, .int .i64 1, .int .i64 10] ?_; (with_reducible refine (imageeditorref16_within.calls a0 1 10 true _ A3.out).mono ?_); rintro e w' ⟨rfl, ⟨nd, rfl⟩⟩; refine ⟨_, rfl, ?_⟩) | ((with_reducible refine gate_callee (f := 33) rfl ?_); refine goesP (some 12) Try.func33 #[.int .i64 a0] ?_; (with_reducible refine (imageeditorref16_count.calls k a0 t381 _ A5.out).mono ?_); rintro e w' ⟨rfl, ⟨nd, rfl⟩⟩; refine ⟨_, rfl, ?_⟩))
   (try simp only [Act.put, List.setIfInBounds_toArray, List.set_cons_zero, List.set_cons_succ])
   go_cut [15] (fun v15 wc => ∃ (kq : Nat) (x15_6 : Bool), v15 = .bool x15_6 ∧ Aside0 (imageeditorref16_Check.j0 kq l1 true a0 x15_6 = some r) ∧ Aside0 (kq ≤ k) ∧ Drawn0 w wc)
   case first =>
    have H := HC7.out
    clear HC7
    by_cases c8 : a0 = 1
    ·rw [if_pos c8] at H
     have c8b0 : (a0 == 1) = true := beq_iff_eq.mpr c8
     have c8b1 : (a0 != 1) = false := bne_eq_false_iff_eq.mpr c8
     clear c8
     (first | rw [c8b0] | (simp only [i64_w, i32_w]; rw [c8b0]) | skip)
     have H' := Aside0.mk H
     clear H
     go_wp2
     go_meet
     case rel => exact ⟨_, ((a0 == 1)), (by first | rfl | (simp; done) | (simp [*]; done)), H', ⟨by first | omega | exact Nat.le_refl _⟩, by repeat (first | exact Drawn0.refl _ | apply Drawn0.step)⟩
    ·rw [if_neg c8] at H
     have c8b0 : (a0 == 1) = false := beq_eq_false_iff_ne.mpr c8
     have c8b1 : (a0 != 1) = true := bne_iff_ne.mpr c8
     (first | rw [c8b0] | (simp only [i64_w, i32_w]; rw [c8b0]) | skip)
     by_cases c9 : a0 = 7
     ·rw [if_pos c9] at H
      have c9b0 : (a0 == 7) = true := beq_iff_eq.mpr c9
      have c9b1 : (a0 != 7) = false := bne_eq_false_iff_eq.mpr c9
      clear c9
      have H' := Aside0.mk H
      clear H
      go_wp2
      go_meet
      case rel => exact ⟨_, ((a0 == 7)), (by first | rfl | (simp; done) | (simp [*]; done)), H', ⟨by first | omega | exact Nat.le_refl _⟩, by repeat (first | exact Drawn0.refl _ | apply Drawn0.step)⟩
     ·rw [if_neg c9] at H
      have c9b0 : (a0 == 7) = false := beq_eq_false_iff_ne.mpr c9
      have c9b1 : (a0 != 7) = true := bne_iff_ne.mpr c9
      have H' := Aside0.mk H
      clear H
      go_wp2
      go_meet
      case rel => exact ⟨_, ((a0 == 8)), (by first | rfl | (simp; done) | (simp [*]; done)), H', ⟨by first | omega | exact Nat.le_refl _⟩, by repeat (first | exact Drawn0.refl _ | apply Drawn0.step)⟩
   case rest =>
    clear HC7
    try clear c1
    try clear p2
    try clear c3
    try clear c4
    try clear c6
    try clear c6b0
    try clear c6b1
    try clear c8
    try clear c8b0
    try clear c8b1
    try clear c9
    try clear c9b0
    try clear c9b1
    obtain ⟨kq, x15_6, rfl, HA, HJ6, ⟨mc6, rfl⟩⟩ := hcut
    cases kq with
    | zero => exact absurd HA.out (by simp [imageeditorref16_Check.j0])
    | succ kj6 =>
     have H := HA.out
     clear HA
     simp only [imageeditorref16_Check.j0] at H
     by_cases c10 : x15_6 = true
     ·subst c10
      have H1 : (if 0 < (l1.length : Int) then ((imageeditorref16_within.f (rd l1 0) 0 16).bind fun t383 => (if t383 = true then (some 0) else (some 2))) else (none)) = some r := by rw [if_pos rfl] at H; exact H
      clear H
      have H := H1
      clear H1
      by_cases c11 : 0 < (l1.length : Int)
      ·rw [if_pos c11] at H
       have c11b0 : decide (0 < (l1.length : Int)) = true := decide_eq_true c11
       have c11b1 : decide (0 < l1.length) = true := decide_eq_true (by omega)
       clear c11
       replace H := Option.bind_eq_some_iff.mp H
       obtain ⟨t383, A120, H⟩ := H
       replace H : (if t383 = true then (some 0) else (some 2)) = some r := H
       have A12 := Aside0.mk A120
       clear A120
       by_cases c13 : t383 = true
       ·subst c13
        have H1 : (some 0) = some r := by rw [if_pos rfl] at H; exact H
        clear H
        have H := H1
        clear H1
        obtain rfl := Option.some.inj H
        have p382 : 0 ≤ (0 : Int) := (by omega)
        have q382 : 0 < (l1.length : Int) := of_decide_eq_true (by first | (with_reducible assumption) | assumption)
        obtain ⟨ad382, e382, hx382_0⟩ := Kd.at_int HR1.out 0 p382 q382
        cases e382
        have qi382 : (0 < l1.length) = True := eq_true (by omega)
        (try rw [show ((0 : Int)).toNat = 0 from rfl] at hx382_0)
        (try rw [Addr.add_zero'] at hx382_0)
        replace p382 := eq_true p382
        replace q382 := eq_true q382
        go_wp2_with (first | ((with_reducible refine gate_callee (f := 32) rfl ?_); refine goesP (some 22) Try.func32 #[.int .i64 (rd l1 0), .int .i64 0, .int .i64 16] ?_; (with_reducible refine (imageeditorref16_within.calls (rd l1 0) 0 16 true _ A12.out).mono ?_); rintro e w' ⟨rfl, ⟨nd, rfl⟩⟩; refine ⟨_, rfl, ?_⟩))
        go_ret
        exact ⟨by first | rfl | (simp; done) | (simp [*]; done), by repeat (first | exact Drawn0.refl _ | apply Drawn0.step)⟩
       ·replace c13 := Bool.eq_false_iff.mpr c13
        subst c13
        have H1 : (some 2) = some r := by rw [if_neg (show ¬ (false = true) by decide)] at H; exact H
        clear H
        have H := H1
        clear H1
        obtain rfl := Option.some.inj H
        have p382 : 0 ≤ (0 : Int) := (by omega)
        have q382 : 0 < (l1.length : Int) := of_decide_eq_true (by first | (with_reducible assumption) | assumption)
        obtain ⟨ad382, e382, hx382_0⟩ := Kd.at_int HR1.out 0 p382 q382
        cases e382
        have qi382 : (0 < l1.length) = True := eq_true (by omega)
        (try rw [show ((0 : Int)).toNat = 0 from rfl] at hx382_0)
        (try rw [Addr.add_zero'] at hx382_0)
        replace p382 := eq_true p382
        replace q382 := eq_true q382
        go_wp2_with (first | ((with_reducible refine gate_callee (f := 32) rfl ?_); refine goesP (some 22) Try.func32 #[.int .i64 (rd l1 0), .int .i64 0, .int .i64 16] ?_; (with_reducible refine (imageeditorref16_within.calls (rd l1 0) 0 16 false _ A12.out).mono ?_); rintro e w' ⟨rfl, ⟨nd, rfl⟩⟩; refine ⟨_, rfl, ?_⟩))
        go_ret
        exact ⟨by first | rfl | (simp; done) | (simp [*]; done), by repeat (first | exact Drawn0.refl _ | apply Drawn0.step)⟩
      ·rw [if_neg c11] at H
       exact absurd H (by simp)
     ·replace c10 := Bool.eq_false_iff.mpr c10
      subst c10
      have H1 : (if a0 = 2 then (if 0 < (l1.length : Int) then ((imageeditorref16_within.f (rd l1 0) 0 7).bind fun t385 => (if t385 = true then (some 0) else (some 2))) else (none)) else (if a0 = 4 then (if 0 < (l1.length : Int) then ((imageeditorref16_within.f (rd l1 0) 0 4).bind fun t387 => (if t387 = true then (some 0) else (some 2))) else (none)) else (if a0 = 3 then (if 0 < (l1.length : Int) then ((imageeditorref16_within.f (rd l1 0) 0 16).bind fun t389 => (if t389 = true then (if 1 < (l1.length : Int) then ((imageeditorref16_within.f (rd l1 1) 0 262140).bind fun t391 => (if t391 = true then (some 0) else (some 2))) else (none)) else (some 2))) else (none)) else (if a0 = 9 then (if 0 < (l1.length : Int) then ((imageeditorref16_within.f (rd l1 0) (-16) 16).bind fun t393 => (if t393 = true then (if 1 < (l1.length : Int) then ((imageeditorref16_within.f (rd l1 1) (-16) 16).bind fun t395 => (if t395 = true then (some 0) else (some 2))) else (none)) else (some 2))) else (none)) else (if a0 = 10 then (if 0 < (l1.length : Int) then ((imageeditorref16_within.f (rd l1 0) 1 16).bind fun t397 => (if t397 = true then (some 0) else (some 2))) else (none)) else (if true = true then (some 0) else (some 2))))))) = some r := by rw [if_neg (show ¬ (false = true) by decide)] at H; exact H
      clear H
      have H := H1
      clear H1
      by_cases c14 : a0 = 2
      ·rw [if_pos c14] at H
       have c14b0 : (a0 == 2) = true := beq_iff_eq.mpr c14
       have c14b1 : (a0 != 2) = false := bne_eq_false_iff_eq.mpr c14
       clear c14
       by_cases c15 : 0 < (l1.length : Int)
       ·rw [if_pos c15] at H
        have c15b0 : decide (0 < (l1.length : Int)) = true := decide_eq_true c15
        have c15b1 : decide (0 < l1.length) = true := decide_eq_true (by omega)
        clear c15
        replace H := Option.bind_eq_some_iff.mp H
        obtain ⟨t385, A160, H⟩ := H
        replace H : (if t385 = true then (some 0) else (some 2)) = some r := H
        have A16 := Aside0.mk A160
        clear A160
        by_cases c17 : t385 = true
        ·subst c17
         have H1 : (some 0) = some r := by rw [if_pos rfl] at H; exact H
         clear H
         have H := H1
         clear H1
         obtain rfl := Option.some.inj H
         have p384 : 0 ≤ (0 : Int) := (by omega)
         have q384 : 0 < (l1.length : Int) := of_decide_eq_true (by first | (with_reducible assumption) | assumption)
         obtain ⟨ad384, e384, hx384_0⟩ := Kd.at_int HR1.out 0 p384 q384
         cases e384
         have qi384 : (0 < l1.length) = True := eq_true (by omega)
         (try rw [show ((0 : Int)).toNat = 0 from rfl] at hx384_0)
         (try rw [Addr.add_zero'] at hx384_0)
         replace p384 := eq_true p384
         replace q384 := eq_true q384
         go_wp2_with (first | ((with_reducible refine gate_callee (f := 32) rfl ?_); refine goesP (some 28) Try.func32 #[.int .i64 (rd l1 0), .int .i64 0, .int .i64 7] ?_; (with_reducible refine (imageeditorref16_within.calls (rd l1 0) 0 7 true _ A16.out).mono ?_); rintro e w' ⟨rfl, ⟨nd, rfl⟩⟩; refine ⟨_, rfl, ?_⟩))
         go_ret
         exact ⟨by first | rfl | (simp; done) | (simp [*]; done), by repeat (first | exact Drawn0.refl _ | apply Drawn0.step)⟩
        ·replace c17 := Bool.eq_false_iff.mpr c17
         subst c17
         have H1 : (some 2) = some r := by rw [if_neg (show ¬ (false = true) by decide)] at H; exact H
         clear H
         have H := H1
         clear H1
         obtain rfl := Option.some.inj H
         have p384 : 0 ≤ (0 : Int) := (by omega)
         have q384 : 0 < (l1.length : Int) := of_decide_eq_true (by first | (with_reducible assumption) | assumption)
         obtain ⟨ad384, e384, hx384_0⟩ := Kd.at_int HR1.out 0 p384 q384
         cases e384
         have qi384 : (0 < l1.length) = True := eq_true (by omega)
         (try rw [show ((0 : Int)).toNat = 0 from rfl] at hx384_0)
         (try rw [Addr.add_zero'] at hx384_0)
         replace p384 := eq_true p384
         replace q384 := eq_true q384
         go_wp2_with (first | ((with_reducible refine gate_callee (f := 32) rfl ?_); refine goesP (some 28) Try.func32 #[.int .i64 (rd l1 0), .int .i64 0, .int .i64 7] ?_; (with_reducible refine (imageeditorref16_within.calls (rd l1 0) 0 7 false _ A16.out).mono ?_); rintro e w' ⟨rfl, ⟨nd, rfl⟩⟩; refine ⟨_, rfl, ?_⟩))
         go_ret
         exact ⟨by first | rfl | (simp; done) | (simp [*]; done), by repeat (first | exact Drawn0.refl _ | apply Drawn0.step)⟩
       ·rw [if_neg c15] at H
        exact absurd H (by simp)
      ·rw [if_neg c14] at H
       have c14b0 : (a0 == 2) = false := beq_eq_false_iff_ne.mpr c14
       have c14b1 : (a0 != 2) = true := bne_iff_ne.mpr c14
       by_cases c18 : a0 = 4
       ·rw [if_pos c18] at H
        have c18b0 : (a0 == 4) = true := beq_iff_eq.mpr c18
        have c18b1 : (a0 != 4) = false := bne_eq_false_iff_eq.mpr c18
        clear c18
        by_cases c19 : 0 < (l1.length : Int)
        ·rw [if_pos c19] at H
         have c19b0 : decide (0 < (l1.length : Int)) = true := decide_eq_true c19
         have c19b1 : decide (0 < l1.length) = true := decide_eq_true (by omega)
         clear c19
         replace H := Option.bind_eq_some_iff.mp H
         obtain ⟨t387, A200, H⟩ := H
         replace H : (if t387 = true then (some 0) else (some 2)) = some r := H
         have A20 := Aside0.mk A200
         clear A200
         by_cases c21 : t387 = true
         ·subst c21
          have H1 : (some 0) = some r := by rw [if_pos rfl] at H; exact H
          clear H
          have H := H1
          clear H1
          obtain rfl := Option.some.inj H
          have p386 : 0 ≤ (0 : Int) := (by omega)
          have q386 : 0 < (l1.length : Int) := of_decide_eq_true (by first | (with_reducible assumption) | assumption)
          obtain ⟨ad386, e386, hx386_0⟩ := Kd.at_int HR1.out 0 p386 q386
          cases e386
          have qi386 : (0 < l1.length) = True := eq_true (by omega)
          (try rw [show ((0 : Int)).toNat = 0 from rfl] at hx386_0)
          (try rw [Addr.add_zero'] at hx386_0)
          replace p386 := eq_true p386
          replace q386 := eq_true q386
          go_wp2_with (first | ((with_reducible refine gate_callee (f := 32) rfl ?_); refine goesP (some 34) Try.func32 #[.int .i64 (rd l1 0), .int .i64 0, .int .i64 4] ?_; (with_reducible refine (imageeditorref16_within.calls (rd l1 0) 0 4 true _ A20.out).mono ?_); rintro e w' ⟨rfl, ⟨nd, rfl⟩⟩; refine ⟨_, rfl, ?_⟩))
          go_ret
          exact ⟨by first | rfl | (simp; done) | (simp [*]; done), by repeat (first | exact Drawn0.refl _ | apply Drawn0.step)⟩
         ·replace c21 := Bool.eq_false_iff.mpr c21
          subst c21
          have H1 : (some 2) = some r := by rw [if_neg (show ¬ (false = true) by decide)] at H; exact H
          clear H
          have H := H1
          clear H1
          obtain rfl := Option.some.inj H
          have p386 : 0 ≤ (0 : Int) := (by omega)
          have q386 : 0 < (l1.length : Int) := of_decide_eq_true (by first | (with_reducible assumption) | assumption)
          obtain ⟨ad386, e386, hx386_0⟩ := Kd.at_int HR1.out 0 p386 q386
          cases e386
          have qi386 : (0 < l1.length) = True := eq_true (by omega)
          (try rw [show ((0 : Int)).toNat = 0 from rfl] at hx386_0)
          (try rw [Addr.add_zero'] at hx386_0)
          replace p386 := eq_true p386
          replace q386 := eq_true q386
          go_wp2_with (first | ((with_reducible refine gate_callee (f := 32) rfl ?_); refine goesP (some 34) Try.func32 #[.int .i64 (rd l1 0), .int .i64 0, .int .i64 4] ?_; (with_reducible refine (imageeditorref16_within.calls (rd l1 0) 0 4 false _ A20.out).mono ?_); rintro e w' ⟨rfl, ⟨nd, rfl⟩⟩; refine ⟨_, rfl, ?_⟩))
          go_ret
          exact ⟨by first | rfl | (simp; done) | (simp [*]; done), by repeat (first | exact Drawn0.refl _ | apply Drawn0.step)⟩
        ·rw [if_neg c19] at H
         exact absurd H (by simp)
       ·rw [if_neg c18] at H
        have c18b0 : (a0 == 4) = false := beq_eq_false_iff_ne.mpr c18
        have c18b1 : (a0 != 4) = true := bne_iff_ne.mpr c18
        by_cases c22 : a0 = 3
        ·rw [if_pos c22] at H
         have c22b0 : (a0 == 3) = true := beq_iff_eq.mpr c22
         have c22b1 : (a0 != 3) = false := bne_eq_false_iff_eq.mpr c22
         clear c22
         by_cases c23 : 0 < (l1.length : Int)
         ·rw [if_pos c23] at H
          have c23b0 : decide (0 < (l1.length : Int)) = true := decide_eq_true c23
          have c23b1 : decide (0 < l1.length) = true := decide_eq_true (by omega)
          clear c23
          replace H := Option.bind_eq_some_iff.mp H
          obtain ⟨t389, A240, H⟩ := H
          replace H : (if t389 = true then (if 1 < (l1.length : Int) then ((imageeditorref16_within.f (rd l1 1) 0 262140).bind fun t391 => (if t391 = true then (some 0) else (some 2))) else (none)) else (some 2)) = some r := H
          have A24 := Aside0.mk A240
          clear A240
          by_cases c25 : t389 = true
          ·subst c25
           have H1 : (if 1 < (l1.length : Int) then ((imageeditorref16_within.f (rd l1 1) 0 262140).bind fun t391 => (if t391 = true then (some 0) else (some 2))) else (none)) = some r := by rw [if_pos rfl] at H; exact H
           clear H
           have H := H1
           clear H1
           by_cases c26 : 1 < (l1.length : Int)
           ·rw [if_pos c26] at H
            have c26b0 : decide (1 < (l1.length : Int)) = true := decide_eq_true c26
            have c26b1 : decide (1 < l1.length) = true := decide_eq_true (by omega)
            clear c26
            replace H := Option.bind_eq_some_iff.mp H
            obtain ⟨t391, A270, H⟩ := H
            replace H : (if t391 = true then (some 0) else (some 2)) = some r := H
            have A27 := Aside0.mk A270
            clear A270
            by_cases c28 : t391 = true
            ·subst c28
             have H1 : (some 0) = some r := by rw [if_pos rfl] at H; exact H
             clear H
             have H := H1
             clear H1
             obtain rfl := Option.some.inj H
             have p388 : 0 ≤ (0 : Int) := (by omega)
             have q388 : 0 < (l1.length : Int) := of_decide_eq_true (by first | (with_reducible assumption) | assumption)
             obtain ⟨ad388, e388, hx388_0⟩ := Kd.at_int HR1.out 0 p388 q388
             cases e388
             have qi388 : (0 < l1.length) = True := eq_true (by omega)
             (try rw [show ((0 : Int)).toNat = 0 from rfl] at hx388_0)
             (try rw [Addr.add_zero'] at hx388_0)
             replace p388 := eq_true p388
             replace q388 := eq_true q388
             go_wp2_with (first | ((with_reducible refine gate_callee (f := 32) rfl ?_); refine goesP (some 40) Try.func32 #[.int .i64 (rd l1 0), .int .i64 0, .int .i64 16] ?_; (with_reducible refine (imageeditorref16_within.calls (rd l1 0) 0 16 true _ A24.out).mono ?_); rintro e w' ⟨rfl, ⟨nd, rfl⟩⟩; refine ⟨_, rfl, ?_⟩; have p390 : 0 ≤ (1 : Int) := (by omega); have q390 : 1 < (l1.length : Int) := of_decide_eq_true (by first | (with_reducible assumption) | assumption); obtain ⟨ad390, e390, hx390_0⟩ := Kd.at_int HR1.out 1 p390 q390; obtain rfl : ad388 = ad390 := (by injection e390); (try simp only [show (1 : Int).toNat = 1 from rfl, Nat.reduceMul, Nat.reduceEqDiff, Go.Addr.add, ↓reduceIte] at hx390_0); have qi390 : (1 < l1.length) = True := eq_true (by omega); (try rw [show ((1 : Int)).toNat = 1 from rfl] at hx390_0); replace p390 := eq_true p390; replace q390 := eq_true q390) | (go_at_call 32; (with_reducible refine (imageeditorref16_within.calls (rd l1 1) 0 262140 true _ A27.out).mono ?_); rintro e w' ⟨rfl, ⟨nd, rfl⟩⟩))
             go_ret
             exact ⟨by first | rfl | (simp; done) | (simp [*]; done), by repeat (first | exact Drawn0.refl _ | apply Drawn0.step)⟩
            ·replace c28 := Bool.eq_false_iff.mpr c28
             subst c28
             have H1 : (some 2) = some r := by rw [if_neg (show ¬ (false = true) by decide)] at H; exact H
             clear H
             have H := H1
             clear H1
             obtain rfl := Option.some.inj H
             have p388 : 0 ≤ (0 : Int) := (by omega)
             have q388 : 0 < (l1.length : Int) := of_decide_eq_true (by first | (with_reducible assumption) | assumption)
             obtain ⟨ad388, e388, hx388_0⟩ := Kd.at_int HR1.out 0 p388 q388
             cases e388
             have qi388 : (0 < l1.length) = True := eq_true (by omega)
             (try rw [show ((0 : Int)).toNat = 0 from rfl] at hx388_0)
             (try rw [Addr.add_zero'] at hx388_0)
             replace p388 := eq_true p388
             replace q388 := eq_true q388
             go_wp2_with (first | ((with_reducible refine gate_callee (f := 32) rfl ?_); refine goesP (some 40) Try.func32 #[.int .i64 (rd l1 0), .int .i64 0, .int .i64 16] ?_; (with_reducible refine (imageeditorref16_within.calls (rd l1 0) 0 16 true _ A24.out).mono ?_); rintro e w' ⟨rfl, ⟨nd, rfl⟩⟩; refine ⟨_, rfl, ?_⟩; have p390 : 0 ≤ (1 : Int) := (by omega); have q390 : 1 < (l1.length : Int) := of_decide_eq_true (by first | (with_reducible assumption) | assumption); obtain ⟨ad390, e390, hx390_0⟩ := Kd.at_int HR1.out 1 p390 q390; obtain rfl : ad388 = ad390 := (by injection e390); (try simp only [show (1 : Int).toNat = 1 from rfl, Nat.reduceMul, Nat.reduceEqDiff, Go.Addr.add, ↓reduceIte] at hx390_0); have qi390 : (1 < l1.length) = True := eq_true (by omega); (try rw [show ((1 : Int)).toNat = 1 from rfl] at hx390_0); replace p390 := eq_true p390; replace q390 := eq_true q390) | (go_at_call 32; (with_reducible refine (imageeditorref16_within.calls (rd l1 1) 0 262140 false _ A27.out).mono ?_); rintro e w' ⟨rfl, ⟨nd, rfl⟩⟩))
             go_ret
             exact ⟨by first | rfl | (simp; done) | (simp [*]; done), by repeat (first | exact Drawn0.refl _ | apply Drawn0.step)⟩
           ·rw [if_neg c26] at H
            exact absurd H (by simp)
          ·replace c25 := Bool.eq_false_iff.mpr c25
           subst c25
           have H1 : (some 2) = some r := by rw [if_neg (show ¬ (false = true) by decide)] at H; exact H
           clear H
           have H := H1
           clear H1
           obtain rfl := Option.some.inj H
           have p388 : 0 ≤ (0 : Int) := (by omega)
           have q388 : 0 < (l1.length : Int) := of_decide_eq_true (by first | (with_reducible assumption) | assumption)
           obtain ⟨ad388, e388, hx388_0⟩ := Kd.at_int HR1.out 0 p388 q388
           cases e388
           have qi388 : (0 < l1.length) = True := eq_true (by omega)
           (try rw [show ((0 : Int)).toNat = 0 from rfl] at hx388_0)
           (try rw [Addr.add_zero'] at hx388_0)
           replace p388 := eq_true p388
           replace q388 := eq_true q388
           go_wp2_with (first | ((with_reducible refine gate_callee (f := 32) rfl ?_); refine goesP (some 40) Try.func32 #[.int .i64 (rd l1 0), .int .i64 0, .int .i64 16] ?_; (with_reducible refine (imageeditorref16_within.calls (rd l1 0) 0 16 false _ A24.out).mono ?_); rintro e w' ⟨rfl, ⟨nd, rfl⟩⟩; refine ⟨_, rfl, ?_⟩))
           go_ret
           exact ⟨by first | rfl | (simp; done) | (simp [*]; done), by repeat (first | exact Drawn0.refl _ | apply Drawn0.step)⟩
         ·rw [if_neg c23] at H
          exact absurd H (by simp)
        ·rw [if_neg c22] at H
         have c22b0 : (a0 == 3) = false := beq_eq_false_iff_ne.mpr c22
         have c22b1 : (a0 != 3) = true := bne_iff_ne.mpr c22
         by_cases c29 : a0 = 9
         ·rw [if_pos c29] at H
          have c29b0 : (a0 == 9) = true := beq_iff_eq.mpr c29
          have c29b1 : (a0 != 9) = false := bne_eq_false_iff_eq.mpr c29
          clear c29
          by_cases c30 : 0 < (l1.length : Int)
          ·rw [if_pos c30] at H
           have c30b0 : decide (0 < (l1.length : Int)) = true := decide_eq_true c30
           have c30b1 : decide (0 < l1.length) = true := decide_eq_true (by omega)
           clear c30
           replace H := Option.bind_eq_some_iff.mp H
           obtain ⟨t393, A310, H⟩ := H
           replace H : (if t393 = true then (if 1 < (l1.length : Int) then ((imageeditorref16_within.f (rd l1 1) (-16) 16).bind fun t395 => (if t395 = true then (some 0) else (some 2))) else (none)) else (some 2)) = some r := H
           have A31 := Aside0.mk A310
           clear A310
           by_cases c32 : t393 = true
           ·subst c32
            have H1 : (if 1 < (l1.length : Int) then ((imageeditorref16_within.f (rd l1 1) (-16) 16).bind fun t395 => (if t395 = true then (some 0) else (some 2))) else (none)) = some r := by rw [if_pos rfl] at H; exact H
            clear H
            have H := H1
            clear H1
            by_cases c33 : 1 < (l1.length : Int)
            ·rw [if_pos c33] at H
             have c33b0 : decide (1 < (l1.length : Int)) = true := decide_eq_true c33
             have c33b1 : decide (1 < l1.length) = true := decide_eq_true (by omega)
             clear c33
             replace H := Option.bind_eq_some_iff.mp H
             obtain ⟨t395, A340, H⟩ := H
             replace H : (if t395 = true then (some 0) else (some 2)) = some r := H
             have A34 := Aside0.mk A340
             clear A340
             by_cases c35 : t395 = true
             ·subst c35
              have H1 : (some 0) = some r := by rw [if_pos rfl] at H; exact H
              clear H
              have H := H1
              clear H1
              obtain rfl := Option.some.inj H
              have p392 : 0 ≤ (0 : Int) := (by omega)
              have q392 : 0 < (l1.length : Int) := of_decide_eq_true (by first | (with_reducible assumption) | assumption)
              obtain ⟨ad392, e392, hx392_0⟩ := Kd.at_int HR1.out 0 p392 q392
              cases e392
              have qi392 : (0 < l1.length) = True := eq_true (by omega)
              (try rw [show ((0 : Int)).toNat = 0 from rfl] at hx392_0)
              (try rw [Addr.add_zero'] at hx392_0)
              replace p392 := eq_true p392
              replace q392 := eq_true q392
              go_wp2_with (first | ((with_reducible refine gate_callee (f := 32) rfl ?_); refine goesP (some 52) Try.func32 #[.int .i64 (rd l1 0), .int .i64 (-16), .int .i64 16] ?_; (with_reducible refine (imageeditorref16_within.calls (rd l1 0) (-16) 16 true _ A31.out).mono ?_); rintro e w' ⟨rfl, ⟨nd, rfl⟩⟩; refine ⟨_, rfl, ?_⟩; have p394 : 0 ≤ (1 : Int) := (by omega); have q394 : 1 < (l1.length : Int) := of_decide_eq_true (by first | (with_reducible assumption) | assumption); obtain ⟨ad394, e394, hx394_0⟩ := Kd.at_int HR1.out 1 p394 q394; obtain rfl : ad392 = ad394 := (by injection e394); (try simp only [show (1 : Int).toNat = 1 from rfl, Nat.reduceMul, Nat.reduceEqDiff, Go.Addr.add, ↓reduceIte] at hx394_0); have qi394 : (1 < l1.length) = True := eq_true (by omega); (try rw [show ((1 : Int)).toNat = 1 from rfl] at hx394_0); replace p394 := eq_true p394; replace q394 := eq_true q394) | (go_at_call 32; (with_reducible refine (imageeditorref16_within.calls (rd l1 1) (-16) 16 true _ A34.out).mono ?_); rintro e w' ⟨rfl, ⟨nd, rfl⟩⟩))
              go_ret
              exact ⟨by first | rfl | (simp; done) | (simp [*]; done), by repeat (first | exact Drawn0.refl _ | apply Drawn0.step)⟩
             ·replace c35 := Bool.eq_false_iff.mpr c35
              subst c35
              have H1 : (some 2) = some r := by rw [if_neg (show ¬ (false = true) by decide)] at H; exact H
              clear H
              have H := H1
              clear H1
              obtain rfl := Option.some.inj H
              have p392 : 0 ≤ (0 : Int) := (by omega)
              have q392 : 0 < (l1.length : Int) := of_decide_eq_true (by first | (with_reducible assumption) | assumption)
              obtain ⟨ad392, e392, hx392_0⟩ := Kd.at_int HR1.out 0 p392 q392
              cases e392
              have qi392 : (0 < l1.length) = True := eq_true (by omega)
              (try rw [show ((0 : Int)).toNat = 0 from rfl] at hx392_0)
              (try rw [Addr.add_zero'] at hx392_0)
              replace p392 := eq_true p392
              replace q392 := eq_true q392
              go_wp2_with (first | ((with_reducible refine gate_callee (f := 32) rfl ?_); refine goesP (some 52) Try.func32 #[.int .i64 (rd l1 0), .int .i64 (-16), .int .i64 16] ?_; (with_reducible refine (imageeditorref16_within.calls (rd l1 0) (-16) 16 true _ A31.out).mono ?_); rintro e w' ⟨rfl, ⟨nd, rfl⟩⟩; refine ⟨_, rfl, ?_⟩; have p394 : 0 ≤ (1 : Int) := (by omega); have q394 : 1 < (l1.length : Int) := of_decide_eq_true (by first | (with_reducible assumption) | assumption); obtain ⟨ad394, e394, hx394_0⟩ := Kd.at_int HR1.out 1 p394 q394; obtain rfl : ad392 = ad394 := (by injection e394); (try simp only [show (1 : Int).toNat = 1 from rfl, Nat.reduceMul, Nat.reduceEqDiff, Go.Addr.add, ↓reduceIte] at hx394_0); have qi394 : (1 < l1.length) = True := eq_true (by omega); (try rw [show ((1 : Int)).toNat = 1 from rfl] at hx394_0); replace p394 := eq_true p394; replace q394 := eq_true q394) | (go_at_call 32; (with_reducible refine (imageeditorref16_within.calls (rd l1 1) (-16) 16 false _ A34.out).mono ?_); rintro e w' ⟨rfl, ⟨nd, rfl⟩⟩))
              go_ret
              exact ⟨by first | rfl | (simp; done) | (simp [*]; done), by repeat (first | exact Drawn0.refl _ | apply Drawn0.step)⟩
            ·rw [if_neg c33] at H
             exact absurd H (by simp)
           ·replace c32 := Bool.eq_false_iff.mpr c32
            subst c32
            have H1 : (some 2) = some r := by rw [if_neg (show ¬ (false = true) by decide)] at H; exact H
            clear H
            have H := H1
            clear H1
            obtain rfl := Option.some.inj H
            have p392 : 0 ≤ (0 : Int) := (by omega)
            have q392 : 0 < (l1.length : Int) := of_decide_eq_true (by first | (with_reducible assumption) | assumption)
            obtain ⟨ad392, e392, hx392_0⟩ := Kd.at_int HR1.out 0 p392 q392
            cases e392
            have qi392 : (0 < l1.length) = True := eq_true (by omega)
            (try rw [show ((0 : Int)).toNat = 0 from rfl] at hx392_0)
            (try rw [Addr.add_zero'] at hx392_0)
            replace p392 := eq_true p392
            replace q392 := eq_true q392
            go_wp2_with (first | ((with_reducible refine gate_callee (f := 32) rfl ?_); refine goesP (some 52) Try.func32 #[.int .i64 (rd l1 0), .int .i64 (-16), .int .i64 16] ?_; (with_reducible refine (imageeditorref16_within.calls (rd l1 0) (-16) 16 false _ A31.out).mono ?_); rintro e w' ⟨rfl, ⟨nd, rfl⟩⟩; refine ⟨_, rfl, ?_⟩))
            go_ret
            exact ⟨by first | rfl | (simp; done) | (simp [*]; done), by repeat (first | exact Drawn0.refl _ | apply Drawn0.step)⟩
          ·rw [if_neg c30] at H
           exact absurd H (by simp)
         ·rw [if_neg c29] at H
          have c29b0 : (a0 == 9) = false := beq_eq_false_iff_ne.mpr c29
          have c29b1 : (a0 != 9) = true := bne_iff_ne.mpr c29
          by_cases c36 : a0 = 10
          ·rw [if_pos c36] at H
           have c36b0 : (a0 == 10) = true := beq_iff_eq.mpr c36
           have c36b1 : (a0 != 10) = false := bne_eq_false_iff_eq.mpr c36
           clear c36
           by_cases c37 : 0 < (l1.length : Int)
           ·rw [if_pos c37] at H
            have c37b0 : decide (0 < (l1.length : Int)) = true := decide_eq_true c37
            have c37b1 : decide (0 < l1.length) = true := decide_eq_true (by omega)
            clear c37
            replace H := Option.bind_eq_some_iff.mp H
            obtain ⟨t397, A380, H⟩ := H
            replace H : (if t397 = true then (some 0) else (some 2)) = some r := H
            have A38 := Aside0.mk A380
            clear A380
            by_cases c39 : t397 = true
            ·subst c39
             have H1 : (some 0) = some r := by rw [if_pos rfl] at H; exact H
             clear H
             have H := H1
             clear H1
             obtain rfl := Option.some.inj H
             have p396 : 0 ≤ (0 : Int) := (by omega)
             have q396 : 0 < (l1.length : Int) := of_decide_eq_true (by first | (with_reducible assumption) | assumption)
             obtain ⟨ad396, e396, hx396_0⟩ := Kd.at_int HR1.out 0 p396 q396
             cases e396
             have qi396 : (0 < l1.length) = True := eq_true (by omega)
             (try rw [show ((0 : Int)).toNat = 0 from rfl] at hx396_0)
             (try rw [Addr.add_zero'] at hx396_0)
             replace p396 := eq_true p396
             replace q396 := eq_true q396
             go_wp2_with (first | ((with_reducible refine gate_callee (f := 32) rfl ?_); refine goesP (some 64) Try.func32 #[.int .i64 (rd l1 0), .int .i64 1, .int .i64 16] ?_; (with_reducible refine (imageeditorref16_within.calls (rd l1 0) 1 16 true _ A38.out).mono ?_); rintro e w' ⟨rfl, ⟨nd, rfl⟩⟩; refine ⟨_, rfl, ?_⟩))
             go_ret
             exact ⟨by first | rfl | (simp; done) | (simp [*]; done), by repeat (first | exact Drawn0.refl _ | apply Drawn0.step)⟩
            ·replace c39 := Bool.eq_false_iff.mpr c39
             subst c39
             have H1 : (some 2) = some r := by rw [if_neg (show ¬ (false = true) by decide)] at H; exact H
             clear H
             have H := H1
             clear H1
             obtain rfl := Option.some.inj H
             have p396 : 0 ≤ (0 : Int) := (by omega)
             have q396 : 0 < (l1.length : Int) := of_decide_eq_true (by first | (with_reducible assumption) | assumption)
             obtain ⟨ad396, e396, hx396_0⟩ := Kd.at_int HR1.out 0 p396 q396
             cases e396
             have qi396 : (0 < l1.length) = True := eq_true (by omega)
             (try rw [show ((0 : Int)).toNat = 0 from rfl] at hx396_0)
             (try rw [Addr.add_zero'] at hx396_0)
             replace p396 := eq_true p396
             replace q396 := eq_true q396
             go_wp2_with (first | ((with_reducible refine gate_callee (f := 32) rfl ?_); refine goesP (some 64) Try.func32 #[.int .i64 (rd l1 0), .int .i64 1, .int .i64 16] ?_; (with_reducible refine (imageeditorref16_within.calls (rd l1 0) 1 16 false _ A38.out).mono ?_); rintro e w' ⟨rfl, ⟨nd, rfl⟩⟩; refine ⟨_, rfl, ?_⟩))
             go_ret
             exact ⟨by first | rfl | (simp; done) | (simp [*]; done), by repeat (first | exact Drawn0.refl _ | apply Drawn0.step)⟩
           ·rw [if_neg c37] at H
            exact absurd H (by simp)
          ·rw [if_neg c36] at H
           have c36b0 : (a0 == 10) = false := beq_eq_false_iff_ne.mpr c36
           have c36b1 : (a0 != 10) = true := bne_iff_ne.mpr c36
           by_cases c40 : true = true
           ·clear c40
            have H1 : (some 0) = some r := by rw [if_pos rfl] at H; exact H
            clear H
            have H := H1
            clear H1
            obtain rfl := Option.some.inj H
            go_wp2
            go_ret
            exact ⟨by first | rfl | (simp; done) | (simp [*]; done), by repeat (first | exact Drawn0.refl _ | apply Drawn0.step)⟩
           ·exact absurd rfl c40
  ·rw [if_neg c6] at H
   have c6b0 : ((l1.length : Int) == t381) = false := beq_eq_false_iff_ne.mpr c6
   have c6b1 : ((l1.length : Int) != t381) = true := bne_iff_ne.mpr c6
   obtain rfl := Option.some.inj H
   go_enter Try.func10, Try.ntmps10
   go_wp2_with (first | ((with_reducible refine gate_callee (f := 32) rfl ?_); refine goesP (some 7) Try.func32 #[.int .i64 a0, .int .i64 1, .int .i64 10] ?_; (with_reducible refine (imageeditorref16_within.calls a0 1 10 true _ A3.out).mono ?_); rintro e w' ⟨rfl, ⟨nd, rfl⟩⟩; refine ⟨_, rfl, ?_⟩) | ((with_reducible refine gate_callee (f := 33) rfl ?_); refine goesP (some 12) Try.func33 #[.int .i64 a0] ?_; (with_reducible refine (imageeditorref16_count.calls k a0 t381 _ A5.out).mono ?_); rintro e w' ⟨rfl, ⟨nd, rfl⟩⟩; refine ⟨_, rfl, ?_⟩))
   go_ret
   exact ⟨by first | rfl | (simp; done) | (simp [*]; done), by repeat (first | exact Drawn0.refl _ | apply Drawn0.step)⟩
 ·replace c4 := Bool.eq_false_iff.mpr c4
  subst c4
  have H1 : (some 8) = some r := by rw [if_neg (show ¬ (false = true) by decide)] at H; exact H
  clear H
  have H := H1
  clear H1
  obtain rfl := Option.some.inj H
  go_enter Try.func10, Try.ntmps10
  go_wp2_with (first | ((with_reducible refine gate_callee (f := 32) rfl ?_); refine goesP (some 7) Try.func32 #[.int .i64 a0, .int .i64 1, .int .i64 10] ?_; (with_reducible refine (imageeditorref16_within.calls a0 1 10 false _ A3.out).mono ?_); rintro e w' ⟨rfl, ⟨nd, rfl⟩⟩; refine ⟨_, rfl, ?_⟩))
  go_ret
  exact ⟨by first | rfl | (simp; done) | (simp [*]; done), by repeat (first | exact Drawn0.refl _ | apply Drawn0.step)⟩

/-! ### imageeditorref02_Valid: function 15 -/
def imageeditorref02_Valid.f (a0_0 : Int) (a0_1 : Int) (a0_2 : Int) (a0_3 : Int) : Option (Bool) := if a0_0 < (-1048576) then (some false) else (if a0_0 > 1048576 then (some false) else (if a0_1 < (-1048576) then (some false) else (if a0_1 > 1048576 then (some false) else (if a0_2 ≥ 0 then (if a0_3 ≥ 0 then (if a0_2 ≤ (wrap64 (1048576 - a0_0)) then (some (decide (a0_3 ≤ (wrap64 (1048576 - a0_1))))) else (some false)) else (some false)) else (some false)))))
set_option maxHeartbeats 8000000 in
set_option maxRecDepth 100000 in
theorem imageeditorref02_Valid.calls (a0_0 : Int) (a0_1 : Int) (a0_2 : Int) (a0_3 : Int) (r : Bool) (w : World) (h : imageeditorref02_Valid.f a0_0 a0_1 a0_2 a0_3 = some r) :
  Calls Try.prog 15 #[.agg #[.int .i64 a0_0, .int .i64 a0_1, .int .i64 a0_2, .int .i64 a0_3]] w fun e w' => e = .returned (.bool r) ∧ Below w.heap.size w w' := by
 have hu24 := Try.underlying24
 have HB := am (Below.refl w.heap.size w)
 have H : (if a0_0 < (-1048576) then (some false) else (if a0_0 > 1048576 then (some false) else (if a0_1 < (-1048576) then (some false) else (if a0_1 > 1048576 then (some false) else (if a0_2 ≥ 0 then (if a0_3 ≥ 0 then (if a0_2 ≤ (wrap64 (1048576 - a0_0)) then (some (decide (a0_3 ≤ (wrap64 (1048576 - a0_1))))) else (some false)) else (some false)) else (some false)))))) = some r := h
 clear h
 by_cases c2 : a0_0 < (-1048576)
 ·rw [if_pos c2] at H
  have c2b0 : decide (a0_0 < (-1048576)) = true := decide_eq_true c2
  clear c2
  obtain rfl := Option.some.inj H
  go_enter Try.func15, Try.ntmps15
  go_wp2_with (first | ((with_reducible refine gate_dst (N := 1) rfl ?_); refine boxE (N := 1) #[.int .i64 a0_0, .int .i64 a0_1, .int .i64 a0_2, .int .i64 a0_3] 24 ?_; intro gb398 hg w3 hbox hb; have BK398 := am (hbox); have GW398 := gW hg HB; have GE398 := gW hg HB; replace HB := hYb HB hb; clear hb hbox hg; have hcz4_0 := blk_cell BK398.out; have hfz4_0 := blk_frozen BK398.out))
  go_ret
  exact ⟨by first | rfl | (simp [errW_none, errW_some] <;> rfl) | (simp [*, errW_none, errW_some] <;> rfl), by exact beX HB.out⟩
 ·rw [if_neg c2] at H
  have c2b0 : decide (a0_0 < (-1048576)) = false := decide_eq_false c2
  clear c2
  by_cases c5 : a0_0 > 1048576
  ·rw [if_pos c5] at H
   have c5b0 : decide (1048576 < a0_0) = true := decide_eq_true c5
   clear c5
   obtain rfl := Option.some.inj H
   go_enter Try.func15, Try.ntmps15
   go_wp2_with (first | ((with_reducible refine gate_dst (N := 1) rfl ?_); refine boxE (N := 1) #[.int .i64 a0_0, .int .i64 a0_1, .int .i64 a0_2, .int .i64 a0_3] 24 ?_; intro gb398 hg w6 hbox hb; have BK398 := am (hbox); have GW398 := gW hg HB; have GE398 := gW hg HB; replace HB := hYb HB hb; clear hb hbox hg; have hcz7_0 := blk_cell BK398.out; have hfz7_0 := blk_frozen BK398.out))
   go_ret
   exact ⟨by first | rfl | (simp [errW_none, errW_some] <;> rfl) | (simp [*, errW_none, errW_some] <;> rfl), by exact beX HB.out⟩
  ·rw [if_neg c5] at H
   have c5b0 : decide (1048576 < a0_0) = false := decide_eq_false c5
   clear c5
   by_cases c8 : a0_1 < (-1048576)
   ·rw [if_pos c8] at H
    have c8b0 : decide (a0_1 < (-1048576)) = true := decide_eq_true c8
    clear c8
    obtain rfl := Option.some.inj H
    go_enter Try.func15, Try.ntmps15
    go_wp2_with (first | ((with_reducible refine gate_dst (N := 1) rfl ?_); refine boxE (N := 1) #[.int .i64 a0_0, .int .i64 a0_1, .int .i64 a0_2, .int .i64 a0_3] 24 ?_; intro gb398 hg w9 hbox hb; have BK398 := am (hbox); have GW398 := gW hg HB; have GE398 := gW hg HB; replace HB := hYb HB hb; clear hb hbox hg; have hcz10_0 := blk_cell BK398.out; have hfz10_0 := blk_frozen BK398.out))
    go_ret
    exact ⟨by first | rfl | (simp [errW_none, errW_some] <;> rfl) | (simp [*, errW_none, errW_some] <;> rfl), by exact beX HB.out⟩
   ·rw [if_neg c8] at H
    have c8b0 : decide (a0_1 < (-1048576)) = false := decide_eq_false c8
    clear c8
    by_cases c11 : a0_1 > 1048576
    ·rw [if_pos c11] at H
     have c11b0 : decide (1048576 < a0_1) = true := decide_eq_true c11
     clear c11
     obtain rfl := Option.some.inj H
     go_enter Try.func15, Try.ntmps15
     go_wp2_with (first | ((with_reducible refine gate_dst (N := 1) rfl ?_); refine boxE (N := 1) #[.int .i64 a0_0, .int .i64 a0_1, .int .i64 a0_2, .int .i64 a0_3] 24 ?_; intro gb398 hg w12 hbox hb; have BK398 := am (hbox); have GW398 := gW hg HB; have GE398 := gW hg HB; replace HB := hYb HB hb; clear hb hbox hg; have hcz13_0 := blk_cell BK398.out; have hfz13_0 := blk_frozen BK398.out))
     go_ret
     exact ⟨by first | rfl | (simp [errW_none, errW_some] <;> rfl) | (simp [*, errW_none, errW_some] <;> rfl), by exact beX HB.out⟩
    ·rw [if_neg c11] at H
     have c11b0 : decide (1048576 < a0_1) = false := decide_eq_false c11
     clear c11
     by_cases c14 : a0_2 ≥ 0
     ·rw [if_pos c14] at H
      have c14b0 : decide (0 ≤ a0_2) = true := decide_eq_true c14
      clear c14
      by_cases c15 : a0_3 ≥ 0
      ·rw [if_pos c15] at H
       have c15b0 : decide (0 ≤ a0_3) = true := decide_eq_true c15
       clear c15
       by_cases c16 : a0_2 ≤ (wrap64 (1048576 - a0_0))
       ·rw [if_pos c16] at H
        have c16b0 : decide (a0_2 ≤ (wrap64 (1048576 - a0_0))) = true := decide_eq_true c16
        clear c16
        obtain rfl := Option.some.inj H
        go_enter Try.func15, Try.ntmps15
        go_wp2_with (first | ((with_reducible refine gate_dst (N := 1) rfl ?_); refine boxE (N := 1) #[.int .i64 a0_0, .int .i64 a0_1, .int .i64 a0_2, .int .i64 a0_3] 24 ?_; intro gb398 hg w17 hbox hb; have BK398 := am (hbox); have GW398 := gW hg HB; have GE398 := gW hg HB; replace HB := hYb HB hb; clear hb hbox hg; have hcz18_0 := blk_cell BK398.out; have hfz18_0 := blk_frozen BK398.out))
        go_ret
        exact ⟨by first | rfl | (simp [errW_none, errW_some] <;> rfl) | (simp [*, errW_none, errW_some] <;> rfl), by exact beX HB.out⟩
       ·rw [if_neg c16] at H
        have c16b0 : decide (a0_2 ≤ (wrap64 (1048576 - a0_0))) = false := decide_eq_false c16
        clear c16
        obtain rfl := Option.some.inj H
        go_enter Try.func15, Try.ntmps15
        go_wp2_with (first | ((with_reducible refine gate_dst (N := 1) rfl ?_); refine boxE (N := 1) #[.int .i64 a0_0, .int .i64 a0_1, .int .i64 a0_2, .int .i64 a0_3] 24 ?_; intro gb398 hg w19 hbox hb; have BK398 := am (hbox); have GW398 := gW hg HB; have GE398 := gW hg HB; replace HB := hYb HB hb; clear hb hbox hg; have hcz20_0 := blk_cell BK398.out; have hfz20_0 := blk_frozen BK398.out))
        go_ret
        exact ⟨by first | rfl | (simp [errW_none, errW_some] <;> rfl) | (simp [*, errW_none, errW_some] <;> rfl), by exact beX HB.out⟩
      ·rw [if_neg c15] at H
       have c15b0 : decide (0 ≤ a0_3) = false := decide_eq_false c15
       clear c15
       obtain rfl := Option.some.inj H
       go_enter Try.func15, Try.ntmps15
       go_wp2_with (first | ((with_reducible refine gate_dst (N := 1) rfl ?_); refine boxE (N := 1) #[.int .i64 a0_0, .int .i64 a0_1, .int .i64 a0_2, .int .i64 a0_3] 24 ?_; intro gb398 hg w21 hbox hb; have BK398 := am (hbox); have GW398 := gW hg HB; have GE398 := gW hg HB; replace HB := hYb HB hb; clear hb hbox hg; have hcz22_0 := blk_cell BK398.out; have hfz22_0 := blk_frozen BK398.out))
       go_ret
       exact ⟨by first | rfl | (simp [errW_none, errW_some] <;> rfl) | (simp [*, errW_none, errW_some] <;> rfl), by exact beX HB.out⟩
     ·rw [if_neg c14] at H
      have c14b0 : decide (0 ≤ a0_2) = false := decide_eq_false c14
      clear c14
      obtain rfl := Option.some.inj H
      go_enter Try.func15, Try.ntmps15
      go_wp2_with (first | ((with_reducible refine gate_dst (N := 1) rfl ?_); refine boxE (N := 1) #[.int .i64 a0_0, .int .i64 a0_1, .int .i64 a0_2, .int .i64 a0_3] 24 ?_; intro gb398 hg w23 hbox hb; have BK398 := am (hbox); have GW398 := gW hg HB; have GE398 := gW hg HB; replace HB := hYb HB hb; clear hb hbox hg; have hcz24_0 := blk_cell BK398.out; have hfz24_0 := blk_frozen BK398.out))
      go_ret
      exact ⟨by first | rfl | (simp [errW_none, errW_some] <;> rfl) | (simp [*, errW_none, errW_some] <;> rfl), by exact beX HB.out⟩

/-! ### imageeditorref02_Empty: function 16 -/
def imageeditorref02_Empty.f (a0_0 : Int) (a0_1 : Int) (a0_2 : Int) (a0_3 : Int) : Option (Bool) := (imageeditorref02_Valid.f a0_0 a0_1 a0_2 a0_3).bind fun t400 => (if t400 = true then (if a0_2 = 0 then (some true) else (some (a0_3 == 0))) else (some true))
set_option maxHeartbeats 8000000 in
set_option maxRecDepth 100000 in
theorem imageeditorref02_Empty.calls (a0_0 : Int) (a0_1 : Int) (a0_2 : Int) (a0_3 : Int) (r : Bool) (w : World) (h : imageeditorref02_Empty.f a0_0 a0_1 a0_2 a0_3 = some r) :
  Calls Try.prog 16 #[.agg #[.int .i64 a0_0, .int .i64 a0_1, .int .i64 a0_2, .int .i64 a0_3]] w fun e w' => e = .returned (.bool r) ∧ Below w.heap.size w w' := by
 have hu24 := Try.underlying24
 have HB := am (Below.refl w.heap.size w)
 have H : ((imageeditorref02_Valid.f a0_0 a0_1 a0_2 a0_3).bind fun t400 => (if t400 = true then (if a0_2 = 0 then (some true) else (some (a0_3 == 0))) else (some true))) = some r := h
 clear h
 replace H := Option.bind_eq_some_iff.mp H
 obtain ⟨t400, A20, H⟩ := H
 replace H : (if t400 = true then (if a0_2 = 0 then (some true) else (some (a0_3 == 0))) else (some true)) = some r := H
 have A2 := Aside0.mk A20
 clear A20
 by_cases c3 : t400 = true
 ·subst c3
  have H1 : (if a0_2 = 0 then (some true) else (some (a0_3 == 0))) = some r := by rw [if_pos rfl] at H; exact H
  clear H
  have H := H1
  clear H1
  by_cases c4 : a0_2 = 0
  ·rw [if_pos c4] at H
   have c4b0 : (a0_2 == 0) = true := beq_iff_eq.mpr c4
   have c4b1 : (a0_2 != 0) = false := bne_eq_false_iff_eq.mpr c4
   clear c4
   obtain rfl := Option.some.inj H
   go_enter Try.func16, Try.ntmps16
   go_wp2_with (first | ((with_reducible refine gate_dst (N := 1) rfl ?_); refine boxE (N := 1) #[.int .i64 a0_0, .int .i64 a0_1, .int .i64 a0_2, .int .i64 a0_3] 24 ?_; intro gb399 hg w5 hbox hb; have BK399 := am (hbox); have GW399 := gW hg HB; have GE399 := gW hg HB; replace HB := hYb HB hb; clear hb hbox hg; have hcz6_0 := blk_cell BK399.out; have hfz6_0 := blk_frozen BK399.out) | ((with_reducible refine gate_callee (f := 15) rfl ?_); refine goesP (some 4) Try.func15 #[.agg #[.int .i64 a0_0, .int .i64 a0_1, .int .i64 a0_2, .int .i64 a0_3]] ?_; (with_reducible refine (imageeditorref02_Valid.calls a0_0 a0_1 a0_2 a0_3 true _ A2.out).mono ?_); rintro e w7 ⟨rfl, hb⟩; refine ⟨_, rfl, ?_⟩; replace BK399 := bY BK399 hb; replace HB := hYb HB hb; (try clear hb); (try clear hb2); (try clear hk); (try clear hi); have hcz8_0 := blk_cell BK399.out; have hfz8_0 := blk_frozen BK399.out))
   go_ret
   exact ⟨by first | rfl | (simp [errW_none, errW_some] <;> rfl) | (simp [*, errW_none, errW_some] <;> rfl), by exact beX HB.out⟩
  ·rw [if_neg c4] at H
   have c4b0 : (a0_2 == 0) = false := beq_eq_false_iff_ne.mpr c4
   have c4b1 : (a0_2 != 0) = true := bne_iff_ne.mpr c4
   obtain rfl := Option.some.inj H
   go_enter Try.func16, Try.ntmps16
   go_wp2_with (first | ((with_reducible refine gate_dst (N := 1) rfl ?_); refine boxE (N := 1) #[.int .i64 a0_0, .int .i64 a0_1, .int .i64 a0_2, .int .i64 a0_3] 24 ?_; intro gb399 hg w9 hbox hb; have BK399 := am (hbox); have GW399 := gW hg HB; have GE399 := gW hg HB; replace HB := hYb HB hb; clear hb hbox hg; have hcz10_0 := blk_cell BK399.out; have hfz10_0 := blk_frozen BK399.out) | ((with_reducible refine gate_callee (f := 15) rfl ?_); refine goesP (some 4) Try.func15 #[.agg #[.int .i64 a0_0, .int .i64 a0_1, .int .i64 a0_2, .int .i64 a0_3]] ?_; (with_reducible refine (imageeditorref02_Valid.calls a0_0 a0_1 a0_2 a0_3 true _ A2.out).mono ?_); rintro e w11 ⟨rfl, hb⟩; refine ⟨_, rfl, ?_⟩; replace BK399 := bY BK399 hb; replace HB := hYb HB hb; (try clear hb); (try clear hb2); (try clear hk); (try clear hi); have hcz12_0 := blk_cell BK399.out; have hfz12_0 := blk_frozen BK399.out))
   go_ret
   exact ⟨by first | rfl | (simp [errW_none, errW_some] <;> rfl) | (simp [*, errW_none, errW_some] <;> rfl), by exact beX HB.out⟩
 ·replace c3 := Bool.eq_false_iff.mpr c3
  subst c3
  have H1 : (some true) = some r := by rw [if_neg (show ¬ (false = true) by decide)] at H; exact H
  clear H
  have H := H1
  clear H1
  obtain rfl := Option.some.inj H
  go_enter Try.func16, Try.ntmps16
  go_wp2_with (first | ((with_reducible refine gate_dst (N := 1) rfl ?_); refine boxE (N := 1) #[.int .i64 a0_0, .int .i64 a0_1, .int .i64 a0_2, .int .i64 a0_3] 24 ?_; intro gb399 hg w13 hbox hb; have BK399 := am (hbox); have GW399 := gW hg HB; have GE399 := gW hg HB; replace HB := hYb HB hb; clear hb hbox hg; have hcz14_0 := blk_cell BK399.out; have hfz14_0 := blk_frozen BK399.out) | ((with_reducible refine gate_callee (f := 15) rfl ?_); refine goesP (some 4) Try.func15 #[.agg #[.int .i64 a0_0, .int .i64 a0_1, .int .i64 a0_2, .int .i64 a0_3]] ?_; (with_reducible refine (imageeditorref02_Valid.calls a0_0 a0_1 a0_2 a0_3 false _ A2.out).mono ?_); rintro e w15 ⟨rfl, hb⟩; refine ⟨_, rfl, ?_⟩; replace BK399 := bY BK399 hb; replace HB := hYb HB hb; (try clear hb); (try clear hb2); (try clear hk); (try clear hi)))
  go_ret
  exact ⟨by first | rfl | (simp [errW_none, errW_some] <;> rfl) | (simp [*, errW_none, errW_some] <;> rfl), by exact beX HB.out⟩

end Go.Proofs.Ytocefehnemahhaa.G
