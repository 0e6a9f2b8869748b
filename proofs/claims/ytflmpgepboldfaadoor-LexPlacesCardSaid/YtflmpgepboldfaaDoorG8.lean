-- laid by gprint.py (a program of this proof's writer) out of the translation; Lean checks it.
import Derived.Test.YtflmpgepboldfaaDoorG0
import Derived.Test.YtflmpgepboldfaaDoorG1
import Derived.Test.YtflmpgepboldfaaDoorG4
import Derived.Test.YtflmpgepboldfaaDoorG7
namespace Go.Proofs.YtflmpgepboldfaaDoor.G
open Go.RowKit Go.Proofs.YtflmpgepboldfaaDoorW.PrintWords Go.Proofs.YtflmpgepboldfaaDoorW.PrintLast Go.Proofs.YtflmpgepboldfaaDoorW.PrintMore
attribute [local go_sem] max2_int min2_int max_two min_two max_three min_three max_four min_four   -- for this text's walks alone
set_option linter.unusedVariables false
set_option linter.unusedSimpArgs false

attribute [local go_sem high] eqA30
/-! ### imageeditorlaw53_LexPlaces: function 4 -/
mutual
def imageeditorlaw53_LexPlaces.j0 : Nat → ByteArray → List (S30) → Bool → Option (Bool)
  | 0, _, _, _ => none
  | k + 1, x0, x3, x36 => if x36 = true then (some false) else (imageeditorlaw53_LexPlaces.l0 k x0 x3 0)
def imageeditorlaw53_LexPlaces.l0 : Nat → ByteArray → List (S30) → Int → Option (Bool)
  | 0, _, _, _ => none
  | k + 1, x0, x3, x6 => if (wrap64 (x6 + 1)) < (x3.length : Int) then (if 0 ≤ x6 then (if x6 < (x3.length : Int) then (if ((rd_T30 x3 x6).f2) < 0 then (imageeditorlaw53_LexPlaces.j2 k x0 x3 x6 true ((rd_T30 x3 x6).f0) ((rd_T30 x3 x6).f1) ((rd_T30 x3 x6).f2)) else (if 0 ≤ (wrap64 (x6 + 1)) then (if ((rd_T30 x3 x6).f2) ≥ ((rd_T30 x3 (wrap64 (x6 + 1))).f2) then (imageeditorlaw53_LexPlaces.j2 k x0 x3 x6 true ((rd_T30 x3 x6).f0) ((rd_T30 x3 x6).f1) ((rd_T30 x3 x6).f2)) else (imageeditorlaw53_LexPlaces.j2 k x0 x3 x6 (((rd_T30 x3 x6).f0) == 0) ((rd_T30 x3 x6).f0) ((rd_T30 x3 x6).f1) ((rd_T30 x3 x6).f2))) else (none))) else (none)) else (none)) else ((imageeditorlaw53_example.f k).bind fun t245 => (some t245))
def imageeditorlaw53_LexPlaces.j2 : Nat → ByteArray → List (S30) → Int → Bool → Int → ByteArray → Int → Option (Bool)
  | 0, _, _, _, _, _, _, _ => none
  | k + 1, x0, x3, x6, x66, x248000, x248001, x248002 => if x66 = true then (some false) else (if x248000 = 2 then (imageeditorlaw53_LexPlaces.l0 k x0 x3 (wrap64 (x6 + 1))) else (if x248001.toList = ([] : List UInt8) then (some false) else (if (x248001.size : Int) > (wrap64 ((x0.size : Int) - x248002)) then (some false) else (if 0 ≤ x248002 then (if x248002 ≤ (wrap64 (x248002 + (x248001.size : Int))) then (if (wrap64 (x248002 + (x248001.size : Int))) ≤ (x0.size : Int) then (if (x0.extract (x248002 : Int).toNat ((wrap64 (x248002 + (x248001.size : Int))) : Int).toNat).toList = x248001.toList then (imageeditorlaw53_LexPlaces.l0 k x0 x3 (wrap64 (x6 + 1))) else (some false)) else (none)) else (none)) else (none)))))
end
def imageeditorlaw53_LexPlaces.f (k : Nat) (a0 : ByteArray) : Option (Bool) := (lex_Tokens.f k a0).bind fun bt238 => (if bt238.2.2 = 0 then (if (bt238.1.length : Int) = 0 then (imageeditorlaw53_LexPlaces.j0 k a0 bt238.1 true) else (if 0 ≤ (wrap64 ((bt238.1.length : Int) - 1)) then (if (wrap64 ((bt238.1.length : Int) - 1)) < (bt238.1.length : Int) then (imageeditorlaw53_LexPlaces.j0 k a0 bt238.1 (!(((rd_T30 bt238.1 (wrap64 ((bt238.1.length : Int) - 1))).f0) == 0) || (!((((rd_T30 bt238.1 (wrap64 ((bt238.1.length : Int) - 1))).f1).toList) == ([] : List UInt8)) || (!(((rd_T30 bt238.1 (wrap64 ((bt238.1.length : Int) - 1))).f2) == (a0.size : Int)))))) else (none)) else (none))) else (if (bt238.1.length : Int) = 0 then ((imageeditorlaw53_example.f k).bind fun t243 => (some t243)) else (some false)))
theorem imageeditorlaw53_LexPlaces.mono_l : ∀ k, (∀ y0 y1 y2, LeO (imageeditorlaw53_LexPlaces.j0 k y0 y1 y2) (imageeditorlaw53_LexPlaces.j0 (k + 1) y0 y1 y2)) ∧ (∀ y0 y1 y2, LeO (imageeditorlaw53_LexPlaces.l0 k y0 y1 y2) (imageeditorlaw53_LexPlaces.l0 (k + 1) y0 y1 y2)) ∧ (∀ y0 y1 y2 y3 y4 y5 y6, LeO (imageeditorlaw53_LexPlaces.j2 k y0 y1 y2 y3 y4 y5 y6) (imageeditorlaw53_LexPlaces.j2 (k + 1) y0 y1 y2 y3 y4 y5 y6))
  | 0 => ⟨fun _ _ _ r h => by simp [imageeditorlaw53_LexPlaces.j0] at h, fun _ _ _ r h => by simp [imageeditorlaw53_LexPlaces.l0] at h, fun _ _ _ _ _ _ _ r h => by simp [imageeditorlaw53_LexPlaces.j2] at h⟩
  | k + 1 => by
    obtain ⟨ih0, ih1, ih2⟩ := imageeditorlaw53_LexPlaces.mono_l k
    refine ⟨?_, ?_, ?_⟩
    · intro y0 y1 y2
      unfold imageeditorlaw53_LexPlaces.j0
      repeat' first
      | (with_reducible exact ih0 _ _ _)
      | (with_reducible exact ih1 _ _ _)
      | (with_reducible exact ih2 _ _ _ _ _ _ _)
      | (with_reducible exact imageeditorlaw53_example.mono _)
      | (with_reducible exact lex_Tokens.mono _ _)
      | (with_reducible exact LeO.refl _)
      | (with_reducible exact LeO.none _)
      | (with_reducible refine LeO.ite ?_ ?_)
      | (with_reducible refine LeO.bind ?_ (fun _ => ?_))
      | exact ih0 _ _ _
      | exact ih1 _ _ _
      | exact ih2 _ _ _ _ _ _ _
      | exact imageeditorlaw53_example.mono _
      | exact lex_Tokens.mono _ _
      | exact LeO.none _
      | refine LeO.ite ?_ ?_
      | refine LeO.bind ?_ (fun _ => ?_)
    · intro y0 y1 y2
      unfold imageeditorlaw53_LexPlaces.l0
      repeat' first
      | (with_reducible exact ih0 _ _ _)
      | (with_reducible exact ih1 _ _ _)
      | (with_reducible exact ih2 _ _ _ _ _ _ _)
      | (with_reducible exact imageeditorlaw53_example.mono _)
      | (with_reducible exact lex_Tokens.mono _ _)
      | (with_reducible exact LeO.refl _)
      | (with_reducible exact LeO.none _)
      | (with_reducible refine LeO.ite ?_ ?_)
      | (with_reducible refine LeO.bind ?_ (fun _ => ?_))
      | exact ih0 _ _ _
      | exact ih1 _ _ _
      | exact ih2 _ _ _ _ _ _ _
      | exact imageeditorlaw53_example.mono _
      | exact lex_Tokens.mono _ _
      | exact LeO.none _
      | refine LeO.ite ?_ ?_
      | refine LeO.bind ?_ (fun _ => ?_)
    · intro y0 y1 y2 y3 y4 y5 y6
      unfold imageeditorlaw53_LexPlaces.j2
      repeat' first
      | (with_reducible exact ih0 _ _ _)
      | (with_reducible exact ih1 _ _ _)
      | (with_reducible exact ih2 _ _ _ _ _ _ _)
      | (with_reducible exact imageeditorlaw53_example.mono _)
      | (with_reducible exact lex_Tokens.mono _ _)
      | (with_reducible exact LeO.refl _)
      | (with_reducible exact LeO.none _)
      | (with_reducible refine LeO.ite ?_ ?_)
      | (with_reducible refine LeO.bind ?_ (fun _ => ?_))
      | exact ih0 _ _ _
      | exact ih1 _ _ _
      | exact ih2 _ _ _ _ _ _ _
      | exact imageeditorlaw53_example.mono _
      | exact lex_Tokens.mono _ _
      | exact LeO.none _
      | refine LeO.ite ?_ ?_
      | refine LeO.bind ?_ (fun _ => ?_)
theorem imageeditorlaw53_LexPlaces.mono : ∀ a0 k, LeO (imageeditorlaw53_LexPlaces.f k a0) (imageeditorlaw53_LexPlaces.f (k + 1) a0) := by
  intro a0 k
  obtain ⟨ih0, ih1, ih2⟩ := imageeditorlaw53_LexPlaces.mono_l k
  unfold imageeditorlaw53_LexPlaces.f
  repeat' first
      | (with_reducible exact ih0 _ _ _)
      | (with_reducible exact ih1 _ _ _)
      | (with_reducible exact ih2 _ _ _ _ _ _ _)
      | (with_reducible exact imageeditorlaw53_example.mono _)
      | (with_reducible exact lex_Tokens.mono _ _)
      | (with_reducible exact LeO.refl _)
      | (with_reducible exact LeO.none _)
      | (with_reducible refine LeO.ite ?_ ?_)
      | (with_reducible refine LeO.bind ?_ (fun _ => ?_))
      | exact ih0 _ _ _
      | exact ih1 _ _ _
      | exact ih2 _ _ _ _ _ _ _
      | exact imageeditorlaw53_example.mono _
      | exact lex_Tokens.mono _ _
      | exact LeO.none _
      | refine LeO.ite ?_ ?_
      | refine LeO.bind ?_ (fun _ => ?_)
set_option maxHeartbeats 8000000 in
set_option maxRecDepth 100000 in
theorem imageeditorlaw53_LexPlaces.calls (k : Nat) (a0 : ByteArray) (r : Bool) (w : World) (hG : GV w) (h : imageeditorlaw53_LexPlaces.f k a0 = some r) :
    Calls Tryd.prog 4 #[.string a0] w fun e w' => e = .returned (.bool r) ∧ Below w.heap.size w w' := by
  have hu30 := Tryd.underlying30
  have HB := Aside0.mk (Below.refl w.heap.size w)
  have H : ((lex_Tokens.f k a0).bind fun bt238 => (if bt238.2.2 = 0 then (if (bt238.1.length : Int) = 0 then (imageeditorlaw53_LexPlaces.j0 k a0 bt238.1 true) else (if 0 ≤ (wrap64 ((bt238.1.length : Int) - 1)) then (if (wrap64 ((bt238.1.length : Int) - 1)) < (bt238.1.length : Int) then (imageeditorlaw53_LexPlaces.j0 k a0 bt238.1 (!(((rd_T30 bt238.1 (wrap64 ((bt238.1.length : Int) - 1))).f0) == 0) || (!((((rd_T30 bt238.1 (wrap64 ((bt238.1.length : Int) - 1))).f1).toList) == ([] : List UInt8)) || (!(((rd_T30 bt238.1 (wrap64 ((bt238.1.length : Int) - 1))).f2) == (a0.size : Int)))))) else (none)) else (none))) else (if (bt238.1.length : Int) = 0 then ((imageeditorlaw53_example.f k).bind fun t243 => (some t243)) else (some false)))) = some r := h
  clear h
  replace H := Option.bind_eq_some_iff.mp H
  obtain ⟨⟨t238, t239, t240⟩, A20, H⟩ := H
  replace H : (if t240 = 0 then (if (t238.length : Int) = 0 then (imageeditorlaw53_LexPlaces.j0 k a0 t238 true) else (if 0 ≤ (wrap64 ((t238.length : Int) - 1)) then (if (wrap64 ((t238.length : Int) - 1)) < (t238.length : Int) then (imageeditorlaw53_LexPlaces.j0 k a0 t238 (!(((rd_T30 t238 (wrap64 ((t238.length : Int) - 1))).f0) == 0) || (!((((rd_T30 t238 (wrap64 ((t238.length : Int) - 1))).f1).toList) == ([] : List UInt8)) || (!(((rd_T30 t238 (wrap64 ((t238.length : Int) - 1))).f2) == (a0.size : Int)))))) else (none)) else (none))) else (if (t238.length : Int) = 0 then ((imageeditorlaw53_example.f k).bind fun t243 => (some t243)) else (some false))) = some r := H
  have A2 := Aside0.mk A20
  clear A20
  by_cases c3 : t240 = 0
  · rw [if_pos c3] at H
    have c3b0 : (t240 == 0) = true := beq_iff_eq.mpr c3
    have c3b1 : (t240 != 0) = false := bne_eq_false_iff_eq.mpr c3
    clear c3
    have HC4 := Aside0.mk H
    clear H
    go_enter Tryd.func4, Tryd.ntmps4
    go_upto_region 4 with (first | (go_at_call 8; (with_reducible refine (lex_Tokens.calls k a0 t238 t239 t240 _ ?side1 A2.out).mono ?_); (case side1 => exact GV.below hG (by repeat (first | (with_reducible first | exact HB.out | apply below_alloc | apply pw_below_drewN | apply below_drew1) | exact HB.out))); rintro e w5 ⟨v241, rfl, ho0, hb⟩; have n0_ := Aside0.mk (Kd.R_lower ho0 (below_size (by repeat (first | (with_reducible first | exact HB.out | apply below_alloc | apply pw_below_drewN | apply below_drew1) | exact HB.out)))); have n1_ := Aside0.mk (below_step (by repeat (first | (with_reducible first | exact HB.out | apply below_alloc | apply pw_below_drewN | apply below_drew1) | exact HB.out)) hb); clear HB; have HO242 := n0_; have HB := n1_; clear n0_ n1_; (try clear hb); (try clear hb2); (try clear hk); (try clear hi); (try clear ho0)))
    repeat (go_quiet (first | (go_at_call 8; (with_reducible refine (lex_Tokens.calls k a0 t238 t239 t240 _ ?side1 A2.out).mono ?_); (case side1 => exact GV.below hG (by repeat (first | (with_reducible first | exact HB.out | apply below_alloc | apply pw_below_drewN | apply below_drew1) | exact HB.out))); rintro e w5 ⟨v241, rfl, ho0, hb⟩; have n0_ := Aside0.mk (Kd.R_lower ho0 (below_size (by repeat (first | (with_reducible first | exact HB.out | apply below_alloc | apply pw_below_drewN | apply below_drew1) | exact HB.out)))); have n1_ := Aside0.mk (below_step (by repeat (first | (with_reducible first | exact HB.out | apply below_alloc | apply pw_below_drewN | apply below_drew1) | exact HB.out)) hb); clear HB; have HO242 := n0_; have HB := n1_; clear n0_ n1_; (try clear hb); (try clear hb2); (try clear hk); (try clear hi); (try clear ho0))); go_upto_region 4 with (first | (go_at_call 8; (with_reducible refine (lex_Tokens.calls k a0 t238 t239 t240 _ ?side1 A2.out).mono ?_); (case side1 => exact GV.below hG (by repeat (first | (with_reducible first | exact HB.out | apply below_alloc | apply pw_below_drewN | apply below_drew1) | exact HB.out))); rintro e w5 ⟨v241, rfl, ho0, hb⟩; have n0_ := Aside0.mk (Kd.R_lower ho0 (below_size (by repeat (first | (with_reducible first | exact HB.out | apply below_alloc | apply pw_below_drewN | apply below_drew1) | exact HB.out)))); have n1_ := Aside0.mk (below_step (by repeat (first | (with_reducible first | exact HB.out | apply below_alloc | apply pw_below_drewN | apply below_drew1) | exact HB.out)) hb); clear HB; have HO242 := n0_; have HB := n1_; clear n0_ n1_; (try clear hb); (try clear hb2); (try clear hk); (try clear hi); (try clear ho0))))
    (try simp only [Act.put, List.setIfInBounds_toArray, List.set_cons_zero, List.set_cons_succ])
    go_cut [36] (fun v36 wc => ∃ (kq : Nat) (x36_3 : Bool), v36 = .bool x36_3 ∧ Aside0 (imageeditorlaw53_LexPlaces.j0 kq a0 t238 x36_3 = some r) ∧ Aside0 (kq ≤ k) ∧ Aside0 (Kd.R k30 30 wc w.heap.size (fun _ => True) v241 t238) ∧ Aside0 (Below w.heap.size w wc))
    case first =>
      have H := HC4.out
      clear HC4
      by_cases c6 : (t238.length : Int) = 0
      · rw [if_pos c6] at H
        have c6b0 : ((t238.length : Int) == 0) = true := beq_iff_eq.mpr c6
        have c6b1 : ((t238.length : Int) != 0) = false := bne_eq_false_iff_eq.mpr c6
        clear c6
        (first | rw [c6b0] | (simp only [i64_w, i32_w]; rw [c6b0]) | skip)
        have H' := Aside0.mk H
        clear H
        obtain ⟨Ao7, co7, eo7⟩ := Kd.R_slice HO242.out
        subst eo7
        go_wp2
        repeat (go_quiet (fail); try go_wp2)
        go_meet
        case rel => exact ⟨_, (true), (by first | rfl | (simp; done) | (simp [*]; done)), H', ⟨by first | omega | exact Nat.le_refl _⟩, ⟨by (with_reducible repeat (first | apply Kd.R_alloc | apply Kd.R_drewN | apply Kd.R_drew)); exact HO242.out⟩, ⟨by repeat (first | (with_reducible first | exact HB.out | apply below_alloc | apply pw_below_drewN | apply below_drew1) | exact HB.out)⟩⟩
      · rw [if_neg c6] at H
        have c6b0 : ((t238.length : Int) == 0) = false := beq_eq_false_iff_ne.mpr c6
        have c6b1 : ((t238.length : Int) != 0) = true := bne_iff_ne.mpr c6
        have c6b2 : ¬ (t238 = []) := fun h_ => c6 (by rw [h_]; rfl)
        (first | rw [c6b0] | (simp only [i64_w, i32_w]; rw [c6b0]) | skip)
        obtain ⟨ji8, hji8⟩ : ∃ j_ : Int, (wrap64 ((t238.length : Int) - 1)) = j_ := ⟨_, rfl⟩
        replace H : (if 0 ≤ (ji8) then (if (ji8) < (t238.length : Int) then (imageeditorlaw53_LexPlaces.j0 k a0 t238 (!(((rd_T30 t238 (ji8)).f0) == 0) || (!((((rd_T30 t238 (ji8)).f1).toList) == ([] : List UInt8)) || (!(((rd_T30 t238 (ji8)).f2) == (a0.size : Int)))))) else (none)) else (none)) = some r := by first | (rw [hji8] at H; exact H) | (simp only [hji8] at H ⊢; exact H)
        have hji8w : (IntKind.i64.wrap ((t238.length : Int) - 1)) = ji8 := (i64_w _).trans hji8
        by_cases c9 : 0 ≤ (ji8)
        · rw [if_pos c9] at H
          have c9b0 : decide (0 ≤ (ji8)) = true := decide_eq_true c9
          clear c9
          by_cases c10 : (ji8) < (t238.length : Int)
          · rw [if_pos c10] at H
            have c10b0 : decide ((ji8) < (t238.length : Int)) = true := decide_eq_true c10
            clear c10
            have H' := Aside0.mk H
            clear H
            obtain ⟨Ao11, co11, eo11⟩ := Kd.R_slice HO242.out
            subst eo11
            have p244 : 0 ≤ ((ji8) : Int) := of_decide_eq_true (by first | (with_reducible assumption) | assumption)
            have q244 : (ji8) < (t238.length : Int) := of_decide_eq_true (by first | (with_reducible assumption) | assumption)
            obtain ⟨ad244, e244, hx244_0, hx244_1, hx244_2⟩ := at_T30 (Kd.R_reads' HO242.out).2.2 (ji8) p244 q244
            cases e244
            replace p244 := eq_true p244
            replace q244 := eq_true q244
            go_wp2
            repeat (go_quiet (fail); try go_wp2)
            go_meet
            case rel => exact ⟨_, ((!(((rd_T30 t238 (ji8)).f0) == 0) || (!((((rd_T30 t238 (ji8)).f1).toList) == ([] : List UInt8)) || (!(((rd_T30 t238 (ji8)).f2) == (a0.size : Int)))))), (by first | rfl | (simp; done) | (simp only [← hji8] <;> (first | rfl | simp)) | (simp [*]; done)), H', ⟨by first | omega | exact Nat.le_refl _⟩, ⟨by (with_reducible repeat (first | apply Kd.R_alloc | apply Kd.R_drewN | apply Kd.R_drew)); exact HO242.out⟩, ⟨by repeat (first | (with_reducible first | exact HB.out | apply below_alloc | apply pw_below_drewN | apply below_drew1) | exact HB.out)⟩⟩
          · rw [if_neg c10] at H
            exact absurd H (by simp)
        · rw [if_neg c9] at H
          exact absurd H (by simp)
    case rest =>
      clear HC4
      try clear c1
      try clear p2
      try clear q2
      try clear hx2
      try clear c3
      try clear c3b0
      try clear c3b1
      try clear c4
      try clear c6
      try clear c6b0
      try clear c6b1
      try clear c6b2
      try clear p6
      try clear c9
      try clear c9b0
      try clear c10
      try clear c10b0
      try clear hx244_0
      try clear hx244_1
      try clear hx244_2
      try clear p244
      try clear q244
      obtain ⟨kq, x36_3, rfl, HA, HJ3, HO_3, HB⟩ := hcut
      cases kq with
      | zero => exact absurd HA.out (by simp [imageeditorlaw53_LexPlaces.j0])
      | succ kj3 =>
        have H := HA.out
        clear HA
        simp only [imageeditorlaw53_LexPlaces.j0] at H
        by_cases c12 : x36_3 = true
        · subst c12
          have H1 : (some false) = some r := by rw [if_pos rfl] at H; exact H
          clear H
          have H := H1
          clear H1
          obtain rfl := Option.some.inj H
          go_wp2
          repeat (go_quiet (fail); try go_wp2)
          go_ret
          exact ⟨by first | rfl | (simp [errW_none, errW_some] <;> rfl) | (simp [*, errW_none, errW_some] <;> rfl), by repeat (first | (with_reducible first | exact HB.out | apply below_alloc | apply pw_below_drewN | apply below_drew1) | exact HB.out)⟩
        · replace c12 := Bool.eq_false_iff.mpr c12
          subst c12
          have H1 : (imageeditorlaw53_LexPlaces.l0 kj3 a0 t238 0) = some r := by rw [if_neg (show ¬ (false = true) by decide)] at H; exact H
          clear H
          have H := H1
          clear H1
          have H' := Aside0.mk H
          clear H
          go_wp2
          repeat (go_quiet (fail); try go_wp2)
          go_loopg [6] kj3 (fun kq v6 w' => ∃ (x6_2 : Int), v6 = .int .i64 x6_2 ∧ Aside0 (imageeditorlaw53_LexPlaces.l0 kq a0 t238 x6_2 = some r) ∧ Aside0 (kq ≤ kj3) ∧ Aside0 (Kd.R k30 30 w' w.heap.size (fun _ => True) v241 t238) ∧ Aside0 (Below w.heap.size w w'))
          case atStart => exact ⟨(0), (by first | rfl | (simp; done) | (simp [*]; done)), H', ⟨Nat.le_refl _⟩, ⟨by (with_reducible repeat (first | apply Kd.R_alloc | apply Kd.R_drewN | apply Kd.R_drew)); exact HO_3.out⟩, ⟨by repeat (first | (with_reducible first | exact HB.out | apply below_alloc | apply pw_below_drewN | apply below_drew1) | exact HB.out)⟩⟩
          case round =>
            clear H'
            try clear c1
            try clear p2
            try clear q2
            try clear hx2
            try clear c3
            try clear c3b0
            try clear c3b1
            try clear c4
            try clear c6
            try clear c6b0
            try clear c6b1
            try clear c6b2
            try clear p6
            try clear c9
            try clear c9b0
            try clear c10
            try clear c10b0
            try clear c12
            try clear hx244_0
            try clear hx244_1
            try clear hx244_2
            try clear p2
            try clear p244
            try clear p6
            try clear q2
            try clear q244
            obtain ⟨x6_2, rfl, HA, HK2, HO_3, HB⟩ := hrel
            cases gk with
            | zero => exact absurd HA.out (by simp [imageeditorlaw53_LexPlaces.l0])
            | succ k2 =>
              have H := HA.out
              clear HA
              simp only [imageeditorlaw53_LexPlaces.l0] at H
              by_cases c13 : (wrap64 (x6_2 + 1)) < (t238.length : Int)
              · rw [if_pos c13] at H
                have c13b0 : decide ((wrap64 (x6_2 + 1)) < (t238.length : Int)) = true := decide_eq_true c13
                clear c13
                by_cases c14 : 0 ≤ x6_2
                · rw [if_pos c14] at H
                  have c14b0 : decide (0 ≤ x6_2) = true := decide_eq_true c14
                  clear c14
                  by_cases c15 : x6_2 < (t238.length : Int)
                  · rw [if_pos c15] at H
                    have c15b0 : decide (x6_2 < (t238.length : Int)) = true := decide_eq_true c15
                    clear c15
                    have HC16 := Aside0.mk H
                    clear H
                    obtain ⟨Ao17, co17, eo17⟩ := Kd.R_slice HO_3.out
                    subst eo17
                    have p246 : 0 ≤ (x6_2 : Int) := of_decide_eq_true (by first | (with_reducible assumption) | assumption)
                    have q246 : x6_2 < (t238.length : Int) := of_decide_eq_true (by first | (with_reducible assumption) | assumption)
                    obtain ⟨ad246, e246, hx246_0, hx246_1, hx246_2⟩ := at_T30 (Kd.R_reads' HO_3.out).2.2 x6_2 p246 q246
                    cases e246
                    replace p246 := eq_true p246
                    replace q246 := eq_true q246
                    go_upto_region 10 with (first | ((with_reducible refine gate_dst (N := 7) rfl ?_); (try (refine gate_guard (by rfl) ?_; dsimp only)); refine box_event ?hg (N := 7) ?hd (cs := #[.int .i64 0, .string (⟨#[]⟩ : ByteArray), .int .i64 0]) (t := 30) ?hr ?_; (case hd => rfl); (case hg => rfl); (case hr => first | (go_simp; done) | (go_simp; rfl)); intro gb247 hg w18 hbox hb; have n0_ := Aside0.mk (Kd.R_below (Kd.R_elderB (by (with_reducible repeat (first | apply Kd.R_alloc | apply Kd.R_drewN | apply Kd.R_drew)); exact HO_3.out) gb247 (Nat.le_of_eq hg.symm)) hb); have n1_ := Aside0.mk (below_step (by repeat (first | (with_reducible first | exact HB.out | apply below_alloc | apply pw_below_drewN | apply below_drew1) | exact HB.out)) hb); have n2_ := Aside0.mk (hbox); have n3_ := Aside0.mk ((by rw [hg]; exact (below_size (by repeat (first | (with_reducible first | exact HB.out | apply below_alloc | apply pw_below_drewN | apply below_drew1) | exact HB.out))) : w.heap.size ≤ gb247)); have n4_ := Aside0.mk ((by rw [hg]; exact (below_size (by repeat (first | (with_reducible first | exact HB.out | apply below_alloc | apply pw_below_drewN | apply below_drew1) | exact HB.out))) : w.heap.size ≤ gb247)); clear HO_3; clear HB; have HO_3 := n0_; have HB := n1_; have BK247 := n2_; have GW247 := n3_; have GE247 := n4_; clear n0_ n1_ n2_ n3_ n4_; clear hb hbox hg; have hcz19_0 : w18.cell? ⟨gb247, 0, none⟩ = some (.int .i64 0) := (blk_cell BK247.out 0).trans rfl; have hcz19_1 : w18.cell? ⟨gb247, 1, none⟩ = some (.string (⟨#[]⟩ : ByteArray)) := (blk_cell BK247.out 1).trans rfl; have hcz19_2 : w18.cell? ⟨gb247, 2, none⟩ = some (.int .i64 0) := (blk_cell BK247.out 2).trans rfl; have hfz19_0 := blk_frozen BK247.out 0; have hfz19_1 := blk_frozen BK247.out 1; have hfz19_2 := blk_frozen BK247.out 2))
                    repeat (go_quiet (first | ((with_reducible refine gate_dst (N := 7) rfl ?_); (try (refine gate_guard (by rfl) ?_; dsimp only)); refine box_event ?hg (N := 7) ?hd (cs := #[.int .i64 0, .string (⟨#[]⟩ : ByteArray), .int .i64 0]) (t := 30) ?hr ?_; (case hd => rfl); (case hg => rfl); (case hr => first | (go_simp; done) | (go_simp; rfl)); intro gb247 hg w18 hbox hb; have n0_ := Aside0.mk (Kd.R_below (Kd.R_elderB (by (with_reducible repeat (first | apply Kd.R_alloc | apply Kd.R_drewN | apply Kd.R_drew)); exact HO_3.out) gb247 (Nat.le_of_eq hg.symm)) hb); have n1_ := Aside0.mk (below_step (by repeat (first | (with_reducible first | exact HB.out | apply below_alloc | apply pw_below_drewN | apply below_drew1) | exact HB.out)) hb); have n2_ := Aside0.mk (hbox); have n3_ := Aside0.mk ((by rw [hg]; exact (below_size (by repeat (first | (with_reducible first | exact HB.out | apply below_alloc | apply pw_below_drewN | apply below_drew1) | exact HB.out))) : w.heap.size ≤ gb247)); have n4_ := Aside0.mk ((by rw [hg]; exact (below_size (by repeat (first | (with_reducible first | exact HB.out | apply below_alloc | apply pw_below_drewN | apply below_drew1) | exact HB.out))) : w.heap.size ≤ gb247)); clear HO_3; clear HB; have HO_3 := n0_; have HB := n1_; have BK247 := n2_; have GW247 := n3_; have GE247 := n4_; clear n0_ n1_ n2_ n3_ n4_; clear hb hbox hg; have hcz19_0 : w18.cell? ⟨gb247, 0, none⟩ = some (.int .i64 0) := (blk_cell BK247.out 0).trans rfl; have hcz19_1 : w18.cell? ⟨gb247, 1, none⟩ = some (.string (⟨#[]⟩ : ByteArray)) := (blk_cell BK247.out 1).trans rfl; have hcz19_2 : w18.cell? ⟨gb247, 2, none⟩ = some (.int .i64 0) := (blk_cell BK247.out 2).trans rfl; have hfz19_0 := blk_frozen BK247.out 0; have hfz19_1 := blk_frozen BK247.out 1; have hfz19_2 := blk_frozen BK247.out 2)); go_upto_region 10 with (first | ((with_reducible refine gate_dst (N := 7) rfl ?_); (try (refine gate_guard (by rfl) ?_; dsimp only)); refine box_event ?hg (N := 7) ?hd (cs := #[.int .i64 0, .string (⟨#[]⟩ : ByteArray), .int .i64 0]) (t := 30) ?hr ?_; (case hd => rfl); (case hg => rfl); (case hr => first | (go_simp; done) | (go_simp; rfl)); intro gb247 hg w18 hbox hb; have n0_ := Aside0.mk (Kd.R_below (Kd.R_elderB (by (with_reducible repeat (first | apply Kd.R_alloc | apply Kd.R_drewN | apply Kd.R_drew)); exact HO_3.out) gb247 (Nat.le_of_eq hg.symm)) hb); have n1_ := Aside0.mk (below_step (by repeat (first | (with_reducible first | exact HB.out | apply below_alloc | apply pw_below_drewN | apply below_drew1) | exact HB.out)) hb); have n2_ := Aside0.mk (hbox); have n3_ := Aside0.mk ((by rw [hg]; exact (below_size (by repeat (first | (with_reducible first | exact HB.out | apply below_alloc | apply pw_below_drewN | apply below_drew1) | exact HB.out))) : w.heap.size ≤ gb247)); have n4_ := Aside0.mk ((by rw [hg]; exact (below_size (by repeat (first | (with_reducible first | exact HB.out | apply below_alloc | apply pw_below_drewN | apply below_drew1) | exact HB.out))) : w.heap.size ≤ gb247)); clear HO_3; clear HB; have HO_3 := n0_; have HB := n1_; have BK247 := n2_; have GW247 := n3_; have GE247 := n4_; clear n0_ n1_ n2_ n3_ n4_; clear hb hbox hg; have hcz19_0 : w18.cell? ⟨gb247, 0, none⟩ = some (.int .i64 0) := (blk_cell BK247.out 0).trans rfl; have hcz19_1 : w18.cell? ⟨gb247, 1, none⟩ = some (.string (⟨#[]⟩ : ByteArray)) := (blk_cell BK247.out 1).trans rfl; have hcz19_2 : w18.cell? ⟨gb247, 2, none⟩ = some (.int .i64 0) := (blk_cell BK247.out 2).trans rfl; have hfz19_0 := blk_frozen BK247.out 0; have hfz19_1 := blk_frozen BK247.out 1; have hfz19_2 := blk_frozen BK247.out 2)))
                    (try simp only [Act.put, List.setIfInBounds_toArray, List.set_cons_zero, List.set_cons_succ])
                    go_cut [66] (fun v66 wc => ∃ (kq : Nat) (x66_15 : Bool), v66 = .bool x66_15 ∧ Aside0 (imageeditorlaw53_LexPlaces.j2 kq a0 t238 x6_2 x66_15 ((rd_T30 t238 x6_2).f0) ((rd_T30 t238 x6_2).f1) ((rd_T30 t238 x6_2).f2) = some r) ∧ Aside0 (kq ≤ k2) ∧ Aside0 (Kd.R k30 30 wc w.heap.size (fun k_ => k_ ≠ gb247) (.slice (some ad246) t238.length co17) t238) ∧ Aside0 (wc.heap[gb247]? = some (.cells #[.int .i64 ((rd_T30 t238 x6_2).f0), .string ((rd_T30 t238 x6_2).f1), .int .i64 ((rd_T30 t238 x6_2).f2)] 30 (0, 0))) ∧ Aside0 (Below w.heap.size w wc))
                    case first =>
                      have H := HC16.out
                      clear HC16
                      by_cases c20 : ((rd_T30 t238 x6_2).f2) < 0
                      · rw [if_pos c20] at H
                        have c20b0 : decide (((rd_T30 t238 x6_2).f2) < 0) = true := decide_eq_true c20
                        clear c20
                        (first | rw [c20b0] | (simp only [i64_w, i32_w]; rw [c20b0]) | skip)
                        have H' := Aside0.mk H
                        clear H
                        have hcz21_0 : w18.cell? ⟨gb247, 0, none⟩ = some (.int .i64 0) := (blk_cell BK247.out 0).trans rfl
                        have hcz21_1 : w18.cell? ⟨gb247, 1, none⟩ = some (.string (⟨#[]⟩ : ByteArray)) := (blk_cell BK247.out 1).trans rfl
                        have hcz21_2 : w18.cell? ⟨gb247, 2, none⟩ = some (.int .i64 0) := (blk_cell BK247.out 2).trans rfl
                        have hfz21_0 := blk_frozen BK247.out 0
                        have hfz21_1 := blk_frozen BK247.out 1
                        have hfz21_2 := blk_frozen BK247.out 2
                        go_wp2
                        repeat (go_quiet (fail); try go_wp2)
                        go_meet
                        case rel => exact ⟨_, (true), (by first | rfl | (simp; done) | (simp [*]; done)), H', ⟨by have := HJ3.out; have := HK2.out; first | omega | exact Nat.le_refl _⟩, ⟨by (with_reducible repeat (first | apply Kd.R_alloc | apply Kd.R_drewN | apply Kd.R_drew)); exact Kd.R_mono (Kd.R_far (p := ⟨gb247, 2, none⟩) (Kd.R_far (p := ⟨gb247, 1, none⟩) (Kd.R_far (p := ⟨gb247, 0, none⟩) (Kd.R_mono HO_3.out (fun k_ hk => (⟨hk, hk.2⟩ : _ ∧ k_ ≠ gb247))) (fun _ hk => hk.2) (.int .i64 ((rd_T30 t238 x6_2).f0))) (fun _ hk => hk.2) (.string ((rd_T30 t238 x6_2).f1))) (fun _ hk => hk.2) (.int .i64 ((rd_T30 t238 x6_2).f2))) (fun _ hk => hk.1.2)⟩, ⟨by (with_reducible repeat (first | refine blk_drewN ?_ _ | refine blk_drew ?_ | refine blk_alloc ?_ _)); refine blk_put (cs := #[.int .i64 ((rd_T30 t238 x6_2).f0), .string ((rd_T30 t238 x6_2).f1), .int .i64 0]) ?_ 2 _ rfl; (with_reducible repeat (first | refine blk_drewN ?_ _ | refine blk_drew ?_ | refine blk_alloc ?_ _)); refine blk_put (cs := #[.int .i64 ((rd_T30 t238 x6_2).f0), .string (⟨#[]⟩ : ByteArray), .int .i64 0]) ?_ 1 _ rfl; (with_reducible repeat (first | refine blk_drewN ?_ _ | refine blk_drew ?_ | refine blk_alloc ?_ _)); refine blk_put (cs := #[.int .i64 0, .string (⟨#[]⟩ : ByteArray), .int .i64 0]) ?_ 0 _ rfl; (with_reducible repeat (first | refine blk_drewN ?_ _ | refine blk_drew ?_ | refine blk_alloc ?_ _)); exact BK247.out⟩, ⟨by repeat (first | (with_reducible first | exact HB.out | apply below_alloc | apply pw_below_drewN | apply below_drew1 | refine below_set ?_ GE247.out) | exact HB.out)⟩⟩
                      · rw [if_neg c20] at H
                        have c20b0 : decide (((rd_T30 t238 x6_2).f2) < 0) = false := decide_eq_false c20
                        clear c20
                        (first | rw [c20b0] | (simp only [i64_w, i32_w]; rw [c20b0]) | skip)
                        obtain ⟨ji22, hji22⟩ : ∃ j_ : Int, (wrap64 (x6_2 + 1)) = j_ := ⟨_, rfl⟩
                        replace H : (if 0 ≤ (ji22) then (if ((rd_T30 t238 x6_2).f2) ≥ ((rd_T30 t238 (ji22)).f2) then (imageeditorlaw53_LexPlaces.j2 k2 a0 t238 x6_2 true ((rd_T30 t238 x6_2).f0) ((rd_T30 t238 x6_2).f1) ((rd_T30 t238 x6_2).f2)) else (imageeditorlaw53_LexPlaces.j2 k2 a0 t238 x6_2 (((rd_T30 t238 x6_2).f0) == 0) ((rd_T30 t238 x6_2).f0) ((rd_T30 t238 x6_2).f1) ((rd_T30 t238 x6_2).f2))) else (none)) = some r := by first | (rw [hji22] at H; exact H) | (simp only [hji22] at H ⊢; exact H)
                        (try rw [hji22] at c13b0)
                        have hji22w : (IntKind.i64.wrap (x6_2 + 1)) = ji22 := (i64_w _).trans hji22
                        by_cases c23 : 0 ≤ (ji22)
                        · rw [if_pos c23] at H
                          have c23b0 : decide (0 ≤ (ji22)) = true := decide_eq_true c23
                          clear c23
                          by_cases c24 : ((rd_T30 t238 x6_2).f2) ≥ ((rd_T30 t238 (ji22)).f2)
                          · rw [if_pos c24] at H
                            have c24b0 : decide (((rd_T30 t238 (ji22)).f2) ≤ ((rd_T30 t238 x6_2).f2)) = true := decide_eq_true c24
                            clear c24
                            have H' := Aside0.mk H
                            clear H
                            have hcz25_0 : w18.cell? ⟨gb247, 0, none⟩ = some (.int .i64 0) := (blk_cell BK247.out 0).trans rfl
                            have hcz25_1 : w18.cell? ⟨gb247, 1, none⟩ = some (.string (⟨#[]⟩ : ByteArray)) := (blk_cell BK247.out 1).trans rfl
                            have hcz25_2 : w18.cell? ⟨gb247, 2, none⟩ = some (.int .i64 0) := (blk_cell BK247.out 2).trans rfl
                            have hfz25_0 := blk_frozen BK247.out 0
                            have hfz25_1 := blk_frozen BK247.out 1
                            have hfz25_2 := blk_frozen BK247.out 2
                            have p248 : 0 ≤ ((ji22) : Int) := of_decide_eq_true (by first | (with_reducible assumption) | assumption)
                            have q248 : (ji22) < (t238.length : Int) := of_decide_eq_true (by first | (with_reducible assumption) | assumption)
                            obtain ⟨ad248, e248, hx248_0, hx248_1, hx248_2⟩ := at_T30 (Kd.R_reads' HO_3.out).2.2 (ji22) p248 q248
                            obtain rfl : ad246 = ad248 := (by injection e248)
                            have hn248_0 : ad246.block ≠ gb247 := Kd.own_blk (by first | exact Kd.R_ne HO_3.out BK247.out (by decide) | exact Kd.R_away HO_3.out (fun _ hk => hk.2))
                            have hn248_1 : ad246.block ≠ gb247 := Kd.own_blk (by first | exact Kd.R_ne HO_3.out BK247.out (by decide) | exact Kd.R_away HO_3.out (fun _ hk => hk.2))
                            have hn248_2 : ad246.block ≠ gb247 := Kd.own_blk (by first | exact Kd.R_ne HO_3.out BK247.out (by decide) | exact Kd.R_away HO_3.out (fun _ hk => hk.2))
                            replace hx248_0 := (cell_far (p := ⟨gb247, 0, none⟩) (by first | (rw [add_block]; exact hn248_0) | (show (Addr.add _ _).block ≠ _; rw [add_block]; exact hn248_0) | exact hn248_0) (.int .i64 ((rd_T30 t238 x6_2).f0))).trans hx248_0
                            replace hx248_1 := (cell_far (p := ⟨gb247, 0, none⟩) (by first | (rw [add_block]; exact hn248_0) | (show (Addr.add _ _).block ≠ _; rw [add_block]; exact hn248_0) | exact hn248_0) (.int .i64 ((rd_T30 t238 x6_2).f0))).trans hx248_1
                            replace hx248_2 := (cell_far (p := ⟨gb247, 0, none⟩) (by first | (rw [add_block]; exact hn248_0) | (show (Addr.add _ _).block ≠ _; rw [add_block]; exact hn248_0) | exact hn248_0) (.int .i64 ((rd_T30 t238 x6_2).f0))).trans hx248_2
                            replace hx248_0 := (cell_far (p := ⟨gb247, 1, none⟩) (by first | (rw [add_block]; exact hn248_1) | (show (Addr.add _ _).block ≠ _; rw [add_block]; exact hn248_1) | exact hn248_1) (.string ((rd_T30 t238 x6_2).f1))).trans hx248_0
                            replace hx248_1 := (cell_far (p := ⟨gb247, 1, none⟩) (by first | (rw [add_block]; exact hn248_1) | (show (Addr.add _ _).block ≠ _; rw [add_block]; exact hn248_1) | exact hn248_1) (.string ((rd_T30 t238 x6_2).f1))).trans hx248_1
                            replace hx248_2 := (cell_far (p := ⟨gb247, 1, none⟩) (by first | (rw [add_block]; exact hn248_1) | (show (Addr.add _ _).block ≠ _; rw [add_block]; exact hn248_1) | exact hn248_1) (.string ((rd_T30 t238 x6_2).f1))).trans hx248_2
                            replace hx248_0 := (cell_far (p := ⟨gb247, 2, none⟩) (by first | (rw [add_block]; exact hn248_2) | (show (Addr.add _ _).block ≠ _; rw [add_block]; exact hn248_2) | exact hn248_2) (.int .i64 ((rd_T30 t238 x6_2).f2))).trans hx248_0
                            replace hx248_1 := (cell_far (p := ⟨gb247, 2, none⟩) (by first | (rw [add_block]; exact hn248_2) | (show (Addr.add _ _).block ≠ _; rw [add_block]; exact hn248_2) | exact hn248_2) (.int .i64 ((rd_T30 t238 x6_2).f2))).trans hx248_1
                            replace hx248_2 := (cell_far (p := ⟨gb247, 2, none⟩) (by first | (rw [add_block]; exact hn248_2) | (show (Addr.add _ _).block ≠ _; rw [add_block]; exact hn248_2) | exact hn248_2) (.int .i64 ((rd_T30 t238 x6_2).f2))).trans hx248_2
                            (try have hy248_0 := fun (n_ : Nat) => (show (((((w18.drewN n_).setCell ⟨gb247, 0, none⟩ (.int .i64 ((rd_T30 t238 x6_2).f0))).setCell ⟨gb247, 1, none⟩ (.string ((rd_T30 t238 x6_2).f1))).setCell ⟨gb247, 2, none⟩ (.int .i64 ((rd_T30 t238 x6_2).f2)))).cell? _ = some _ from hx248_0))
                            (try have hy248_1 := fun (n_ : Nat) => (show (((((w18.drewN n_).setCell ⟨gb247, 0, none⟩ (.int .i64 ((rd_T30 t238 x6_2).f0))).setCell ⟨gb247, 1, none⟩ (.string ((rd_T30 t238 x6_2).f1))).setCell ⟨gb247, 2, none⟩ (.int .i64 ((rd_T30 t238 x6_2).f2)))).cell? _ = some _ from hx248_1))
                            (try have hy248_2 := fun (n_ : Nat) => (show (((((w18.drewN n_).setCell ⟨gb247, 0, none⟩ (.int .i64 ((rd_T30 t238 x6_2).f0))).setCell ⟨gb247, 1, none⟩ (.string ((rd_T30 t238 x6_2).f1))).setCell ⟨gb247, 2, none⟩ (.int .i64 ((rd_T30 t238 x6_2).f2)))).cell? _ = some _ from hx248_2))
                            clear hn248_0
                            clear hn248_1
                            clear hn248_2
                            replace p248 := eq_true p248
                            replace q248 := eq_true q248
                            go_wp2
                            repeat (go_quiet (fail); try go_wp2)
                            go_meet
                            case rel => exact ⟨_, (true), (by first | rfl | (simp; done) | (simp [*]; done)), H', ⟨by have := HJ3.out; have := HK2.out; first | omega | exact Nat.le_refl _⟩, ⟨by (with_reducible repeat (first | apply Kd.R_alloc | apply Kd.R_drewN | apply Kd.R_drew)); exact Kd.R_mono (Kd.R_far (p := ⟨gb247, 2, none⟩) (Kd.R_far (p := ⟨gb247, 1, none⟩) (Kd.R_far (p := ⟨gb247, 0, none⟩) (Kd.R_mono HO_3.out (fun k_ hk => (⟨hk, hk.2⟩ : _ ∧ k_ ≠ gb247))) (fun _ hk => hk.2) (.int .i64 ((rd_T30 t238 x6_2).f0))) (fun _ hk => hk.2) (.string ((rd_T30 t238 x6_2).f1))) (fun _ hk => hk.2) (.int .i64 ((rd_T30 t238 x6_2).f2))) (fun _ hk => hk.1.2)⟩, ⟨by (with_reducible repeat (first | refine blk_drewN ?_ _ | refine blk_drew ?_ | refine blk_alloc ?_ _)); refine blk_put (cs := #[.int .i64 ((rd_T30 t238 x6_2).f0), .string ((rd_T30 t238 x6_2).f1), .int .i64 0]) ?_ 2 _ rfl; (with_reducible repeat (first | refine blk_drewN ?_ _ | refine blk_drew ?_ | refine blk_alloc ?_ _)); refine blk_put (cs := #[.int .i64 ((rd_T30 t238 x6_2).f0), .string (⟨#[]⟩ : ByteArray), .int .i64 0]) ?_ 1 _ rfl; (with_reducible repeat (first | refine blk_drewN ?_ _ | refine blk_drew ?_ | refine blk_alloc ?_ _)); refine blk_put (cs := #[.int .i64 0, .string (⟨#[]⟩ : ByteArray), .int .i64 0]) ?_ 0 _ rfl; (with_reducible repeat (first | refine blk_drewN ?_ _ | refine blk_drew ?_ | refine blk_alloc ?_ _)); exact BK247.out⟩, ⟨by repeat (first | (with_reducible first | exact HB.out | apply below_alloc | apply pw_below_drewN | apply below_drew1 | refine below_set ?_ GE247.out) | exact HB.out)⟩⟩
                          · rw [if_neg c24] at H
                            have c24b0 : decide (((rd_T30 t238 (ji22)).f2) ≤ ((rd_T30 t238 x6_2).f2)) = false := decide_eq_false c24
                            clear c24
                            have H' := Aside0.mk H
                            clear H
                            have hcz26_0 : w18.cell? ⟨gb247, 0, none⟩ = some (.int .i64 0) := (blk_cell BK247.out 0).trans rfl
                            have hcz26_1 : w18.cell? ⟨gb247, 1, none⟩ = some (.string (⟨#[]⟩ : ByteArray)) := (blk_cell BK247.out 1).trans rfl
                            have hcz26_2 : w18.cell? ⟨gb247, 2, none⟩ = some (.int .i64 0) := (blk_cell BK247.out 2).trans rfl
                            have hfz26_0 := blk_frozen BK247.out 0
                            have hfz26_1 := blk_frozen BK247.out 1
                            have hfz26_2 := blk_frozen BK247.out 2
                            have p248 : 0 ≤ ((ji22) : Int) := of_decide_eq_true (by first | (with_reducible assumption) | assumption)
                            have q248 : (ji22) < (t238.length : Int) := of_decide_eq_true (by first | (with_reducible assumption) | assumption)
                            obtain ⟨ad248, e248, hx248_0, hx248_1, hx248_2⟩ := at_T30 (Kd.R_reads' HO_3.out).2.2 (ji22) p248 q248
                            obtain rfl : ad246 = ad248 := (by injection e248)
                            have hn248_0 : ad246.block ≠ gb247 := Kd.own_blk (by first | exact Kd.R_ne HO_3.out BK247.out (by decide) | exact Kd.R_away HO_3.out (fun _ hk => hk.2))
                            have hn248_1 : ad246.block ≠ gb247 := Kd.own_blk (by first | exact Kd.R_ne HO_3.out BK247.out (by decide) | exact Kd.R_away HO_3.out (fun _ hk => hk.2))
                            have hn248_2 : ad246.block ≠ gb247 := Kd.own_blk (by first | exact Kd.R_ne HO_3.out BK247.out (by decide) | exact Kd.R_away HO_3.out (fun _ hk => hk.2))
                            replace hx248_0 := (cell_far (p := ⟨gb247, 0, none⟩) (by first | (rw [add_block]; exact hn248_0) | (show (Addr.add _ _).block ≠ _; rw [add_block]; exact hn248_0) | exact hn248_0) (.int .i64 ((rd_T30 t238 x6_2).f0))).trans hx248_0
                            replace hx248_1 := (cell_far (p := ⟨gb247, 0, none⟩) (by first | (rw [add_block]; exact hn248_0) | (show (Addr.add _ _).block ≠ _; rw [add_block]; exact hn248_0) | exact hn248_0) (.int .i64 ((rd_T30 t238 x6_2).f0))).trans hx248_1
                            replace hx248_2 := (cell_far (p := ⟨gb247, 0, none⟩) (by first | (rw [add_block]; exact hn248_0) | (show (Addr.add _ _).block ≠ _; rw [add_block]; exact hn248_0) | exact hn248_0) (.int .i64 ((rd_T30 t238 x6_2).f0))).trans hx248_2
                            replace hx248_0 := (cell_far (p := ⟨gb247, 1, none⟩) (by first | (rw [add_block]; exact hn248_1) | (show (Addr.add _ _).block ≠ _; rw [add_block]; exact hn248_1) | exact hn248_1) (.string ((rd_T30 t238 x6_2).f1))).trans hx248_0
                            replace hx248_1 := (cell_far (p := ⟨gb247, 1, none⟩) (by first | (rw [add_block]; exact hn248_1) | (show (Addr.add _ _).block ≠ _; rw [add_block]; exact hn248_1) | exact hn248_1) (.string ((rd_T30 t238 x6_2).f1))).trans hx248_1
                            replace hx248_2 := (cell_far (p := ⟨gb247, 1, none⟩) (by first | (rw [add_block]; exact hn248_1) | (show (Addr.add _ _).block ≠ _; rw [add_block]; exact hn248_1) | exact hn248_1) (.string ((rd_T30 t238 x6_2).f1))).trans hx248_2
                            replace hx248_0 := (cell_far (p := ⟨gb247, 2, none⟩) (by first | (rw [add_block]; exact hn248_2) | (show (Addr.add _ _).block ≠ _; rw [add_block]; exact hn248_2) | exact hn248_2) (.int .i64 ((rd_T30 t238 x6_2).f2))).trans hx248_0
                            replace hx248_1 := (cell_far (p := ⟨gb247, 2, none⟩) (by first | (rw [add_block]; exact hn248_2) | (show (Addr.add _ _).block ≠ _; rw [add_block]; exact hn248_2) | exact hn248_2) (.int .i64 ((rd_T30 t238 x6_2).f2))).trans hx248_1
                            replace hx248_2 := (cell_far (p := ⟨gb247, 2, none⟩) (by first | (rw [add_block]; exact hn248_2) | (show (Addr.add _ _).block ≠ _; rw [add_block]; exact hn248_2) | exact hn248_2) (.int .i64 ((rd_T30 t238 x6_2).f2))).trans hx248_2
                            (try have hy248_0 := fun (n_ : Nat) => (show (((((w18.drewN n_).setCell ⟨gb247, 0, none⟩ (.int .i64 ((rd_T30 t238 x6_2).f0))).setCell ⟨gb247, 1, none⟩ (.string ((rd_T30 t238 x6_2).f1))).setCell ⟨gb247, 2, none⟩ (.int .i64 ((rd_T30 t238 x6_2).f2)))).cell? _ = some _ from hx248_0))
                            (try have hy248_1 := fun (n_ : Nat) => (show (((((w18.drewN n_).setCell ⟨gb247, 0, none⟩ (.int .i64 ((rd_T30 t238 x6_2).f0))).setCell ⟨gb247, 1, none⟩ (.string ((rd_T30 t238 x6_2).f1))).setCell ⟨gb247, 2, none⟩ (.int .i64 ((rd_T30 t238 x6_2).f2)))).cell? _ = some _ from hx248_1))
                            (try have hy248_2 := fun (n_ : Nat) => (show (((((w18.drewN n_).setCell ⟨gb247, 0, none⟩ (.int .i64 ((rd_T30 t238 x6_2).f0))).setCell ⟨gb247, 1, none⟩ (.string ((rd_T30 t238 x6_2).f1))).setCell ⟨gb247, 2, none⟩ (.int .i64 ((rd_T30 t238 x6_2).f2)))).cell? _ = some _ from hx248_2))
                            clear hn248_0
                            clear hn248_1
                            clear hn248_2
                            replace p248 := eq_true p248
                            replace q248 := eq_true q248
                            go_wp2
                            repeat (go_quiet (fail); try go_wp2)
                            go_meet
                            case rel => exact ⟨_, ((((rd_T30 t238 x6_2).f0) == 0)), (by first | rfl | (simp; done) | (simp [*]; done)), H', ⟨by have := HJ3.out; have := HK2.out; first | omega | exact Nat.le_refl _⟩, ⟨by (with_reducible repeat (first | apply Kd.R_alloc | apply Kd.R_drewN | apply Kd.R_drew)); exact Kd.R_mono (Kd.R_far (p := ⟨gb247, 2, none⟩) (Kd.R_far (p := ⟨gb247, 1, none⟩) (Kd.R_far (p := ⟨gb247, 0, none⟩) (Kd.R_mono HO_3.out (fun k_ hk => (⟨hk, hk.2⟩ : _ ∧ k_ ≠ gb247))) (fun _ hk => hk.2) (.int .i64 ((rd_T30 t238 x6_2).f0))) (fun _ hk => hk.2) (.string ((rd_T30 t238 x6_2).f1))) (fun _ hk => hk.2) (.int .i64 ((rd_T30 t238 x6_2).f2))) (fun _ hk => hk.1.2)⟩, ⟨by (with_reducible repeat (first | refine blk_drewN ?_ _ | refine blk_drew ?_ | refine blk_alloc ?_ _)); refine blk_put (cs := #[.int .i64 ((rd_T30 t238 x6_2).f0), .string ((rd_T30 t238 x6_2).f1), .int .i64 0]) ?_ 2 _ rfl; (with_reducible repeat (first | refine blk_drewN ?_ _ | refine blk_drew ?_ | refine blk_alloc ?_ _)); refine blk_put (cs := #[.int .i64 ((rd_T30 t238 x6_2).f0), .string (⟨#[]⟩ : ByteArray), .int .i64 0]) ?_ 1 _ rfl; (with_reducible repeat (first | refine blk_drewN ?_ _ | refine blk_drew ?_ | refine blk_alloc ?_ _)); refine blk_put (cs := #[.int .i64 0, .string (⟨#[]⟩ : ByteArray), .int .i64 0]) ?_ 0 _ rfl; (with_reducible repeat (first | refine blk_drewN ?_ _ | refine blk_drew ?_ | refine blk_alloc ?_ _)); exact BK247.out⟩, ⟨by repeat (first | (with_reducible first | exact HB.out | apply below_alloc | apply pw_below_drewN | apply below_drew1 | refine below_set ?_ GE247.out) | exact HB.out)⟩⟩
                        · rw [if_neg c23] at H
                          exact absurd H (by simp)
                    case rest =>
                      clear HC16
                      try clear c1
                      try clear c2
                      try clear p2
                      try clear q2
                      try clear hx2
                      try clear c3
                      try clear c3b0
                      try clear c3b1
                      try clear c4
                      try clear c6
                      try clear c6b0
                      try clear c6b1
                      try clear c6b2
                      try clear p6
                      try clear c9
                      try clear c9b0
                      try clear c10
                      try clear c10b0
                      try clear c12
                      try clear c13
                      try clear c13b0
                      try clear c14
                      try clear c14b0
                      try clear c15
                      try clear c15b0
                      try clear c20
                      try clear c20b0
                      try clear c23
                      try clear c23b0
                      try clear c24
                      try clear c24b0
                      try clear p24
                      try clear q24
                      try clear hx24
                      try clear hcz19_0
                      try clear hcz19_1
                      try clear hcz19_2
                      try clear hcz21_0
                      try clear hcz21_1
                      try clear hcz21_2
                      try clear hcz25_0
                      try clear hcz25_1
                      try clear hcz25_2
                      try clear hcz26_0
                      try clear hcz26_1
                      try clear hcz26_2
                      try clear hfz19_0
                      try clear hfz19_1
                      try clear hfz19_2
                      try clear hfz21_0
                      try clear hfz21_1
                      try clear hfz21_2
                      try clear hfz25_0
                      try clear hfz25_1
                      try clear hfz25_2
                      try clear hfz26_0
                      try clear hfz26_1
                      try clear hfz26_2
                      try clear hx244_0
                      try clear hx244_1
                      try clear hx244_2
                      try clear hx246_0
                      try clear hx246_1
                      try clear hx246_2
                      try clear hx248_0
                      try clear hx248_1
                      try clear hx248_2
                      try clear p2
                      try clear p244
                      try clear p246
                      try clear p248
                      try clear p6
                      try clear q2
                      try clear q244
                      try clear q246
                      try clear q248
                      obtain ⟨kq, x66_15, rfl, HA, HJ15, HO_3, BK247, HB⟩ := hcut
                      cases kq with
                      | zero => exact absurd HA.out (by simp [imageeditorlaw53_LexPlaces.j2])
                      | succ kj15 =>
                        have H := HA.out
                        clear HA
                        simp only [imageeditorlaw53_LexPlaces.j2] at H
                        by_cases c27 : x66_15 = true
                        · subst c27
                          have H1 : (some false) = some r := by rw [if_pos rfl] at H; exact H
                          clear H
                          have H := H1
                          clear H1
                          obtain rfl := Option.some.inj H
                          go_wp2
                          repeat (go_quiet (fail); try go_wp2)
                          go_ret
                          exact ⟨by first | rfl | (simp [errW_none, errW_some] <;> rfl) | (simp [*, errW_none, errW_some] <;> rfl), by repeat (first | (with_reducible first | exact HB.out | apply below_alloc | apply pw_below_drewN | apply below_drew1 | refine below_set ?_ GE247.out) | exact HB.out)⟩
                        · replace c27 := Bool.eq_false_iff.mpr c27
                          subst c27
                          have H1 : (if ((rd_T30 t238 x6_2).f0) = 2 then (imageeditorlaw53_LexPlaces.l0 kj15 a0 t238 (wrap64 (x6_2 + 1))) else (if ((rd_T30 t238 x6_2).f1).toList = ([] : List UInt8) then (some false) else (if (((rd_T30 t238 x6_2).f1).size : Int) > (wrap64 ((a0.size : Int) - ((rd_T30 t238 x6_2).f2))) then (some false) else (if 0 ≤ ((rd_T30 t238 x6_2).f2) then (if ((rd_T30 t238 x6_2).f2) ≤ (wrap64 (((rd_T30 t238 x6_2).f2) + (((rd_T30 t238 x6_2).f1).size : Int))) then (if (wrap64 (((rd_T30 t238 x6_2).f2) + (((rd_T30 t238 x6_2).f1).size : Int))) ≤ (a0.size : Int) then (if (a0.extract (((rd_T30 t238 x6_2).f2) : Int).toNat ((wrap64 (((rd_T30 t238 x6_2).f2) + (((rd_T30 t238 x6_2).f1).size : Int))) : Int).toNat).toList = ((rd_T30 t238 x6_2).f1).toList then (imageeditorlaw53_LexPlaces.l0 kj15 a0 t238 (wrap64 (x6_2 + 1))) else (some false)) else (none)) else (none)) else (none))))) = some r := by rw [if_neg (show ¬ (false = true) by decide)] at H; exact H
                          clear H
                          have H := H1
                          clear H1
                          by_cases c28 : ((rd_T30 t238 x6_2).f0) = 2
                          · rw [if_pos c28] at H
                            have c28b0 : (((rd_T30 t238 x6_2).f0) == 2) = true := beq_iff_eq.mpr c28
                            have c28b1 : (((rd_T30 t238 x6_2).f0) != 2) = false := bne_eq_false_iff_eq.mpr c28
                            clear c28
                            have H' := Aside0.mk H
                            clear H
                            have hcz29_0 : wc.cell? ⟨gb247, 0, none⟩ = some (.int .i64 ((rd_T30 t238 x6_2).f0)) := (blk_cell BK247.out 0).trans rfl
                            have hcz29_1 : wc.cell? ⟨gb247, 1, none⟩ = some (.string ((rd_T30 t238 x6_2).f1)) := (blk_cell BK247.out 1).trans rfl
                            have hcz29_2 : wc.cell? ⟨gb247, 2, none⟩ = some (.int .i64 ((rd_T30 t238 x6_2).f2)) := (blk_cell BK247.out 2).trans rfl
                            have hfz29_0 := blk_frozen BK247.out 0
                            have hfz29_1 := blk_frozen BK247.out 1
                            have hfz29_2 := blk_frozen BK247.out 2
                            go_wp2
                            repeat (go_quiet (fail); try go_wp2)
                            go_roundg kj15
                            case measure => have := HJ3.out; have := HK2.out; have := HJ15.out; omega
                            case rel => exact ⟨(wrap64 (x6_2 + 1)), (by first | rfl | (simp; done) | (simp [*]; done)), H', ⟨by have := HJ3.out; have := HK2.out; have := HJ15.out; omega⟩, ⟨by (with_reducible repeat (first | apply Kd.R_alloc | apply Kd.R_drewN | apply Kd.R_drew)); exact Kd.R_mono HO_3.out (fun _ hk => trivial)⟩, ⟨by repeat (first | (with_reducible first | exact HB.out | apply below_alloc | apply pw_below_drewN | apply below_drew1 | refine below_set ?_ GE247.out) | exact HB.out)⟩⟩
                          · rw [if_neg c28] at H
                            have c28b0 : (((rd_T30 t238 x6_2).f0) == 2) = false := beq_eq_false_iff_ne.mpr c28
                            have c28b1 : (((rd_T30 t238 x6_2).f0) != 2) = true := bne_iff_ne.mpr c28
                            by_cases c30 : ((rd_T30 t238 x6_2).f1).toList = ([] : List UInt8)
                            · rw [if_pos c30] at H
                              have c30b0 : (((rd_T30 t238 x6_2).f1).toList == ([] : List UInt8)) = true := beq_iff_eq.mpr c30
                              have c30b1 : (((rd_T30 t238 x6_2).f1).toList != ([] : List UInt8)) = false := bne_eq_false_iff_eq.mpr c30
                              clear c30
                              obtain rfl := Option.some.inj H
                              have hcz31_0 : wc.cell? ⟨gb247, 0, none⟩ = some (.int .i64 ((rd_T30 t238 x6_2).f0)) := (blk_cell BK247.out 0).trans rfl
                              have hcz31_1 : wc.cell? ⟨gb247, 1, none⟩ = some (.string ((rd_T30 t238 x6_2).f1)) := (blk_cell BK247.out 1).trans rfl
                              have hcz31_2 : wc.cell? ⟨gb247, 2, none⟩ = some (.int .i64 ((rd_T30 t238 x6_2).f2)) := (blk_cell BK247.out 2).trans rfl
                              have hfz31_0 := blk_frozen BK247.out 0
                              have hfz31_1 := blk_frozen BK247.out 1
                              have hfz31_2 := blk_frozen BK247.out 2
                              go_wp2
                              repeat (go_quiet (fail); try go_wp2)
                              go_ret
                              exact ⟨by first | rfl | (simp [errW_none, errW_some] <;> rfl) | (simp [*, errW_none, errW_some] <;> rfl), by repeat (first | (with_reducible first | exact HB.out | apply below_alloc | apply pw_below_drewN | apply below_drew1 | refine below_set ?_ GE247.out) | exact HB.out)⟩
                            · rw [if_neg c30] at H
                              have c30b0 : (((rd_T30 t238 x6_2).f1).toList == ([] : List UInt8)) = false := beq_eq_false_iff_ne.mpr c30
                              have c30b1 : (((rd_T30 t238 x6_2).f1).toList != ([] : List UInt8)) = true := bne_iff_ne.mpr c30
                              by_cases c32 : (((rd_T30 t238 x6_2).f1).size : Int) > (wrap64 ((a0.size : Int) - ((rd_T30 t238 x6_2).f2)))
                              · rw [if_pos c32] at H
                                have c32b0 : decide ((wrap64 ((a0.size : Int) - ((rd_T30 t238 x6_2).f2))) < (((rd_T30 t238 x6_2).f1).size : Int)) = true := decide_eq_true c32
                                clear c32
                                obtain rfl := Option.some.inj H
                                have hcz33_0 : wc.cell? ⟨gb247, 0, none⟩ = some (.int .i64 ((rd_T30 t238 x6_2).f0)) := (blk_cell BK247.out 0).trans rfl
                                have hcz33_1 : wc.cell? ⟨gb247, 1, none⟩ = some (.string ((rd_T30 t238 x6_2).f1)) := (blk_cell BK247.out 1).trans rfl
                                have hcz33_2 : wc.cell? ⟨gb247, 2, none⟩ = some (.int .i64 ((rd_T30 t238 x6_2).f2)) := (blk_cell BK247.out 2).trans rfl
                                have hfz33_0 := blk_frozen BK247.out 0
                                have hfz33_1 := blk_frozen BK247.out 1
                                have hfz33_2 := blk_frozen BK247.out 2
                                go_wp2
                                repeat (go_quiet (fail); try go_wp2)
                                go_ret
                                exact ⟨by first | rfl | (simp [errW_none, errW_some] <;> rfl) | (simp [*, errW_none, errW_some] <;> rfl), by repeat (first | (with_reducible first | exact HB.out | apply below_alloc | apply pw_below_drewN | apply below_drew1 | refine below_set ?_ GE247.out) | exact HB.out)⟩
                              · rw [if_neg c32] at H
                                have c32b0 : decide ((wrap64 ((a0.size : Int) - ((rd_T30 t238 x6_2).f2))) < (((rd_T30 t238 x6_2).f1).size : Int)) = false := decide_eq_false c32
                                clear c32
                                by_cases c34 : 0 ≤ ((rd_T30 t238 x6_2).f2)
                                · rw [if_pos c34] at H
                                  have c34b0 := eq_true c34
                                  have c34b1 : decide (0 ≤ ((rd_T30 t238 x6_2).f2)) = true := decide_eq_true c34
                                  clear c34
                                  by_cases c35 : ((rd_T30 t238 x6_2).f2) ≤ (wrap64 (((rd_T30 t238 x6_2).f2) + (((rd_T30 t238 x6_2).f1).size : Int)))
                                  · rw [if_pos c35] at H
                                    have c35b0 := eq_true c35
                                    have c35b1 : decide (((rd_T30 t238 x6_2).f2) ≤ (wrap64 (((rd_T30 t238 x6_2).f2) + (((rd_T30 t238 x6_2).f1).size : Int)))) = true := decide_eq_true c35
                                    by_cases c36 : (wrap64 (((rd_T30 t238 x6_2).f2) + (((rd_T30 t238 x6_2).f1).size : Int))) ≤ (a0.size : Int)
                                    · rw [if_pos c36] at H
                                      have c36b0 := eq_true c36
                                      have c36b1 : decide ((wrap64 (((rd_T30 t238 x6_2).f2) + (((rd_T30 t238 x6_2).f1).size : Int))) ≤ (a0.size : Int)) = true := decide_eq_true c36
                                      by_cases c37 : (a0.extract (((rd_T30 t238 x6_2).f2) : Int).toNat ((wrap64 (((rd_T30 t238 x6_2).f2) + (((rd_T30 t238 x6_2).f1).size : Int))) : Int).toNat).toList = ((rd_T30 t238 x6_2).f1).toList
                                      · rw [if_pos c37] at H
                                        have c37b0 : ((a0.extract (((rd_T30 t238 x6_2).f2) : Int).toNat ((wrap64 (((rd_T30 t238 x6_2).f2) + (((rd_T30 t238 x6_2).f1).size : Int))) : Int).toNat).toList == ((rd_T30 t238 x6_2).f1).toList) = true := beq_iff_eq.mpr c37
                                        have c37b1 : ((a0.extract (((rd_T30 t238 x6_2).f2) : Int).toNat ((wrap64 (((rd_T30 t238 x6_2).f2) + (((rd_T30 t238 x6_2).f1).size : Int))) : Int).toNat).toList != ((rd_T30 t238 x6_2).f1).toList) = false := bne_eq_false_iff_eq.mpr c37
                                        clear c37
                                        have H' := Aside0.mk H
                                        clear H
                                        have hcz38_0 : wc.cell? ⟨gb247, 0, none⟩ = some (.int .i64 ((rd_T30 t238 x6_2).f0)) := (blk_cell BK247.out 0).trans rfl
                                        have hcz38_1 : wc.cell? ⟨gb247, 1, none⟩ = some (.string ((rd_T30 t238 x6_2).f1)) := (blk_cell BK247.out 1).trans rfl
                                        have hcz38_2 : wc.cell? ⟨gb247, 2, none⟩ = some (.int .i64 ((rd_T30 t238 x6_2).f2)) := (blk_cell BK247.out 2).trans rfl
                                        have hfz38_0 := blk_frozen BK247.out 0
                                        have hfz38_1 := blk_frozen BK247.out 1
                                        have hfz38_2 := blk_frozen BK247.out 2
                                        go_wp2
                                        repeat (go_quiet (fail); try go_wp2)
                                        go_roundg kj15
                                        case measure => have := HJ3.out; have := HK2.out; have := HJ15.out; omega
                                        case rel => exact ⟨(wrap64 (x6_2 + 1)), (by first | rfl | (simp; done) | (simp [*]; done)), H', ⟨by have := HJ3.out; have := HK2.out; have := HJ15.out; omega⟩, ⟨by (with_reducible repeat (first | apply Kd.R_alloc | apply Kd.R_drewN | apply Kd.R_drew)); exact Kd.R_mono HO_3.out (fun _ hk => trivial)⟩, ⟨by repeat (first | (with_reducible first | exact HB.out | apply below_alloc | apply pw_below_drewN | apply below_drew1 | refine below_set ?_ GE247.out) | exact HB.out)⟩⟩
                                      · rw [if_neg c37] at H
                                        have c37b0 : ((a0.extract (((rd_T30 t238 x6_2).f2) : Int).toNat ((wrap64 (((rd_T30 t238 x6_2).f2) + (((rd_T30 t238 x6_2).f1).size : Int))) : Int).toNat).toList == ((rd_T30 t238 x6_2).f1).toList) = false := beq_eq_false_iff_ne.mpr c37
                                        have c37b1 : ((a0.extract (((rd_T30 t238 x6_2).f2) : Int).toNat ((wrap64 (((rd_T30 t238 x6_2).f2) + (((rd_T30 t238 x6_2).f1).size : Int))) : Int).toNat).toList != ((rd_T30 t238 x6_2).f1).toList) = true := bne_iff_ne.mpr c37
                                        obtain rfl := Option.some.inj H
                                        have hcz39_0 : wc.cell? ⟨gb247, 0, none⟩ = some (.int .i64 ((rd_T30 t238 x6_2).f0)) := (blk_cell BK247.out 0).trans rfl
                                        have hcz39_1 : wc.cell? ⟨gb247, 1, none⟩ = some (.string ((rd_T30 t238 x6_2).f1)) := (blk_cell BK247.out 1).trans rfl
                                        have hcz39_2 : wc.cell? ⟨gb247, 2, none⟩ = some (.int .i64 ((rd_T30 t238 x6_2).f2)) := (blk_cell BK247.out 2).trans rfl
                                        have hfz39_0 := blk_frozen BK247.out 0
                                        have hfz39_1 := blk_frozen BK247.out 1
                                        have hfz39_2 := blk_frozen BK247.out 2
                                        go_wp2
                                        repeat (go_quiet (fail); try go_wp2)
                                        go_ret
                                        exact ⟨by first | rfl | (simp [errW_none, errW_some] <;> rfl) | (simp [*, errW_none, errW_some] <;> rfl), by repeat (first | (with_reducible first | exact HB.out | apply below_alloc | apply pw_below_drewN | apply below_drew1 | refine below_set ?_ GE247.out) | exact HB.out)⟩
                                    · rw [if_neg c36] at H
                                      exact absurd H (by simp)
                                  · rw [if_neg c35] at H
                                    exact absurd H (by simp)
                                · rw [if_neg c34] at H
                                  exact absurd H (by simp)
                  · rw [if_neg c15] at H
                    exact absurd H (by simp)
                · rw [if_neg c14] at H
                  exact absurd H (by simp)
              · rw [if_neg c13] at H
                have c13b0 : decide ((wrap64 (x6_2 + 1)) < (t238.length : Int)) = false := decide_eq_false c13
                clear c13
                replace H := Option.bind_eq_some_iff.mp H
                obtain ⟨t245, A400, H⟩ := H
                replace H : (some t245) = some r := H
                have A40 := Aside0.mk A400
                clear A400
                obtain rfl := Option.some.inj H
                obtain ⟨Ao41, co41, eo41⟩ := Kd.R_slice HO_3.out
                subst eo41
                go_wp2_with (first | (go_at_call 13; (with_reducible refine (imageeditorlaw53_example.calls k2  t245 _ ?side1 A40.out).mono ?_); (case side1 => exact GV.below hG (by repeat (first | (with_reducible first | exact HB.out | apply below_alloc | apply pw_below_drewN | apply below_drew1) | exact HB.out))); rintro e w42 ⟨rfl, hb⟩; have n0_ := Aside0.mk (Kd.R_below (by (with_reducible repeat (first | apply Kd.R_alloc | apply Kd.R_drewN | apply Kd.R_drew)); exact HO_3.out) hb); have n1_ := Aside0.mk (below_step (by repeat (first | (with_reducible first | exact HB.out | apply below_alloc | apply pw_below_drewN | apply below_drew1) | exact HB.out)) hb); clear HO_3; clear HB; have HO_3 := n0_; have HB := n1_; clear n0_ n1_; (try clear hb); (try clear hb2); (try clear hk); (try clear hi)))
                repeat (go_quiet (first | (go_at_call 13; (with_reducible refine (imageeditorlaw53_example.calls k2  t245 _ ?side1 A40.out).mono ?_); (case side1 => exact GV.below hG (by repeat (first | (with_reducible first | exact HB.out | apply below_alloc | apply pw_below_drewN | apply below_drew1) | exact HB.out))); rintro e w42 ⟨rfl, hb⟩; have n0_ := Aside0.mk (Kd.R_below (by (with_reducible repeat (first | apply Kd.R_alloc | apply Kd.R_drewN | apply Kd.R_drew)); exact HO_3.out) hb); have n1_ := Aside0.mk (below_step (by repeat (first | (with_reducible first | exact HB.out | apply below_alloc | apply pw_below_drewN | apply below_drew1) | exact HB.out)) hb); clear HO_3; clear HB; have HO_3 := n0_; have HB := n1_; clear n0_ n1_; (try clear hb); (try clear hb2); (try clear hk); (try clear hi))); try go_wp2_with (first | (go_at_call 13; (with_reducible refine (imageeditorlaw53_example.calls k2  t245 _ ?side1 A40.out).mono ?_); (case side1 => exact GV.below hG (by repeat (first | (with_reducible first | exact HB.out | apply below_alloc | apply pw_below_drewN | apply below_drew1) | exact HB.out))); rintro e w42 ⟨rfl, hb⟩; have n0_ := Aside0.mk (Kd.R_below (by (with_reducible repeat (first | apply Kd.R_alloc | apply Kd.R_drewN | apply Kd.R_drew)); exact HO_3.out) hb); have n1_ := Aside0.mk (below_step (by repeat (first | (with_reducible first | exact HB.out | apply below_alloc | apply pw_below_drewN | apply below_drew1) | exact HB.out)) hb); clear HO_3; clear HB; have HO_3 := n0_; have HB := n1_; clear n0_ n1_; (try clear hb); (try clear hb2); (try clear hk); (try clear hi))))
                go_ret
                exact ⟨by first | rfl | (simp [errW_none, errW_some] <;> rfl) | (simp [*, errW_none, errW_some] <;> rfl), by repeat (first | (with_reducible first | exact HB.out | apply below_alloc | apply pw_below_drewN | apply below_drew1) | exact HB.out)⟩
  · rw [if_neg c3] at H
    have c3b0 : (t240 == 0) = false := beq_eq_false_iff_ne.mpr c3
    have c3b1 : (t240 != 0) = true := bne_iff_ne.mpr c3
    by_cases c43 : (t238.length : Int) = 0
    · rw [if_pos c43] at H
      have c43b0 : ((t238.length : Int) == 0) = true := beq_iff_eq.mpr c43
      have c43b1 : ((t238.length : Int) != 0) = false := bne_eq_false_iff_eq.mpr c43
      clear c43
      replace H := Option.bind_eq_some_iff.mp H
      obtain ⟨t243, A440, H⟩ := H
      replace H : (some t243) = some r := H
      have A44 := Aside0.mk A440
      clear A440
      obtain rfl := Option.some.inj H
      go_enter Tryd.func4, Tryd.ntmps4
      go_wp2_with (first | (go_at_call 8; (with_reducible refine (lex_Tokens.calls k a0 t238 t239 t240 _ ?side1 A2.out).mono ?_); (case side1 => exact GV.below hG (by repeat (first | (with_reducible first | exact HB.out | apply below_alloc | apply pw_below_drewN | apply below_drew1) | exact HB.out))); rintro e w45 ⟨v241, rfl, ho0, hb⟩; have n0_ := Aside0.mk (Kd.R_lower ho0 (below_size (by repeat (first | (with_reducible first | exact HB.out | apply below_alloc | apply pw_below_drewN | apply below_drew1) | exact HB.out)))); have n1_ := Aside0.mk (below_step (by repeat (first | (with_reducible first | exact HB.out | apply below_alloc | apply pw_below_drewN | apply below_drew1) | exact HB.out)) hb); clear HB; have HO242 := n0_; have HB := n1_; clear n0_ n1_; (try clear hb); (try clear hb2); (try clear hk); (try clear hi); (try clear ho0); obtain ⟨Ao46, co46, eo46⟩ := Kd.R_slice HO242.out; subst eo46) | (go_at_call 13; (with_reducible refine (imageeditorlaw53_example.calls k  t243 _ ?side1 A44.out).mono ?_); (case side1 => exact GV.below hG (by repeat (first | (with_reducible first | exact HB.out | apply below_alloc | apply pw_below_drewN | apply below_drew1) | exact HB.out))); rintro e w47 ⟨rfl, hb⟩; have n0_ := Aside0.mk (Kd.R_below (by (with_reducible repeat (first | apply Kd.R_alloc | apply Kd.R_drewN | apply Kd.R_drew)); exact HO242.out) hb); have n1_ := Aside0.mk (below_step (by repeat (first | (with_reducible first | exact HB.out | apply below_alloc | apply pw_below_drewN | apply below_drew1) | exact HB.out)) hb); clear HO242; clear HB; have HO242 := n0_; have HB := n1_; clear n0_ n1_; (try clear hb); (try clear hb2); (try clear hk); (try clear hi)))
      repeat (go_quiet (first | (go_at_call 8; (with_reducible refine (lex_Tokens.calls k a0 t238 t239 t240 _ ?side1 A2.out).mono ?_); (case side1 => exact GV.below hG (by repeat (first | (with_reducible first | exact HB.out | apply below_alloc | apply pw_below_drewN | apply below_drew1) | exact HB.out))); rintro e w45 ⟨v241, rfl, ho0, hb⟩; have n0_ := Aside0.mk (Kd.R_lower ho0 (below_size (by repeat (first | (with_reducible first | exact HB.out | apply below_alloc | apply pw_below_drewN | apply below_drew1) | exact HB.out)))); have n1_ := Aside0.mk (below_step (by repeat (first | (with_reducible first | exact HB.out | apply below_alloc | apply pw_below_drewN | apply below_drew1) | exact HB.out)) hb); clear HB; have HO242 := n0_; have HB := n1_; clear n0_ n1_; (try clear hb); (try clear hb2); (try clear hk); (try clear hi); (try clear ho0); obtain ⟨Ao46, co46, eo46⟩ := Kd.R_slice HO242.out; subst eo46) | (go_at_call 13; (with_reducible refine (imageeditorlaw53_example.calls k  t243 _ ?side1 A44.out).mono ?_); (case side1 => exact GV.below hG (by repeat (first | (with_reducible first | exact HB.out | apply below_alloc | apply pw_below_drewN | apply below_drew1) | exact HB.out))); rintro e w47 ⟨rfl, hb⟩; have n0_ := Aside0.mk (Kd.R_below (by (with_reducible repeat (first | apply Kd.R_alloc | apply Kd.R_drewN | apply Kd.R_drew)); exact HO242.out) hb); have n1_ := Aside0.mk (below_step (by repeat (first | (with_reducible first | exact HB.out | apply below_alloc | apply pw_below_drewN | apply below_drew1) | exact HB.out)) hb); clear HO242; clear HB; have HO242 := n0_; have HB := n1_; clear n0_ n1_; (try clear hb); (try clear hb2); (try clear hk); (try clear hi))); try go_wp2_with (first | (go_at_call 8; (with_reducible refine (lex_Tokens.calls k a0 t238 t239 t240 _ ?side1 A2.out).mono ?_); (case side1 => exact GV.below hG (by repeat (first | (with_reducible first | exact HB.out | apply below_alloc | apply pw_below_drewN | apply below_drew1) | exact HB.out))); rintro e w45 ⟨v241, rfl, ho0, hb⟩; have n0_ := Aside0.mk (Kd.R_lower ho0 (below_size (by repeat (first | (with_reducible first | exact HB.out | apply below_alloc | apply pw_below_drewN | apply below_drew1) | exact HB.out)))); have n1_ := Aside0.mk (below_step (by repeat (first | (with_reducible first | exact HB.out | apply below_alloc | apply pw_below_drewN | apply below_drew1) | exact HB.out)) hb); clear HB; have HO242 := n0_; have HB := n1_; clear n0_ n1_; (try clear hb); (try clear hb2); (try clear hk); (try clear hi); (try clear ho0); obtain ⟨Ao46, co46, eo46⟩ := Kd.R_slice HO242.out; subst eo46) | (go_at_call 13; (with_reducible refine (imageeditorlaw53_example.calls k  t243 _ ?side1 A44.out).mono ?_); (case side1 => exact GV.below hG (by repeat (first | (with_reducible first | exact HB.out | apply below_alloc | apply pw_below_drewN | apply below_drew1) | exact HB.out))); rintro e w47 ⟨rfl, hb⟩; have n0_ := Aside0.mk (Kd.R_below (by (with_reducible repeat (first | apply Kd.R_alloc | apply Kd.R_drewN | apply Kd.R_drew)); exact HO242.out) hb); have n1_ := Aside0.mk (below_step (by repeat (first | (with_reducible first | exact HB.out | apply below_alloc | apply pw_below_drewN | apply below_drew1) | exact HB.out)) hb); clear HO242; clear HB; have HO242 := n0_; have HB := n1_; clear n0_ n1_; (try clear hb); (try clear hb2); (try clear hk); (try clear hi))))
      go_ret
      exact ⟨by first | rfl | (simp [errW_none, errW_some] <;> rfl) | (simp [*, errW_none, errW_some] <;> rfl), by repeat (first | (with_reducible first | exact HB.out | apply below_alloc | apply pw_below_drewN | apply below_drew1) | exact HB.out)⟩
    · rw [if_neg c43] at H
      have c43b0 : ((t238.length : Int) == 0) = false := beq_eq_false_iff_ne.mpr c43
      have c43b1 : ((t238.length : Int) != 0) = true := bne_iff_ne.mpr c43
      have c43b2 : ¬ (t238 = []) := fun h_ => c43 (by rw [h_]; rfl)
      obtain rfl := Option.some.inj H
      go_enter Tryd.func4, Tryd.ntmps4
      go_wp2_with (first | (go_at_call 8; (with_reducible refine (lex_Tokens.calls k a0 t238 t239 t240 _ ?side1 A2.out).mono ?_); (case side1 => exact GV.below hG (by repeat (first | (with_reducible first | exact HB.out | apply below_alloc | apply pw_below_drewN | apply below_drew1) | exact HB.out))); rintro e w48 ⟨v241, rfl, ho0, hb⟩; have n0_ := Aside0.mk (Kd.R_lower ho0 (below_size (by repeat (first | (with_reducible first | exact HB.out | apply below_alloc | apply pw_below_drewN | apply below_drew1) | exact HB.out)))); have n1_ := Aside0.mk (below_step (by repeat (first | (with_reducible first | exact HB.out | apply below_alloc | apply pw_below_drewN | apply below_drew1) | exact HB.out)) hb); clear HB; have HO242 := n0_; have HB := n1_; clear n0_ n1_; (try clear hb); (try clear hb2); (try clear hk); (try clear hi); (try clear ho0); obtain ⟨Ao49, co49, eo49⟩ := Kd.R_slice HO242.out; subst eo49))
      repeat (go_quiet (first | (go_at_call 8; (with_reducible refine (lex_Tokens.calls k a0 t238 t239 t240 _ ?side1 A2.out).mono ?_); (case side1 => exact GV.below hG (by repeat (first | (with_reducible first | exact HB.out | apply below_alloc | apply pw_below_drewN | apply below_drew1) | exact HB.out))); rintro e w48 ⟨v241, rfl, ho0, hb⟩; have n0_ := Aside0.mk (Kd.R_lower ho0 (below_size (by repeat (first | (with_reducible first | exact HB.out | apply below_alloc | apply pw_below_drewN | apply below_drew1) | exact HB.out)))); have n1_ := Aside0.mk (below_step (by repeat (first | (with_reducible first | exact HB.out | apply below_alloc | apply pw_below_drewN | apply below_drew1) | exact HB.out)) hb); clear HB; have HO242 := n0_; have HB := n1_; clear n0_ n1_; (try clear hb); (try clear hb2); (try clear hk); (try clear hi); (try clear ho0); obtain ⟨Ao49, co49, eo49⟩ := Kd.R_slice HO242.out; subst eo49)); try go_wp2_with (first | (go_at_call 8; (with_reducible refine (lex_Tokens.calls k a0 t238 t239 t240 _ ?side1 A2.out).mono ?_); (case side1 => exact GV.below hG (by repeat (first | (with_reducible first | exact HB.out | apply below_alloc | apply pw_below_drewN | apply below_drew1) | exact HB.out))); rintro e w48 ⟨v241, rfl, ho0, hb⟩; have n0_ := Aside0.mk (Kd.R_lower ho0 (below_size (by repeat (first | (with_reducible first | exact HB.out | apply below_alloc | apply pw_below_drewN | apply below_drew1) | exact HB.out)))); have n1_ := Aside0.mk (below_step (by repeat (first | (with_reducible first | exact HB.out | apply below_alloc | apply pw_below_drewN | apply below_drew1) | exact HB.out)) hb); clear HB; have HO242 := n0_; have HB := n1_; clear n0_ n1_; (try clear hb); (try clear hb2); (try clear hk); (try clear hi); (try clear ho0); obtain ⟨Ao49, co49, eo49⟩ := Kd.R_slice HO242.out; subst eo49)))
      go_ret
      exact ⟨by first | rfl | (simp [errW_none, errW_some] <;> rfl) | (simp [*, errW_none, errW_some] <;> rfl), by repeat (first | (with_reducible first | exact HB.out | apply below_alloc | apply pw_below_drewN | apply below_drew1) | exact HB.out)⟩

/-- THE ONE PURE STATEMENT of imageeditorlaw53_LexPlaces: yours. -/
def imageeditorlaw53_LexPlaces.Pure : Prop := ∀ (a0 : ByteArray), a0.size ≤ 140737488351232 → ∃ k, imageeditorlaw53_LexPlaces.f k a0 = some true
theorem imageeditorlaw53_LexPlaces.walk (P : imageeditorlaw53_LexPlaces.Pure) (a0 : ByteArray) (w : World) (w0 : a0.size ≤ 140737488351232) (hG : GV w) :
    Calls Tryd.prog 4 #[.string a0] w fun e w' => e = .returned (.bool true) ∧ Below w.heap.size w w' := by
  obtain ⟨k, h⟩ := P a0 w0
  refine (imageeditorlaw53_LexPlaces.calls k a0 true w hG h).mono ?_
  rintro e w' ⟨rfl, hd⟩
  exact ⟨rfl, hd⟩

end Go.Proofs.YtflmpgepboldfaaDoor.G
