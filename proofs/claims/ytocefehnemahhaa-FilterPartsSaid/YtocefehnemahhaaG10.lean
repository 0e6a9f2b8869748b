-- laid by gprint.py (a program of this proof's writer) out of the translation; Lean checks it.
import Derived.Test.YtocefehnemahhaaG0
import Derived.Test.YtocefehnemahhaaG6
import Derived.Test.YtocefehnemahhaaG7
import Derived.Test.YtocefehnemahhaaG8
import Derived.Test.YtocefehnemahhaaG9
namespace Go.Proofs.Ytocefehnemahhaa.G
open Go.RowKit Go.Proofs.YtocefehnemahhaaW.PrintWords Go.Proofs.YtocefehnemahhaaW.PrintLast Go.Proofs.YtocefehnemahhaaW.PrintMore
attribute [local go_sem] max2_int min2_int max_two min_two max_three min_three max_four min_four   -- for this text's walks alone
set_option linter.unusedVariables false
set_option linter.unusedSimpArgs false

/-! ### filter_view_filtered: function 39: proved by hand -/
set_option maxHeartbeats 8000000 in
set_option maxRecDepth 100000 in
theorem filtered_1 (k : Nat) (a0_0 a0_1 : Int) (A0_2 : Option Addr) (c0_2 : Nat) (l0_2 : List (S51)) (a0_3 a0_4 a0_5 a0_6 a0_7 a0_8 a0_9 a0_10 : Int) (A2 : Option Addr) (c2 : Nat) (l2 : List Int) (r1 r2 r3 r4 : Int) (l : List S51) (w : World) (hr0_2 : Kd.C k51 w A0_2 l0_2.length l0_2) (hc0_2 : l0_2.length ≤ c0_2) (hr2 : Kd.C (Kd.int .i64) w A2 l2.length l2) (hl : 0 < (l2.length : Int)) (e1 : filter_view_square.f k a0_0 a0_1 l0_2 a0_3 a0_4 a0_5 a0_6 a0_7 a0_8 a0_9 a0_10 (rd l2 0) = some l) (e2 : filter_mean.f k l = some (r1, r2, r3, r4)) :
  Calls Try.prog 39 #[.agg #[.int .i64 a0_0, .int .i64 a0_1, .slice A0_2 l0_2.length c0_2, .int .i64 a0_3, .int .i64 a0_4, .int .i64 a0_5, .int .i64 a0_6, .int .i64 a0_7, .int .i64 a0_8, .int .i64 a0_9, .int .i64 a0_10], .int .i64 1, .slice A2 l2.length c2] w fun e w' => e = .returned (.agg #[.int .i64 r1, .int .i64 r2, .int .i64 r3, .int .i64 r4]) ∧ Below w.heap.size w w' := by
 have hu71 := Try.underlying71
 have hu51 := Try.underlying51
 have hu22 := Try.underlying22
 have HB := am (Below.refl w.heap.size w)
 obtain ⟨ad, e9, hx0⟩ := Kd.at_int hr2 0 (by omega) (by omega)
 subst e9
 have q0 : (0 < l2.length) = True := eq_true (by omega)
 have q0' : ((0 : Int) < (l2.length : Int)) = True := eq_true (by omega)
 replace hx0 : w.cell? ad = some (.int .i64 (rd l2 0)) := by simpa [Addr.add, Addr.add_zero'] using hx0
 go_enter Try.func39, Try.ntmps39
 go_wp2_with (first
  | ((with_reducible refine gate_dst (N := 3) rfl ?_); refine boxE (N := 3) #[.int .i64 a0_0, .int .i64 a0_1, .slice A0_2 (l0_2.length) c0_2, .int .i64 a0_3, .int .i64 a0_4, .int .i64 a0_5, .int .i64 a0_6, .int .i64 a0_7, .int .i64 a0_8, .int .i64 a0_9, .int .i64 a0_10] 71 ?_; intro g3 hg w1 hx hb; have z_g3 := zB hg HB; replace HB := hh HB hb; have B_g3 := am hx; clear hx hb hg)
  | ((with_reducible refine gate_dst (N := 6) rfl ?_); refine boxE (N := 6) #[.int .i64 0, .int .i64 0, .int .i64 0, .int .i64 0] 51 ?_; intro g6 hg w2 hx hb; have l_g3_g6 := lB hg B_g3; have z_g6 := zB hg HB; replace B_g3 := bb B_g3 hb; replace HB := hh HB hb; have B_g6 := am hx; clear hx hb hg))
 refine region_inv (fun f a w' => ∃ (u_l : Value), a = { tmps := #[.agg #[.int .i64 a0_0, .int .i64 a0_1, .slice A0_2 (l0_2.length) c0_2, .int .i64 a0_3, .int .i64 a0_4, .int .i64 a0_5, .int .i64 a0_6, .int .i64 a0_7, .int .i64 a0_8, .int .i64 a0_9, .int .i64 a0_10], .int .i64 1, .slice (some ad) (l2.length) c2, .pointer (some ⟨g3, 0, none⟩), undef, undef, .pointer (some ⟨g6, 0, none⟩), undef, .int .i64 1, .bool true, .bool true, sel (f 0) (.agg #[.int .i64 a0_0, .int .i64 a0_1, .slice A0_2 (l0_2.length) c0_2, .int .i64 a0_3, .int .i64 a0_4, .int .i64 a0_5, .int .i64 a0_6, .int .i64 a0_7, .int .i64 a0_8, .int .i64 a0_9, .int .i64 a0_10]), sel (f 1) (.slice (some ad) (l2.length) c2), sel (f 2) (.pointer (some ad)), sel (f 3) (.int .i64 (rd l2 0)), sel (f 4) u_l, sel (f 5) (.agg #[.int .i64 r1, .int .i64 r2, .int .i64 r3, .int .i64 r4]), undef, undef, undef, undef, undef, undef, undef, undef, undef, undef, undef, undef, undef, undef, undef, undef, undef, undef, undef, undef, undef, undef, undef, undef, undef, undef, undef, undef, undef, undef, undef, undef, undef, undef, undef, undef, undef, undef, undef, undef, undef, undef, undef, undef, undef, undef, undef, undef, undef, undef, undef, undef, undef, undef, undef, undef, undef, undef, undef, undef, undef, undef, undef, undef, undef, undef, undef, undef, undef, undef, undef, undef, undef, undef, undef, undef, undef, undef, undef, undef, undef, undef, undef], defers := [] } ∧ Below w.heap.size w w' ∧ w'.heap[g3]? = some (.cells #[.int .i64 a0_0, .int .i64 a0_1, .slice A0_2 (l0_2.length) c0_2, .int .i64 a0_3, .int .i64 a0_4, .int .i64 a0_5, .int .i64 a0_6, .int .i64 a0_7, .int .i64 a0_8, .int .i64 a0_9, .int .i64 a0_10] 71 (0, 0)) ∧ w'.heap[g6]? = some (.cells (if f 6 = true then #[.int .i64 r1, .int .i64 r2, .int .i64 r3, .int .i64 r4] else #[.int .i64 0, .int .i64 0, .int .i64 0, .int .i64 0]) 51 (0, 0)) ∧ (f 4 = true → f 6 = false → ∃ A c, u_l = .slice A l.length c ∧ l.length ≤ c ∧ Kd.C k51 w' A l.length l) ∧ (f 6 = true → f 5 = true)) (by kernel_rfl) (by kernel_rfl) ?start ?fin ?steps
 case start => exact ⟨undef, rfl, HB.out.drew, blk_drew B_g3.out, blk_drew B_g6.out, by simp, by simp⟩
 case steps =>
  clear HB B_g3 B_g6
  refine ⟨?o0, ?o1, ?o2, ?o3, ?o4, ?o5, ?o6, trivial⟩
  case o0 =>
   rintro f a w' ⟨u_l, rfl, HB, k_g3, k_g6, c_l, s_6_5⟩ hf hd K hK
   have hz := blk_cell k_g3
   exact valE (N := some 11) (.agg #[.int .i64 a0_0, .int .i64 a0_1, .slice A0_2 (l0_2.length) c0_2, .int .i64 a0_3, .int .i64 a0_4, .int .i64 a0_5, .int .i64 a0_6, .int .i64 a0_7, .int .i64 a0_8, .int .i64 a0_9, .int .i64 a0_10]) (hK _ _ ⟨u_l, rfl, HB, k_g3, k_g6, c_l, s_6_5⟩)
  case o1 =>
   rintro f a w' ⟨u_l, rfl, HB, k_g3, k_g6, c_l, s_6_5⟩ hf hd K hK
   exact valE (N := some 12) (.slice (some ad) (l2.length) c2) (hK _ _ ⟨u_l, rfl, HB, k_g3, k_g6, c_l, s_6_5⟩)
  case o2 =>
   rintro f a w' ⟨u_l, rfl, HB, k_g3, k_g6, c_l, s_6_5⟩ hf hd K hK
   have e1 := hd 1 (by kernel_rfl)
   rw [e1]
   repeat rw [sel_true]
   exact valE (N := some 13) (.pointer (some ad)) (hK _ _ ⟨u_l, (by simp [Act.put, upd, sel_true, e1]), HB, k_g3, k_g6, c_l, s_6_5⟩)
  case o3 =>
   rintro f a w' ⟨u_l, rfl, HB, k_g3, k_g6, c_l, s_6_5⟩ hf hd K hK
   have e2 := hd 2 (by kernel_rfl)
   rw [e2]
   repeat rw [sel_true]
   have hz0 := (HB.cell (World.block_lt_of_cell? w _ hx0)).trans hx0
   exact valE (N := some 14) (.int .i64 (rd l2 0)) (hK _ _ ⟨u_l, (by simp [Act.put, upd, sel_true, e2]), HB, k_g3, k_g6, c_l, s_6_5⟩)
  case o4 =>
   rintro f a w' ⟨u_l, rfl, HB, k_g3, k_g6, c_l, s_6_5⟩ hf hd K hK
   have e0 := hd 0 (by kernel_rfl)
   have e3 := hd 3 (by kernel_rfl)
   rw [e0, e3]
   repeat rw [sel_true]
   refine goesD (N := some 15) Try.func52 #[.agg #[.int .i64 a0_0, .int .i64 a0_1, .slice A0_2 (l0_2.length) c0_2, .int .i64 a0_3, .int .i64 a0_4, .int .i64 a0_5, .int .i64 a0_6, .int .i64 a0_7, .int .i64 a0_8, .int .i64 a0_9, .int .i64 a0_10], .int .i64 (rd l2 0)] ?_
   refine (filter_view_square.calls k _ _ _ _ _ _ _ _ _ _ _ _ _ (rd l2 0) l _ (Kd.C_below hr0_2 HB) hc0_2 e1).mono ?_
   rintro e w1 ⟨v9, rfl, hR, hb⟩
   exact ⟨_, rfl, hK _ _ ⟨v9, (by simp [Act.put, upd, sel_true, e0, e3]), below_step HB hb, blk_below k_g3 hb, blk_below k_g6 hb, fun _ _ => Kd.R_reads hR, s_6_5⟩⟩
  case o5 =>
   rintro f a w' ⟨u_l, rfl, HB, k_g3, k_g6, c_l, s_6_5⟩ hf hd K hK
   have e4 := hd 4 (by kernel_rfl)
   rw [e4]
   repeat rw [sel_true]
   have h6 : f 6 = false := by cases h : f 6 with | false => rfl | true => rw [s_6_5 h] at hf; cases hf
   obtain ⟨A_l, c__l, rfl, q2_l, q3_l⟩ := c_l e4 h6
   refine goesD (N := some 16) Try.func51 #[.slice A_l l.length c__l] ?_
   refine (filter_mean.calls k _ _ l r1 r2 r3 r4 _ q3_l q2_l e2).mono ?_
   rintro e w1 ⟨rfl, hb⟩
   exact ⟨_, rfl, hK _ _ ⟨.slice A_l l.length c__l, (by simp [Act.put, upd, sel_true, e4]), below_step HB hb, blk_below k_g3 hb, blk_below k_g6 hb, fun t t6 => ⟨A_l, c__l, rfl, q2_l, Kd.C_below q3_l hb⟩, fun _ => rfl⟩⟩
  case o6 =>
   rintro f a w' ⟨u_l, rfl, HB, k_g3, k_g6, c_l, s_6_5⟩ hf hd K hK
   have e5 := hd 5 (by kernel_rfl)
   rw [e5]
   repeat rw [sel_true]
   have kk := k_g6
   have zz : w.heap.size ≤ g6 := z_g6
   rw [hf, if_neg (by decide)] at kk
   have hz := blk_cell kk
   have hz' := blk_frozen kk
   exact skipE (w1 := (sets w' g6 0 [.int .i64 r1, .int .i64 r2, .int .i64 r3, .int .i64 r4])) (hK _ _ ⟨u_l, (by simp [Act.put, upd, sel_true, e5]), hS0 HB zz, fS0 k_g3 (Nat.ne_of_lt l_g3_g6), pS0 #[.int .i64 r1, .int .i64 r2, .int .i64 r3, .int .i64 r4] kk, (fun _ t6 => by cases t6), fun _ => hd 5 (by kernel_rfl)⟩)
 case fin =>
  clear HB B_g3 B_g6
  rintro f a w' hall ⟨u_l, rfl, HB, k_g3, k_g6, c_l, s_6_5⟩
  have h0 := hall 0 (by decide)
  have h1 := hall 1 (by decide)
  have h2 := hall 2 (by decide)
  have h3 := hall 3 (by decide)
  have h4 := hall 4 (by decide)
  have h5 := hall 5 (by decide)
  have h6 := hall 6 (by decide)
  rw [if_pos h6] at k_g6
  rw [h0, h1, h2, h3, h4, h5]
  simp only [sel_true]
  replace HB := am HB
  have B_g3 := am k_g3
  have B_g6 := am k_g6
  clear hall h0 h1 h2 h3 h4 h5 h6 k_g3 k_g6
  (try clear s_6_5 c_l f)
  go_wp2
  refine bodyPost_ret (results_cell_row rfl _ _ g6 51 #[.int .i64 r1, .int .i64 r2, .int .i64 r3, .int .i64 r4] (0, 0) _ rfl B_g6.out Try.underlying51 rfl (by kernel_rfl)) rfl ?_
  exact ⟨rfl, HB.out⟩
set_option maxHeartbeats 8000000 in
set_option maxRecDepth 100000 in
theorem filtered_2 (k : Nat) (a0_0 a0_1 : Int) (A0_2 : Option Addr) (c0_2 : Nat) (l0_2 : List (S51)) (a0_3 a0_4 a0_5 a0_6 a0_7 a0_8 a0_9 a0_10 : Int) (A2 : Option Addr) (c2 : Nat) (l2 : List Int) (r1 r2 r3 r4 : Int)  (w : World) (hr0_2 : Kd.C k51 w A0_2 l0_2.length l0_2) (hc0_2 : l0_2.length ≤ c0_2) (hr2 : Kd.C (Kd.int .i64) w A2 l2.length l2) (hl : 0 < (l2.length : Int)) (e1 : filter_view_gauss.f k a0_0 a0_1 l0_2 a0_3 a0_4 a0_5 a0_6 a0_7 a0_8 a0_9 a0_10 (rd l2 0) = some (r1, r2, r3, r4)) :
  Calls Try.prog 39 #[.agg #[.int .i64 a0_0, .int .i64 a0_1, .slice A0_2 l0_2.length c0_2, .int .i64 a0_3, .int .i64 a0_4, .int .i64 a0_5, .int .i64 a0_6, .int .i64 a0_7, .int .i64 a0_8, .int .i64 a0_9, .int .i64 a0_10], .int .i64 2, .slice A2 l2.length c2] w fun e w' => e = .returned (.agg #[.int .i64 r1, .int .i64 r2, .int .i64 r3, .int .i64 r4]) ∧ Below w.heap.size w w' := by
 have hu71 := Try.underlying71
 have hu51 := Try.underlying51
 have hu22 := Try.underlying22
 have HB := am (Below.refl w.heap.size w)
 obtain ⟨ad, e9, hx0⟩ := Kd.at_int hr2 0 (by omega) (by omega)
 subst e9
 have q0 : (0 < l2.length) = True := eq_true (by omega)
 have q0' : ((0 : Int) < (l2.length : Int)) = True := eq_true (by omega)
 replace hx0 : w.cell? ad = some (.int .i64 (rd l2 0)) := by simpa [Addr.add, Addr.add_zero'] using hx0
 go_enter Try.func39, Try.ntmps39
 go_wp2_with (first
  | ((with_reducible refine gate_dst (N := 3) rfl ?_); refine boxE (N := 3) #[.int .i64 a0_0, .int .i64 a0_1, .slice A0_2 (l0_2.length) c0_2, .int .i64 a0_3, .int .i64 a0_4, .int .i64 a0_5, .int .i64 a0_6, .int .i64 a0_7, .int .i64 a0_8, .int .i64 a0_9, .int .i64 a0_10] 71 ?_; intro g3 hg w1 hx hb; have z_g3 := zB hg HB; replace HB := hh HB hb; have B_g3 := am hx; clear hx hb hg)
  | ((with_reducible refine gate_dst (N := 6) rfl ?_); refine boxE (N := 6) #[.int .i64 0, .int .i64 0, .int .i64 0, .int .i64 0] 51 ?_; intro g6 hg w2 hx hb; have l_g3_g6 := lB hg B_g3; have z_g6 := zB hg HB; replace B_g3 := bb B_g3 hb; replace HB := hh HB hb; have B_g6 := am hx; clear hx hb hg))
 refine region_inv (fun f a w' => a = { tmps := #[.agg #[.int .i64 a0_0, .int .i64 a0_1, .slice A0_2 (l0_2.length) c0_2, .int .i64 a0_3, .int .i64 a0_4, .int .i64 a0_5, .int .i64 a0_6, .int .i64 a0_7, .int .i64 a0_8, .int .i64 a0_9, .int .i64 a0_10], .int .i64 2, .slice (some ad) (l2.length) c2, .pointer (some ⟨g3, 0, none⟩), undef, undef, .pointer (some ⟨g6, 0, none⟩), undef, .int .i64 2, .bool false, .bool false, undef, undef, undef, undef, undef, undef, .bool true, .bool true, sel (f 0) (.agg #[.int .i64 a0_0, .int .i64 a0_1, .slice A0_2 (l0_2.length) c0_2, .int .i64 a0_3, .int .i64 a0_4, .int .i64 a0_5, .int .i64 a0_6, .int .i64 a0_7, .int .i64 a0_8, .int .i64 a0_9, .int .i64 a0_10]), sel (f 1) (.slice (some ad) (l2.length) c2), sel (f 2) (.pointer (some ad)), sel (f 3) (.int .i64 (rd l2 0)), sel (f 4) (.agg #[.int .i64 r1, .int .i64 r2, .int .i64 r3, .int .i64 r4]), undef, undef, undef, undef, undef, undef, undef, undef, undef, undef, undef, undef, undef, undef, undef, undef, undef, undef, undef, undef, undef, undef, undef, undef, undef, undef, undef, undef, undef, undef, undef, undef, undef, undef, undef, undef, undef, undef, undef, undef, undef, undef, undef, undef, undef, undef, undef, undef, undef, undef, undef, undef, undef, undef, undef, undef, undef, undef, undef, undef, undef, undef, undef, undef, undef, undef, undef, undef, undef, undef, undef, undef, undef, undef, undef, undef], defers := [] } ∧ Below w.heap.size w w' ∧ w'.heap[g3]? = some (.cells #[.int .i64 a0_0, .int .i64 a0_1, .slice A0_2 (l0_2.length) c0_2, .int .i64 a0_3, .int .i64 a0_4, .int .i64 a0_5, .int .i64 a0_6, .int .i64 a0_7, .int .i64 a0_8, .int .i64 a0_9, .int .i64 a0_10] 71 (0, 0)) ∧ w'.heap[g6]? = some (.cells (if f 5 = true then #[.int .i64 r1, .int .i64 r2, .int .i64 r3, .int .i64 r4] else #[.int .i64 0, .int .i64 0, .int .i64 0, .int .i64 0]) 51 (0, 0))) (by kernel_rfl) (by kernel_rfl) ?start ?fin ?steps
 case start => exact ⟨rfl, HB.out.drew, blk_drew B_g3.out, blk_drew B_g6.out⟩
 case steps =>
  clear HB B_g3 B_g6
  refine ⟨?o0, ?o1, ?o2, ?o3, ?o4, ?o5, trivial⟩
  case o0 =>
   rintro f a w' ⟨rfl, HB, k_g3, k_g6⟩ hf hd K hK
   have hz := blk_cell k_g3
   exact valE (N := some 19) (.agg #[.int .i64 a0_0, .int .i64 a0_1, .slice A0_2 (l0_2.length) c0_2, .int .i64 a0_3, .int .i64 a0_4, .int .i64 a0_5, .int .i64 a0_6, .int .i64 a0_7, .int .i64 a0_8, .int .i64 a0_9, .int .i64 a0_10]) (hK _ _ ⟨rfl, HB, k_g3, k_g6⟩)
  case o1 =>
   rintro f a w' ⟨rfl, HB, k_g3, k_g6⟩ hf hd K hK
   exact valE (N := some 20) (.slice (some ad) (l2.length) c2) (hK _ _ ⟨rfl, HB, k_g3, k_g6⟩)
  case o2 =>
   rintro f a w' ⟨rfl, HB, k_g3, k_g6⟩ hf hd K hK
   have e1 := hd 1 (by kernel_rfl)
   rw [e1]
   repeat rw [sel_true]
   exact valE (N := some 21) (.pointer (some ad)) (hK _ _ ⟨(by simp [Act.put, upd, sel_true, e1]), HB, k_g3, k_g6⟩)
  case o3 =>
   rintro f a w' ⟨rfl, HB, k_g3, k_g6⟩ hf hd K hK
   have e2 := hd 2 (by kernel_rfl)
   rw [e2]
   repeat rw [sel_true]
   have hz0 := (HB.cell (World.block_lt_of_cell? w _ hx0)).trans hx0
   exact valE (N := some 22) (.int .i64 (rd l2 0)) (hK _ _ ⟨(by simp [Act.put, upd, sel_true, e2]), HB, k_g3, k_g6⟩)
  case o4 =>
   rintro f a w' ⟨rfl, HB, k_g3, k_g6⟩ hf hd K hK
   have e0 := hd 0 (by kernel_rfl)
   have e3 := hd 3 (by kernel_rfl)
   rw [e0, e3]
   repeat rw [sel_true]
   refine goesD (N := some 23) Try.func53 #[.agg #[.int .i64 a0_0, .int .i64 a0_1, .slice A0_2 (l0_2.length) c0_2, .int .i64 a0_3, .int .i64 a0_4, .int .i64 a0_5, .int .i64 a0_6, .int .i64 a0_7, .int .i64 a0_8, .int .i64 a0_9, .int .i64 a0_10], .int .i64 (rd l2 0)] ?_
   refine (filter_view_gauss.calls k _ _ _ _ _ _ _ _ _ _ _ _ _ (rd l2 0) r1 r2 r3 r4 _ (Kd.C_below hr0_2 HB) hc0_2 e1).mono ?_
   rintro e w1 ⟨rfl, hb⟩
   exact ⟨_, rfl, hK _ _ ⟨(by simp [Act.put, upd, sel_true, e0, e3]), below_step HB hb, blk_below k_g3 hb, blk_below k_g6 hb⟩⟩
  case o5 =>
   rintro f a w' ⟨rfl, HB, k_g3, k_g6⟩ hf hd K hK
   have e4 := hd 4 (by kernel_rfl)
   rw [e4]
   repeat rw [sel_true]
   have kk := k_g6
   have zz : w.heap.size ≤ g6 := z_g6
   rw [hf, if_neg (by decide)] at kk
   have hz := blk_cell kk
   have hz' := blk_frozen kk
   exact skipE (w1 := (sets w' g6 0 [.int .i64 r1, .int .i64 r2, .int .i64 r3, .int .i64 r4])) (hK _ _ ⟨(by simp [Act.put, upd, sel_true, e4]), hS0 HB zz, fS0 k_g3 (Nat.ne_of_lt l_g3_g6), pS0 #[.int .i64 r1, .int .i64 r2, .int .i64 r3, .int .i64 r4] kk⟩)
 case fin =>
  clear HB B_g3 B_g6
  rintro f a w' hall ⟨rfl, HB, k_g3, k_g6⟩
  have h0 := hall 0 (by decide)
  have h1 := hall 1 (by decide)
  have h2 := hall 2 (by decide)
  have h3 := hall 3 (by decide)
  have h4 := hall 4 (by decide)
  have h5 := hall 5 (by decide)
  rw [if_pos h5] at k_g6
  rw [h0, h1, h2, h3, h4]
  simp only [sel_true]
  replace HB := am HB
  have B_g3 := am k_g3
  have B_g6 := am k_g6
  clear hall h0 h1 h2 h3 h4 h5 k_g3 k_g6
  (try clear f)
  go_wp2
  refine bodyPost_ret (results_cell_row rfl _ _ g6 51 #[.int .i64 r1, .int .i64 r2, .int .i64 r3, .int .i64 r4] (0, 0) _ rfl B_g6.out Try.underlying51 rfl (by kernel_rfl)) rfl ?_
  exact ⟨rfl, HB.out⟩
set_option maxHeartbeats 8000000 in
set_option maxRecDepth 100000 in
theorem filtered_3 (k : Nat) (a0_0 a0_1 : Int) (A0_2 : Option Addr) (c0_2 : Nat) (l0_2 : List (S51)) (a0_3 a0_4 a0_5 a0_6 a0_7 a0_8 a0_9 a0_10 : Int) (A2 : Option Addr) (c2 : Nat) (l2 : List Int) (r1 r2 r3 r4 : Int)  (w : World) (hr0_2 : Kd.C k51 w A0_2 l0_2.length l0_2) (hc0_2 : l0_2.length ≤ c0_2) (hr2 : Kd.C (Kd.int .i64) w A2 l2.length l2) (hl : 1 < (l2.length : Int)) (e1 : filter_view_sharpen.f k a0_0 a0_1 l0_2 a0_3 a0_4 a0_5 a0_6 a0_7 a0_8 a0_9 a0_10 (rd l2 0) (rd l2 1) = some (r1, r2, r3, r4)) :
  Calls Try.prog 39 #[.agg #[.int .i64 a0_0, .int .i64 a0_1, .slice A0_2 l0_2.length c0_2, .int .i64 a0_3, .int .i64 a0_4, .int .i64 a0_5, .int .i64 a0_6, .int .i64 a0_7, .int .i64 a0_8, .int .i64 a0_9, .int .i64 a0_10], .int .i64 3, .slice A2 l2.length c2] w fun e w' => e = .returned (.agg #[.int .i64 r1, .int .i64 r2, .int .i64 r3, .int .i64 r4]) ∧ Below w.heap.size w w' := by
 have hu71 := Try.underlying71
 have hu51 := Try.underlying51
 have hu22 := Try.underlying22
 have HB := am (Below.refl w.heap.size w)
 obtain ⟨ad, e9, hx0⟩ := Kd.at_int hr2 0 (by omega) (by omega)
 subst e9
 have q0 : (0 < l2.length) = True := eq_true (by omega)
 have q0' : ((0 : Int) < (l2.length : Int)) = True := eq_true (by omega)
 replace hx0 : w.cell? ad = some (.int .i64 (rd l2 0)) := by simpa [Addr.add, Addr.add_zero'] using hx0
 obtain ⟨ad', e9, hx1⟩ := Kd.at_int hr2 1 (by omega) (by omega)
 obtain rfl := Option.some.inj e9
 have q1 : (1 < l2.length) = True := eq_true (by omega)
 have q1' : ((1 : Int) < (l2.length : Int)) = True := eq_true (by omega)
 replace hx1 : w.cell? ⟨ad.block, ad.off + 1, none⟩ = some (.int .i64 (rd l2 1)) := by simpa [Addr.add, Addr.add_zero'] using hx1
 go_enter Try.func39, Try.ntmps39
 go_wp2_with (first
  | ((with_reducible refine gate_dst (N := 3) rfl ?_); refine boxE (N := 3) #[.int .i64 a0_0, .int .i64 a0_1, .slice A0_2 (l0_2.length) c0_2, .int .i64 a0_3, .int .i64 a0_4, .int .i64 a0_5, .int .i64 a0_6, .int .i64 a0_7, .int .i64 a0_8, .int .i64 a0_9, .int .i64 a0_10] 71 ?_; intro g3 hg w1 hx hb; have z_g3 := zB hg HB; replace HB := hh HB hb; have B_g3 := am hx; clear hx hb hg)
  | ((with_reducible refine gate_dst (N := 6) rfl ?_); refine boxE (N := 6) #[.int .i64 0, .int .i64 0, .int .i64 0, .int .i64 0] 51 ?_; intro g6 hg w2 hx hb; have l_g3_g6 := lB hg B_g3; have z_g6 := zB hg HB; replace B_g3 := bb B_g3 hb; replace HB := hh HB hb; have B_g6 := am hx; clear hx hb hg))
 refine region_inv (fun f a w' => a = { tmps := #[.agg #[.int .i64 a0_0, .int .i64 a0_1, .slice A0_2 (l0_2.length) c0_2, .int .i64 a0_3, .int .i64 a0_4, .int .i64 a0_5, .int .i64 a0_6, .int .i64 a0_7, .int .i64 a0_8, .int .i64 a0_9, .int .i64 a0_10], .int .i64 3, .slice (some ad) (l2.length) c2, .pointer (some ⟨g3, 0, none⟩), undef, undef, .pointer (some ⟨g6, 0, none⟩), undef, .int .i64 3, .bool false, .bool false, undef, undef, undef, undef, undef, undef, .bool false, .bool false, undef, undef, undef, undef, undef, .bool true, .bool true, sel (f 0) (.agg #[.int .i64 a0_0, .int .i64 a0_1, .slice A0_2 (l0_2.length) c0_2, .int .i64 a0_3, .int .i64 a0_4, .int .i64 a0_5, .int .i64 a0_6, .int .i64 a0_7, .int .i64 a0_8, .int .i64 a0_9, .int .i64 a0_10]), sel (f 1) (.slice (some ad) (l2.length) c2), sel (f 2) (.pointer (some ad)), sel (f 3) (.int .i64 (rd l2 0)), sel (f 4) (.slice (some ad) (l2.length) c2), sel (f 5) (.pointer (some (⟨ad.block, ad.off + 1, none⟩))), sel (f 6) (.int .i64 (rd l2 1)), sel (f 7) (.agg #[.int .i64 r1, .int .i64 r2, .int .i64 r3, .int .i64 r4]), undef, undef, undef, undef, undef, undef, undef, undef, undef, undef, undef, undef, undef, undef, undef, undef, undef, undef, undef, undef, undef, undef, undef, undef, undef, undef, undef, undef, undef, undef, undef, undef, undef, undef, undef, undef, undef, undef, undef, undef, undef, undef, undef, undef, undef, undef, undef, undef, undef, undef, undef, undef, undef, undef, undef, undef, undef, undef, undef, undef, undef, undef, undef, undef, undef, undef], defers := [] } ∧ Below w.heap.size w w' ∧ w'.heap[g3]? = some (.cells #[.int .i64 a0_0, .int .i64 a0_1, .slice A0_2 (l0_2.length) c0_2, .int .i64 a0_3, .int .i64 a0_4, .int .i64 a0_5, .int .i64 a0_6, .int .i64 a0_7, .int .i64 a0_8, .int .i64 a0_9, .int .i64 a0_10] 71 (0, 0)) ∧ w'.heap[g6]? = some (.cells (if f 8 = true then #[.int .i64 r1, .int .i64 r2, .int .i64 r3, .int .i64 r4] else #[.int .i64 0, .int .i64 0, .int .i64 0, .int .i64 0]) 51 (0, 0))) (by kernel_rfl) (by kernel_rfl) ?start ?fin ?steps
 case start => exact ⟨rfl, HB.out.drew, blk_drew B_g3.out, blk_drew B_g6.out⟩
 case steps =>
  clear HB B_g3 B_g6
  refine ⟨?o0, ?o1, ?o2, ?o3, ?o4, ?o5, ?o6, ?o7, ?o8, trivial⟩
  case o0 =>
   rintro f a w' ⟨rfl, HB, k_g3, k_g6⟩ hf hd K hK
   have hz := blk_cell k_g3
   exact valE (N := some 26) (.agg #[.int .i64 a0_0, .int .i64 a0_1, .slice A0_2 (l0_2.length) c0_2, .int .i64 a0_3, .int .i64 a0_4, .int .i64 a0_5, .int .i64 a0_6, .int .i64 a0_7, .int .i64 a0_8, .int .i64 a0_9, .int .i64 a0_10]) (hK _ _ ⟨rfl, HB, k_g3, k_g6⟩)
  case o1 =>
   rintro f a w' ⟨rfl, HB, k_g3, k_g6⟩ hf hd K hK
   exact valE (N := some 27) (.slice (some ad) (l2.length) c2) (hK _ _ ⟨rfl, HB, k_g3, k_g6⟩)
  case o2 =>
   rintro f a w' ⟨rfl, HB, k_g3, k_g6⟩ hf hd K hK
   have e1 := hd 1 (by kernel_rfl)
   rw [e1]
   repeat rw [sel_true]
   exact valE (N := some 28) (.pointer (some ad)) (hK _ _ ⟨(by simp [Act.put, upd, sel_true, e1]), HB, k_g3, k_g6⟩)
  case o3 =>
   rintro f a w' ⟨rfl, HB, k_g3, k_g6⟩ hf hd K hK
   have e2 := hd 2 (by kernel_rfl)
   rw [e2]
   repeat rw [sel_true]
   have hz0 := (HB.cell (World.block_lt_of_cell? w _ hx0)).trans hx0
   exact valE (N := some 29) (.int .i64 (rd l2 0)) (hK _ _ ⟨(by simp [Act.put, upd, sel_true, e2]), HB, k_g3, k_g6⟩)
  case o4 =>
   rintro f a w' ⟨rfl, HB, k_g3, k_g6⟩ hf hd K hK
   exact valE (N := some 30) (.slice (some ad) (l2.length) c2) (hK _ _ ⟨rfl, HB, k_g3, k_g6⟩)
  case o5 =>
   rintro f a w' ⟨rfl, HB, k_g3, k_g6⟩ hf hd K hK
   have e4 := hd 4 (by kernel_rfl)
   rw [e4]
   repeat rw [sel_true]
   exact valE (N := some 31) (.pointer (some (⟨ad.block, ad.off + 1, none⟩))) (hK _ _ ⟨(by simp [Act.put, upd, sel_true, e4]), HB, k_g3, k_g6⟩)
  case o6 =>
   rintro f a w' ⟨rfl, HB, k_g3, k_g6⟩ hf hd K hK
   have e5 := hd 5 (by kernel_rfl)
   rw [e5]
   repeat rw [sel_true]
   have hz0 := (HB.cell (World.block_lt_of_cell? w _ hx1)).trans hx1
   exact valE (N := some 32) (.int .i64 (rd l2 1)) (hK _ _ ⟨(by simp [Act.put, upd, sel_true, e5]), HB, k_g3, k_g6⟩)
  case o7 =>
   rintro f a w' ⟨rfl, HB, k_g3, k_g6⟩ hf hd K hK
   have e0 := hd 0 (by kernel_rfl)
   have e3 := hd 3 (by kernel_rfl)
   have e6 := hd 6 (by kernel_rfl)
   rw [e0, e3, e6]
   repeat rw [sel_true]
   refine goesD (N := some 33) Try.func54 #[.agg #[.int .i64 a0_0, .int .i64 a0_1, .slice A0_2 (l0_2.length) c0_2, .int .i64 a0_3, .int .i64 a0_4, .int .i64 a0_5, .int .i64 a0_6, .int .i64 a0_7, .int .i64 a0_8, .int .i64 a0_9, .int .i64 a0_10], .int .i64 (rd l2 0), .int .i64 (rd l2 1)] ?_
   refine (filter_view_sharpen.calls k _ _ _ _ _ _ _ _ _ _ _ _ _ (rd l2 0) (rd l2 1) r1 r2 r3 r4 _ (Kd.C_below hr0_2 HB) hc0_2 e1).mono ?_
   rintro e w1 ⟨rfl, hb⟩
   exact ⟨_, rfl, hK _ _ ⟨(by simp [Act.put, upd, sel_true, e0, e3, e6]), below_step HB hb, blk_below k_g3 hb, blk_below k_g6 hb⟩⟩
  case o8 =>
   rintro f a w' ⟨rfl, HB, k_g3, k_g6⟩ hf hd K hK
   have e7 := hd 7 (by kernel_rfl)
   rw [e7]
   repeat rw [sel_true]
   have kk := k_g6
   have zz : w.heap.size ≤ g6 := z_g6
   rw [hf, if_neg (by decide)] at kk
   have hz := blk_cell kk
   have hz' := blk_frozen kk
   exact skipE (w1 := (sets w' g6 0 [.int .i64 r1, .int .i64 r2, .int .i64 r3, .int .i64 r4])) (hK _ _ ⟨(by simp [Act.put, upd, sel_true, e7]), hS0 HB zz, fS0 k_g3 (Nat.ne_of_lt l_g3_g6), pS0 #[.int .i64 r1, .int .i64 r2, .int .i64 r3, .int .i64 r4] kk⟩)
 case fin =>
  clear HB B_g3 B_g6
  rintro f a w' hall ⟨rfl, HB, k_g3, k_g6⟩
  have h0 := hall 0 (by decide)
  have h1 := hall 1 (by decide)
  have h2 := hall 2 (by decide)
  have h3 := hall 3 (by decide)
  have h4 := hall 4 (by decide)
  have h5 := hall 5 (by decide)
  have h6 := hall 6 (by decide)
  have h7 := hall 7 (by decide)
  have h8 := hall 8 (by decide)
  rw [if_pos h8] at k_g6
  rw [h0, h1, h2, h3, h4, h5, h6, h7]
  simp only [sel_true]
  replace HB := am HB
  have B_g3 := am k_g3
  have B_g6 := am k_g6
  clear hall h0 h1 h2 h3 h4 h5 h6 h7 h8 k_g3 k_g6
  (try clear f)
  go_wp2
  refine bodyPost_ret (results_cell_row rfl _ _ g6 51 #[.int .i64 r1, .int .i64 r2, .int .i64 r3, .int .i64 r4] (0, 0) _ rfl B_g6.out Try.underlying51 rfl (by kernel_rfl)) rfl ?_
  exact ⟨rfl, HB.out⟩
set_option maxHeartbeats 8000000 in
set_option maxRecDepth 100000 in
theorem filtered_5 (k : Nat) (a0_0 a0_1 : Int) (A0_2 : Option Addr) (c0_2 : Nat) (l0_2 : List (S51)) (a0_3 a0_4 a0_5 a0_6 a0_7 a0_8 a0_9 a0_10 : Int) (A2 : Option Addr) (c2 : Nat) (l2 : List Int) (r1 r2 r3 r4 : Int)  (w : World) (hr0_2 : Kd.C k51 w A0_2 l0_2.length l0_2) (hc0_2 : l0_2.length ≤ c0_2) (hr2 : Kd.C (Kd.int .i64) w A2 l2.length l2) (e1 : filter_view_edge.f k a0_0 a0_1 l0_2 a0_3 a0_4 a0_5 a0_6 a0_7 a0_8 a0_9 a0_10 = some (r1, r2, r3, r4)) :
  Calls Try.prog 39 #[.agg #[.int .i64 a0_0, .int .i64 a0_1, .slice A0_2 l0_2.length c0_2, .int .i64 a0_3, .int .i64 a0_4, .int .i64 a0_5, .int .i64 a0_6, .int .i64 a0_7, .int .i64 a0_8, .int .i64 a0_9, .int .i64 a0_10], .int .i64 5, .slice A2 l2.length c2] w fun e w' => e = .returned (.agg #[.int .i64 r1, .int .i64 r2, .int .i64 r3, .int .i64 r4]) ∧ Below w.heap.size w w' := by
 have hu71 := Try.underlying71
 have hu51 := Try.underlying51
 have hu22 := Try.underlying22
 have HB := am (Below.refl w.heap.size w)
 go_enter Try.func39, Try.ntmps39
 go_wp2_with (first
  | ((with_reducible refine gate_dst (N := 3) rfl ?_); refine boxE (N := 3) #[.int .i64 a0_0, .int .i64 a0_1, .slice A0_2 (l0_2.length) c0_2, .int .i64 a0_3, .int .i64 a0_4, .int .i64 a0_5, .int .i64 a0_6, .int .i64 a0_7, .int .i64 a0_8, .int .i64 a0_9, .int .i64 a0_10] 71 ?_; intro g3 hg w1 hx hb; have z_g3 := zB hg HB; replace HB := hh HB hb; have B_g3 := am hx; clear hx hb hg)
  | ((with_reducible refine gate_dst (N := 6) rfl ?_); refine boxE (N := 6) #[.int .i64 0, .int .i64 0, .int .i64 0, .int .i64 0] 51 ?_; intro g6 hg w2 hx hb; have l_g3_g6 := lB hg B_g3; have z_g6 := zB hg HB; replace B_g3 := bb B_g3 hb; replace HB := hh HB hb; have B_g6 := am hx; clear hx hb hg; have hz_g3 := blk_cell B_g3.out)
  | ((with_reducible refine gate_dst (N := 37) rfl ?_); refine goesE (N := some 37) Try.func55 #[.agg #[.int .i64 a0_0, .int .i64 a0_1, .slice A0_2 (l0_2.length) c0_2, .int .i64 a0_3, .int .i64 a0_4, .int .i64 a0_5, .int .i64 a0_6, .int .i64 a0_7, .int .i64 a0_8, .int .i64 a0_9, .int .i64 a0_10]] ?_; refine (filter_view_edge.calls k _ _ _ _ _ _ _ _ _ _ _ _ _  r1 r2 r3 r4 _ (Kd.C_below hr0_2 HB.out) hc0_2 e1).mono ?_; rintro e w3 ⟨rfl, hb⟩; refine ⟨_, rfl, ?_⟩; clear hz_g3; replace B_g3 := bb B_g3 hb; replace B_g6 := bb B_g6 hb; replace HB := hh HB hb; clear hb; have hf_g6 := blk_frozen B_g6.out; have hz_g6 := blk_cell B_g6.out)
  | ((with_reducible refine gate_store (t := 51) (p := 6) rfl ?_); refine storeE (t := 51) (p := 6) (sets w3 g6 0 [.int .i64 r1, .int .i64 r2, .int .i64 r3, .int .i64 r4]) ?_; intro w4 hw; replace B_g3 := fS hw B_g3 (Nat.ne_of_lt l_g3_g6); replace B_g6 := pS #[.int .i64 r1, .int .i64 r2, .int .i64 r3, .int .i64 r4] hw B_g6; replace HB := hS hw HB z_g6; clear hf_g6 hz_g6; clear hw))
 refine bodyPost_ret (results_cell_row rfl _ _ g6 51 #[.int .i64 r1, .int .i64 r2, .int .i64 r3, .int .i64 r4] (0, 0) _ rfl B_g6.out Try.underlying51 rfl (by kernel_rfl)) rfl ?_
 exact ⟨rfl, HB.out⟩
set_option maxHeartbeats 8000000 in
set_option maxRecDepth 100000 in
theorem filtered_6 (k : Nat) (a0_0 a0_1 : Int) (A0_2 : Option Addr) (c0_2 : Nat) (l0_2 : List (S51)) (a0_3 a0_4 a0_5 a0_6 a0_7 a0_8 a0_9 a0_10 : Int) (A2 : Option Addr) (c2 : Nat) (l2 : List Int) (r1 r2 r3 r4 : Int) (t1 t2 : Int) (w : World) (hr0_2 : Kd.C k51 w A0_2 l0_2.length l0_2) (hc0_2 : l0_2.length ≤ c0_2) (hr2 : Kd.C (Kd.int .i64) w A2 l2.length l2) (et1 : filter_view_luma.f k a0_0 a0_1 l0_2 a0_3 a0_4 a0_5 a0_6 a0_7 a0_8 a0_9 a0_10 1 1 = some t1) (et2 : filter_view_luma.f k a0_0 a0_1 l0_2 a0_3 a0_4 a0_5 a0_6 a0_7 a0_8 a0_9 a0_10 (-1) (-1) = some t2) (e1 : filter_view_gray.f a0_0 a0_1 l0_2 a0_3 a0_4 a0_5 a0_6 a0_7 a0_8 a0_9 a0_10 (wrap64 (wrap64 (32768 + t1) - t2)) = some (r1, r2, r3, r4)) :
  Calls Try.prog 39 #[.agg #[.int .i64 a0_0, .int .i64 a0_1, .slice A0_2 l0_2.length c0_2, .int .i64 a0_3, .int .i64 a0_4, .int .i64 a0_5, .int .i64 a0_6, .int .i64 a0_7, .int .i64 a0_8, .int .i64 a0_9, .int .i64 a0_10], .int .i64 6, .slice A2 l2.length c2] w fun e w' => e = .returned (.agg #[.int .i64 r1, .int .i64 r2, .int .i64 r3, .int .i64 r4]) ∧ Below w.heap.size w w' := by
 have hu71 := Try.underlying71
 have hu51 := Try.underlying51
 have hu22 := Try.underlying22
 have HB := am (Below.refl w.heap.size w)
 go_enter Try.func39, Try.ntmps39
 go_wp2_with (first
  | ((with_reducible refine gate_dst (N := 3) rfl ?_); refine boxE (N := 3) #[.int .i64 a0_0, .int .i64 a0_1, .slice A0_2 (l0_2.length) c0_2, .int .i64 a0_3, .int .i64 a0_4, .int .i64 a0_5, .int .i64 a0_6, .int .i64 a0_7, .int .i64 a0_8, .int .i64 a0_9, .int .i64 a0_10] 71 ?_; intro g3 hg w1 hx hb; have z_g3 := zB hg HB; replace HB := hh HB hb; have B_g3 := am hx; clear hx hb hg)
  | ((with_reducible refine gate_dst (N := 6) rfl ?_); refine boxE (N := 6) #[.int .i64 0, .int .i64 0, .int .i64 0, .int .i64 0] 51 ?_; intro g6 hg w2 hx hb; have l_g3_g6 := lB hg B_g3; have z_g6 := zB hg HB; replace B_g3 := bb B_g3 hb; replace HB := hh HB hb; have B_g6 := am hx; clear hx hb hg))
 refine region_inv (fun f a w' => a = { tmps := #[.agg #[.int .i64 a0_0, .int .i64 a0_1, .slice A0_2 (l0_2.length) c0_2, .int .i64 a0_3, .int .i64 a0_4, .int .i64 a0_5, .int .i64 a0_6, .int .i64 a0_7, .int .i64 a0_8, .int .i64 a0_9, .int .i64 a0_10], .int .i64 6, .slice A2 (l2.length) c2, .pointer (some ⟨g3, 0, none⟩), undef, undef, .pointer (some ⟨g6, 0, none⟩), undef, .int .i64 6, .bool false, .bool false, undef, undef, undef, undef, undef, undef, .bool false, .bool false, undef, undef, undef, undef, undef, .bool false, .bool false, undef, undef, undef, undef, undef, undef, undef, undef, .bool false, .bool false, undef, undef, .bool true, .bool true, sel (f 0) (.agg #[.int .i64 a0_0, .int .i64 a0_1, .slice A0_2 (l0_2.length) c0_2, .int .i64 a0_3, .int .i64 a0_4, .int .i64 a0_5, .int .i64 a0_6, .int .i64 a0_7, .int .i64 a0_8, .int .i64 a0_9, .int .i64 a0_10]), sel (f 1) (.agg #[.int .i64 a0_0, .int .i64 a0_1, .slice A0_2 (l0_2.length) c0_2, .int .i64 a0_3, .int .i64 a0_4, .int .i64 a0_5, .int .i64 a0_6, .int .i64 a0_7, .int .i64 a0_8, .int .i64 a0_9, .int .i64 a0_10]), sel (f 2) (.int .i64 t1), sel (f 3) (.int .i64 (wrap64 (32768 + t1))), sel (f 4) (.agg #[.int .i64 a0_0, .int .i64 a0_1, .slice A0_2 (l0_2.length) c0_2, .int .i64 a0_3, .int .i64 a0_4, .int .i64 a0_5, .int .i64 a0_6, .int .i64 a0_7, .int .i64 a0_8, .int .i64 a0_9, .int .i64 a0_10]), sel (f 5) (.int .i64 t2), sel (f 6) (.int .i64 (wrap64 ((wrap64 (32768 + t1)) - t2))), sel (f 7) (.agg #[.int .i64 r1, .int .i64 r2, .int .i64 r3, .int .i64 r4]), undef, undef, undef, undef, undef, undef, undef, undef, undef, undef, undef, undef, undef, undef, undef, undef, undef, undef, undef, undef, undef, undef, undef, undef, undef, undef, undef, undef, undef, undef, undef, undef, undef, undef, undef, undef, undef, undef, undef, undef, undef, undef, undef, undef, undef, undef, undef, undef, undef, undef, undef, undef], defers := [] } ∧ Below w.heap.size w w' ∧ w'.heap[g3]? = some (.cells #[.int .i64 a0_0, .int .i64 a0_1, .slice A0_2 (l0_2.length) c0_2, .int .i64 a0_3, .int .i64 a0_4, .int .i64 a0_5, .int .i64 a0_6, .int .i64 a0_7, .int .i64 a0_8, .int .i64 a0_9, .int .i64 a0_10] 71 (0, 0)) ∧ w'.heap[g6]? = some (.cells (if f 8 = true then #[.int .i64 r1, .int .i64 r2, .int .i64 r3, .int .i64 r4] else #[.int .i64 0, .int .i64 0, .int .i64 0, .int .i64 0]) 51 (0, 0))) (by kernel_rfl) (by kernel_rfl) ?start ?fin ?steps
 case start => exact ⟨rfl, HB.out.drew, blk_drew B_g3.out, blk_drew B_g6.out⟩
 case steps =>
  clear HB B_g3 B_g6
  refine ⟨?o0, ?o1, ?o2, ?o3, ?o4, ?o5, ?o6, ?o7, ?o8, trivial⟩
  case o0 =>
   rintro f a w' ⟨rfl, HB, k_g3, k_g6⟩ hf hd K hK
   have hz := blk_cell k_g3
   exact valE (N := some 40) (.agg #[.int .i64 a0_0, .int .i64 a0_1, .slice A0_2 (l0_2.length) c0_2, .int .i64 a0_3, .int .i64 a0_4, .int .i64 a0_5, .int .i64 a0_6, .int .i64 a0_7, .int .i64 a0_8, .int .i64 a0_9, .int .i64 a0_10]) (hK _ _ ⟨rfl, HB, k_g3, k_g6⟩)
  case o1 =>
   rintro f a w' ⟨rfl, HB, k_g3, k_g6⟩ hf hd K hK
   have hz := blk_cell k_g3
   exact valE (N := some 41) (.agg #[.int .i64 a0_0, .int .i64 a0_1, .slice A0_2 (l0_2.length) c0_2, .int .i64 a0_3, .int .i64 a0_4, .int .i64 a0_5, .int .i64 a0_6, .int .i64 a0_7, .int .i64 a0_8, .int .i64 a0_9, .int .i64 a0_10]) (hK _ _ ⟨rfl, HB, k_g3, k_g6⟩)
  case o2 =>
   rintro f a w' ⟨rfl, HB, k_g3, k_g6⟩ hf hd K hK
   have e1 := hd 1 (by kernel_rfl)
   rw [e1]
   repeat rw [sel_true]
   refine goesD (N := some 42) Try.func57 #[.agg #[.int .i64 a0_0, .int .i64 a0_1, .slice A0_2 (l0_2.length) c0_2, .int .i64 a0_3, .int .i64 a0_4, .int .i64 a0_5, .int .i64 a0_6, .int .i64 a0_7, .int .i64 a0_8, .int .i64 a0_9, .int .i64 a0_10], .int .i64 1, .int .i64 1] ?_
   refine (filter_view_luma.calls k _ _ _ _ _ _ _ _ _ _ _ _ _ 1 1 t1 _ (Kd.C_below hr0_2 HB) hc0_2 et1).mono ?_
   rintro e w1 ⟨rfl, hb⟩
   exact ⟨_, rfl, hK _ _ ⟨(by simp [Act.put, upd, sel_true, e1]), below_step HB hb, blk_below k_g3 hb, blk_below k_g6 hb⟩⟩
  case o3 =>
   rintro f a w' ⟨rfl, HB, k_g3, k_g6⟩ hf hd K hK
   have e2 := hd 2 (by kernel_rfl)
   rw [e2]
   repeat rw [sel_true]
   exact valE (N := some 43) (.int .i64 (wrap64 (32768 + t1))) (hK _ _ ⟨(by simp [Act.put, upd, sel_true, e2]), HB, k_g3, k_g6⟩)
  case o4 =>
   rintro f a w' ⟨rfl, HB, k_g3, k_g6⟩ hf hd K hK
   have hz := blk_cell k_g3
   exact valE (N := some 44) (.agg #[.int .i64 a0_0, .int .i64 a0_1, .slice A0_2 (l0_2.length) c0_2, .int .i64 a0_3, .int .i64 a0_4, .int .i64 a0_5, .int .i64 a0_6, .int .i64 a0_7, .int .i64 a0_8, .int .i64 a0_9, .int .i64 a0_10]) (hK _ _ ⟨rfl, HB, k_g3, k_g6⟩)
  case o5 =>
   rintro f a w' ⟨rfl, HB, k_g3, k_g6⟩ hf hd K hK
   have e4 := hd 4 (by kernel_rfl)
   rw [e4]
   repeat rw [sel_true]
   refine goesD (N := some 45) Try.func57 #[.agg #[.int .i64 a0_0, .int .i64 a0_1, .slice A0_2 (l0_2.length) c0_2, .int .i64 a0_3, .int .i64 a0_4, .int .i64 a0_5, .int .i64 a0_6, .int .i64 a0_7, .int .i64 a0_8, .int .i64 a0_9, .int .i64 a0_10], .int .i64 (-1), .int .i64 (-1)] ?_
   refine (filter_view_luma.calls k _ _ _ _ _ _ _ _ _ _ _ _ _ (-1) (-1) t2 _ (Kd.C_below hr0_2 HB) hc0_2 et2).mono ?_
   rintro e w1 ⟨rfl, hb⟩
   exact ⟨_, rfl, hK _ _ ⟨(by simp [Act.put, upd, sel_true, e4]), below_step HB hb, blk_below k_g3 hb, blk_below k_g6 hb⟩⟩
  case o6 =>
   rintro f a w' ⟨rfl, HB, k_g3, k_g6⟩ hf hd K hK
   have e3 := hd 3 (by kernel_rfl)
   have e5 := hd 5 (by kernel_rfl)
   rw [e3, e5]
   repeat rw [sel_true]
   exact valE (N := some 46) (.int .i64 (wrap64 ((wrap64 (32768 + t1)) - t2))) (hK _ _ ⟨(by simp [Act.put, upd, sel_true, e3, e5]), HB, k_g3, k_g6⟩)
  case o7 =>
   rintro f a w' ⟨rfl, HB, k_g3, k_g6⟩ hf hd K hK
   have e0 := hd 0 (by kernel_rfl)
   have e6 := hd 6 (by kernel_rfl)
   rw [e0, e6]
   repeat rw [sel_true]
   refine goesD (N := some 47) Try.func56 #[.agg #[.int .i64 a0_0, .int .i64 a0_1, .slice A0_2 (l0_2.length) c0_2, .int .i64 a0_3, .int .i64 a0_4, .int .i64 a0_5, .int .i64 a0_6, .int .i64 a0_7, .int .i64 a0_8, .int .i64 a0_9, .int .i64 a0_10], .int .i64 (wrap64 ((wrap64 (32768 + t1)) - t2))] ?_
   refine (filter_view_gray.calls _ _ _ _ _ _ _ _ _ _ _ _ _ (wrap64 ((wrap64 (32768 + t1)) - t2)) r1 r2 r3 r4 _ (Kd.C_below hr0_2 HB) hc0_2 e1).mono ?_
   rintro e w1 ⟨rfl, hb⟩
   exact ⟨_, rfl, hK _ _ ⟨(by simp [Act.put, upd, sel_true, e0, e6]), below_step HB hb, blk_below k_g3 hb, blk_below k_g6 hb⟩⟩
  case o8 =>
   rintro f a w' ⟨rfl, HB, k_g3, k_g6⟩ hf hd K hK
   have e7 := hd 7 (by kernel_rfl)
   rw [e7]
   repeat rw [sel_true]
   have kk := k_g6
   have zz : w.heap.size ≤ g6 := z_g6
   rw [hf, if_neg (by decide)] at kk
   have hz := blk_cell kk
   have hz' := blk_frozen kk
   exact skipE (w1 := (sets w' g6 0 [.int .i64 r1, .int .i64 r2, .int .i64 r3, .int .i64 r4])) (hK _ _ ⟨(by simp [Act.put, upd, sel_true, e7]), hS0 HB zz, fS0 k_g3 (Nat.ne_of_lt l_g3_g6), pS0 #[.int .i64 r1, .int .i64 r2, .int .i64 r3, .int .i64 r4] kk⟩)
 case fin =>
  clear HB B_g3 B_g6
  rintro f a w' hall ⟨rfl, HB, k_g3, k_g6⟩
  have h0 := hall 0 (by decide)
  have h1 := hall 1 (by decide)
  have h2 := hall 2 (by decide)
  have h3 := hall 3 (by decide)
  have h4 := hall 4 (by decide)
  have h5 := hall 5 (by decide)
  have h6 := hall 6 (by decide)
  have h7 := hall 7 (by decide)
  have h8 := hall 8 (by decide)
  rw [if_pos h8] at k_g6
  rw [h0, h1, h2, h3, h4, h5, h6, h7]
  simp only [sel_true]
  replace HB := am HB
  have B_g3 := am k_g3
  have B_g6 := am k_g6
  clear hall h0 h1 h2 h3 h4 h5 h6 h7 h8 k_g3 k_g6
  (try clear f)
  go_wp2
  refine bodyPost_ret (results_cell_row rfl _ _ g6 51 #[.int .i64 r1, .int .i64 r2, .int .i64 r3, .int .i64 r4] (0, 0) _ rfl B_g6.out Try.underlying51 rfl (by kernel_rfl)) rfl ?_
  exact ⟨rfl, HB.out⟩
set_option maxHeartbeats 8000000 in
set_option maxRecDepth 100000 in
theorem filtered_9 (k : Nat) (a0_0 a0_1 : Int) (A0_2 : Option Addr) (c0_2 : Nat) (l0_2 : List (S51)) (a0_3 a0_4 a0_5 a0_6 a0_7 a0_8 a0_9 a0_10 : Int) (A2 : Option Addr) (c2 : Nat) (l2 : List Int) (r1 r2 r3 r4 : Int)  (w : World) (hr0_2 : Kd.C k51 w A0_2 l0_2.length l0_2) (hc0_2 : l0_2.length ≤ c0_2) (hr2 : Kd.C (Kd.int .i64) w A2 l2.length l2) (hl : 1 < (l2.length : Int)) (e1 : filter_view_motion.f k a0_0 a0_1 l0_2 a0_3 a0_4 a0_5 a0_6 a0_7 a0_8 a0_9 a0_10 (rd l2 0) (rd l2 1) = some (r1, r2, r3, r4)) :
  Calls Try.prog 39 #[.agg #[.int .i64 a0_0, .int .i64 a0_1, .slice A0_2 l0_2.length c0_2, .int .i64 a0_3, .int .i64 a0_4, .int .i64 a0_5, .int .i64 a0_6, .int .i64 a0_7, .int .i64 a0_8, .int .i64 a0_9, .int .i64 a0_10], .int .i64 9, .slice A2 l2.length c2] w fun e w' => e = .returned (.agg #[.int .i64 r1, .int .i64 r2, .int .i64 r3, .int .i64 r4]) ∧ Below w.heap.size w w' := by
 have hu71 := Try.underlying71
 have hu51 := Try.underlying51
 have hu22 := Try.underlying22
 have HB := am (Below.refl w.heap.size w)
 obtain ⟨ad, e9, hx0⟩ := Kd.at_int hr2 0 (by omega) (by omega)
 subst e9
 have q0 : (0 < l2.length) = True := eq_true (by omega)
 have q0' : ((0 : Int) < (l2.length : Int)) = True := eq_true (by omega)
 replace hx0 : w.cell? ad = some (.int .i64 (rd l2 0)) := by simpa [Addr.add, Addr.add_zero'] using hx0
 obtain ⟨ad', e9, hx1⟩ := Kd.at_int hr2 1 (by omega) (by omega)
 obtain rfl := Option.some.inj e9
 have q1 : (1 < l2.length) = True := eq_true (by omega)
 have q1' : ((1 : Int) < (l2.length : Int)) = True := eq_true (by omega)
 replace hx1 : w.cell? ⟨ad.block, ad.off + 1, none⟩ = some (.int .i64 (rd l2 1)) := by simpa [Addr.add, Addr.add_zero'] using hx1
 go_enter Try.func39, Try.ntmps39
 go_wp2_with (first
  | ((with_reducible refine gate_dst (N := 3) rfl ?_); refine boxE (N := 3) #[.int .i64 a0_0, .int .i64 a0_1, .slice A0_2 (l0_2.length) c0_2, .int .i64 a0_3, .int .i64 a0_4, .int .i64 a0_5, .int .i64 a0_6, .int .i64 a0_7, .int .i64 a0_8, .int .i64 a0_9, .int .i64 a0_10] 71 ?_; intro g3 hg w1 hx hb; have z_g3 := zB hg HB; replace HB := hh HB hb; have B_g3 := am hx; clear hx hb hg)
  | ((with_reducible refine gate_dst (N := 6) rfl ?_); refine boxE (N := 6) #[.int .i64 0, .int .i64 0, .int .i64 0, .int .i64 0] 51 ?_; intro g6 hg w2 hx hb; have l_g3_g6 := lB hg B_g3; have z_g6 := zB hg HB; replace B_g3 := bb B_g3 hb; replace HB := hh HB hb; have B_g6 := am hx; clear hx hb hg))
 refine region_inv (fun f a w' => a = { tmps := #[.agg #[.int .i64 a0_0, .int .i64 a0_1, .slice A0_2 (l0_2.length) c0_2, .int .i64 a0_3, .int .i64 a0_4, .int .i64 a0_5, .int .i64 a0_6, .int .i64 a0_7, .int .i64 a0_8, .int .i64 a0_9, .int .i64 a0_10], .int .i64 9, .slice (some ad) (l2.length) c2, .pointer (some ⟨g3, 0, none⟩), undef, undef, .pointer (some ⟨g6, 0, none⟩), undef, .int .i64 9, .bool false, .bool false, undef, undef, undef, undef, undef, undef, .bool false, .bool false, undef, undef, undef, undef, undef, .bool false, .bool false, undef, undef, undef, undef, undef, undef, undef, undef, .bool false, .bool false, undef, undef, .bool false, .bool false, undef, undef, undef, undef, undef, undef, undef, undef, .bool true, .bool true, sel (f 0) (.agg #[.int .i64 a0_0, .int .i64 a0_1, .slice A0_2 (l0_2.length) c0_2, .int .i64 a0_3, .int .i64 a0_4, .int .i64 a0_5, .int .i64 a0_6, .int .i64 a0_7, .int .i64 a0_8, .int .i64 a0_9, .int .i64 a0_10]), sel (f 1) (.slice (some ad) (l2.length) c2), sel (f 2) (.pointer (some ad)), sel (f 3) (.int .i64 (rd l2 0)), sel (f 4) (.slice (some ad) (l2.length) c2), sel (f 5) (.pointer (some (⟨ad.block, ad.off + 1, none⟩))), sel (f 6) (.int .i64 (rd l2 1)), sel (f 7) (.agg #[.int .i64 r1, .int .i64 r2, .int .i64 r3, .int .i64 r4]), undef, undef, undef, undef, undef, undef, undef, undef, undef, undef, undef, undef, undef, undef, undef, undef, undef, undef, undef, undef, undef, undef, undef, undef, undef, undef, undef, undef, undef, undef, undef, undef, undef, undef, undef, undef, undef, undef, undef, undef, undef, undef], defers := [] } ∧ Below w.heap.size w w' ∧ w'.heap[g3]? = some (.cells #[.int .i64 a0_0, .int .i64 a0_1, .slice A0_2 (l0_2.length) c0_2, .int .i64 a0_3, .int .i64 a0_4, .int .i64 a0_5, .int .i64 a0_6, .int .i64 a0_7, .int .i64 a0_8, .int .i64 a0_9, .int .i64 a0_10] 71 (0, 0)) ∧ w'.heap[g6]? = some (.cells (if f 8 = true then #[.int .i64 r1, .int .i64 r2, .int .i64 r3, .int .i64 r4] else #[.int .i64 0, .int .i64 0, .int .i64 0, .int .i64 0]) 51 (0, 0))) (by kernel_rfl) (by kernel_rfl) ?start ?fin ?steps
 case start => exact ⟨rfl, HB.out.drew, blk_drew B_g3.out, blk_drew B_g6.out⟩
 case steps =>
  clear HB B_g3 B_g6
  refine ⟨?o0, ?o1, ?o2, ?o3, ?o4, ?o5, ?o6, ?o7, ?o8, trivial⟩
  case o0 =>
   rintro f a w' ⟨rfl, HB, k_g3, k_g6⟩ hf hd K hK
   have hz := blk_cell k_g3
   exact valE (N := some 50) (.agg #[.int .i64 a0_0, .int .i64 a0_1, .slice A0_2 (l0_2.length) c0_2, .int .i64 a0_3, .int .i64 a0_4, .int .i64 a0_5, .int .i64 a0_6, .int .i64 a0_7, .int .i64 a0_8, .int .i64 a0_9, .int .i64 a0_10]) (hK _ _ ⟨rfl, HB, k_g3, k_g6⟩)
  case o1 =>
   rintro f a w' ⟨rfl, HB, k_g3, k_g6⟩ hf hd K hK
   exact valE (N := some 51) (.slice (some ad) (l2.length) c2) (hK _ _ ⟨rfl, HB, k_g3, k_g6⟩)
  case o2 =>
   rintro f a w' ⟨rfl, HB, k_g3, k_g6⟩ hf hd K hK
   have e1 := hd 1 (by kernel_rfl)
   rw [e1]
   repeat rw [sel_true]
   exact valE (N := some 52) (.pointer (some ad)) (hK _ _ ⟨(by simp [Act.put, upd, sel_true, e1]), HB, k_g3, k_g6⟩)
  case o3 =>
   rintro f a w' ⟨rfl, HB, k_g3, k_g6⟩ hf hd K hK
   have e2 := hd 2 (by kernel_rfl)
   rw [e2]
   repeat rw [sel_true]
   have hz0 := (HB.cell (World.block_lt_of_cell? w _ hx0)).trans hx0
   exact valE (N := some 53) (.int .i64 (rd l2 0)) (hK _ _ ⟨(by simp [Act.put, upd, sel_true, e2]), HB, k_g3, k_g6⟩)
  case o4 =>
   rintro f a w' ⟨rfl, HB, k_g3, k_g6⟩ hf hd K hK
   exact valE (N := some 54) (.slice (some ad) (l2.length) c2) (hK _ _ ⟨rfl, HB, k_g3, k_g6⟩)
  case o5 =>
   rintro f a w' ⟨rfl, HB, k_g3, k_g6⟩ hf hd K hK
   have e4 := hd 4 (by kernel_rfl)
   rw [e4]
   repeat rw [sel_true]
   exact valE (N := some 55) (.pointer (some (⟨ad.block, ad.off + 1, none⟩))) (hK _ _ ⟨(by simp [Act.put, upd, sel_true, e4]), HB, k_g3, k_g6⟩)
  case o6 =>
   rintro f a w' ⟨rfl, HB, k_g3, k_g6⟩ hf hd K hK
   have e5 := hd 5 (by kernel_rfl)
   rw [e5]
   repeat rw [sel_true]
   have hz0 := (HB.cell (World.block_lt_of_cell? w _ hx1)).trans hx1
   exact valE (N := some 56) (.int .i64 (rd l2 1)) (hK _ _ ⟨(by simp [Act.put, upd, sel_true, e5]), HB, k_g3, k_g6⟩)
  case o7 =>
   rintro f a w' ⟨rfl, HB, k_g3, k_g6⟩ hf hd K hK
   have e0 := hd 0 (by kernel_rfl)
   have e3 := hd 3 (by kernel_rfl)
   have e6 := hd 6 (by kernel_rfl)
   rw [e0, e3, e6]
   repeat rw [sel_true]
   refine goesD (N := some 57) Try.func58 #[.agg #[.int .i64 a0_0, .int .i64 a0_1, .slice A0_2 (l0_2.length) c0_2, .int .i64 a0_3, .int .i64 a0_4, .int .i64 a0_5, .int .i64 a0_6, .int .i64 a0_7, .int .i64 a0_8, .int .i64 a0_9, .int .i64 a0_10], .int .i64 (rd l2 0), .int .i64 (rd l2 1)] ?_
   refine (filter_view_motion.calls k _ _ _ _ _ _ _ _ _ _ _ _ _ (rd l2 0) (rd l2 1) r1 r2 r3 r4 _ (Kd.C_below hr0_2 HB) hc0_2 e1).mono ?_
   rintro e w1 ⟨rfl, hb⟩
   exact ⟨_, rfl, hK _ _ ⟨(by simp [Act.put, upd, sel_true, e0, e3, e6]), below_step HB hb, blk_below k_g3 hb, blk_below k_g6 hb⟩⟩
  case o8 =>
   rintro f a w' ⟨rfl, HB, k_g3, k_g6⟩ hf hd K hK
   have e7 := hd 7 (by kernel_rfl)
   rw [e7]
   repeat rw [sel_true]
   have kk := k_g6
   have zz : w.heap.size ≤ g6 := z_g6
   rw [hf, if_neg (by decide)] at kk
   have hz := blk_cell kk
   have hz' := blk_frozen kk
   exact skipE (w1 := (sets w' g6 0 [.int .i64 r1, .int .i64 r2, .int .i64 r3, .int .i64 r4])) (hK _ _ ⟨(by simp [Act.put, upd, sel_true, e7]), hS0 HB zz, fS0 k_g3 (Nat.ne_of_lt l_g3_g6), pS0 #[.int .i64 r1, .int .i64 r2, .int .i64 r3, .int .i64 r4] kk⟩)
 case fin =>
  clear HB B_g3 B_g6
  rintro f a w' hall ⟨rfl, HB, k_g3, k_g6⟩
  have h0 := hall 0 (by decide)
  have h1 := hall 1 (by decide)
  have h2 := hall 2 (by decide)
  have h3 := hall 3 (by decide)
  have h4 := hall 4 (by decide)
  have h5 := hall 5 (by decide)
  have h6 := hall 6 (by decide)
  have h7 := hall 7 (by decide)
  have h8 := hall 8 (by decide)
  rw [if_pos h8] at k_g6
  rw [h0, h1, h2, h3, h4, h5, h6, h7]
  simp only [sel_true]
  replace HB := am HB
  have B_g3 := am k_g3
  have B_g6 := am k_g6
  clear hall h0 h1 h2 h3 h4 h5 h6 h7 h8 k_g3 k_g6
  (try clear f)
  go_wp2
  refine bodyPost_ret (results_cell_row rfl _ _ g6 51 #[.int .i64 r1, .int .i64 r2, .int .i64 r3, .int .i64 r4] (0, 0) _ rfl B_g6.out Try.underlying51 rfl (by kernel_rfl)) rfl ?_
  exact ⟨rfl, HB.out⟩
set_option maxHeartbeats 8000000 in
set_option maxRecDepth 100000 in
theorem filtered_10 (k : Nat) (a0_0 a0_1 : Int) (A0_2 : Option Addr) (c0_2 : Nat) (l0_2 : List (S51)) (a0_3 a0_4 a0_5 a0_6 a0_7 a0_8 a0_9 a0_10 : Int) (A2 : Option Addr) (c2 : Nat) (l2 : List Int) (r1 r2 r3 r4 : Int)  (w : World) (hr0_2 : Kd.C k51 w A0_2 l0_2.length l0_2) (hc0_2 : l0_2.length ≤ c0_2) (hr2 : Kd.C (Kd.int .i64) w A2 l2.length l2) (hl : 0 < (l2.length : Int)) (e1 : filter_view_block.f k a0_0 a0_1 l0_2 a0_3 a0_4 a0_5 a0_6 a0_7 a0_8 a0_9 a0_10 (rd l2 0) = some (r1, r2, r3, r4)) :
  Calls Try.prog 39 #[.agg #[.int .i64 a0_0, .int .i64 a0_1, .slice A0_2 l0_2.length c0_2, .int .i64 a0_3, .int .i64 a0_4, .int .i64 a0_5, .int .i64 a0_6, .int .i64 a0_7, .int .i64 a0_8, .int .i64 a0_9, .int .i64 a0_10], .int .i64 10, .slice A2 l2.length c2] w fun e w' => e = .returned (.agg #[.int .i64 r1, .int .i64 r2, .int .i64 r3, .int .i64 r4]) ∧ Below w.heap.size w w' := by
 have hu71 := Try.underlying71
 have hu51 := Try.underlying51
 have hu22 := Try.underlying22
 have HB := am (Below.refl w.heap.size w)
 obtain ⟨ad, e9, hx0⟩ := Kd.at_int hr2 0 (by omega) (by omega)
 subst e9
 have q0 : (0 < l2.length) = True := eq_true (by omega)
 have q0' : ((0 : Int) < (l2.length : Int)) = True := eq_true (by omega)
 replace hx0 : w.cell? ad = some (.int .i64 (rd l2 0)) := by simpa [Addr.add, Addr.add_zero'] using hx0
 go_enter Try.func39, Try.ntmps39
 go_wp2_with (first
  | ((with_reducible refine gate_dst (N := 3) rfl ?_); refine boxE (N := 3) #[.int .i64 a0_0, .int .i64 a0_1, .slice A0_2 (l0_2.length) c0_2, .int .i64 a0_3, .int .i64 a0_4, .int .i64 a0_5, .int .i64 a0_6, .int .i64 a0_7, .int .i64 a0_8, .int .i64 a0_9, .int .i64 a0_10] 71 ?_; intro g3 hg w1 hx hb; have z_g3 := zB hg HB; replace HB := hh HB hb; have B_g3 := am hx; clear hx hb hg)
  | ((with_reducible refine gate_dst (N := 6) rfl ?_); refine boxE (N := 6) #[.int .i64 0, .int .i64 0, .int .i64 0, .int .i64 0] 51 ?_; intro g6 hg w2 hx hb; have l_g3_g6 := lB hg B_g3; have z_g6 := zB hg HB; replace B_g3 := bb B_g3 hb; replace HB := hh HB hb; have B_g6 := am hx; clear hx hb hg))
 refine region_inv (fun f a w' => a = { tmps := #[.agg #[.int .i64 a0_0, .int .i64 a0_1, .slice A0_2 (l0_2.length) c0_2, .int .i64 a0_3, .int .i64 a0_4, .int .i64 a0_5, .int .i64 a0_6, .int .i64 a0_7, .int .i64 a0_8, .int .i64 a0_9, .int .i64 a0_10], .int .i64 10, .slice (some ad) (l2.length) c2, .pointer (some ⟨g3, 0, none⟩), undef, undef, .pointer (some ⟨g6, 0, none⟩), undef, .int .i64 10, .bool false, .bool false, undef, undef, undef, undef, undef, undef, .bool false, .bool false, undef, undef, undef, undef, undef, .bool false, .bool false, undef, undef, undef, undef, undef, undef, undef, undef, .bool false, .bool false, undef, undef, .bool false, .bool false, undef, undef, undef, undef, undef, undef, undef, undef, .bool false, .bool false, undef, undef, undef, undef, undef, undef, undef, undef, .bool true, .bool true, sel (f 0) (.agg #[.int .i64 a0_0, .int .i64 a0_1, .slice A0_2 (l0_2.length) c0_2, .int .i64 a0_3, .int .i64 a0_4, .int .i64 a0_5, .int .i64 a0_6, .int .i64 a0_7, .int .i64 a0_8, .int .i64 a0_9, .int .i64 a0_10]), sel (f 1) (.slice (some ad) (l2.length) c2), sel (f 2) (.pointer (some ad)), sel (f 3) (.int .i64 (rd l2 0)), sel (f 4) (.agg #[.int .i64 r1, .int .i64 r2, .int .i64 r3, .int .i64 r4]), undef, undef, undef, undef, undef, undef, undef, undef, undef, undef, undef, undef, undef, undef, undef, undef, undef, undef, undef, undef, undef, undef, undef, undef, undef, undef, undef, undef, undef, undef, undef, undef, undef, undef, undef], defers := [] } ∧ Below w.heap.size w w' ∧ w'.heap[g3]? = some (.cells #[.int .i64 a0_0, .int .i64 a0_1, .slice A0_2 (l0_2.length) c0_2, .int .i64 a0_3, .int .i64 a0_4, .int .i64 a0_5, .int .i64 a0_6, .int .i64 a0_7, .int .i64 a0_8, .int .i64 a0_9, .int .i64 a0_10] 71 (0, 0)) ∧ w'.heap[g6]? = some (.cells (if f 5 = true then #[.int .i64 r1, .int .i64 r2, .int .i64 r3, .int .i64 r4] else #[.int .i64 0, .int .i64 0, .int .i64 0, .int .i64 0]) 51 (0, 0))) (by kernel_rfl) (by kernel_rfl) ?start ?fin ?steps
 case start => exact ⟨rfl, HB.out.drew, blk_drew B_g3.out, blk_drew B_g6.out⟩
 case steps =>
  clear HB B_g3 B_g6
  refine ⟨?o0, ?o1, ?o2, ?o3, ?o4, ?o5, trivial⟩
  case o0 =>
   rintro f a w' ⟨rfl, HB, k_g3, k_g6⟩ hf hd K hK
   have hz := blk_cell k_g3
   exact valE (N := some 60) (.agg #[.int .i64 a0_0, .int .i64 a0_1, .slice A0_2 (l0_2.length) c0_2, .int .i64 a0_3, .int .i64 a0_4, .int .i64 a0_5, .int .i64 a0_6, .int .i64 a0_7, .int .i64 a0_8, .int .i64 a0_9, .int .i64 a0_10]) (hK _ _ ⟨rfl, HB, k_g3, k_g6⟩)
  case o1 =>
   rintro f a w' ⟨rfl, HB, k_g3, k_g6⟩ hf hd K hK
   exact valE (N := some 61) (.slice (some ad) (l2.length) c2) (hK _ _ ⟨rfl, HB, k_g3, k_g6⟩)
  case o2 =>
   rintro f a w' ⟨rfl, HB, k_g3, k_g6⟩ hf hd K hK
   have e1 := hd 1 (by kernel_rfl)
   rw [e1]
   repeat rw [sel_true]
   exact valE (N := some 62) (.pointer (some ad)) (hK _ _ ⟨(by simp [Act.put, upd, sel_true, e1]), HB, k_g3, k_g6⟩)
  case o3 =>
   rintro f a w' ⟨rfl, HB, k_g3, k_g6⟩ hf hd K hK
   have e2 := hd 2 (by kernel_rfl)
   rw [e2]
   repeat rw [sel_true]
   have hz0 := (HB.cell (World.block_lt_of_cell? w _ hx0)).trans hx0
   exact valE (N := some 63) (.int .i64 (rd l2 0)) (hK _ _ ⟨(by simp [Act.put, upd, sel_true, e2]), HB, k_g3, k_g6⟩)
  case o4 =>
   rintro f a w' ⟨rfl, HB, k_g3, k_g6⟩ hf hd K hK
   have e0 := hd 0 (by kernel_rfl)
   have e3 := hd 3 (by kernel_rfl)
   rw [e0, e3]
   repeat rw [sel_true]
   refine goesD (N := some 64) Try.func59 #[.agg #[.int .i64 a0_0, .int .i64 a0_1, .slice A0_2 (l0_2.length) c0_2, .int .i64 a0_3, .int .i64 a0_4, .int .i64 a0_5, .int .i64 a0_6, .int .i64 a0_7, .int .i64 a0_8, .int .i64 a0_9, .int .i64 a0_10], .int .i64 (rd l2 0)] ?_
   refine (filter_view_block.calls k _ _ _ _ _ _ _ _ _ _ _ _ _ (rd l2 0) r1 r2 r3 r4 _ (Kd.C_below hr0_2 HB) hc0_2 e1).mono ?_
   rintro e w1 ⟨rfl, hb⟩
   exact ⟨_, rfl, hK _ _ ⟨(by simp [Act.put, upd, sel_true, e0, e3]), below_step HB hb, blk_below k_g3 hb, blk_below k_g6 hb⟩⟩
  case o5 =>
   rintro f a w' ⟨rfl, HB, k_g3, k_g6⟩ hf hd K hK
   have e4 := hd 4 (by kernel_rfl)
   rw [e4]
   repeat rw [sel_true]
   have kk := k_g6
   have zz : w.heap.size ≤ g6 := z_g6
   rw [hf, if_neg (by decide)] at kk
   have hz := blk_cell kk
   have hz' := blk_frozen kk
   exact skipE (w1 := (sets w' g6 0 [.int .i64 r1, .int .i64 r2, .int .i64 r3, .int .i64 r4])) (hK _ _ ⟨(by simp [Act.put, upd, sel_true, e4]), hS0 HB zz, fS0 k_g3 (Nat.ne_of_lt l_g3_g6), pS0 #[.int .i64 r1, .int .i64 r2, .int .i64 r3, .int .i64 r4] kk⟩)
 case fin =>
  clear HB B_g3 B_g6
  rintro f a w' hall ⟨rfl, HB, k_g3, k_g6⟩
  have h0 := hall 0 (by decide)
  have h1 := hall 1 (by decide)
  have h2 := hall 2 (by decide)
  have h3 := hall 3 (by decide)
  have h4 := hall 4 (by decide)
  have h5 := hall 5 (by decide)
  rw [if_pos h5] at k_g6
  rw [h0, h1, h2, h3, h4]
  simp only [sel_true]
  replace HB := am HB
  have B_g3 := am k_g3
  have B_g6 := am k_g6
  clear hall h0 h1 h2 h3 h4 h5 k_g3 k_g6
  (try clear f)
  go_wp2
  refine bodyPost_ret (results_cell_row rfl _ _ g6 51 #[.int .i64 r1, .int .i64 r2, .int .i64 r3, .int .i64 r4] (0, 0) _ rfl B_g6.out Try.underlying51 rfl (by kernel_rfl)) rfl ?_
  exact ⟨rfl, HB.out⟩
set_option maxHeartbeats 8000000 in
set_option maxRecDepth 100000 in
theorem filtered_8 (k : Nat) (a0_0 a0_1 : Int) (A0_2 : Option Addr) (c0_2 : Nat) (l0_2 : List (S51)) (a0_3 a0_4 a0_5 a0_6 a0_7 a0_8 a0_9 a0_10 : Int) (A2 : Option Addr) (c2 : Nat) (l2 : List Int) (r1 r2 r3 r4 : Int)  (w : World) (hr0_2 : Kd.C k51 w A0_2 l0_2.length l0_2) (hc0_2 : l0_2.length ≤ c0_2) (hr2 : Kd.C (Kd.int .i64) w A2 l2.length l2) (hl : 0 < (l2.length : Int)) (e1 : filter_view_rank.f k a0_0 a0_1 l0_2 a0_3 a0_4 a0_5 a0_6 a0_7 a0_8 a0_9 a0_10 (rd l2 0) 0 = some (r1, r2, r3, r4)) :
  Calls Try.prog 39 #[.agg #[.int .i64 a0_0, .int .i64 a0_1, .slice A0_2 l0_2.length c0_2, .int .i64 a0_3, .int .i64 a0_4, .int .i64 a0_5, .int .i64 a0_6, .int .i64 a0_7, .int .i64 a0_8, .int .i64 a0_9, .int .i64 a0_10], .int .i64 8, .slice A2 l2.length c2] w fun e w' => e = .returned (.agg #[.int .i64 r1, .int .i64 r2, .int .i64 r3, .int .i64 r4]) ∧ Below w.heap.size w w' := by
 have hu71 := Try.underlying71
 have hu51 := Try.underlying51
 have hu22 := Try.underlying22
 have HB := am (Below.refl w.heap.size w)
 obtain ⟨ad, e9, hx0⟩ := Kd.at_int hr2 0 (by omega) (by omega)
 subst e9
 have q0 : (0 < l2.length) = True := eq_true (by omega)
 have q0' : ((0 : Int) < (l2.length : Int)) = True := eq_true (by omega)
 replace hx0 : w.cell? ad = some (.int .i64 (rd l2 0)) := by simpa [Addr.add, Addr.add_zero'] using hx0
 go_enter Try.func39, Try.ntmps39
 go_wp2_with (first
  | ((with_reducible refine gate_dst (N := 3) rfl ?_); refine boxE (N := 3) #[.int .i64 a0_0, .int .i64 a0_1, .slice A0_2 (l0_2.length) c0_2, .int .i64 a0_3, .int .i64 a0_4, .int .i64 a0_5, .int .i64 a0_6, .int .i64 a0_7, .int .i64 a0_8, .int .i64 a0_9, .int .i64 a0_10] 71 ?_; intro g3 hg w1 hx hb; have z_g3 := zB hg HB; replace HB := hh HB hb; have B_g3 := am hx; clear hx hb hg)
  | ((with_reducible refine gate_dst (N := 6) rfl ?_); refine boxE (N := 6) #[.int .i64 0, .int .i64 0, .int .i64 0, .int .i64 0] 51 ?_; intro g6 hg w2 hx hb; have l_g3_g6 := lB hg B_g3; have z_g6 := zB hg HB; replace B_g3 := bb B_g3 hb; replace HB := hh HB hb; have B_g6 := am hx; clear hx hb hg))
 refine region_inv (fun f a w' => a = { tmps := #[.agg #[.int .i64 a0_0, .int .i64 a0_1, .slice A0_2 (l0_2.length) c0_2, .int .i64 a0_3, .int .i64 a0_4, .int .i64 a0_5, .int .i64 a0_6, .int .i64 a0_7, .int .i64 a0_8, .int .i64 a0_9, .int .i64 a0_10], .int .i64 8, .slice (some ad) (l2.length) c2, .pointer (some ⟨g3, 0, none⟩), undef, undef, .pointer (some ⟨g6, 0, none⟩), sel (f 11) (.int .i64 (wrap64 ((wrap64 ((wrap64 (2 * (rd l2 0))) + 1)) * (wrap64 ((wrap64 (2 * (rd l2 0))) + 1))))), .int .i64 8, .bool false, .bool false, undef, undef, undef, undef, undef, undef, .bool false, .bool false, undef, undef, undef, undef, undef, .bool false, .bool false, undef, undef, undef, undef, undef, undef, undef, undef, .bool false, .bool false, undef, undef, .bool false, .bool false, undef, undef, undef, undef, undef, undef, undef, undef, .bool false, .bool false, undef, undef, undef, undef, undef, undef, undef, undef, .bool false, .bool false, undef, undef, undef, undef, undef, sel (f 0) (.slice (some ad) (l2.length) c2), sel (f 1) (.pointer (some ad)), sel (f 2) (.int .i64 (rd l2 0)), sel (f 3) (.int .i64 (wrap64 (2 * (rd l2 0)))), sel (f 4) (.int .i64 (wrap64 ((wrap64 (2 * (rd l2 0))) + 1))), sel (f 5) (.slice (some ad) (l2.length) c2), sel (f 6) (.pointer (some ad)), sel (f 7) (.int .i64 (rd l2 0)), sel (f 8) (.int .i64 (wrap64 (2 * (rd l2 0)))), sel (f 9) (.int .i64 (wrap64 ((wrap64 (2 * (rd l2 0))) + 1))), sel (f 10) (.int .i64 (wrap64 ((wrap64 ((wrap64 (2 * (rd l2 0))) + 1)) * (wrap64 ((wrap64 (2 * (rd l2 0))) + 1))))), undef, undef, undef, undef, undef, undef, undef, undef, undef, undef, undef, undef, undef, undef, undef, undef, undef, undef, undef, undef, undef, undef, undef, undef], defers := [] } ∧ Below w.heap.size w w' ∧ w'.heap[g3]? = some (.cells #[.int .i64 a0_0, .int .i64 a0_1, .slice A0_2 (l0_2.length) c0_2, .int .i64 a0_3, .int .i64 a0_4, .int .i64 a0_5, .int .i64 a0_6, .int .i64 a0_7, .int .i64 a0_8, .int .i64 a0_9, .int .i64 a0_10] 71 (0, 0)) ∧ w'.heap[g6]? = some (.cells #[.int .i64 0, .int .i64 0, .int .i64 0, .int .i64 0] 51 (0, 0))) (by kernel_rfl) (by kernel_rfl) ?start ?fin ?steps
 case start => exact ⟨rfl, HB.out.drew, blk_drew B_g3.out, blk_drew B_g6.out⟩
 case steps =>
  clear HB B_g3 B_g6
  refine ⟨?o0, ?o1, ?o2, ?o3, ?o4, ?o5, ?o6, ?o7, ?o8, ?o9, ?o10, ?o11, trivial⟩
  case o0 =>
   rintro f a w' ⟨rfl, HB, k_g3, k_g6⟩ hf hd K hK
   exact valE (N := some 65) (.slice (some ad) (l2.length) c2) (hK _ _ ⟨rfl, HB, k_g3, k_g6⟩)
  case o1 =>
   rintro f a w' ⟨rfl, HB, k_g3, k_g6⟩ hf hd K hK
   have e0 := hd 0 (by kernel_rfl)
   rw [e0]
   repeat rw [sel_true]
   exact valE (N := some 66) (.pointer (some ad)) (hK _ _ ⟨(by simp [Act.put, upd, sel_true, e0]), HB, k_g3, k_g6⟩)
  case o2 =>
   rintro f a w' ⟨rfl, HB, k_g3, k_g6⟩ hf hd K hK
   have e1 := hd 1 (by kernel_rfl)
   rw [e1]
   repeat rw [sel_true]
   have hz0 := (HB.cell (World.block_lt_of_cell? w _ hx0)).trans hx0
   exact valE (N := some 67) (.int .i64 (rd l2 0)) (hK _ _ ⟨(by simp [Act.put, upd, sel_true, e1]), HB, k_g3, k_g6⟩)
  case o3 =>
   rintro f a w' ⟨rfl, HB, k_g3, k_g6⟩ hf hd K hK
   have e2 := hd 2 (by kernel_rfl)
   rw [e2]
   repeat rw [sel_true]
   exact valE (N := some 68) (.int .i64 (wrap64 (2 * (rd l2 0)))) (hK _ _ ⟨(by simp [Act.put, upd, sel_true, e2]), HB, k_g3, k_g6⟩)
  case o4 =>
   rintro f a w' ⟨rfl, HB, k_g3, k_g6⟩ hf hd K hK
   have e3 := hd 3 (by kernel_rfl)
   rw [e3]
   repeat rw [sel_true]
   exact valE (N := some 69) (.int .i64 (wrap64 ((wrap64 (2 * (rd l2 0))) + 1))) (hK _ _ ⟨(by simp [Act.put, upd, sel_true, e3]), HB, k_g3, k_g6⟩)
  case o5 =>
   rintro f a w' ⟨rfl, HB, k_g3, k_g6⟩ hf hd K hK
   exact valE (N := some 70) (.slice (some ad) (l2.length) c2) (hK _ _ ⟨rfl, HB, k_g3, k_g6⟩)
  case o6 =>
   rintro f a w' ⟨rfl, HB, k_g3, k_g6⟩ hf hd K hK
   have e5 := hd 5 (by kernel_rfl)
   rw [e5]
   repeat rw [sel_true]
   exact valE (N := some 71) (.pointer (some ad)) (hK _ _ ⟨(by simp [Act.put, upd, sel_true, e5]), HB, k_g3, k_g6⟩)
  case o7 =>
   rintro f a w' ⟨rfl, HB, k_g3, k_g6⟩ hf hd K hK
   have e6 := hd 6 (by kernel_rfl)
   rw [e6]
   repeat rw [sel_true]
   have hz0 := (HB.cell (World.block_lt_of_cell? w _ hx0)).trans hx0
   exact valE (N := some 72) (.int .i64 (rd l2 0)) (hK _ _ ⟨(by simp [Act.put, upd, sel_true, e6]), HB, k_g3, k_g6⟩)
  case o8 =>
   rintro f a w' ⟨rfl, HB, k_g3, k_g6⟩ hf hd K hK
   have e7 := hd 7 (by kernel_rfl)
   rw [e7]
   repeat rw [sel_true]
   exact valE (N := some 73) (.int .i64 (wrap64 (2 * (rd l2 0)))) (hK _ _ ⟨(by simp [Act.put, upd, sel_true, e7]), HB, k_g3, k_g6⟩)
  case o9 =>
   rintro f a w' ⟨rfl, HB, k_g3, k_g6⟩ hf hd K hK
   have e8 := hd 8 (by kernel_rfl)
   rw [e8]
   repeat rw [sel_true]
   exact valE (N := some 74) (.int .i64 (wrap64 ((wrap64 (2 * (rd l2 0))) + 1))) (hK _ _ ⟨(by simp [Act.put, upd, sel_true, e8]), HB, k_g3, k_g6⟩)
  case o10 =>
   rintro f a w' ⟨rfl, HB, k_g3, k_g6⟩ hf hd K hK
   have e4 := hd 4 (by kernel_rfl)
   have e9 := hd 9 (by kernel_rfl)
   rw [e4, e9]
   repeat rw [sel_true]
   exact valE (N := some 75) (.int .i64 (wrap64 ((wrap64 ((wrap64 (2 * (rd l2 0))) + 1)) * (wrap64 ((wrap64 (2 * (rd l2 0))) + 1))))) (hK _ _ ⟨(by simp [Act.put, upd, sel_true, e4, e9]), HB, k_g3, k_g6⟩)
  case o11 =>
   rintro f a w' ⟨rfl, HB, k_g3, k_g6⟩ hf hd K hK
   have e10 := hd 10 (by kernel_rfl)
   rw [e10]
   repeat rw [sel_true]
   exact valE (N := some 7) (.int .i64 (wrap64 ((wrap64 ((wrap64 (2 * (rd l2 0))) + 1)) * (wrap64 ((wrap64 (2 * (rd l2 0))) + 1))))) (hK _ _ ⟨(by simp [Act.put, upd, sel_true, e10]), HB, k_g3, k_g6⟩)
 case fin =>
  clear HB B_g3 B_g6
  rintro f a w' hall ⟨rfl, HB, k_g3, k_g6⟩
  have h0 := hall 0 (by decide)
  have h1 := hall 1 (by decide)
  have h2 := hall 2 (by decide)
  have h3 := hall 3 (by decide)
  have h4 := hall 4 (by decide)
  have h5 := hall 5 (by decide)
  have h6 := hall 6 (by decide)
  have h7 := hall 7 (by decide)
  have h8 := hall 8 (by decide)
  have h9 := hall 9 (by decide)
  have h10 := hall 10 (by decide)
  have h11 := hall 11 (by decide)
  rw [h0, h1, h2, h3, h4, h5, h6, h7, h8, h9, h10, h11]
  simp only [sel_true]
  replace HB := am HB
  have B_g3 := am k_g3
  have B_g6 := am k_g6
  clear hall h0 h1 h2 h3 h4 h5 h6 h7 h8 h9 h10 h11 k_g3 k_g6
  (try clear f)
  go_wp2
  refine region_inv (fun f a w' => a = { tmps := #[.agg #[.int .i64 a0_0, .int .i64 a0_1, .slice A0_2 (l0_2.length) c0_2, .int .i64 a0_3, .int .i64 a0_4, .int .i64 a0_5, .int .i64 a0_6, .int .i64 a0_7, .int .i64 a0_8, .int .i64 a0_9, .int .i64 a0_10], .int .i64 8, .slice (some ad) (l2.length) c2, .pointer (some ⟨g3, 0, none⟩), undef, undef, .pointer (some ⟨g6, 0, none⟩), .int .i64 (wrap64 ((wrap64 ((wrap64 (2 * (rd l2 0))) + 1)) * (wrap64 ((wrap64 (2 * (rd l2 0))) + 1)))), .int .i64 8, .bool false, .bool false, undef, undef, undef, undef, undef, undef, .bool false, .bool false, undef, undef, undef, undef, undef, .bool false, .bool false, undef, undef, undef, undef, undef, undef, undef, undef, .bool false, .bool false, undef, undef, .bool false, .bool false, undef, undef, undef, undef, undef, undef, undef, undef, .bool false, .bool false, undef, undef, undef, undef, undef, undef, undef, undef, .bool false, .bool false, undef, undef, undef, undef, undef, .slice (some ad) (l2.length) c2, .pointer (some ad), .int .i64 (rd l2 0), .int .i64 (wrap64 (2 * (rd l2 0))), .int .i64 (wrap64 ((wrap64 (2 * (rd l2 0))) + 1)), .slice (some ad) (l2.length) c2, .pointer (some ad), .int .i64 (rd l2 0), .int .i64 (wrap64 (2 * (rd l2 0))), .int .i64 (wrap64 ((wrap64 (2 * (rd l2 0))) + 1)), .int .i64 (wrap64 ((wrap64 ((wrap64 (2 * (rd l2 0))) + 1)) * (wrap64 ((wrap64 (2 * (rd l2 0))) + 1)))), .int .i64 8, .bool true, .bool true, sel (f 0) (.agg #[.int .i64 a0_0, .int .i64 a0_1, .slice A0_2 (l0_2.length) c0_2, .int .i64 a0_3, .int .i64 a0_4, .int .i64 a0_5, .int .i64 a0_6, .int .i64 a0_7, .int .i64 a0_8, .int .i64 a0_9, .int .i64 a0_10]), sel (f 1) (.slice (some ad) (l2.length) c2), sel (f 2) (.pointer (some ad)), sel (f 3) (.int .i64 (rd l2 0)), sel (f 4) (.agg #[.int .i64 r1, .int .i64 r2, .int .i64 r3, .int .i64 r4]), undef, undef, undef, undef, undef, undef, undef, undef, undef, undef, undef, undef, undef, undef, undef, undef], defers := [] } ∧ Below w.heap.size w w' ∧ w'.heap[g3]? = some (.cells #[.int .i64 a0_0, .int .i64 a0_1, .slice A0_2 (l0_2.length) c0_2, .int .i64 a0_3, .int .i64 a0_4, .int .i64 a0_5, .int .i64 a0_6, .int .i64 a0_7, .int .i64 a0_8, .int .i64 a0_9, .int .i64 a0_10] 71 (0, 0)) ∧ w'.heap[g6]? = some (.cells (if f 5 = true then #[.int .i64 r1, .int .i64 r2, .int .i64 r3, .int .i64 r4] else #[.int .i64 0, .int .i64 0, .int .i64 0, .int .i64 0]) 51 (0, 0))) (by kernel_rfl) (by kernel_rfl) ?start ?fin ?steps
  case start => exact ⟨rfl, HB.out.drew, blk_drew B_g3.out, blk_drew B_g6.out⟩
  case steps =>
   clear HB B_g3 B_g6
   refine ⟨?o0, ?o1, ?o2, ?o3, ?o4, ?o5, trivial⟩
   case o0 =>
    rintro f a w' ⟨rfl, HB, k_g3, k_g6⟩ hf hd K hK
    have hz := blk_cell k_g3
    exact valE (N := some 79) (.agg #[.int .i64 a0_0, .int .i64 a0_1, .slice A0_2 (l0_2.length) c0_2, .int .i64 a0_3, .int .i64 a0_4, .int .i64 a0_5, .int .i64 a0_6, .int .i64 a0_7, .int .i64 a0_8, .int .i64 a0_9, .int .i64 a0_10]) (hK _ _ ⟨rfl, HB, k_g3, k_g6⟩)
   case o1 =>
    rintro f a w' ⟨rfl, HB, k_g3, k_g6⟩ hf hd K hK
    exact valE (N := some 80) (.slice (some ad) (l2.length) c2) (hK _ _ ⟨rfl, HB, k_g3, k_g6⟩)
   case o2 =>
    rintro f a w' ⟨rfl, HB, k_g3, k_g6⟩ hf hd K hK
    have e1 := hd 1 (by kernel_rfl)
    rw [e1]
    repeat rw [sel_true]
    exact valE (N := some 81) (.pointer (some ad)) (hK _ _ ⟨(by simp [Act.put, upd, sel_true, e1]), HB, k_g3, k_g6⟩)
   case o3 =>
    rintro f a w' ⟨rfl, HB, k_g3, k_g6⟩ hf hd K hK
    have e2 := hd 2 (by kernel_rfl)
    rw [e2]
    repeat rw [sel_true]
    have hz0 := (HB.cell (World.block_lt_of_cell? w _ hx0)).trans hx0
    exact valE (N := some 82) (.int .i64 (rd l2 0)) (hK _ _ ⟨(by simp [Act.put, upd, sel_true, e2]), HB, k_g3, k_g6⟩)
   case o4 =>
    rintro f a w' ⟨rfl, HB, k_g3, k_g6⟩ hf hd K hK
    have e0 := hd 0 (by kernel_rfl)
    have e3 := hd 3 (by kernel_rfl)
    rw [e0, e3]
    repeat rw [sel_true]
    refine goesD (N := some 83) Try.func60 #[.agg #[.int .i64 a0_0, .int .i64 a0_1, .slice A0_2 (l0_2.length) c0_2, .int .i64 a0_3, .int .i64 a0_4, .int .i64 a0_5, .int .i64 a0_6, .int .i64 a0_7, .int .i64 a0_8, .int .i64 a0_9, .int .i64 a0_10], .int .i64 (rd l2 0), .int .i64 0] ?_
    refine (filter_view_rank.calls k _ _ _ _ _ _ _ _ _ _ _ _ _ (rd l2 0) 0 r1 r2 r3 r4 _ (Kd.C_below hr0_2 HB) hc0_2 e1).mono ?_
    rintro e w1 ⟨rfl, hb⟩
    exact ⟨_, rfl, hK _ _ ⟨(by simp [Act.put, upd, sel_true, e0, e3]), below_step HB hb, blk_below k_g3 hb, blk_below k_g6 hb⟩⟩
   case o5 =>
    rintro f a w' ⟨rfl, HB, k_g3, k_g6⟩ hf hd K hK
    have e4 := hd 4 (by kernel_rfl)
    rw [e4]
    repeat rw [sel_true]
    have kk := k_g6
    have zz : w.heap.size ≤ g6 := z_g6
    rw [hf, if_neg (by decide)] at kk
    have hz := blk_cell kk
    have hz' := blk_frozen kk
    exact skipE (w1 := (sets w' g6 0 [.int .i64 r1, .int .i64 r2, .int .i64 r3, .int .i64 r4])) (hK _ _ ⟨(by simp [Act.put, upd, sel_true, e4]), hS0 HB zz, fS0 k_g3 (Nat.ne_of_lt l_g3_g6), pS0 #[.int .i64 r1, .int .i64 r2, .int .i64 r3, .int .i64 r4] kk⟩)
  case fin =>
   clear HB B_g3 B_g6
   rintro f a w' hall ⟨rfl, HB, k_g3, k_g6⟩
   have h0 := hall 0 (by decide)
   have h1 := hall 1 (by decide)
   have h2 := hall 2 (by decide)
   have h3 := hall 3 (by decide)
   have h4 := hall 4 (by decide)
   have h5 := hall 5 (by decide)
   rw [if_pos h5] at k_g6
   rw [h0, h1, h2, h3, h4]
   simp only [sel_true]
   replace HB := am HB
   have B_g3 := am k_g3
   have B_g6 := am k_g6
   clear hall h0 h1 h2 h3 h4 h5 k_g3 k_g6
   (try clear f)
   go_wp2
   refine bodyPost_ret (results_cell_row rfl _ _ g6 51 #[.int .i64 r1, .int .i64 r2, .int .i64 r3, .int .i64 r4] (0, 0) _ rfl B_g6.out Try.underlying51 rfl (by kernel_rfl)) rfl ?_
   exact ⟨rfl, HB.out⟩
set_option maxHeartbeats 8000000 in
set_option maxRecDepth 100000 in
theorem filtered_4 (k : Nat) (a0_0 a0_1 : Int) (A0_2 : Option Addr) (c0_2 : Nat) (l0_2 : List (S51)) (a0_3 a0_4 a0_5 a0_6 a0_7 a0_8 a0_9 a0_10 : Int) (A2 : Option Addr) (c2 : Nat) (l2 : List Int) (r1 r2 r3 r4 : Int)  (w : World) (hr0_2 : Kd.C k51 w A0_2 l0_2.length l0_2) (hc0_2 : l0_2.length ≤ c0_2) (hr2 : Kd.C (Kd.int .i64) w A2 l2.length l2) (hl : 0 < (l2.length : Int)) (e1 : filter_view_rank.f k a0_0 a0_1 l0_2 a0_3 a0_4 a0_5 a0_6 a0_7 a0_8 a0_9 a0_10 (rd l2 0) (wrap64 (Int.tdiv (wrap64 (wrap64 (wrap64 (2 * rd l2 0) + 1) * wrap64 (wrap64 (2 * rd l2 0) + 1))) 2)) = some (r1, r2, r3, r4)) :
  Calls Try.prog 39 #[.agg #[.int .i64 a0_0, .int .i64 a0_1, .slice A0_2 l0_2.length c0_2, .int .i64 a0_3, .int .i64 a0_4, .int .i64 a0_5, .int .i64 a0_6, .int .i64 a0_7, .int .i64 a0_8, .int .i64 a0_9, .int .i64 a0_10], .int .i64 4, .slice A2 l2.length c2] w fun e w' => e = .returned (.agg #[.int .i64 r1, .int .i64 r2, .int .i64 r3, .int .i64 r4]) ∧ Below w.heap.size w w' := by
 have hu71 := Try.underlying71
 have hu51 := Try.underlying51
 have hu22 := Try.underlying22
 have HB := am (Below.refl w.heap.size w)
 obtain ⟨ad, e9, hx0⟩ := Kd.at_int hr2 0 (by omega) (by omega)
 subst e9
 have q0 : (0 < l2.length) = True := eq_true (by omega)
 have q0' : ((0 : Int) < (l2.length : Int)) = True := eq_true (by omega)
 replace hx0 : w.cell? ad = some (.int .i64 (rd l2 0)) := by simpa [Addr.add, Addr.add_zero'] using hx0
 go_enter Try.func39, Try.ntmps39
 go_wp2_with (first
  | ((with_reducible refine gate_dst (N := 3) rfl ?_); refine boxE (N := 3) #[.int .i64 a0_0, .int .i64 a0_1, .slice A0_2 (l0_2.length) c0_2, .int .i64 a0_3, .int .i64 a0_4, .int .i64 a0_5, .int .i64 a0_6, .int .i64 a0_7, .int .i64 a0_8, .int .i64 a0_9, .int .i64 a0_10] 71 ?_; intro g3 hg w1 hx hb; have z_g3 := zB hg HB; replace HB := hh HB hb; have B_g3 := am hx; clear hx hb hg)
  | ((with_reducible refine gate_dst (N := 6) rfl ?_); refine boxE (N := 6) #[.int .i64 0, .int .i64 0, .int .i64 0, .int .i64 0] 51 ?_; intro g6 hg w2 hx hb; have l_g3_g6 := lB hg B_g3; have z_g6 := zB hg HB; replace B_g3 := bb B_g3 hb; replace HB := hh HB hb; have B_g6 := am hx; clear hx hb hg))
 refine region_inv (fun f a w' => a = { tmps := #[.agg #[.int .i64 a0_0, .int .i64 a0_1, .slice A0_2 (l0_2.length) c0_2, .int .i64 a0_3, .int .i64 a0_4, .int .i64 a0_5, .int .i64 a0_6, .int .i64 a0_7, .int .i64 a0_8, .int .i64 a0_9, .int .i64 a0_10], .int .i64 4, .slice (some ad) (l2.length) c2, .pointer (some ⟨g3, 0, none⟩), undef, undef, .pointer (some ⟨g6, 0, none⟩), sel (f 11) (.int .i64 (wrap64 ((wrap64 ((wrap64 (2 * (rd l2 0))) + 1)) * (wrap64 ((wrap64 (2 * (rd l2 0))) + 1))))), .int .i64 4, .bool false, .bool false, undef, undef, undef, undef, undef, undef, .bool false, .bool false, undef, undef, undef, undef, undef, .bool false, .bool false, undef, undef, undef, undef, undef, undef, undef, undef, .bool false, .bool false, undef, undef, .bool false, .bool false, undef, undef, undef, undef, undef, undef, undef, undef, .bool false, .bool false, undef, undef, undef, undef, undef, undef, undef, undef, .bool false, .bool false, undef, undef, undef, undef, undef, sel (f 0) (.slice (some ad) (l2.length) c2), sel (f 1) (.pointer (some ad)), sel (f 2) (.int .i64 (rd l2 0)), sel (f 3) (.int .i64 (wrap64 (2 * (rd l2 0)))), sel (f 4) (.int .i64 (wrap64 ((wrap64 (2 * (rd l2 0))) + 1))), sel (f 5) (.slice (some ad) (l2.length) c2), sel (f 6) (.pointer (some ad)), sel (f 7) (.int .i64 (rd l2 0)), sel (f 8) (.int .i64 (wrap64 (2 * (rd l2 0)))), sel (f 9) (.int .i64 (wrap64 ((wrap64 (2 * (rd l2 0))) + 1))), sel (f 10) (.int .i64 (wrap64 ((wrap64 ((wrap64 (2 * (rd l2 0))) + 1)) * (wrap64 ((wrap64 (2 * (rd l2 0))) + 1))))), undef, undef, undef, undef, undef, undef, undef, undef, undef, undef, undef, undef, undef, undef, undef, undef, undef, undef, undef, undef, undef, undef, undef, undef], defers := [] } ∧ Below w.heap.size w w' ∧ w'.heap[g3]? = some (.cells #[.int .i64 a0_0, .int .i64 a0_1, .slice A0_2 (l0_2.length) c0_2, .int .i64 a0_3, .int .i64 a0_4, .int .i64 a0_5, .int .i64 a0_6, .int .i64 a0_7, .int .i64 a0_8, .int .i64 a0_9, .int .i64 a0_10] 71 (0, 0)) ∧ w'.heap[g6]? = some (.cells #[.int .i64 0, .int .i64 0, .int .i64 0, .int .i64 0] 51 (0, 0))) (by kernel_rfl) (by kernel_rfl) ?start ?fin ?steps
 case start => exact ⟨rfl, HB.out.drew, blk_drew B_g3.out, blk_drew B_g6.out⟩
 case steps =>
  clear HB B_g3 B_g6
  refine ⟨?o0, ?o1, ?o2, ?o3, ?o4, ?o5, ?o6, ?o7, ?o8, ?o9, ?o10, ?o11, trivial⟩
  case o0 =>
   rintro f a w' ⟨rfl, HB, k_g3, k_g6⟩ hf hd K hK
   exact valE (N := some 65) (.slice (some ad) (l2.length) c2) (hK _ _ ⟨rfl, HB, k_g3, k_g6⟩)
  case o1 =>
   rintro f a w' ⟨rfl, HB, k_g3, k_g6⟩ hf hd K hK
   have e0 := hd 0 (by kernel_rfl)
   rw [e0]
   repeat rw [sel_true]
   exact valE (N := some 66) (.pointer (some ad)) (hK _ _ ⟨(by simp [Act.put, upd, sel_true, e0]), HB, k_g3, k_g6⟩)
  case o2 =>
   rintro f a w' ⟨rfl, HB, k_g3, k_g6⟩ hf hd K hK
   have e1 := hd 1 (by kernel_rfl)
   rw [e1]
   repeat rw [sel_true]
   have hz0 := (HB.cell (World.block_lt_of_cell? w _ hx0)).trans hx0
   exact valE (N := some 67) (.int .i64 (rd l2 0)) (hK _ _ ⟨(by simp [Act.put, upd, sel_true, e1]), HB, k_g3, k_g6⟩)
  case o3 =>
   rintro f a w' ⟨rfl, HB, k_g3, k_g6⟩ hf hd K hK
   have e2 := hd 2 (by kernel_rfl)
   rw [e2]
   repeat rw [sel_true]
   exact valE (N := some 68) (.int .i64 (wrap64 (2 * (rd l2 0)))) (hK _ _ ⟨(by simp [Act.put, upd, sel_true, e2]), HB, k_g3, k_g6⟩)
  case o4 =>
   rintro f a w' ⟨rfl, HB, k_g3, k_g6⟩ hf hd K hK
   have e3 := hd 3 (by kernel_rfl)
   rw [e3]
   repeat rw [sel_true]
   exact valE (N := some 69) (.int .i64 (wrap64 ((wrap64 (2 * (rd l2 0))) + 1))) (hK _ _ ⟨(by simp [Act.put, upd, sel_true, e3]), HB, k_g3, k_g6⟩)
  case o5 =>
   rintro f a w' ⟨rfl, HB, k_g3, k_g6⟩ hf hd K hK
   exact valE (N := some 70) (.slice (some ad) (l2.length) c2) (hK _ _ ⟨rfl, HB, k_g3, k_g6⟩)
  case o6 =>
   rintro f a w' ⟨rfl, HB, k_g3, k_g6⟩ hf hd K hK
   have e5 := hd 5 (by kernel_rfl)
   rw [e5]
   repeat rw [sel_true]
   exact valE (N := some 71) (.pointer (some ad)) (hK _ _ ⟨(by simp [Act.put, upd, sel_true, e5]), HB, k_g3, k_g6⟩)
  case o7 =>
   rintro f a w' ⟨rfl, HB, k_g3, k_g6⟩ hf hd K hK
   have e6 := hd 6 (by kernel_rfl)
   rw [e6]
   repeat rw [sel_true]
   have hz0 := (HB.cell (World.block_lt_of_cell? w _ hx0)).trans hx0
   exact valE (N := some 72) (.int .i64 (rd l2 0)) (hK _ _ ⟨(by simp [Act.put, upd, sel_true, e6]), HB, k_g3, k_g6⟩)
  case o8 =>
   rintro f a w' ⟨rfl, HB, k_g3, k_g6⟩ hf hd K hK
   have e7 := hd 7 (by kernel_rfl)
   rw [e7]
   repeat rw [sel_true]
   exact valE (N := some 73) (.int .i64 (wrap64 (2 * (rd l2 0)))) (hK _ _ ⟨(by simp [Act.put, upd, sel_true, e7]), HB, k_g3, k_g6⟩)
  case o9 =>
   rintro f a w' ⟨rfl, HB, k_g3, k_g6⟩ hf hd K hK
   have e8 := hd 8 (by kernel_rfl)
   rw [e8]
   repeat rw [sel_true]
   exact valE (N := some 74) (.int .i64 (wrap64 ((wrap64 (2 * (rd l2 0))) + 1))) (hK _ _ ⟨(by simp [Act.put, upd, sel_true, e8]), HB, k_g3, k_g6⟩)
  case o10 =>
   rintro f a w' ⟨rfl, HB, k_g3, k_g6⟩ hf hd K hK
   have e4 := hd 4 (by kernel_rfl)
   have e9 := hd 9 (by kernel_rfl)
   rw [e4, e9]
   repeat rw [sel_true]
   exact valE (N := some 75) (.int .i64 (wrap64 ((wrap64 ((wrap64 (2 * (rd l2 0))) + 1)) * (wrap64 ((wrap64 (2 * (rd l2 0))) + 1))))) (hK _ _ ⟨(by simp [Act.put, upd, sel_true, e4, e9]), HB, k_g3, k_g6⟩)
  case o11 =>
   rintro f a w' ⟨rfl, HB, k_g3, k_g6⟩ hf hd K hK
   have e10 := hd 10 (by kernel_rfl)
   rw [e10]
   repeat rw [sel_true]
   exact valE (N := some 7) (.int .i64 (wrap64 ((wrap64 ((wrap64 (2 * (rd l2 0))) + 1)) * (wrap64 ((wrap64 (2 * (rd l2 0))) + 1))))) (hK _ _ ⟨(by simp [Act.put, upd, sel_true, e10]), HB, k_g3, k_g6⟩)
 case fin =>
  clear HB B_g3 B_g6
  rintro f a w' hall ⟨rfl, HB, k_g3, k_g6⟩
  have h0 := hall 0 (by decide)
  have h1 := hall 1 (by decide)
  have h2 := hall 2 (by decide)
  have h3 := hall 3 (by decide)
  have h4 := hall 4 (by decide)
  have h5 := hall 5 (by decide)
  have h6 := hall 6 (by decide)
  have h7 := hall 7 (by decide)
  have h8 := hall 8 (by decide)
  have h9 := hall 9 (by decide)
  have h10 := hall 10 (by decide)
  have h11 := hall 11 (by decide)
  rw [h0, h1, h2, h3, h4, h5, h6, h7, h8, h9, h10, h11]
  simp only [sel_true]
  replace HB := am HB
  have B_g3 := am k_g3
  have B_g6 := am k_g6
  clear hall h0 h1 h2 h3 h4 h5 h6 h7 h8 h9 h10 h11 k_g3 k_g6
  (try clear f)
  go_wp2
  refine region_inv (fun f a w' => a = { tmps := #[.agg #[.int .i64 a0_0, .int .i64 a0_1, .slice A0_2 (l0_2.length) c0_2, .int .i64 a0_3, .int .i64 a0_4, .int .i64 a0_5, .int .i64 a0_6, .int .i64 a0_7, .int .i64 a0_8, .int .i64 a0_9, .int .i64 a0_10], .int .i64 4, .slice (some ad) (l2.length) c2, .pointer (some ⟨g3, 0, none⟩), undef, undef, .pointer (some ⟨g6, 0, none⟩), .int .i64 (wrap64 ((wrap64 ((wrap64 (2 * (rd l2 0))) + 1)) * (wrap64 ((wrap64 (2 * (rd l2 0))) + 1)))), .int .i64 4, .bool false, .bool false, undef, undef, undef, undef, undef, undef, .bool false, .bool false, undef, undef, undef, undef, undef, .bool false, .bool false, undef, undef, undef, undef, undef, undef, undef, undef, .bool false, .bool false, undef, undef, .bool false, .bool false, undef, undef, undef, undef, undef, undef, undef, undef, .bool false, .bool false, undef, undef, undef, undef, undef, undef, undef, undef, .bool false, .bool false, undef, undef, undef, undef, undef, .slice (some ad) (l2.length) c2, .pointer (some ad), .int .i64 (rd l2 0), .int .i64 (wrap64 (2 * (rd l2 0))), .int .i64 (wrap64 ((wrap64 (2 * (rd l2 0))) + 1)), .slice (some ad) (l2.length) c2, .pointer (some ad), .int .i64 (rd l2 0), .int .i64 (wrap64 (2 * (rd l2 0))), .int .i64 (wrap64 ((wrap64 (2 * (rd l2 0))) + 1)), .int .i64 (wrap64 ((wrap64 ((wrap64 (2 * (rd l2 0))) + 1)) * (wrap64 ((wrap64 (2 * (rd l2 0))) + 1)))), .int .i64 4, .bool false, .bool false, undef, undef, undef, undef, undef, .bool true, .bool true, sel (f 0) (.agg #[.int .i64 a0_0, .int .i64 a0_1, .slice A0_2 (l0_2.length) c0_2, .int .i64 a0_3, .int .i64 a0_4, .int .i64 a0_5, .int .i64 a0_6, .int .i64 a0_7, .int .i64 a0_8, .int .i64 a0_9, .int .i64 a0_10]), sel (f 1) (.slice (some ad) (l2.length) c2), sel (f 2) (.pointer (some ad)), sel (f 3) (.int .i64 (rd l2 0)), sel (f 4) (.int .i64 (wrap64 ((wrap64 ((wrap64 (2 * (rd l2 0))) + 1)) * (wrap64 ((wrap64 (2 * (rd l2 0))) + 1))))), sel (f 5) (.int .i64 (wrap64 (Int.tdiv (wrap64 ((wrap64 ((wrap64 (2 * (rd l2 0))) + 1)) * (wrap64 ((wrap64 (2 * (rd l2 0))) + 1)))) 2))), sel (f 6) (.agg #[.int .i64 r1, .int .i64 r2, .int .i64 r3, .int .i64 r4]), undef, undef, undef, undef, undef, undef, undef], defers := [] } ∧ Below w.heap.size w w' ∧ w'.heap[g3]? = some (.cells #[.int .i64 a0_0, .int .i64 a0_1, .slice A0_2 (l0_2.length) c0_2, .int .i64 a0_3, .int .i64 a0_4, .int .i64 a0_5, .int .i64 a0_6, .int .i64 a0_7, .int .i64 a0_8, .int .i64 a0_9, .int .i64 a0_10] 71 (0, 0)) ∧ w'.heap[g6]? = some (.cells (if f 7 = true then #[.int .i64 r1, .int .i64 r2, .int .i64 r3, .int .i64 r4] else #[.int .i64 0, .int .i64 0, .int .i64 0, .int .i64 0]) 51 (0, 0))) (by kernel_rfl) (by kernel_rfl) ?start ?fin ?steps
  case start => exact ⟨rfl, HB.out.drew, blk_drew B_g3.out, blk_drew B_g6.out⟩
  case steps =>
   clear HB B_g3 B_g6
   refine ⟨?o0, ?o1, ?o2, ?o3, ?o4, ?o5, ?o6, ?o7, trivial⟩
   case o0 =>
    rintro f a w' ⟨rfl, HB, k_g3, k_g6⟩ hf hd K hK
    have hz := blk_cell k_g3
    exact valE (N := some 86) (.agg #[.int .i64 a0_0, .int .i64 a0_1, .slice A0_2 (l0_2.length) c0_2, .int .i64 a0_3, .int .i64 a0_4, .int .i64 a0_5, .int .i64 a0_6, .int .i64 a0_7, .int .i64 a0_8, .int .i64 a0_9, .int .i64 a0_10]) (hK _ _ ⟨rfl, HB, k_g3, k_g6⟩)
   case o1 =>
    rintro f a w' ⟨rfl, HB, k_g3, k_g6⟩ hf hd K hK
    exact valE (N := some 87) (.slice (some ad) (l2.length) c2) (hK _ _ ⟨rfl, HB, k_g3, k_g6⟩)
   case o2 =>
    rintro f a w' ⟨rfl, HB, k_g3, k_g6⟩ hf hd K hK
    have e1 := hd 1 (by kernel_rfl)
    rw [e1]
    repeat rw [sel_true]
    exact valE (N := some 88) (.pointer (some ad)) (hK _ _ ⟨(by simp [Act.put, upd, sel_true, e1]), HB, k_g3, k_g6⟩)
   case o3 =>
    rintro f a w' ⟨rfl, HB, k_g3, k_g6⟩ hf hd K hK
    have e2 := hd 2 (by kernel_rfl)
    rw [e2]
    repeat rw [sel_true]
    have hz0 := (HB.cell (World.block_lt_of_cell? w _ hx0)).trans hx0
    exact valE (N := some 89) (.int .i64 (rd l2 0)) (hK _ _ ⟨(by simp [Act.put, upd, sel_true, e2]), HB, k_g3, k_g6⟩)
   case o4 =>
    rintro f a w' ⟨rfl, HB, k_g3, k_g6⟩ hf hd K hK
    exact valE (N := some 90) (.int .i64 (wrap64 ((wrap64 ((wrap64 (2 * (rd l2 0))) + 1)) * (wrap64 ((wrap64 (2 * (rd l2 0))) + 1))))) (hK _ _ ⟨rfl, HB, k_g3, k_g6⟩)
   case o5 =>
    rintro f a w' ⟨rfl, HB, k_g3, k_g6⟩ hf hd K hK
    have e4 := hd 4 (by kernel_rfl)
    rw [e4]
    repeat rw [sel_true]
    exact valE (N := some 91) (.int .i64 (wrap64 (Int.tdiv (wrap64 ((wrap64 ((wrap64 (2 * (rd l2 0))) + 1)) * (wrap64 ((wrap64 (2 * (rd l2 0))) + 1)))) 2))) (hK _ _ ⟨(by simp [Act.put, upd, sel_true, e4]), HB, k_g3, k_g6⟩)
   case o6 =>
    rintro f a w' ⟨rfl, HB, k_g3, k_g6⟩ hf hd K hK
    have e0 := hd 0 (by kernel_rfl)
    have e3 := hd 3 (by kernel_rfl)
    have e5 := hd 5 (by kernel_rfl)
    rw [e0, e3, e5]
    repeat rw [sel_true]
    refine goesD (N := some 92) Try.func60 #[.agg #[.int .i64 a0_0, .int .i64 a0_1, .slice A0_2 (l0_2.length) c0_2, .int .i64 a0_3, .int .i64 a0_4, .int .i64 a0_5, .int .i64 a0_6, .int .i64 a0_7, .int .i64 a0_8, .int .i64 a0_9, .int .i64 a0_10], .int .i64 (rd l2 0), .int .i64 (wrap64 (Int.tdiv (wrap64 ((wrap64 ((wrap64 (2 * (rd l2 0))) + 1)) * (wrap64 ((wrap64 (2 * (rd l2 0))) + 1)))) 2))] ?_
    refine (filter_view_rank.calls k _ _ _ _ _ _ _ _ _ _ _ _ _ (rd l2 0) (wrap64 (Int.tdiv (wrap64 ((wrap64 ((wrap64 (2 * (rd l2 0))) + 1)) * (wrap64 ((wrap64 (2 * (rd l2 0))) + 1)))) 2)) r1 r2 r3 r4 _ (Kd.C_below hr0_2 HB) hc0_2 e1).mono ?_
    rintro e w1 ⟨rfl, hb⟩
    exact ⟨_, rfl, hK _ _ ⟨(by simp [Act.put, upd, sel_true, e0, e3, e5]), below_step HB hb, blk_below k_g3 hb, blk_below k_g6 hb⟩⟩
   case o7 =>
    rintro f a w' ⟨rfl, HB, k_g3, k_g6⟩ hf hd K hK
    have e6 := hd 6 (by kernel_rfl)
    rw [e6]
    repeat rw [sel_true]
    have kk := k_g6
    have zz : w.heap.size ≤ g6 := z_g6
    rw [hf, if_neg (by decide)] at kk
    have hz := blk_cell kk
    have hz' := blk_frozen kk
    exact skipE (w1 := (sets w' g6 0 [.int .i64 r1, .int .i64 r2, .int .i64 r3, .int .i64 r4])) (hK _ _ ⟨(by simp [Act.put, upd, sel_true, e6]), hS0 HB zz, fS0 k_g3 (Nat.ne_of_lt l_g3_g6), pS0 #[.int .i64 r1, .int .i64 r2, .int .i64 r3, .int .i64 r4] kk⟩)
  case fin =>
   clear HB B_g3 B_g6
   rintro f a w' hall ⟨rfl, HB, k_g3, k_g6⟩
   have h0 := hall 0 (by decide)
   have h1 := hall 1 (by decide)
   have h2 := hall 2 (by decide)
   have h3 := hall 3 (by decide)
   have h4 := hall 4 (by decide)
   have h5 := hall 5 (by decide)
   have h6 := hall 6 (by decide)
   have h7 := hall 7 (by decide)
   rw [if_pos h7] at k_g6
   rw [h0, h1, h2, h3, h4, h5, h6]
   simp only [sel_true]
   replace HB := am HB
   have B_g3 := am k_g3
   have B_g6 := am k_g6
   clear hall h0 h1 h2 h3 h4 h5 h6 h7 k_g3 k_g6
   (try clear f)
   go_wp2
   refine bodyPost_ret (results_cell_row rfl _ _ g6 51 #[.int .i64 r1, .int .i64 r2, .int .i64 r3, .int .i64 r4] (0, 0) _ rfl B_g6.out Try.underlying51 rfl (by kernel_rfl)) rfl ?_
   exact ⟨rfl, HB.out⟩
set_option maxHeartbeats 8000000 in
set_option maxRecDepth 100000 in
theorem filtered_7 (k : Nat) (a0_0 a0_1 : Int) (A0_2 : Option Addr) (c0_2 : Nat) (l0_2 : List (S51)) (a0_3 a0_4 a0_5 a0_6 a0_7 a0_8 a0_9 a0_10 : Int) (a1 : Int) (A2 : Option Addr) (c2 : Nat) (l2 : List Int) (r1 r2 r3 r4 : Int)  (w : World) (hr0_2 : Kd.C k51 w A0_2 l0_2.length l0_2) (hc0_2 : l0_2.length ≤ c0_2) (hr2 : Kd.C (Kd.int .i64) w A2 l2.length l2) (h1 : a1 ≠ 1) (h2 : a1 ≠ 2) (h3 : a1 ≠ 3) (h5 : a1 ≠ 5) (h6 : a1 ≠ 6) (h9 : a1 ≠ 9) (h10 : a1 ≠ 10) (h8 : a1 ≠ 8) (h4 : a1 ≠ 4) (hl : 0 < (l2.length : Int)) (e1 : filter_view_rank.f k a0_0 a0_1 l0_2 a0_3 a0_4 a0_5 a0_6 a0_7 a0_8 a0_9 a0_10 (rd l2 0) (wrap64 ((wrap64 (wrap64 (wrap64 (2 * rd l2 0) + 1) * wrap64 (wrap64 (2 * rd l2 0) + 1))) - 1)) = some (r1, r2, r3, r4)) :
  Calls Try.prog 39 #[.agg #[.int .i64 a0_0, .int .i64 a0_1, .slice A0_2 l0_2.length c0_2, .int .i64 a0_3, .int .i64 a0_4, .int .i64 a0_5, .int .i64 a0_6, .int .i64 a0_7, .int .i64 a0_8, .int .i64 a0_9, .int .i64 a0_10], .int .i64 a1, .slice A2 l2.length c2] w fun e w' => e = .returned (.agg #[.int .i64 r1, .int .i64 r2, .int .i64 r3, .int .i64 r4]) ∧ Below w.heap.size w w' := by
 have hu71 := Try.underlying71
 have hu51 := Try.underlying51
 have hu22 := Try.underlying22
 have HB := am (Below.refl w.heap.size w)
 obtain ⟨ad, e9, hx0⟩ := Kd.at_int hr2 0 (by omega) (by omega)
 subst e9
 have q0 : (0 < l2.length) = True := eq_true (by omega)
 have q0' : ((0 : Int) < (l2.length : Int)) = True := eq_true (by omega)
 replace hx0 : w.cell? ad = some (.int .i64 (rd l2 0)) := by simpa [Addr.add, Addr.add_zero'] using hx0
 have n1 : (a1 == 1) = false := beq_eq_false_iff_ne.mpr h1
 have n2 : (a1 == 2) = false := beq_eq_false_iff_ne.mpr h2
 have n3 : (a1 == 3) = false := beq_eq_false_iff_ne.mpr h3
 have n5 : (a1 == 5) = false := beq_eq_false_iff_ne.mpr h5
 have n6 : (a1 == 6) = false := beq_eq_false_iff_ne.mpr h6
 have n9 : (a1 == 9) = false := beq_eq_false_iff_ne.mpr h9
 have n10 : (a1 == 10) = false := beq_eq_false_iff_ne.mpr h10
 have n8 : (a1 == 8) = false := beq_eq_false_iff_ne.mpr h8
 have n4 : (a1 == 4) = false := beq_eq_false_iff_ne.mpr h4
 go_enter Try.func39, Try.ntmps39
 go_wp2_with (first
  | ((with_reducible refine gate_dst (N := 3) rfl ?_); refine boxE (N := 3) #[.int .i64 a0_0, .int .i64 a0_1, .slice A0_2 (l0_2.length) c0_2, .int .i64 a0_3, .int .i64 a0_4, .int .i64 a0_5, .int .i64 a0_6, .int .i64 a0_7, .int .i64 a0_8, .int .i64 a0_9, .int .i64 a0_10] 71 ?_; intro g3 hg w1 hx hb; have z_g3 := zB hg HB; replace HB := hh HB hb; have B_g3 := am hx; clear hx hb hg)
  | ((with_reducible refine gate_dst (N := 6) rfl ?_); refine boxE (N := 6) #[.int .i64 0, .int .i64 0, .int .i64 0, .int .i64 0] 51 ?_; intro g6 hg w2 hx hb; have l_g3_g6 := lB hg B_g3; have z_g6 := zB hg HB; replace B_g3 := bb B_g3 hb; replace HB := hh HB hb; have B_g6 := am hx; clear hx hb hg))
 refine region_inv (fun f a w' => a = { tmps := #[.agg #[.int .i64 a0_0, .int .i64 a0_1, .slice A0_2 (l0_2.length) c0_2, .int .i64 a0_3, .int .i64 a0_4, .int .i64 a0_5, .int .i64 a0_6, .int .i64 a0_7, .int .i64 a0_8, .int .i64 a0_9, .int .i64 a0_10], .int .i64 a1, .slice (some ad) (l2.length) c2, .pointer (some ⟨g3, 0, none⟩), undef, undef, .pointer (some ⟨g6, 0, none⟩), sel (f 11) (.int .i64 (wrap64 ((wrap64 ((wrap64 (2 * (rd l2 0))) + 1)) * (wrap64 ((wrap64 (2 * (rd l2 0))) + 1))))), .int .i64 a1, .bool false, .bool false, undef, undef, undef, undef, undef, undef, .bool false, .bool false, undef, undef, undef, undef, undef, .bool false, .bool false, undef, undef, undef, undef, undef, undef, undef, undef, .bool false, .bool false, undef, undef, .bool false, .bool false, undef, undef, undef, undef, undef, undef, undef, undef, .bool false, .bool false, undef, undef, undef, undef, undef, undef, undef, undef, .bool false, .bool false, undef, undef, undef, undef, undef, sel (f 0) (.slice (some ad) (l2.length) c2), sel (f 1) (.pointer (some ad)), sel (f 2) (.int .i64 (rd l2 0)), sel (f 3) (.int .i64 (wrap64 (2 * (rd l2 0)))), sel (f 4) (.int .i64 (wrap64 ((wrap64 (2 * (rd l2 0))) + 1))), sel (f 5) (.slice (some ad) (l2.length) c2), sel (f 6) (.pointer (some ad)), sel (f 7) (.int .i64 (rd l2 0)), sel (f 8) (.int .i64 (wrap64 (2 * (rd l2 0)))), sel (f 9) (.int .i64 (wrap64 ((wrap64 (2 * (rd l2 0))) + 1))), sel (f 10) (.int .i64 (wrap64 ((wrap64 ((wrap64 (2 * (rd l2 0))) + 1)) * (wrap64 ((wrap64 (2 * (rd l2 0))) + 1))))), undef, undef, undef, undef, undef, undef, undef, undef, undef, undef, undef, undef, undef, undef, undef, undef, undef, undef, undef, undef, undef, undef, undef, undef], defers := [] } ∧ Below w.heap.size w w' ∧ w'.heap[g3]? = some (.cells #[.int .i64 a0_0, .int .i64 a0_1, .slice A0_2 (l0_2.length) c0_2, .int .i64 a0_3, .int .i64 a0_4, .int .i64 a0_5, .int .i64 a0_6, .int .i64 a0_7, .int .i64 a0_8, .int .i64 a0_9, .int .i64 a0_10] 71 (0, 0)) ∧ w'.heap[g6]? = some (.cells #[.int .i64 0, .int .i64 0, .int .i64 0, .int .i64 0] 51 (0, 0))) (by kernel_rfl) (by kernel_rfl) ?start ?fin ?steps
 case start => exact ⟨rfl, HB.out.drew, blk_drew B_g3.out, blk_drew B_g6.out⟩
 case steps =>
  clear HB B_g3 B_g6
  refine ⟨?o0, ?o1, ?o2, ?o3, ?o4, ?o5, ?o6, ?o7, ?o8, ?o9, ?o10, ?o11, trivial⟩
  case o0 =>
   rintro f a w' ⟨rfl, HB, k_g3, k_g6⟩ hf hd K hK
   exact valE (N := some 65) (.slice (some ad) (l2.length) c2) (hK _ _ ⟨rfl, HB, k_g3, k_g6⟩)
  case o1 =>
   rintro f a w' ⟨rfl, HB, k_g3, k_g6⟩ hf hd K hK
   have e0 := hd 0 (by kernel_rfl)
   rw [e0]
   repeat rw [sel_true]
   exact valE (N := some 66) (.pointer (some ad)) (hK _ _ ⟨(by simp [Act.put, upd, sel_true, e0]), HB, k_g3, k_g6⟩)
  case o2 =>
   rintro f a w' ⟨rfl, HB, k_g3, k_g6⟩ hf hd K hK
   have e1 := hd 1 (by kernel_rfl)
   rw [e1]
   repeat rw [sel_true]
   have hz0 := (HB.cell (World.block_lt_of_cell? w _ hx0)).trans hx0
   exact valE (N := some 67) (.int .i64 (rd l2 0)) (hK _ _ ⟨(by simp [Act.put, upd, sel_true, e1]), HB, k_g3, k_g6⟩)
  case o3 =>
   rintro f a w' ⟨rfl, HB, k_g3, k_g6⟩ hf hd K hK
   have e2 := hd 2 (by kernel_rfl)
   rw [e2]
   repeat rw [sel_true]
   exact valE (N := some 68) (.int .i64 (wrap64 (2 * (rd l2 0)))) (hK _ _ ⟨(by simp [Act.put, upd, sel_true, e2]), HB, k_g3, k_g6⟩)
  case o4 =>
   rintro f a w' ⟨rfl, HB, k_g3, k_g6⟩ hf hd K hK
   have e3 := hd 3 (by kernel_rfl)
   rw [e3]
   repeat rw [sel_true]
   exact valE (N := some 69) (.int .i64 (wrap64 ((wrap64 (2 * (rd l2 0))) + 1))) (hK _ _ ⟨(by simp [Act.put, upd, sel_true, e3]), HB, k_g3, k_g6⟩)
  case o5 =>
   rintro f a w' ⟨rfl, HB, k_g3, k_g6⟩ hf hd K hK
   exact valE (N := some 70) (.slice (some ad) (l2.length) c2) (hK _ _ ⟨rfl, HB, k_g3, k_g6⟩)
  case o6 =>
   rintro f a w' ⟨rfl, HB, k_g3, k_g6⟩ hf hd K hK
   have e5 := hd 5 (by kernel_rfl)
   rw [e5]
   repeat rw [sel_true]
   exact valE (N := some 71) (.pointer (some ad)) (hK _ _ ⟨(by simp [Act.put, upd, sel_true, e5]), HB, k_g3, k_g6⟩)
  case o7 =>
   rintro f a w' ⟨rfl, HB, k_g3, k_g6⟩ hf hd K hK
   have e6 := hd 6 (by kernel_rfl)
   rw [e6]
   repeat rw [sel_true]
   have hz0 := (HB.cell (World.block_lt_of_cell? w _ hx0)).trans hx0
   exact valE (N := some 72) (.int .i64 (rd l2 0)) (hK _ _ ⟨(by simp [Act.put, upd, sel_true, e6]), HB, k_g3, k_g6⟩)
  case o8 =>
   rintro f a w' ⟨rfl, HB, k_g3, k_g6⟩ hf hd K hK
   have e7 := hd 7 (by kernel_rfl)
   rw [e7]
   repeat rw [sel_true]
   exact valE (N := some 73) (.int .i64 (wrap64 (2 * (rd l2 0)))) (hK _ _ ⟨(by simp [Act.put, upd, sel_true, e7]), HB, k_g3, k_g6⟩)
  case o9 =>
   rintro f a w' ⟨rfl, HB, k_g3, k_g6⟩ hf hd K hK
   have e8 := hd 8 (by kernel_rfl)
   rw [e8]
   repeat rw [sel_true]
   exact valE (N := some 74) (.int .i64 (wrap64 ((wrap64 (2 * (rd l2 0))) + 1))) (hK _ _ ⟨(by simp [Act.put, upd, sel_true, e8]), HB, k_g3, k_g6⟩)
  case o10 =>
   rintro f a w' ⟨rfl, HB, k_g3, k_g6⟩ hf hd K hK
   have e4 := hd 4 (by kernel_rfl)
   have e9 := hd 9 (by kernel_rfl)
   rw [e4, e9]
   repeat rw [sel_true]
   exact valE (N := some 75) (.int .i64 (wrap64 ((wrap64 ((wrap64 (2 * (rd l2 0))) + 1)) * (wrap64 ((wrap64 (2 * (rd l2 0))) + 1))))) (hK _ _ ⟨(by simp [Act.put, upd, sel_true, e4, e9]), HB, k_g3, k_g6⟩)
  case o11 =>
   rintro f a w' ⟨rfl, HB, k_g3, k_g6⟩ hf hd K hK
   have e10 := hd 10 (by kernel_rfl)
   rw [e10]
   repeat rw [sel_true]
   exact valE (N := some 7) (.int .i64 (wrap64 ((wrap64 ((wrap64 (2 * (rd l2 0))) + 1)) * (wrap64 ((wrap64 (2 * (rd l2 0))) + 1))))) (hK _ _ ⟨(by simp [Act.put, upd, sel_true, e10]), HB, k_g3, k_g6⟩)
 case fin =>
  clear HB B_g3 B_g6
  rintro f a w' hall ⟨rfl, HB, k_g3, k_g6⟩
  have h0 := hall 0 (by decide)
  have h1 := hall 1 (by decide)
  have h2 := hall 2 (by decide)
  have h3 := hall 3 (by decide)
  have h4 := hall 4 (by decide)
  have h5 := hall 5 (by decide)
  have h6 := hall 6 (by decide)
  have h7 := hall 7 (by decide)
  have h8 := hall 8 (by decide)
  have h9 := hall 9 (by decide)
  have h10 := hall 10 (by decide)
  have h11 := hall 11 (by decide)
  rw [h0, h1, h2, h3, h4, h5, h6, h7, h8, h9, h10, h11]
  simp only [sel_true]
  replace HB := am HB
  have B_g3 := am k_g3
  have B_g6 := am k_g6
  clear hall h0 h1 h2 h3 h4 h5 h6 h7 h8 h9 h10 h11 k_g3 k_g6
  (try clear f)
  go_wp2
  refine region_inv (fun f a w' => a = { tmps := #[.agg #[.int .i64 a0_0, .int .i64 a0_1, .slice A0_2 (l0_2.length) c0_2, .int .i64 a0_3, .int .i64 a0_4, .int .i64 a0_5, .int .i64 a0_6, .int .i64 a0_7, .int .i64 a0_8, .int .i64 a0_9, .int .i64 a0_10], .int .i64 a1, .slice (some ad) (l2.length) c2, .pointer (some ⟨g3, 0, none⟩), undef, undef, .pointer (some ⟨g6, 0, none⟩), .int .i64 (wrap64 ((wrap64 ((wrap64 (2 * (rd l2 0))) + 1)) * (wrap64 ((wrap64 (2 * (rd l2 0))) + 1)))), .int .i64 a1, .bool false, .bool false, undef, undef, undef, undef, undef, undef, .bool false, .bool false, undef, undef, undef, undef, undef, .bool false, .bool false, undef, undef, undef, undef, undef, undef, undef, undef, .bool false, .bool false, undef, undef, .bool false, .bool false, undef, undef, undef, undef, undef, undef, undef, undef, .bool false, .bool false, undef, undef, undef, undef, undef, undef, undef, undef, .bool false, .bool false, undef, undef, undef, undef, undef, .slice (some ad) (l2.length) c2, .pointer (some ad), .int .i64 (rd l2 0), .int .i64 (wrap64 (2 * (rd l2 0))), .int .i64 (wrap64 ((wrap64 (2 * (rd l2 0))) + 1)), .slice (some ad) (l2.length) c2, .pointer (some ad), .int .i64 (rd l2 0), .int .i64 (wrap64 (2 * (rd l2 0))), .int .i64 (wrap64 ((wrap64 (2 * (rd l2 0))) + 1)), .int .i64 (wrap64 ((wrap64 ((wrap64 (2 * (rd l2 0))) + 1)) * (wrap64 ((wrap64 (2 * (rd l2 0))) + 1)))), .int .i64 a1, .bool false, .bool false, undef, undef, undef, undef, undef, .bool false, .bool false, undef, undef, undef, undef, undef, undef, undef, sel (f 0) (.agg #[.int .i64 a0_0, .int .i64 a0_1, .slice A0_2 (l0_2.length) c0_2, .int .i64 a0_3, .int .i64 a0_4, .int .i64 a0_5, .int .i64 a0_6, .int .i64 a0_7, .int .i64 a0_8, .int .i64 a0_9, .int .i64 a0_10]), sel (f 1) (.slice (some ad) (l2.length) c2), sel (f 2) (.pointer (some ad)), sel (f 3) (.int .i64 (rd l2 0)), sel (f 4) (.int .i64 (wrap64 ((wrap64 ((wrap64 (2 * (rd l2 0))) + 1)) * (wrap64 ((wrap64 (2 * (rd l2 0))) + 1))))), sel (f 5) (.int .i64 (wrap64 ((wrap64 ((wrap64 ((wrap64 (2 * (rd l2 0))) + 1)) * (wrap64 ((wrap64 (2 * (rd l2 0))) + 1)))) - 1))), sel (f 6) (.agg #[.int .i64 r1, .int .i64 r2, .int .i64 r3, .int .i64 r4])], defers := [] } ∧ Below w.heap.size w w' ∧ w'.heap[g3]? = some (.cells #[.int .i64 a0_0, .int .i64 a0_1, .slice A0_2 (l0_2.length) c0_2, .int .i64 a0_3, .int .i64 a0_4, .int .i64 a0_5, .int .i64 a0_6, .int .i64 a0_7, .int .i64 a0_8, .int .i64 a0_9, .int .i64 a0_10] 71 (0, 0)) ∧ w'.heap[g6]? = some (.cells (if f 7 = true then #[.int .i64 r1, .int .i64 r2, .int .i64 r3, .int .i64 r4] else #[.int .i64 0, .int .i64 0, .int .i64 0, .int .i64 0]) 51 (0, 0))) (by kernel_rfl) (by kernel_rfl) ?start ?fin ?steps
  case start => exact ⟨rfl, HB.out.drew, blk_drew B_g3.out, blk_drew B_g6.out⟩
  case steps =>
   clear HB B_g3 B_g6
   refine ⟨?o0, ?o1, ?o2, ?o3, ?o4, ?o5, ?o6, ?o7, trivial⟩
   case o0 =>
    rintro f a w' ⟨rfl, HB, k_g3, k_g6⟩ hf hd K hK
    have hz := blk_cell k_g3
    exact valE (N := some 93) (.agg #[.int .i64 a0_0, .int .i64 a0_1, .slice A0_2 (l0_2.length) c0_2, .int .i64 a0_3, .int .i64 a0_4, .int .i64 a0_5, .int .i64 a0_6, .int .i64 a0_7, .int .i64 a0_8, .int .i64 a0_9, .int .i64 a0_10]) (hK _ _ ⟨rfl, HB, k_g3, k_g6⟩)
   case o1 =>
    rintro f a w' ⟨rfl, HB, k_g3, k_g6⟩ hf hd K hK
    exact valE (N := some 94) (.slice (some ad) (l2.length) c2) (hK _ _ ⟨rfl, HB, k_g3, k_g6⟩)
   case o2 =>
    rintro f a w' ⟨rfl, HB, k_g3, k_g6⟩ hf hd K hK
    have e1 := hd 1 (by kernel_rfl)
    rw [e1]
    repeat rw [sel_true]
    exact valE (N := some 95) (.pointer (some ad)) (hK _ _ ⟨(by simp [Act.put, upd, sel_true, e1]), HB, k_g3, k_g6⟩)
   case o3 =>
    rintro f a w' ⟨rfl, HB, k_g3, k_g6⟩ hf hd K hK
    have e2 := hd 2 (by kernel_rfl)
    rw [e2]
    repeat rw [sel_true]
    have hz0 := (HB.cell (World.block_lt_of_cell? w _ hx0)).trans hx0
    exact valE (N := some 96) (.int .i64 (rd l2 0)) (hK _ _ ⟨(by simp [Act.put, upd, sel_true, e2]), HB, k_g3, k_g6⟩)
   case o4 =>
    rintro f a w' ⟨rfl, HB, k_g3, k_g6⟩ hf hd K hK
    exact valE (N := some 97) (.int .i64 (wrap64 ((wrap64 ((wrap64 (2 * (rd l2 0))) + 1)) * (wrap64 ((wrap64 (2 * (rd l2 0))) + 1))))) (hK _ _ ⟨rfl, HB, k_g3, k_g6⟩)
   case o5 =>
    rintro f a w' ⟨rfl, HB, k_g3, k_g6⟩ hf hd K hK
    have e4 := hd 4 (by kernel_rfl)
    rw [e4]
    repeat rw [sel_true]
    exact valE (N := some 98) (.int .i64 (wrap64 ((wrap64 ((wrap64 ((wrap64 (2 * (rd l2 0))) + 1)) * (wrap64 ((wrap64 (2 * (rd l2 0))) + 1)))) - 1))) (hK _ _ ⟨(by simp [Act.put, upd, sel_true, e4]), HB, k_g3, k_g6⟩)
   case o6 =>
    rintro f a w' ⟨rfl, HB, k_g3, k_g6⟩ hf hd K hK
    have e0 := hd 0 (by kernel_rfl)
    have e3 := hd 3 (by kernel_rfl)
    have e5 := hd 5 (by kernel_rfl)
    rw [e0, e3, e5]
    repeat rw [sel_true]
    refine goesD (N := some 99) Try.func60 #[.agg #[.int .i64 a0_0, .int .i64 a0_1, .slice A0_2 (l0_2.length) c0_2, .int .i64 a0_3, .int .i64 a0_4, .int .i64 a0_5, .int .i64 a0_6, .int .i64 a0_7, .int .i64 a0_8, .int .i64 a0_9, .int .i64 a0_10], .int .i64 (rd l2 0), .int .i64 (wrap64 ((wrap64 ((wrap64 ((wrap64 (2 * (rd l2 0))) + 1)) * (wrap64 ((wrap64 (2 * (rd l2 0))) + 1)))) - 1))] ?_
    refine (filter_view_rank.calls k _ _ _ _ _ _ _ _ _ _ _ _ _ (rd l2 0) (wrap64 ((wrap64 ((wrap64 ((wrap64 (2 * (rd l2 0))) + 1)) * (wrap64 ((wrap64 (2 * (rd l2 0))) + 1)))) - 1)) r1 r2 r3 r4 _ (Kd.C_below hr0_2 HB) hc0_2 e1).mono ?_
    rintro e w1 ⟨rfl, hb⟩
    exact ⟨_, rfl, hK _ _ ⟨(by simp [Act.put, upd, sel_true, e0, e3, e5]), below_step HB hb, blk_below k_g3 hb, blk_below k_g6 hb⟩⟩
   case o7 =>
    rintro f a w' ⟨rfl, HB, k_g3, k_g6⟩ hf hd K hK
    have e6 := hd 6 (by kernel_rfl)
    rw [e6]
    repeat rw [sel_true]
    have kk := k_g6
    have zz : w.heap.size ≤ g6 := z_g6
    rw [hf, if_neg (by decide)] at kk
    have hz := blk_cell kk
    have hz' := blk_frozen kk
    exact skipE (w1 := (sets w' g6 0 [.int .i64 r1, .int .i64 r2, .int .i64 r3, .int .i64 r4])) (hK _ _ ⟨(by simp [Act.put, upd, sel_true, e6]), hS0 HB zz, fS0 k_g3 (Nat.ne_of_lt l_g3_g6), pS0 #[.int .i64 r1, .int .i64 r2, .int .i64 r3, .int .i64 r4] kk⟩)
  case fin =>
   clear HB B_g3 B_g6
   rintro f a w' hall ⟨rfl, HB, k_g3, k_g6⟩
   have h0 := hall 0 (by decide)
   have h1 := hall 1 (by decide)
   have h2 := hall 2 (by decide)
   have h3 := hall 3 (by decide)
   have h4 := hall 4 (by decide)
   have h5 := hall 5 (by decide)
   have h6 := hall 6 (by decide)
   have h7 := hall 7 (by decide)
   rw [if_pos h7] at k_g6
   rw [h0, h1, h2, h3, h4, h5, h6]
   simp only [sel_true]
   replace HB := am HB
   have B_g3 := am k_g3
   have B_g6 := am k_g6
   clear hall h0 h1 h2 h3 h4 h5 h6 h7 k_g3 k_g6
   (try clear f)
   go_wp2
   refine bodyPost_ret (results_cell_row rfl _ _ g6 51 #[.int .i64 r1, .int .i64 r2, .int .i64 r3, .int .i64 r4] (0, 0) _ rfl B_g6.out Try.underlying51 rfl (by kernel_rfl)) rfl ?_
   exact ⟨rfl, HB.out⟩
def filter_view_filtered.f (k : Nat) (a0_0 a0_1 : Int) (l0_2 : List (S51)) (a0_3 a0_4 a0_5 a0_6 a0_7 a0_8 a0_9 a0_10 : Int) (a1 : Int) (l2 : List Int) : Option (Int × Int × Int × Int) :=
 if a1 = 1 then (if 0 < (l2.length : Int) then (filter_view_square.f k a0_0 a0_1 l0_2 a0_3 a0_4 a0_5 a0_6 a0_7 a0_8 a0_9 a0_10 (rd l2 0)).bind fun l => filter_mean.f k l else none) else if a1 = 2 then (if 0 < (l2.length : Int) then filter_view_gauss.f k a0_0 a0_1 l0_2 a0_3 a0_4 a0_5 a0_6 a0_7 a0_8 a0_9 a0_10 (rd l2 0) else none) else if a1 = 3 then (if 1 < (l2.length : Int) then filter_view_sharpen.f k a0_0 a0_1 l0_2 a0_3 a0_4 a0_5 a0_6 a0_7 a0_8 a0_9 a0_10 (rd l2 0) (rd l2 1) else none) else if a1 = 5 then filter_view_edge.f k a0_0 a0_1 l0_2 a0_3 a0_4 a0_5 a0_6 a0_7 a0_8 a0_9 a0_10 else if a1 = 6 then ((filter_view_luma.f k a0_0 a0_1 l0_2 a0_3 a0_4 a0_5 a0_6 a0_7 a0_8 a0_9 a0_10 1 1).bind fun t1 => (filter_view_luma.f k a0_0 a0_1 l0_2 a0_3 a0_4 a0_5 a0_6 a0_7 a0_8 a0_9 a0_10 (-1) (-1)).bind fun t2 => filter_view_gray.f a0_0 a0_1 l0_2 a0_3 a0_4 a0_5 a0_6 a0_7 a0_8 a0_9 a0_10 (wrap64 (wrap64 (32768 + t1) - t2))) else if a1 = 9 then (if 1 < (l2.length : Int) then filter_view_motion.f k a0_0 a0_1 l0_2 a0_3 a0_4 a0_5 a0_6 a0_7 a0_8 a0_9 a0_10 (rd l2 0) (rd l2 1) else none) else if a1 = 10 then (if 0 < (l2.length : Int) then filter_view_block.f k a0_0 a0_1 l0_2 a0_3 a0_4 a0_5 a0_6 a0_7 a0_8 a0_9 a0_10 (rd l2 0) else none) else if a1 = 8 then (if 0 < (l2.length : Int) then filter_view_rank.f k a0_0 a0_1 l0_2 a0_3 a0_4 a0_5 a0_6 a0_7 a0_8 a0_9 a0_10 (rd l2 0) 0 else none) else if a1 = 4 then (if 0 < (l2.length : Int) then filter_view_rank.f k a0_0 a0_1 l0_2 a0_3 a0_4 a0_5 a0_6 a0_7 a0_8 a0_9 a0_10 (rd l2 0) (wrap64 (Int.tdiv (wrap64 (wrap64 (wrap64 (2 * rd l2 0) + 1) * wrap64 (wrap64 (2 * rd l2 0) + 1))) 2)) else none) else (if 0 < (l2.length : Int) then filter_view_rank.f k a0_0 a0_1 l0_2 a0_3 a0_4 a0_5 a0_6 a0_7 a0_8 a0_9 a0_10 (rd l2 0) (wrap64 ((wrap64 (wrap64 (wrap64 (2 * rd l2 0) + 1) * wrap64 (wrap64 (2 * rd l2 0) + 1))) - 1)) else none)
theorem filter_view_filtered.mono : ∀ x0 x1 x2 x3 x4 x5 x6 x7 x8 x9 x10 a1 l2 k, LeO (filter_view_filtered.f k x0 x1 x2 x3 x4 x5 x6 x7 x8 x9 x10 a1 l2) (filter_view_filtered.f (k + 1) x0 x1 x2 x3 x4 x5 x6 x7 x8 x9 x10 a1 l2) := by
 intro x0 x1 x2 x3 x4 x5 x6 x7 x8 x9 x10 a1 l2 k
 unfold filter_view_filtered.f
 repeat' first
   | exact filter_mean.mono _ _
   | exact filter_view_block.mono _ _ _ _ _ _ _ _ _ _ _ _ _
   | exact filter_view_edge.mono _ _ _ _ _ _ _ _ _ _ _ _
   | exact filter_view_gauss.mono _ _ _ _ _ _ _ _ _ _ _ _ _
   | exact filter_view_luma.mono _ _ _ _ _ _ _ _ _ _ _ _ _ _
   | exact filter_view_motion.mono _ _ _ _ _ _ _ _ _ _ _ _ _ _
   | exact filter_view_rank.mono _ _ _ _ _ _ _ _ _ _ _ _ _ _
   | exact filter_view_sharpen.mono _ _ _ _ _ _ _ _ _ _ _ _ _ _
   | exact filter_view_square.mono _ _ _ _ _ _ _ _ _ _ _ _ _
   | exact LeO.refl _
   | exact LeO.none _
   | refine LeO.ite ?_ ?_
   | refine LeO.bind ?_ (fun _ => ?_)
theorem filter_view_filtered.calls (k : Nat) (a0_0 a0_1 : Int) (A0_2 : Option Addr) (c0_2 : Nat) (l0_2 : List (S51)) (a0_3 a0_4 a0_5 a0_6 a0_7 a0_8 a0_9 a0_10 : Int) (a1 : Int) (A2 : Option Addr) (c2 : Nat) (l2 : List Int) (r1 r2 r3 r4 : Int) (w : World) (hr0_2 : Kd.C k51 w A0_2 l0_2.length l0_2) (hc0_2 : l0_2.length ≤ c0_2) (hr2 : Kd.C (Kd.int .i64) w A2 l2.length l2) (hc2 : l2.length ≤ c2) (h : filter_view_filtered.f k a0_0 a0_1 l0_2 a0_3 a0_4 a0_5 a0_6 a0_7 a0_8 a0_9 a0_10 a1 l2 = some (r1, r2, r3, r4)) :
  Calls Try.prog 39 #[.agg #[.int .i64 a0_0, .int .i64 a0_1, .slice A0_2 l0_2.length c0_2, .int .i64 a0_3, .int .i64 a0_4, .int .i64 a0_5, .int .i64 a0_6, .int .i64 a0_7, .int .i64 a0_8, .int .i64 a0_9, .int .i64 a0_10], .int .i64 a1, .slice A2 l2.length c2] w fun e w' => e = .returned (.agg #[.int .i64 r1, .int .i64 r2, .int .i64 r3, .int .i64 r4]) ∧ Below w.heap.size w w' := by
 unfold filter_view_filtered.f at h
 by_cases h1 : a1 = 1
 ·rw [if_pos h1] at h
  rw [h1]
  by_cases hl : 0 < (l2.length : Int)
  ·rw [if_pos hl] at h
   obtain ⟨l, e1, e2⟩ := Option.bind_eq_some_iff.mp h; exact filtered_1 k a0_0 a0_1 A0_2 c0_2 l0_2 a0_3 a0_4 a0_5 a0_6 a0_7 a0_8 a0_9 a0_10 A2 c2 l2 r1 r2 r3 r4 l w hr0_2 hc0_2 hr2 hl e1 e2
  ·rw [if_neg hl] at h; cases h
 rw [if_neg h1] at h
 by_cases h2 : a1 = 2
 ·rw [if_pos h2] at h
  rw [h2]
  by_cases hl : 0 < (l2.length : Int)
  ·rw [if_pos hl] at h
   exact filtered_2 k a0_0 a0_1 A0_2 c0_2 l0_2 a0_3 a0_4 a0_5 a0_6 a0_7 a0_8 a0_9 a0_10 A2 c2 l2 r1 r2 r3 r4 w hr0_2 hc0_2 hr2 hl h
  ·rw [if_neg hl] at h; cases h
 rw [if_neg h2] at h
 by_cases h3 : a1 = 3
 ·rw [if_pos h3] at h
  rw [h3]
  by_cases hl : 1 < (l2.length : Int)
  ·rw [if_pos hl] at h
   exact filtered_3 k a0_0 a0_1 A0_2 c0_2 l0_2 a0_3 a0_4 a0_5 a0_6 a0_7 a0_8 a0_9 a0_10 A2 c2 l2 r1 r2 r3 r4 w hr0_2 hc0_2 hr2 hl h
  ·rw [if_neg hl] at h; cases h
 rw [if_neg h3] at h
 by_cases h5 : a1 = 5
 ·rw [if_pos h5] at h
  rw [h5]
  exact filtered_5 k a0_0 a0_1 A0_2 c0_2 l0_2 a0_3 a0_4 a0_5 a0_6 a0_7 a0_8 a0_9 a0_10 A2 c2 l2 r1 r2 r3 r4 w hr0_2 hc0_2 hr2 h
 rw [if_neg h5] at h
 by_cases h6 : a1 = 6
 ·rw [if_pos h6] at h
  rw [h6]
  obtain ⟨t1, e1, h⟩ := Option.bind_eq_some_iff.mp h; obtain ⟨t2, e2, h⟩ := Option.bind_eq_some_iff.mp h; exact filtered_6 k a0_0 a0_1 A0_2 c0_2 l0_2 a0_3 a0_4 a0_5 a0_6 a0_7 a0_8 a0_9 a0_10 A2 c2 l2 r1 r2 r3 r4 t1 t2 w hr0_2 hc0_2 hr2 e1 e2 h
 rw [if_neg h6] at h
 by_cases h9 : a1 = 9
 ·rw [if_pos h9] at h
  rw [h9]
  by_cases hl : 1 < (l2.length : Int)
  ·rw [if_pos hl] at h
   exact filtered_9 k a0_0 a0_1 A0_2 c0_2 l0_2 a0_3 a0_4 a0_5 a0_6 a0_7 a0_8 a0_9 a0_10 A2 c2 l2 r1 r2 r3 r4 w hr0_2 hc0_2 hr2 hl h
  ·rw [if_neg hl] at h; cases h
 rw [if_neg h9] at h
 by_cases h10 : a1 = 10
 ·rw [if_pos h10] at h
  rw [h10]
  by_cases hl : 0 < (l2.length : Int)
  ·rw [if_pos hl] at h
   exact filtered_10 k a0_0 a0_1 A0_2 c0_2 l0_2 a0_3 a0_4 a0_5 a0_6 a0_7 a0_8 a0_9 a0_10 A2 c2 l2 r1 r2 r3 r4 w hr0_2 hc0_2 hr2 hl h
  ·rw [if_neg hl] at h; cases h
 rw [if_neg h10] at h
 by_cases h8 : a1 = 8
 ·rw [if_pos h8] at h
  rw [h8]
  by_cases hl : 0 < (l2.length : Int)
  ·rw [if_pos hl] at h
   exact filtered_8 k a0_0 a0_1 A0_2 c0_2 l0_2 a0_3 a0_4 a0_5 a0_6 a0_7 a0_8 a0_9 a0_10 A2 c2 l2 r1 r2 r3 r4 w hr0_2 hc0_2 hr2 hl h
  ·rw [if_neg hl] at h; cases h
 rw [if_neg h8] at h
 by_cases h4 : a1 = 4
 ·rw [if_pos h4] at h
  rw [h4]
  by_cases hl : 0 < (l2.length : Int)
  ·rw [if_pos hl] at h
   exact filtered_4 k a0_0 a0_1 A0_2 c0_2 l0_2 a0_3 a0_4 a0_5 a0_6 a0_7 a0_8 a0_9 a0_10 A2 c2 l2 r1 r2 r3 r4 w hr0_2 hc0_2 hr2 hl h
  ·rw [if_neg hl] at h; cases h
 rw [if_neg h4] at h
 by_cases hl : 0 < (l2.length : Int)
 ·rw [if_pos hl] at h
  exact filtered_7 k a0_0 a0_1 A0_2 c0_2 l0_2 a0_3 a0_4 a0_5 a0_6 a0_7 a0_8 a0_9 a0_10 a1 A2 c2 l2 r1 r2 r3 r4 w hr0_2 hc0_2 hr2 h1 h2 h3 h5 h6 h9 h10 h8 h4 hl h
 ·rw [if_neg hl] at h; cases h



end Go.Proofs.Ytocefehnemahhaa.G
