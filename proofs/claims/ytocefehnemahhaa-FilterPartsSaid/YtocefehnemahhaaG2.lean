-- laid by gprint.py (a program of this proof's writer) out of the translation; Lean checks it.
import Derived.Test.YtocefehnemahhaaG0
namespace Go.Proofs.Ytocefehnemahhaa.G
open Go.RowKit Go.Proofs.YtocefehnemahhaaW.PrintWords Go.Proofs.YtocefehnemahhaaW.PrintLast Go.Proofs.YtocefehnemahhaaW.PrintMore
attribute [local go_sem] max2_int min2_int max_two min_two max_three min_three max_four min_four   -- for this text's walks alone
set_option linter.unusedVariables false
set_option linter.unusedSimpArgs false

/-! ### filter_Check: function 9: proved by hand -/
theorem lit_event {P : Program} {ops : Array Oper} {rest : List Oper} {o : Oper} {a : Act} {Q : Exit → Act → World → Prop} {W : World} (hgd : o.guard = none) {N : Tmp} (_hd : o.dst = some N) {cs : Array Value} {t : TypeId} {n : Nat}
  (hrun : (execOp a.eval o).run P W = .ok (.value (.slice (some ⟨W.heap.size, 0, none⟩) n n)) (W.alloc (.cells cs t (0, 0))))
  (h : ∀ g, ∀ w1, w1.heap[g]? = some (.cells cs t (0, 0)) → Below W.heap.size W w1 → wpList P ops Q rest (a.put o.dst (.slice (some ⟨g, 0, none⟩) n n)) w1) : wpList P ops Q (o :: rest) a W :=
 Kd.event_run hgd hrun (h _ _ (blk_new W _) (below_alloc (Below.refl _ _) _))
/-- The least and the greatest value of each parameter. -/
def rngs (k : Int) : List (Int × Int) :=
 if k = 1 ∨ k = 7 ∨ k = 8 then [(0, 16)] else if k = 2 then [(0, 7)] else if k = 4 then [(0, 4)] else if k = 3 then [(0, 16), (0, 262140)]
 else if k = 9 then [(-16, 16), (-16, 16)] else if k = 10 then [(1, 16)] else []
def rcells (r : List (Int × Int)) : List Value := r.flatMap fun p => [.int .i64 p.1, .int .i64 p.2]
set_option maxHeartbeats 8000000 in
set_option maxRecDepth 100000 in
theorem ranges_1 (w : World) : Calls Try.prog 31 #[.int .i64 1] w fun e w' => ∃ g, e = .returned (.slice (some ⟨g, 0, none⟩) 1 1) ∧ w'.heap[g]? = some (.cells #[.int .i64 0, .int .i64 16] 62 (0, 0)) ∧ Below w.heap.size w w' := by
 have hu60 := Try.underlying60
 have hu62 := Try.underlying62
 go_enter Try.func31, Try.ntmps31
 go_wp2_with (first | ((with_reducible refine gate_dst (N := 9) rfl ?_); refine lit_event ?hg (N := 9) ?hd (cs := #[.int .i64 0, .int .i64 16]) (t := 62) (n := 1) ?hr ?_; (case hd => rfl); (case hg => rfl); (case hr => first | (go_simp; done) | (go_simp; rfl)); intro g w1 hg hb))
 go_ret
 exact ⟨_, rfl, hg, hb⟩
set_option maxHeartbeats 8000000 in
set_option maxRecDepth 100000 in
theorem ranges_2 (w : World) : Calls Try.prog 31 #[.int .i64 2] w fun e w' => ∃ g, e = .returned (.slice (some ⟨g, 0, none⟩) 1 1) ∧ w'.heap[g]? = some (.cells #[.int .i64 0, .int .i64 7] 62 (0, 0)) ∧ Below w.heap.size w w' := by
 have hu60 := Try.underlying60
 have hu62 := Try.underlying62
 go_enter Try.func31, Try.ntmps31
 go_wp2_with (first | ((with_reducible refine gate_dst (N := 13) rfl ?_); refine lit_event ?hg (N := 13) ?hd (cs := #[.int .i64 0, .int .i64 7]) (t := 62) (n := 1) ?hr ?_; (case hd => rfl); (case hg => rfl); (case hr => first | (go_simp; done) | (go_simp; rfl)); intro g w1 hg hb))
 go_ret
 exact ⟨_, rfl, hg, hb⟩
set_option maxHeartbeats 8000000 in
set_option maxRecDepth 100000 in
theorem ranges_3 (w : World) : Calls Try.prog 31 #[.int .i64 3] w fun e w' => ∃ g, e = .returned (.slice (some ⟨g, 0, none⟩) 2 2) ∧ w'.heap[g]? = some (.cells #[.int .i64 0, .int .i64 16, .int .i64 0, .int .i64 262140] 62 (0, 0)) ∧ Below w.heap.size w w' := by
 have hu60 := Try.underlying60
 have hu62 := Try.underlying62
 go_enter Try.func31, Try.ntmps31
 go_wp2_with (first | ((with_reducible refine gate_dst (N := 22) rfl ?_); refine lit_event ?hg (N := 22) ?hd (cs := #[.int .i64 0, .int .i64 16, .int .i64 0, .int .i64 262140]) (t := 62) (n := 2) ?hr ?_; (case hd => rfl); (case hg => rfl); (case hr => first | (go_simp; done) | (go_simp; rfl)); intro g w1 hg hb))
 go_ret
 exact ⟨_, rfl, hg, hb⟩
set_option maxHeartbeats 8000000 in
set_option maxRecDepth 100000 in
theorem ranges_4 (w : World) : Calls Try.prog 31 #[.int .i64 4] w fun e w' => ∃ g, e = .returned (.slice (some ⟨g, 0, none⟩) 1 1) ∧ w'.heap[g]? = some (.cells #[.int .i64 0, .int .i64 4] 62 (0, 0)) ∧ Below w.heap.size w w' := by
 have hu60 := Try.underlying60
 have hu62 := Try.underlying62
 go_enter Try.func31, Try.ntmps31
 go_wp2_with (first | ((with_reducible refine gate_dst (N := 17) rfl ?_); refine lit_event ?hg (N := 17) ?hd (cs := #[.int .i64 0, .int .i64 4]) (t := 62) (n := 1) ?hr ?_; (case hd => rfl); (case hg => rfl); (case hr => first | (go_simp; done) | (go_simp; rfl)); intro g w1 hg hb))
 go_ret
 exact ⟨_, rfl, hg, hb⟩
set_option maxHeartbeats 8000000 in
set_option maxRecDepth 100000 in
theorem ranges_5 (w : World) : Calls Try.prog 31 #[.int .i64 5] w fun e w' => e = .returned (.slice none 0 0) ∧ Below w.heap.size w w' := by
 go_enter Try.func31, Try.ntmps31
 go_wp2
 go_ret
 exact ⟨rfl, (by repeat (first | exact Below.refl _ _ | apply pw_below_drewN | apply below_drew1))⟩
set_option maxHeartbeats 8000000 in
set_option maxRecDepth 100000 in
theorem ranges_6 (w : World) : Calls Try.prog 31 #[.int .i64 6] w fun e w' => e = .returned (.slice none 0 0) ∧ Below w.heap.size w w' := by
 go_enter Try.func31, Try.ntmps31
 go_wp2
 go_ret
 exact ⟨rfl, (by repeat (first | exact Below.refl _ _ | apply pw_below_drewN | apply below_drew1))⟩
set_option maxHeartbeats 8000000 in
set_option maxRecDepth 100000 in
theorem ranges_7 (w : World) : Calls Try.prog 31 #[.int .i64 7] w fun e w' => ∃ g, e = .returned (.slice (some ⟨g, 0, none⟩) 1 1) ∧ w'.heap[g]? = some (.cells #[.int .i64 0, .int .i64 16] 62 (0, 0)) ∧ Below w.heap.size w w' := by
 have hu60 := Try.underlying60
 have hu62 := Try.underlying62
 go_enter Try.func31, Try.ntmps31
 go_wp2_with (first | ((with_reducible refine gate_dst (N := 9) rfl ?_); refine lit_event ?hg (N := 9) ?hd (cs := #[.int .i64 0, .int .i64 16]) (t := 62) (n := 1) ?hr ?_; (case hd => rfl); (case hg => rfl); (case hr => first | (go_simp; done) | (go_simp; rfl)); intro g w1 hg hb))
 go_ret
 exact ⟨_, rfl, hg, hb⟩
set_option maxHeartbeats 8000000 in
set_option maxRecDepth 100000 in
theorem ranges_8 (w : World) : Calls Try.prog 31 #[.int .i64 8] w fun e w' => ∃ g, e = .returned (.slice (some ⟨g, 0, none⟩) 1 1) ∧ w'.heap[g]? = some (.cells #[.int .i64 0, .int .i64 16] 62 (0, 0)) ∧ Below w.heap.size w w' := by
 have hu60 := Try.underlying60
 have hu62 := Try.underlying62
 go_enter Try.func31, Try.ntmps31
 go_wp2_with (first | ((with_reducible refine gate_dst (N := 9) rfl ?_); refine lit_event ?hg (N := 9) ?hd (cs := #[.int .i64 0, .int .i64 16]) (t := 62) (n := 1) ?hr ?_; (case hd => rfl); (case hg => rfl); (case hr => first | (go_simp; done) | (go_simp; rfl)); intro g w1 hg hb))
 go_ret
 exact ⟨_, rfl, hg, hb⟩
set_option maxHeartbeats 8000000 in
set_option maxRecDepth 100000 in
theorem ranges_9 (w : World) : Calls Try.prog 31 #[.int .i64 9] w fun e w' => ∃ g, e = .returned (.slice (some ⟨g, 0, none⟩) 2 2) ∧ w'.heap[g]? = some (.cells #[.int .i64 (-16), .int .i64 16, .int .i64 (-16), .int .i64 16] 62 (0, 0)) ∧ Below w.heap.size w w' := by
 have hu60 := Try.underlying60
 have hu62 := Try.underlying62
 go_enter Try.func31, Try.ntmps31
 go_wp2_with (first | ((with_reducible refine gate_dst (N := 27) rfl ?_); refine lit_event ?hg (N := 27) ?hd (cs := #[.int .i64 (-16), .int .i64 16, .int .i64 (-16), .int .i64 16]) (t := 62) (n := 2) ?hr ?_; (case hd => rfl); (case hg => rfl); (case hr => first | (go_simp; done) | (go_simp; rfl)); intro g w1 hg hb))
 go_ret
 exact ⟨_, rfl, hg, hb⟩
set_option maxHeartbeats 8000000 in
set_option maxRecDepth 100000 in
theorem ranges_10 (w : World) : Calls Try.prog 31 #[.int .i64 10] w fun e w' => ∃ g, e = .returned (.slice (some ⟨g, 0, none⟩) 1 1) ∧ w'.heap[g]? = some (.cells #[.int .i64 1, .int .i64 16] 62 (0, 0)) ∧ Below w.heap.size w w' := by
 have hu60 := Try.underlying60
 have hu62 := Try.underlying62
 go_enter Try.func31, Try.ntmps31
 go_wp2_with (first | ((with_reducible refine gate_dst (N := 31) rfl ?_); refine lit_event ?hg (N := 31) ?hd (cs := #[.int .i64 1, .int .i64 16]) (t := 62) (n := 1) ?hr ?_; (case hd => rfl); (case hg => rfl); (case hr => first | (go_simp; done) | (go_simp; rfl)); intro g w1 hg hb))
 go_ret
 exact ⟨_, rfl, hg, hb⟩
set_option maxHeartbeats 8000000 in
set_option maxRecDepth 100000 in
theorem check_len (a0 : Int) (A1 : Option Addr) (c1 n m : Nat) (w : World) (b1 : (a0 < 1) = False) (b2 : (10 < a0) = False) (hn : n ≤ 9223372036854775807) (hne : n ≠ m)
  (hr : ∀ w, Calls Try.prog 31 #[.int .i64 a0] w fun e w' => ∃ A c, e = .returned (.slice A m c) ∧ Below w.heap.size w w') :
  Calls Try.prog 9 #[.int .i64 a0, .slice A1 n c1] w fun e w' => e = .returned (.int .i64 1) ∧ Below w.heap.size w w' := by
 have hz : ((n : Int) != (m : Int)) = true := by simp; omega
 go_enter Try.func9, Try.ntmps9
 go_wp2_with (first | ((with_reducible refine gate_callee (f := 31) rfl ?_); refine goesP (some 15) Try.func31 #[.int .i64 a0] ?_; (with_reducible refine (hr _).mono ?_); rintro e w1 ⟨A, c, rfl, hb⟩; refine ⟨_, rfl, ?_⟩; skip))
 go_ret
 exact ⟨rfl, hb⟩
set_option maxHeartbeats 8000000 in
set_option maxRecDepth 100000 in
theorem check_out (a0 : Int) (A1 : Option Addr) (c1 n : Nat) (w : World) (b : a0 < 1 ∨ 10 < a0) :
  Calls Try.prog 9 #[.int .i64 a0, .slice A1 n c1] w fun e w' => e = .returned (.int .i64 8) ∧ Below w.heap.size w w' := by
 by_cases b1 : a0 < 1
 ·have b1' := eq_true b1
  go_enter Try.func9, Try.ntmps9
  go_wp2
  go_ret
  exact ⟨rfl, Below.refl _ _⟩
 ·have b2' := eq_true (b.resolve_left b1)
  replace b1 := eq_false b1
  go_enter Try.func9, Try.ntmps9
  go_wp2
  go_ret
  exact ⟨rfl, Below.refl _ _⟩
set_option maxHeartbeats 8000000 in
set_option maxRecDepth 100000 in
theorem check_0 (a0 : Int) (A1 : Option Addr) (c1 : Nat) (w : World) (b1 : (a0 < 1) = False) (b2 : (10 < a0) = False)
  (hr : ∀ w, Calls Try.prog 31 #[.int .i64 a0] w fun e w' => e = .returned (.slice none 0 0) ∧ Below w.heap.size w w') :
  Calls Try.prog 9 #[.int .i64 a0, .slice A1 0 c1] w fun e w' => e = .returned (.int .i64 0) ∧ Below w.heap.size w w' := by
 go_enter Try.func9, Try.ntmps9
 go_wp2_with (first | ((with_reducible refine gate_callee (f := 31) rfl ?_); refine goesP (some 15) Try.func31 #[.int .i64 a0] ?_; (with_reducible refine (hr _).mono ?_); rintro e w1 ⟨rfl, hb⟩; refine ⟨_, rfl, ?_⟩; skip))
 refine wp_loop_rounds 1 ?_
 rw [rounds_succ]
 go_wp2
 go_ret
 exact ⟨rfl, hb⟩
set_option maxHeartbeats 8000000 in
set_option maxRecDepth 100000 in
theorem check_1 (a0 lo0 hi0 x0 : Int) (A1 : Option Addr) (c1 : Nat) (w : World) (b1 : (a0 < 1) = False) (b2 : (10 < a0) = False) (hr1 : Kd.C (Kd.int .i64) w A1 1 [x0])
  (hr : ∀ w, Calls Try.prog 31 #[.int .i64 a0] w fun e w' => ∃ g, e = .returned (.slice (some ⟨g, 0, none⟩) 1 1) ∧ w'.heap[g]? = some (.cells #[.int .i64 lo0, .int .i64 hi0] 62 (0, 0)) ∧ Below w.heap.size w w') :
  Calls Try.prog 9 #[.int .i64 a0, .slice A1 1 c1] w fun e w' => e = .returned (.int .i64 (if x0 < lo0 ∨ hi0 < x0 then 2 else 0)) ∧ Below w.heap.size w w' := by
 have hu60 := Try.underlying60
 have hu62 := Try.underlying62
 obtain ⟨ad0, e0, hx0⟩ := Kd.at_int hr1 0 (by omega) (by simp)
 subst e0
 replace hx0 : w.cell? ad0 = some (.int .i64 x0) := by simpa [rd, Addr.add, Addr.add_zero'] using hx0
 go_enter Try.func9, Try.ntmps9
 go_wp2_with (first | ((with_reducible refine gate_callee (f := 31) rfl ?_); refine goesP (some 15) Try.func31 #[.int .i64 a0] ?_; (with_reducible refine (hr _).mono ?_); rintro e w1 ⟨g, rfl, hg, hb⟩; refine ⟨_, rfl, ?_⟩; skip))
 replace hx0 := (hb.cell (World.block_lt_of_cell? w _ hx0)).trans hx0
 have hl0 : w1.cell? ⟨g, 0, none⟩ = some (.int .i64 lo0) := (blk_cell hg 0).trans rfl
 have hh0 : w1.cell? ⟨g, 1, none⟩ = some (.int .i64 hi0) := (blk_cell hg 1).trans rfl
 by_cases q0 : x0 < lo0
 ·replace q0 := eq_true q0
  refine wp_loop_rounds 1 ?_
  all_goals (rw [rounds_succ]; go_wp2)
  all_goals (go_ret; exact ⟨by simp [q0], hb⟩)
 replace q0 := eq_false q0
 by_cases p0 : hi0 < x0
 ·replace p0 := eq_true p0
  refine wp_loop_rounds 1 ?_
  all_goals (rw [rounds_succ]; go_wp2)
  all_goals (go_ret; exact ⟨by simp [q0, p0], hb⟩)
 replace p0 := eq_false p0
 refine wp_loop_rounds 2 ?_
 all_goals (rw [rounds_succ]; go_wp2)
 all_goals (rw [rounds_succ]; go_wp2)
 all_goals (go_ret; exact ⟨by simp [q0, p0], hb⟩)
set_option maxHeartbeats 8000000 in
set_option maxRecDepth 100000 in
theorem check_2 (a0 lo0 lo1 hi0 hi1 x0 x1 : Int) (A1 : Option Addr) (c1 : Nat) (w : World) (b1 : (a0 < 1) = False) (b2 : (10 < a0) = False) (hr1 : Kd.C (Kd.int .i64) w A1 2 [x0, x1])
  (hr : ∀ w, Calls Try.prog 31 #[.int .i64 a0] w fun e w' => ∃ g, e = .returned (.slice (some ⟨g, 0, none⟩) 2 2) ∧ w'.heap[g]? = some (.cells #[.int .i64 lo0, .int .i64 hi0, .int .i64 lo1, .int .i64 hi1] 62 (0, 0)) ∧ Below w.heap.size w w') :
  Calls Try.prog 9 #[.int .i64 a0, .slice A1 2 c1] w fun e w' => e = .returned (.int .i64 (if x0 < lo0 ∨ hi0 < x0 ∨ x1 < lo1 ∨ hi1 < x1 then 2 else 0)) ∧ Below w.heap.size w w' := by
 have hu60 := Try.underlying60
 have hu62 := Try.underlying62
 obtain ⟨ad0, e0, hx0⟩ := Kd.at_int hr1 0 (by omega) (by simp)
 subst e0
 obtain ⟨ad1, e1, hx1⟩ := Kd.at_int hr1 1 (by omega) (by simp)
 obtain rfl := Option.some.inj e1
 replace hx0 : w.cell? ad0 = some (.int .i64 x0) := by simpa [rd, Addr.add, Addr.add_zero'] using hx0
 replace hx1 : w.cell? ⟨ad0.block, ad0.off + 1, none⟩ = some (.int .i64 x1) := by simpa [rd, Addr.add, Addr.add_zero'] using hx1
 go_enter Try.func9, Try.ntmps9
 go_wp2_with (first | ((with_reducible refine gate_callee (f := 31) rfl ?_); refine goesP (some 15) Try.func31 #[.int .i64 a0] ?_; (with_reducible refine (hr _).mono ?_); rintro e w1 ⟨g, rfl, hg, hb⟩; refine ⟨_, rfl, ?_⟩; skip))
 replace hx0 := (hb.cell (World.block_lt_of_cell? w _ hx0)).trans hx0
 replace hx1 := (hb.cell (World.block_lt_of_cell? w _ hx1)).trans hx1
 have hl0 : w1.cell? ⟨g, 0, none⟩ = some (.int .i64 lo0) := (blk_cell hg 0).trans rfl
 have hh0 : w1.cell? ⟨g, 1, none⟩ = some (.int .i64 hi0) := (blk_cell hg 1).trans rfl
 have hl1 : w1.cell? ⟨g, 2, none⟩ = some (.int .i64 lo1) := (blk_cell hg 2).trans rfl
 have hh1 : w1.cell? ⟨g, 3, none⟩ = some (.int .i64 hi1) := (blk_cell hg 3).trans rfl
 by_cases q0 : x0 < lo0
 ·replace q0 := eq_true q0
  refine wp_loop_rounds 1 ?_
  all_goals (rw [rounds_succ]; go_wp2)
  all_goals (go_ret; exact ⟨by simp [q0], hb⟩)
 replace q0 := eq_false q0
 by_cases p0 : hi0 < x0
 ·replace p0 := eq_true p0
  refine wp_loop_rounds 1 ?_
  all_goals (rw [rounds_succ]; go_wp2)
  all_goals (go_ret; exact ⟨by simp [q0, p0], hb⟩)
 replace p0 := eq_false p0
 by_cases q1 : x1 < lo1
 ·replace q1 := eq_true q1
  refine wp_loop_rounds 2 ?_
  all_goals (rw [rounds_succ]; go_wp2)
  all_goals (rw [rounds_succ]; go_wp2)
  all_goals (go_ret; exact ⟨by simp [q0, p0, q1], hb⟩)
 replace q1 := eq_false q1
 by_cases p1 : hi1 < x1
 ·replace p1 := eq_true p1
  refine wp_loop_rounds 2 ?_
  all_goals (rw [rounds_succ]; go_wp2)
  all_goals (rw [rounds_succ]; go_wp2)
  all_goals (go_ret; exact ⟨by simp [q0, p0, q1, p1], hb⟩)
 replace p1 := eq_false p1
 refine wp_loop_rounds 3 ?_
 all_goals (rw [rounds_succ]; go_wp2)
 all_goals (rw [rounds_succ]; go_wp2)
 all_goals (rw [rounds_succ]; go_wp2)
 all_goals (go_ret; exact ⟨by simp [q0, p0, q1, p1], hb⟩)
def filter_Check.f (a0 : Int) (l1 : List Int) : Option Int :=
 some (if a0 < 1 ∨ 10 < a0 then 8 else if l1.length ≠ (rngs a0).length then 1 else if ((rngs a0).zip l1).any (fun p => decide (p.2 < p.1.1 ∨ p.1.2 < p.2)) = true then 2 else 0)
theorem filter_Check.calls (a0 : Int) (A1 : Option Addr) (c1 : Nat) (l1 : List Int) (r : Int) (w : World) (hr1 : Kd.C (Kd.int .i64) w A1 l1.length l1) (hc1 : l1.length ≤ c1) (h : filter_Check.f a0 l1 = some r) :
  Calls Try.prog 9 #[.int .i64 a0, .slice A1 l1.length c1] w fun e w' => e = .returned (.int .i64 r) ∧ Below w.heap.size w w' := by
 obtain rfl := Option.some.inj h
 clear h
 by_cases ho : a0 < 1 ∨ 10 < a0
 ·rw [if_pos ho]; exact check_out a0 A1 c1 _ w ho
 rw [if_neg ho]
 have hm := Kd.C_max hr1
 have hk : a0 = 1 ∨ a0 = 2 ∨ a0 = 3 ∨ a0 = 4 ∨ a0 = 5 ∨ a0 = 6 ∨ a0 = 7 ∨ a0 = 8 ∨ a0 = 9 ∨ a0 = 10 := by omega
 clear ho hc1
 rcases hk with rfl | rfl | rfl | rfl | rfl | rfl | rfl | rfl | rfl | rfl
 ·match l1, hr1, hm with
  | [], hr1, hm => rw [if_pos (by simp [rngs])]; exact check_len 1 A1 c1 _ 1 w (by decide) (by decide) hm (by simp) (fun w => (ranges_1 w).mono (by rintro e w1 ⟨g, rfl, -, hb⟩; exact ⟨_, _, rfl, hb⟩))
  | [x0], hr1, hm => refine (check_1 1 _ _ x0 A1 c1 w (by decide) (by decide) hr1 (ranges_1)).mono ?_; rintro e w1 ⟨rfl, hb⟩; exact ⟨by simp [rngs, or_assoc], hb⟩
  | x0 :: x1 :: t, hr1, hm => rw [if_pos (by simp [rngs])]; exact check_len 1 A1 c1 _ 1 w (by decide) (by decide) hm (by simp) (fun w => (ranges_1 w).mono (by rintro e w1 ⟨g, rfl, -, hb⟩; exact ⟨_, _, rfl, hb⟩))
 ·match l1, hr1, hm with
  | [], hr1, hm => rw [if_pos (by simp [rngs])]; exact check_len 2 A1 c1 _ 1 w (by decide) (by decide) hm (by simp) (fun w => (ranges_2 w).mono (by rintro e w1 ⟨g, rfl, -, hb⟩; exact ⟨_, _, rfl, hb⟩))
  | [x0], hr1, hm => refine (check_1 2 _ _ x0 A1 c1 w (by decide) (by decide) hr1 (ranges_2)).mono ?_; rintro e w1 ⟨rfl, hb⟩; exact ⟨by simp [rngs, or_assoc], hb⟩
  | x0 :: x1 :: t, hr1, hm => rw [if_pos (by simp [rngs])]; exact check_len 2 A1 c1 _ 1 w (by decide) (by decide) hm (by simp) (fun w => (ranges_2 w).mono (by rintro e w1 ⟨g, rfl, -, hb⟩; exact ⟨_, _, rfl, hb⟩))
 ·match l1, hr1, hm with
  | [], hr1, hm => rw [if_pos (by simp [rngs])]; exact check_len 3 A1 c1 _ 2 w (by decide) (by decide) hm (by simp) (fun w => (ranges_3 w).mono (by rintro e w1 ⟨g, rfl, -, hb⟩; exact ⟨_, _, rfl, hb⟩))
  | [x0], hr1, hm => rw [if_pos (by simp [rngs])]; exact check_len 3 A1 c1 _ 2 w (by decide) (by decide) hm (by simp) (fun w => (ranges_3 w).mono (by rintro e w1 ⟨g, rfl, -, hb⟩; exact ⟨_, _, rfl, hb⟩))
  | [x0, x1], hr1, hm => refine (check_2 3 _ _ _ _ x0 x1 A1 c1 w (by decide) (by decide) hr1 (ranges_3)).mono ?_; rintro e w1 ⟨rfl, hb⟩; exact ⟨by simp [rngs, or_assoc], hb⟩
  | x0 :: x1 :: x2 :: t, hr1, hm => rw [if_pos (by simp [rngs])]; exact check_len 3 A1 c1 _ 2 w (by decide) (by decide) hm (by simp) (fun w => (ranges_3 w).mono (by rintro e w1 ⟨g, rfl, -, hb⟩; exact ⟨_, _, rfl, hb⟩))
 ·match l1, hr1, hm with
  | [], hr1, hm => rw [if_pos (by simp [rngs])]; exact check_len 4 A1 c1 _ 1 w (by decide) (by decide) hm (by simp) (fun w => (ranges_4 w).mono (by rintro e w1 ⟨g, rfl, -, hb⟩; exact ⟨_, _, rfl, hb⟩))
  | [x0], hr1, hm => refine (check_1 4 _ _ x0 A1 c1 w (by decide) (by decide) hr1 (ranges_4)).mono ?_; rintro e w1 ⟨rfl, hb⟩; exact ⟨by simp [rngs, or_assoc], hb⟩
  | x0 :: x1 :: t, hr1, hm => rw [if_pos (by simp [rngs])]; exact check_len 4 A1 c1 _ 1 w (by decide) (by decide) hm (by simp) (fun w => (ranges_4 w).mono (by rintro e w1 ⟨g, rfl, -, hb⟩; exact ⟨_, _, rfl, hb⟩))
 ·cases l1 with
  | nil => exact check_0 5 A1 c1 w (by decide) (by decide) (ranges_5)
  | cons x t => rw [if_pos (by simp [rngs])]; exact check_len 5 A1 c1 _ 0 w (by decide) (by decide) hm (by simp) (fun w => (ranges_5 w).mono (by rintro e w1 ⟨rfl, hb⟩; exact ⟨_, _, rfl, hb⟩))
 ·cases l1 with
  | nil => exact check_0 6 A1 c1 w (by decide) (by decide) (ranges_6)
  | cons x t => rw [if_pos (by simp [rngs])]; exact check_len 6 A1 c1 _ 0 w (by decide) (by decide) hm (by simp) (fun w => (ranges_6 w).mono (by rintro e w1 ⟨rfl, hb⟩; exact ⟨_, _, rfl, hb⟩))
 ·match l1, hr1, hm with
  | [], hr1, hm => rw [if_pos (by simp [rngs])]; exact check_len 7 A1 c1 _ 1 w (by decide) (by decide) hm (by simp) (fun w => (ranges_7 w).mono (by rintro e w1 ⟨g, rfl, -, hb⟩; exact ⟨_, _, rfl, hb⟩))
  | [x0], hr1, hm => refine (check_1 7 _ _ x0 A1 c1 w (by decide) (by decide) hr1 (ranges_7)).mono ?_; rintro e w1 ⟨rfl, hb⟩; exact ⟨by simp [rngs, or_assoc], hb⟩
  | x0 :: x1 :: t, hr1, hm => rw [if_pos (by simp [rngs])]; exact check_len 7 A1 c1 _ 1 w (by decide) (by decide) hm (by simp) (fun w => (ranges_7 w).mono (by rintro e w1 ⟨g, rfl, -, hb⟩; exact ⟨_, _, rfl, hb⟩))
 ·match l1, hr1, hm with
  | [], hr1, hm => rw [if_pos (by simp [rngs])]; exact check_len 8 A1 c1 _ 1 w (by decide) (by decide) hm (by simp) (fun w => (ranges_8 w).mono (by rintro e w1 ⟨g, rfl, -, hb⟩; exact ⟨_, _, rfl, hb⟩))
  | [x0], hr1, hm => refine (check_1 8 _ _ x0 A1 c1 w (by decide) (by decide) hr1 (ranges_8)).mono ?_; rintro e w1 ⟨rfl, hb⟩; exact ⟨by simp [rngs, or_assoc], hb⟩
  | x0 :: x1 :: t, hr1, hm => rw [if_pos (by simp [rngs])]; exact check_len 8 A1 c1 _ 1 w (by decide) (by decide) hm (by simp) (fun w => (ranges_8 w).mono (by rintro e w1 ⟨g, rfl, -, hb⟩; exact ⟨_, _, rfl, hb⟩))
 ·match l1, hr1, hm with
  | [], hr1, hm => rw [if_pos (by simp [rngs])]; exact check_len 9 A1 c1 _ 2 w (by decide) (by decide) hm (by simp) (fun w => (ranges_9 w).mono (by rintro e w1 ⟨g, rfl, -, hb⟩; exact ⟨_, _, rfl, hb⟩))
  | [x0], hr1, hm => rw [if_pos (by simp [rngs])]; exact check_len 9 A1 c1 _ 2 w (by decide) (by decide) hm (by simp) (fun w => (ranges_9 w).mono (by rintro e w1 ⟨g, rfl, -, hb⟩; exact ⟨_, _, rfl, hb⟩))
  | [x0, x1], hr1, hm => refine (check_2 9 _ _ _ _ x0 x1 A1 c1 w (by decide) (by decide) hr1 (ranges_9)).mono ?_; rintro e w1 ⟨rfl, hb⟩; exact ⟨by simp [rngs, or_assoc], hb⟩
  | x0 :: x1 :: x2 :: t, hr1, hm => rw [if_pos (by simp [rngs])]; exact check_len 9 A1 c1 _ 2 w (by decide) (by decide) hm (by simp) (fun w => (ranges_9 w).mono (by rintro e w1 ⟨g, rfl, -, hb⟩; exact ⟨_, _, rfl, hb⟩))
 ·match l1, hr1, hm with
  | [], hr1, hm => rw [if_pos (by simp [rngs])]; exact check_len 10 A1 c1 _ 1 w (by decide) (by decide) hm (by simp) (fun w => (ranges_10 w).mono (by rintro e w1 ⟨g, rfl, -, hb⟩; exact ⟨_, _, rfl, hb⟩))
  | [x0], hr1, hm => refine (check_1 10 _ _ x0 A1 c1 w (by decide) (by decide) hr1 (ranges_10)).mono ?_; rintro e w1 ⟨rfl, hb⟩; exact ⟨by simp [rngs, or_assoc], hb⟩
  | x0 :: x1 :: t, hr1, hm => rw [if_pos (by simp [rngs])]; exact check_len 10 A1 c1 _ 1 w (by decide) (by decide) hm (by simp) (fun w => (ranges_10 w).mono (by rintro e w1 ⟨g, rfl, -, hb⟩; exact ⟨_, _, rfl, hb⟩))


/-! ### filter_Reach: function 11 -/
def filter_Reach.j0 : Nat → List Int → Int → Bool → Option (Int)
 | 0, _, _, _ => none
 | k + 1, x1, x9, x10 => if x10 = true then (some 1) else (if x9 = 9 then (if 0 < (x1.length : Int) then (if 1 < (x1.length : Int) then (some (mx (mx (mx (rd x1 0) (wrap64 (-(rd x1 0)))) (rd x1 1)) (wrap64 (-(rd x1 1))))) else (none)) else (none)) else (if x9 = 10 then (if 0 < (x1.length : Int) then (some (wrap64 ((rd x1 0) - 1))) else (none)) else (if 0 < (x1.length : Int) then (some (rd x1 0)) else (none))))
def filter_Reach.f (k : Nat) (a0 : Int) (l1 : List Int) : Option (Int) := (filter_Check.f a0 l1).bind fun t101 => (if t101 = 0 then (if a0 = 5 then (filter_Reach.j0 k l1 a0 (a0 == 5)) else (filter_Reach.j0 k l1 a0 (a0 == 6))) else (some 0))
theorem filter_Reach.mono_l : ∀ k, (∀ y0 y1 y2, LeO (filter_Reach.j0 k y0 y1 y2) (filter_Reach.j0 (k + 1) y0 y1 y2))
 | 0 => fun _ _ _ r h => by simp [filter_Reach.j0] at h
 | k + 1 => by
  have ih0 := filter_Reach.mono_l k
  ·intro y0 y1 y2
   unfold filter_Reach.j0
   repeat' first
   | (with_reducible exact ih0 _ _ _)
   | (with_reducible exact LeO.refl _)
   | (with_reducible exact LeO.none _)
   | (with_reducible refine LeO.ite ?_ ?_)
   | (with_reducible refine LeO.bind ?_ (fun _ => ?_))
   | exact ih0 _ _ _
   | exact LeO.none _
   | refine LeO.ite ?_ ?_
   | refine LeO.bind ?_ (fun _ => ?_)
theorem filter_Reach.mono : ∀ a0 a1 k, LeO (filter_Reach.f k a0 a1) (filter_Reach.f (k + 1) a0 a1) := by
 intro a0 a1 k
 have ih0 := filter_Reach.mono_l k
 unfold filter_Reach.f
 repeat' first
   | (with_reducible exact ih0 _ _ _)
   | (with_reducible exact LeO.refl _)
   | (with_reducible exact LeO.none _)
   | (with_reducible refine LeO.ite ?_ ?_)
   | (with_reducible refine LeO.bind ?_ (fun _ => ?_))
   | exact ih0 _ _ _
   | exact LeO.none _
   | refine LeO.ite ?_ ?_
   | refine LeO.bind ?_ (fun _ => ?_)
set_option maxHeartbeats 8000000 in
set_option maxRecDepth 100000 in
theorem filter_Reach.calls (k : Nat) (a0 : Int) (A1 : Option Addr) (c1 : Nat) (l1 : List Int) (r : Int) (w : World) (hr1 : Kd.C (Kd.int .i64) w A1 l1.length l1) (hc1 : l1.length ≤ c1) (h : filter_Reach.f k a0 l1 = some r) :
  Calls Try.prog 11 #[.int .i64 a0, .slice A1 l1.length c1] w fun e w' => e = .returned (.int .i64 r) ∧ Below w.heap.size w w' := by
 have HR1 := Aside0.mk hr1
 have HC1 := Aside0.mk hc1
 clear hr1 hc1
 have HB := am (Below.refl w.heap.size w)
 have H : ((filter_Check.f a0 l1).bind fun t101 => (if t101 = 0 then (if a0 = 5 then (filter_Reach.j0 k l1 a0 (a0 == 5)) else (filter_Reach.j0 k l1 a0 (a0 == 6))) else (some 0))) = some r := h
 clear h
 replace H := Option.bind_eq_some_iff.mp H
 obtain ⟨t101, A30, H⟩ := H
 replace H : (if t101 = 0 then (if a0 = 5 then (filter_Reach.j0 k l1 a0 (a0 == 5)) else (filter_Reach.j0 k l1 a0 (a0 == 6))) else (some 0)) = some r := H
 have A3 := Aside0.mk A30
 clear A30
 by_cases c4 : t101 = 0
 ·rw [if_pos c4] at H
  have c4b0 : (t101 == 0) = true := beq_iff_eq.mpr c4
  have c4b1 : (t101 != 0) = false := bne_eq_false_iff_eq.mpr c4
  clear c4
  have HC5 := Aside0.mk H
  clear H
  go_enter Try.func11, Try.ntmps11
  go_upto_if 10 with (first | (go_at_call 9; (with_reducible refine (filter_Check.calls a0 _ _ l1 t101 _ ?side1 ?side2 A3.out).mono ?_); (case side1 => repeat (first | exact HR1.out | (with_reducible refine Kd.C_alloc ?_ _) | (with_reducible refine Kd.C_drewN ?_ _) | (with_reducible refine Kd.C_drew ?_))); (case side2 => exact HC1.out); rintro e w6 ⟨rfl, hb⟩; replace HB := hYb HB hb; (try clear hb); (try clear hb2); (try clear hk); (try clear hi)))
  repeat (go_quiet (first | (go_at_call 9; (with_reducible refine (filter_Check.calls a0 _ _ l1 t101 _ ?side1 ?side2 A3.out).mono ?_); (case side1 => repeat (first | exact HR1.out | (with_reducible refine Kd.C_alloc ?_ _) | (with_reducible refine Kd.C_drewN ?_ _) | (with_reducible refine Kd.C_drew ?_))); (case side2 => exact HC1.out); rintro e w6 ⟨rfl, hb⟩; replace HB := hYb HB hb; (try clear hb); (try clear hb2); (try clear hk); (try clear hi))); go_upto_if 10 with (first | (go_at_call 9; (with_reducible refine (filter_Check.calls a0 _ _ l1 t101 _ ?side1 ?side2 A3.out).mono ?_); (case side1 => repeat (first | exact HR1.out | (with_reducible refine Kd.C_alloc ?_ _) | (with_reducible refine Kd.C_drewN ?_ _) | (with_reducible refine Kd.C_drew ?_))); (case side2 => exact HC1.out); rintro e w6 ⟨rfl, hb⟩; replace HB := hYb HB hb; (try clear hb); (try clear hb2); (try clear hk); (try clear hi))))
  (try simp only [Act.put, List.setIfInBounds_toArray, List.set_cons_zero, List.set_cons_succ])
  go_cut [10] (fun v10 wc => ∃ (kq : Nat) (x10_4 : Bool), v10 = .bool x10_4 ∧ Aside0 (filter_Reach.j0 kq l1 a0 x10_4 = some r) ∧ Aside0 (kq ≤ k) ∧ Aside0 (Below w.heap.size w wc))
  case first =>
   have H := HC5.out
   clear HC5
   by_cases c7 : a0 = 5
   ·rw [if_pos c7] at H
    have c7b0 : (a0 == 5) = true := beq_iff_eq.mpr c7
    have c7b1 : (a0 != 5) = false := bne_eq_false_iff_eq.mpr c7
    clear c7
    (first | rw [c7b0] | (simp only [i64_w, i32_w]; rw [c7b0]) | skip)
    have H' := Aside0.mk H
    clear H
    go_wp2
    repeat (go_quiet (fail); try go_wp2)
    go_meet
    case rel => exact ⟨_, ((a0 == 5)), (by first | rfl | (simp; done) | (simp [*]; done)), H', ⟨by first | omega | exact Nat.le_refl _⟩, ⟨beX HB.out⟩⟩
   ·rw [if_neg c7] at H
    have c7b0 : (a0 == 5) = false := beq_eq_false_iff_ne.mpr c7
    have c7b1 : (a0 != 5) = true := bne_iff_ne.mpr c7
    (first | rw [c7b0] | (simp only [i64_w, i32_w]; rw [c7b0]) | skip)
    have H' := Aside0.mk H
    clear H
    go_wp2
    repeat (go_quiet (fail); try go_wp2)
    go_meet
    case rel => exact ⟨_, ((a0 == 6)), (by first | rfl | (simp; done) | (simp [*]; done)), H', ⟨by first | omega | exact Nat.le_refl _⟩, ⟨beX HB.out⟩⟩
  case rest =>
   clear HC5
   try clear c1
   try clear p2
   try clear c4
   try clear c4b0
   try clear c4b1
   try clear c7
   try clear c7b0
   try clear c7b1
   obtain ⟨kq, x10_4, rfl, HA, HJ4, HB⟩ := hcut
   cases kq with
   | zero => exact absurd HA.out (by simp [filter_Reach.j0])
   | succ kj4 =>
    have H := HA.out
    clear HA
    simp only [filter_Reach.j0] at H
    by_cases c8 : x10_4 = true
    ·subst c8
     have H1 : (some 1) = some r := by rw [if_pos rfl] at H; exact H
     clear H
     have H := H1
     clear H1
     obtain rfl := Option.some.inj H
     go_wp2
     repeat (go_quiet (fail); try go_wp2)
     go_ret
     exact ⟨by first | rfl | (simp [errW_none, errW_some] <;> rfl) | (simp [*, errW_none, errW_some] <;> rfl), by exact beX HB.out⟩
    ·replace c8 := Bool.eq_false_iff.mpr c8
     subst c8
     have H1 : (if a0 = 9 then (if 0 < (l1.length : Int) then (if 1 < (l1.length : Int) then (some (mx (mx (mx (rd l1 0) (wrap64 (-(rd l1 0)))) (rd l1 1)) (wrap64 (-(rd l1 1))))) else (none)) else (none)) else (if a0 = 10 then (if 0 < (l1.length : Int) then (some (wrap64 ((rd l1 0) - 1))) else (none)) else (if 0 < (l1.length : Int) then (some (rd l1 0)) else (none)))) = some r := by rw [if_neg (show ¬ (false = true) by decide)] at H; exact H
     clear H
     have H := H1
     clear H1
     by_cases c9 : a0 = 9
     ·rw [if_pos c9] at H
      have c9b0 : (a0 == 9) = true := beq_iff_eq.mpr c9
      have c9b1 : (a0 != 9) = false := bne_eq_false_iff_eq.mpr c9
      clear c9
      by_cases c10 : 0 < (l1.length : Int)
      ·rw [if_pos c10] at H
       have c10b0 : decide (0 < (l1.length : Int)) = true := decide_eq_true c10
       have c10b1 : decide (0 < l1.length) = true := decide_eq_true (by omega)
       clear c10
       by_cases c11 : 1 < (l1.length : Int)
       ·rw [if_pos c11] at H
        have c11b0 : decide (1 < (l1.length : Int)) = true := decide_eq_true c11
        have c11b1 : decide (1 < l1.length) = true := decide_eq_true (by omega)
        clear c11
        obtain ⟨ji12, hji12⟩ : ∃ j_ : Int, (mx (rd l1 0) (wrap64 (-(rd l1 0)))) = j_ := ⟨_, rfl⟩
        replace H : (some (mx (mx (ji12) (rd l1 1)) (wrap64 (-(rd l1 1))))) = some r := by first | (rw [hji12] at H; exact H) | (simp only [hji12] at H ⊢; exact H)
        have hji12_ : (if (rd l1 0) < (wrap64 (-(rd l1 0))) then (wrap64 (-(rd l1 0))) else (rd l1 0)) = ji12 := hji12
        obtain ⟨ji13, hji13⟩ : ∃ j_ : Int, (mx (ji12) (rd l1 1)) = j_ := ⟨_, rfl⟩
        replace H : (some (mx (ji13) (wrap64 (-(rd l1 1))))) = some r := by first | (rw [hji13] at H; exact H) | (simp only [hji13] at H ⊢; exact H)
        have hji13_ : (if (ji12) < (rd l1 1) then (rd l1 1) else (ji12)) = ji13 := hji13
        obtain ⟨ji14, hji14⟩ : ∃ j_ : Int, (mx (ji13) (wrap64 (-(rd l1 1)))) = j_ := ⟨_, rfl⟩
        replace H : (some ji14) = some r := by first | (rw [hji14] at H; exact H) | (simp only [hji14] at H ⊢; exact H)
        have hji14_ : (if (ji13) < (wrap64 (-(rd l1 1))) then (wrap64 (-(rd l1 1))) else (ji13)) = ji14 := hji14
        obtain rfl := Option.some.inj H
        have p102 : 0 ≤ (0 : Int) := (by omega)
        have q102 : 0 < (l1.length : Int) := of_decide_eq_true (by first | (with_reducible assumption) | assumption)
        obtain ⟨ad102, e102, hx102_0⟩ := Kd.at_int HR1.out 0 p102 q102
        cases e102
        have qi102 : (0 < l1.length) = True := eq_true (by omega)
        (try rw [show ((0 : Int)).toNat = 0 from rfl] at hx102_0)
        (try rw [Addr.add_zero'] at hx102_0)
        replace hx102_0 := (HB.out.cell (World.block_lt_of_cell? w _ hx102_0)).trans hx102_0
        replace p102 := eq_true p102
        replace q102 := eq_true q102
        have p103 : 0 ≤ (0 : Int) := (by omega)
        have q103 : 0 < (l1.length : Int) := of_decide_eq_true (by first | (with_reducible assumption) | assumption)
        obtain ⟨ad103, e103, hx103_0⟩ := Kd.at_int HR1.out 0 p103 q103
        obtain rfl : ad102 = ad103 := (by injection e103)
        have qi103 : (0 < l1.length) = True := eq_true (by omega)
        (try rw [show ((0 : Int)).toNat = 0 from rfl] at hx103_0)
        (try rw [Addr.add_zero'] at hx103_0)
        replace hx103_0 := (HB.out.cell (World.block_lt_of_cell? w _ hx103_0)).trans hx103_0
        replace p103 := eq_true p103
        replace q103 := eq_true q103
        have p104 : 0 ≤ (1 : Int) := (by omega)
        have q104 : 1 < (l1.length : Int) := of_decide_eq_true (by first | (with_reducible assumption) | assumption)
        obtain ⟨ad104, e104, hx104_0⟩ := Kd.at_int HR1.out 1 p104 q104
        obtain rfl : ad102 = ad104 := (by injection e104)
        (try simp only [show (1 : Int).toNat = 1 from rfl, Nat.reduceMul, Nat.reduceEqDiff, Go.Addr.add, ↓reduceIte] at hx104_0)
        have qi104 : (1 < l1.length) = True := eq_true (by omega)
        (try rw [show ((1 : Int)).toNat = 1 from rfl] at hx104_0)
        replace hx104_0 := (HB.out.cell (World.block_lt_of_cell? w _ hx104_0)).trans hx104_0
        replace p104 := eq_true p104
        replace q104 := eq_true q104
        have p105 : 0 ≤ (1 : Int) := (by omega)
        have q105 : 1 < (l1.length : Int) := of_decide_eq_true (by first | (with_reducible assumption) | assumption)
        obtain ⟨ad105, e105, hx105_0⟩ := Kd.at_int HR1.out 1 p105 q105
        obtain rfl : ad102 = ad105 := (by injection e105)
        (try simp only [show (1 : Int).toNat = 1 from rfl, Nat.reduceMul, Nat.reduceEqDiff, Go.Addr.add, ↓reduceIte] at hx105_0)
        have qi105 : (1 < l1.length) = True := eq_true (by omega)
        (try rw [show ((1 : Int)).toNat = 1 from rfl] at hx105_0)
        replace hx105_0 := (HB.out.cell (World.block_lt_of_cell? w _ hx105_0)).trans hx105_0
        replace p105 := eq_true p105
        replace q105 := eq_true q105
        go_wp2
        repeat (go_quiet (fail); try go_wp2)
        go_ret
        exact ⟨by first | rfl | (simp [errW_none, errW_some] <;> rfl) | (simp only [← hji12, ← hji13, ← hji14]; first | rfl | (simp [errW_none, errW_some] <;> rfl)) | (simp [*, errW_none, errW_some] <;> rfl), by exact beX HB.out⟩
       ·rw [if_neg c11] at H
        exact absurd H (by simp)
      ·rw [if_neg c10] at H
       exact absurd H (by simp)
     ·rw [if_neg c9] at H
      have c9b0 : (a0 == 9) = false := beq_eq_false_iff_ne.mpr c9
      have c9b1 : (a0 != 9) = true := bne_iff_ne.mpr c9
      by_cases c15 : a0 = 10
      ·rw [if_pos c15] at H
       have c15b0 : (a0 == 10) = true := beq_iff_eq.mpr c15
       have c15b1 : (a0 != 10) = false := bne_eq_false_iff_eq.mpr c15
       clear c15
       by_cases c16 : 0 < (l1.length : Int)
       ·rw [if_pos c16] at H
        have c16b0 : decide (0 < (l1.length : Int)) = true := decide_eq_true c16
        have c16b1 : decide (0 < l1.length) = true := decide_eq_true (by omega)
        clear c16
        obtain rfl := Option.some.inj H
        have p106 : 0 ≤ (0 : Int) := (by omega)
        have q106 : 0 < (l1.length : Int) := of_decide_eq_true (by first | (with_reducible assumption) | assumption)
        obtain ⟨ad106, e106, hx106_0⟩ := Kd.at_int HR1.out 0 p106 q106
        cases e106
        have qi106 : (0 < l1.length) = True := eq_true (by omega)
        (try rw [show ((0 : Int)).toNat = 0 from rfl] at hx106_0)
        (try rw [Addr.add_zero'] at hx106_0)
        replace hx106_0 := (HB.out.cell (World.block_lt_of_cell? w _ hx106_0)).trans hx106_0
        replace p106 := eq_true p106
        replace q106 := eq_true q106
        go_wp2
        repeat (go_quiet (fail); try go_wp2)
        go_ret
        exact ⟨by first | rfl | (simp [errW_none, errW_some] <;> rfl) | (simp [*, errW_none, errW_some] <;> rfl), by exact beX HB.out⟩
       ·rw [if_neg c16] at H
        exact absurd H (by simp)
      ·rw [if_neg c15] at H
       have c15b0 : (a0 == 10) = false := beq_eq_false_iff_ne.mpr c15
       have c15b1 : (a0 != 10) = true := bne_iff_ne.mpr c15
       by_cases c17 : 0 < (l1.length : Int)
       ·rw [if_pos c17] at H
        have c17b0 : decide (0 < (l1.length : Int)) = true := decide_eq_true c17
        have c17b1 : decide (0 < l1.length) = true := decide_eq_true (by omega)
        clear c17
        obtain rfl := Option.some.inj H
        have p107 : 0 ≤ (0 : Int) := (by omega)
        have q107 : 0 < (l1.length : Int) := of_decide_eq_true (by first | (with_reducible assumption) | assumption)
        obtain ⟨ad107, e107, hx107_0⟩ := Kd.at_int HR1.out 0 p107 q107
        cases e107
        have qi107 : (0 < l1.length) = True := eq_true (by omega)
        (try rw [show ((0 : Int)).toNat = 0 from rfl] at hx107_0)
        (try rw [Addr.add_zero'] at hx107_0)
        replace hx107_0 := (HB.out.cell (World.block_lt_of_cell? w _ hx107_0)).trans hx107_0
        replace p107 := eq_true p107
        replace q107 := eq_true q107
        go_wp2
        repeat (go_quiet (fail); try go_wp2)
        go_ret
        exact ⟨by first | rfl | (simp [errW_none, errW_some] <;> rfl) | (simp [*, errW_none, errW_some] <;> rfl), by exact beX HB.out⟩
       ·rw [if_neg c17] at H
        exact absurd H (by simp)
 ·rw [if_neg c4] at H
  have c4b0 : (t101 == 0) = false := beq_eq_false_iff_ne.mpr c4
  have c4b1 : (t101 != 0) = true := bne_iff_ne.mpr c4
  obtain rfl := Option.some.inj H
  go_enter Try.func11, Try.ntmps11
  go_wp2_with (first | (go_at_call 9; (with_reducible refine (filter_Check.calls a0 _ _ l1 t101 _ ?side1 ?side2 A3.out).mono ?_); (case side1 => repeat (first | exact HR1.out | (with_reducible refine Kd.C_alloc ?_ _) | (with_reducible refine Kd.C_drewN ?_ _) | (with_reducible refine Kd.C_drew ?_))); (case side2 => exact HC1.out); rintro e w18 ⟨rfl, hb⟩; replace HB := hYb HB hb; (try clear hb); (try clear hb2); (try clear hk); (try clear hi)))
  repeat (go_quiet (first | (go_at_call 9; (with_reducible refine (filter_Check.calls a0 _ _ l1 t101 _ ?side1 ?side2 A3.out).mono ?_); (case side1 => repeat (first | exact HR1.out | (with_reducible refine Kd.C_alloc ?_ _) | (with_reducible refine Kd.C_drewN ?_ _) | (with_reducible refine Kd.C_drew ?_))); (case side2 => exact HC1.out); rintro e w18 ⟨rfl, hb⟩; replace HB := hYb HB hb; (try clear hb); (try clear hb2); (try clear hk); (try clear hi))); try go_wp2_with (first | (go_at_call 9; (with_reducible refine (filter_Check.calls a0 _ _ l1 t101 _ ?side1 ?side2 A3.out).mono ?_); (case side1 => repeat (first | exact HR1.out | (with_reducible refine Kd.C_alloc ?_ _) | (with_reducible refine Kd.C_drewN ?_ _) | (with_reducible refine Kd.C_drew ?_))); (case side2 => exact HC1.out); rintro e w18 ⟨rfl, hb⟩; replace HB := hYb HB hb; (try clear hb); (try clear hb2); (try clear hk); (try clear hi))))
  go_ret
  exact ⟨by first | rfl | (simp [errW_none, errW_some] <;> rfl) | (simp [*, errW_none, errW_some] <;> rfl), by exact beX HB.out⟩

/-! ### rect_span: function 40 -/
def rect_span.f (a0 : Int) (a1 : Int) : Option (Bool) := if a0 ≥ (-1048576) then (if a0 ≤ 1048576 then (if a1 ≥ 0 then (some (decide (a1 ≤ (wrap64 (1048576 - a0))))) else (some false)) else (some false)) else (some false)
set_option maxHeartbeats 8000000 in
set_option maxRecDepth 100000 in
theorem rect_span.calls (a0 : Int) (a1 : Int) (r : Bool) (w : World) (h : rect_span.f a0 a1 = some r) :
  Calls Try.prog 40 #[.int .i64 a0, .int .i64 a1] w fun e w' => e = .returned (.bool r) ∧ Drawn0 w w' := by
 have H : (if a0 ≥ (-1048576) then (if a0 ≤ 1048576 then (if a1 ≥ 0 then (some (decide (a1 ≤ (wrap64 (1048576 - a0))))) else (some false)) else (some false)) else (some false)) = some r := h
 clear h
 by_cases c3 : a0 ≥ (-1048576)
 ·rw [if_pos c3] at H
  have c3b0 : decide ((-1048576) ≤ a0) = true := decide_eq_true c3
  clear c3
  by_cases c4 : a0 ≤ 1048576
  ·rw [if_pos c4] at H
   have c4b0 : decide (a0 ≤ 1048576) = true := decide_eq_true c4
   clear c4
   by_cases c5 : a1 ≥ 0
   ·rw [if_pos c5] at H
    have c5b0 : decide (0 ≤ a1) = true := decide_eq_true c5
    clear c5
    obtain rfl := Option.some.inj H
    go_enter Try.func40, Try.ntmps40
    go_wp2
    go_ret
    exact ⟨by first | rfl | (simp; done) | (simp [*]; done), by repeat (first | exact Drawn0.refl _ | apply Drawn0.step)⟩
   ·rw [if_neg c5] at H
    have c5b0 : decide (0 ≤ a1) = false := decide_eq_false c5
    clear c5
    obtain rfl := Option.some.inj H
    go_enter Try.func40, Try.ntmps40
    go_wp2
    go_ret
    exact ⟨by first | rfl | (simp; done) | (simp [*]; done), by repeat (first | exact Drawn0.refl _ | apply Drawn0.step)⟩
  ·rw [if_neg c4] at H
   have c4b0 : decide (a0 ≤ 1048576) = false := decide_eq_false c4
   clear c4
   obtain rfl := Option.some.inj H
   go_enter Try.func40, Try.ntmps40
   go_wp2
   go_ret
   exact ⟨by first | rfl | (simp; done) | (simp [*]; done), by repeat (first | exact Drawn0.refl _ | apply Drawn0.step)⟩
 ·rw [if_neg c3] at H
  have c3b0 : decide ((-1048576) ≤ a0) = false := decide_eq_false c3
  clear c3
  obtain rfl := Option.some.inj H
  go_enter Try.func40, Try.ntmps40
  go_wp2
  go_ret
  exact ⟨by first | rfl | (simp; done) | (simp [*]; done), by repeat (first | exact Drawn0.refl _ | apply Drawn0.step)⟩

/-! ### rect_Valid: function 24 -/
def rect_Valid.f (a0_0 : Int) (a0_1 : Int) (a0_2 : Int) (a0_3 : Int) : Option (Bool) := (rect_span.f a0_0 a0_2).bind fun t109 => (if t109 = true then ((rect_span.f a0_1 a0_3).bind fun t110 => (some t110)) else (some false))
set_option maxHeartbeats 8000000 in
set_option maxRecDepth 100000 in
theorem rect_Valid.calls (a0_0 : Int) (a0_1 : Int) (a0_2 : Int) (a0_3 : Int) (r : Bool) (w : World) (h : rect_Valid.f a0_0 a0_1 a0_2 a0_3 = some r) :
  Calls Try.prog 24 #[.agg #[.int .i64 a0_0, .int .i64 a0_1, .int .i64 a0_2, .int .i64 a0_3]] w fun e w' => e = .returned (.bool r) ∧ Below w.heap.size w w' := by
 have hu24 := Try.underlying24
 have HB := am (Below.refl w.heap.size w)
 have H : ((rect_span.f a0_0 a0_2).bind fun t109 => (if t109 = true then ((rect_span.f a0_1 a0_3).bind fun t110 => (some t110)) else (some false))) = some r := h
 clear h
 replace H := Option.bind_eq_some_iff.mp H
 obtain ⟨t109, A20, H⟩ := H
 replace H : (if t109 = true then ((rect_span.f a0_1 a0_3).bind fun t110 => (some t110)) else (some false)) = some r := H
 have A2 := Aside0.mk A20
 clear A20
 by_cases c3 : t109 = true
 ·subst c3
  have H1 : ((rect_span.f a0_1 a0_3).bind fun t110 => (some t110)) = some r := by rw [if_pos rfl] at H; exact H
  clear H
  have H := H1
  clear H1
  replace H := Option.bind_eq_some_iff.mp H
  obtain ⟨t110, A40, H⟩ := H
  replace H : (some t110) = some r := H
  have A4 := Aside0.mk A40
  clear A40
  obtain rfl := Option.some.inj H
  go_enter Try.func24, Try.ntmps24
  go_wp2_with (first | ((with_reducible refine gate_dst (N := 1) rfl ?_); refine boxE (N := 1) #[.int .i64 a0_0, .int .i64 a0_1, .int .i64 a0_2, .int .i64 a0_3] 24 ?_; intro gb108 hg w5 hbox hb; have BK108 := am (hbox); have GW108 := gW hg HB; have GE108 := gW hg HB; replace HB := hYb HB hb; clear hb hbox hg; have hcz6_0 := blk_cell BK108.out; have hfz6_0 := blk_frozen BK108.out) | ((with_reducible refine gate_callee (f := 40) rfl ?_); refine goesP (some 7) Try.func40 #[.int .i64 a0_0, .int .i64 a0_2] ?_; (with_reducible refine (rect_span.calls a0_0 a0_2 true _ A2.out).mono ?_); rintro e w' ⟨rfl, ⟨nd, rfl⟩⟩; refine ⟨_, rfl, ?_⟩) | (go_at_call 40; (with_reducible refine (rect_span.calls a0_1 a0_3 t110 _ A4.out).mono ?_); rintro e w' ⟨rfl, ⟨nd, rfl⟩⟩))
  go_ret
  exact ⟨by first | rfl | (simp [errW_none, errW_some] <;> rfl) | (simp [*, errW_none, errW_some] <;> rfl), by exact beX HB.out⟩
 ·replace c3 := Bool.eq_false_iff.mpr c3
  subst c3
  have H1 : (some false) = some r := by rw [if_neg (show ¬ (false = true) by decide)] at H; exact H
  clear H
  have H := H1
  clear H1
  obtain rfl := Option.some.inj H
  go_enter Try.func24, Try.ntmps24
  go_wp2_with (first | ((with_reducible refine gate_dst (N := 1) rfl ?_); refine boxE (N := 1) #[.int .i64 a0_0, .int .i64 a0_1, .int .i64 a0_2, .int .i64 a0_3] 24 ?_; intro gb108 hg w7 hbox hb; have BK108 := am (hbox); have GW108 := gW hg HB; have GE108 := gW hg HB; replace HB := hYb HB hb; clear hb hbox hg; have hcz8_0 := blk_cell BK108.out; have hfz8_0 := blk_frozen BK108.out) | ((with_reducible refine gate_callee (f := 40) rfl ?_); refine goesP (some 7) Try.func40 #[.int .i64 a0_0, .int .i64 a0_2] ?_; (with_reducible refine (rect_span.calls a0_0 a0_2 false _ A2.out).mono ?_); rintro e w' ⟨rfl, ⟨nd, rfl⟩⟩; refine ⟨_, rfl, ?_⟩))
  go_ret
  exact ⟨by first | rfl | (simp [errW_none, errW_some] <;> rfl) | (simp [*, errW_none, errW_some] <;> rfl), by exact beX HB.out⟩

/-! ### rect_known: function 41 -/
def rect_known.f (a0_0 : Int) (a0_1 : Int) (a0_2 : Int) (a0_3 : Int) : Option (Int × Int × Int × Int) := (rect_Valid.f a0_0 a0_1 a0_2 a0_3).bind fun t113 => (if t113 = true then (some (a0_0, a0_1, a0_2, a0_3)) else (some (0, 0, 0, 0)))
set_option maxHeartbeats 8000000 in
set_option maxRecDepth 100000 in
theorem rect_known.calls (a0_0 : Int) (a0_1 : Int) (a0_2 : Int) (a0_3 : Int) (r1 : Int) (r2 : Int) (r3 : Int) (r4 : Int) (w : World) (h : rect_known.f a0_0 a0_1 a0_2 a0_3 = some (r1, r2, r3, r4)) :
  Calls Try.prog 41 #[.agg #[.int .i64 a0_0, .int .i64 a0_1, .int .i64 a0_2, .int .i64 a0_3]] w fun e w' => e = .returned (.agg #[.int .i64 r1, .int .i64 r2, .int .i64 r3, .int .i64 r4]) ∧ Below w.heap.size w w' := by
 have hu24 := Try.underlying24
 have HB := am (Below.refl w.heap.size w)
 have H : ((rect_Valid.f a0_0 a0_1 a0_2 a0_3).bind fun t113 => (if t113 = true then (some (a0_0, a0_1, a0_2, a0_3)) else (some (0, 0, 0, 0)))) = some (r1, r2, r3, r4) := h
 clear h
 replace H := Option.bind_eq_some_iff.mp H
 obtain ⟨t113, A20, H⟩ := H
 replace H : (if t113 = true then (some (a0_0, a0_1, a0_2, a0_3)) else (some (0, 0, 0, 0))) = some (r1, r2, r3, r4) := H
 have A2 := Aside0.mk A20
 clear A20
 by_cases c3 : t113 = true
 ·subst c3
  have H1 : (some (a0_0, a0_1, a0_2, a0_3)) = some (r1, r2, r3, r4) := by rw [if_pos rfl] at H; exact H
  clear H
  have H := H1
  clear H1
  simp only [Option.some.injEq, Prod.mk.injEq] at H
  obtain ⟨rfl, rfl, rfl, rfl⟩ := H
  go_enter Try.func41, Try.ntmps41
  go_wp2_with (first | ((with_reducible refine gate_dst (N := 1) rfl ?_); refine boxE (N := 1) #[.int .i64 a0_0, .int .i64 a0_1, .int .i64 a0_2, .int .i64 a0_3] 24 ?_; intro gb111 hg w4 hbox hb; have BK111 := am (hbox); have GW111 := gW hg HB; have GE111 := gW hg HB; replace HB := hYb HB hb; clear hb hbox hg) | ((with_reducible refine gate_dst (N := 2) rfl ?_); refine boxE (N := 2) #[.int .i64 0, .int .i64 0, .int .i64 0, .int .i64 0] 24 ?_; intro gb112 hg w5 hbox hb; have BK112 := am (hbox); have GW112 := gW hg HB; have GE112 := gW hg HB; have NB111_112 := nL hg BK111; have NB112_111 := nG hg BK111; replace BK111 := bY BK111 hb; replace HB := hYb HB hb; clear hb hbox hg; have hnb6 := NB111_112.out; have hnc6 := NB112_111.out; have hcz7_0 := blk_cell BK111.out; have hfz7_0 := blk_frozen BK111.out) | ((with_reducible refine gate_callee (f := 24) rfl ?_); refine goesP (some 4) Try.func24 #[.agg #[.int .i64 a0_0, .int .i64 a0_1, .int .i64 a0_2, .int .i64 a0_3]] ?_; (with_reducible refine (rect_Valid.calls a0_0 a0_1 a0_2 a0_3 true _ A2.out).mono ?_); rintro e w8 ⟨rfl, hb⟩; refine ⟨_, rfl, ?_⟩; replace BK111 := bY BK111 hb; replace BK112 := bY BK112 hb; replace HB := hYb HB hb; (try clear hb); (try clear hb2); (try clear hk); (try clear hi); have hcz9_0 := blk_cell BK111.out; have hfz9_0 := blk_frozen BK111.out; have hcz10_0 := blk_cell BK112.out; have hfz10_0 := blk_frozen BK112.out))
  refine bodyPost_ret (results_cell_row rfl _ _ gb112 24 #[.int .i64 a0_0, .int .i64 a0_1, .int .i64 a0_2, .int .i64 a0_3] (0, 0) _ rfl (by refine bO ?_; refine blk_put (cs := #[.int .i64 a0_0, .int .i64 a0_1, .int .i64 a0_2, .int .i64 0]) ?_ 3 _ rfl; refine bO ?_; refine blk_put (cs := #[.int .i64 a0_0, .int .i64 a0_1, .int .i64 0, .int .i64 0]) ?_ 2 _ rfl; refine bO ?_; refine blk_put (cs := #[.int .i64 a0_0, .int .i64 0, .int .i64 0, .int .i64 0]) ?_ 1 _ rfl; refine bO ?_; refine blk_put (cs := #[.int .i64 0, .int .i64 0, .int .i64 0, .int .i64 0]) ?_ 0 _ rfl; refine bO ?_; exact BK112.out) Try.underlying24 rfl (by kernel_rfl)) rfl ?_
  exact ⟨by first | rfl | (simp [errW_none, errW_some] <;> rfl) | (simp [*, errW_none, errW_some] <;> rfl), by repeat (first | (with_reducible first | exact HB.out | apply below_alloc | apply pw_below_drewN | apply below_drew1 | refine below_set ?_ GE111.out | refine below_set ?_ GE112.out) | exact HB.out)⟩
 ·replace c3 := Bool.eq_false_iff.mpr c3
  subst c3
  have H1 : (some (0, 0, 0, 0)) = some (r1, r2, r3, r4) := by rw [if_neg (show ¬ (false = true) by decide)] at H; exact H
  clear H
  have H := H1
  clear H1
  simp only [Option.some.injEq, Prod.mk.injEq] at H
  obtain ⟨rfl, rfl, rfl, rfl⟩ := H
  go_enter Try.func41, Try.ntmps41
  go_wp2_with (first | ((with_reducible refine gate_dst (N := 1) rfl ?_); refine boxE (N := 1) #[.int .i64 a0_0, .int .i64 a0_1, .int .i64 a0_2, .int .i64 a0_3] 24 ?_; intro gb111 hg w11 hbox hb; have BK111 := am (hbox); have GW111 := gW hg HB; have GE111 := gW hg HB; replace HB := hYb HB hb; clear hb hbox hg) | ((with_reducible refine gate_dst (N := 2) rfl ?_); refine boxE (N := 2) #[.int .i64 0, .int .i64 0, .int .i64 0, .int .i64 0] 24 ?_; intro gb112 hg w12 hbox hb; have BK112 := am (hbox); have GW112 := gW hg HB; have GE112 := gW hg HB; have NB111_112 := nL hg BK111; have NB112_111 := nG hg BK111; replace BK111 := bY BK111 hb; replace HB := hYb HB hb; clear hb hbox hg; have hnb13 := NB111_112.out; have hnc13 := NB112_111.out; have hcz14_0 := blk_cell BK111.out; have hfz14_0 := blk_frozen BK111.out) | ((with_reducible refine gate_callee (f := 24) rfl ?_); refine goesP (some 4) Try.func24 #[.agg #[.int .i64 a0_0, .int .i64 a0_1, .int .i64 a0_2, .int .i64 a0_3]] ?_; (with_reducible refine (rect_Valid.calls a0_0 a0_1 a0_2 a0_3 false _ A2.out).mono ?_); rintro e w15 ⟨rfl, hb⟩; refine ⟨_, rfl, ?_⟩; replace BK111 := bY BK111 hb; replace BK112 := bY BK112 hb; replace HB := hYb HB hb; (try clear hb); (try clear hb2); (try clear hk); (try clear hi); have hcz16_0 := blk_cell BK112.out; have hfz16_0 := blk_frozen BK112.out))
  refine bodyPost_ret (results_cell_row rfl _ _ gb112 24 #[.int .i64 0, .int .i64 0, .int .i64 0, .int .i64 0] (0, 0) _ rfl (by refine bO ?_; refine blk_put (cs := #[.int .i64 0, .int .i64 0, .int .i64 0, .int .i64 0]) ?_ 3 _ rfl; refine bO ?_; refine blk_put (cs := #[.int .i64 0, .int .i64 0, .int .i64 0, .int .i64 0]) ?_ 2 _ rfl; refine bO ?_; refine blk_put (cs := #[.int .i64 0, .int .i64 0, .int .i64 0, .int .i64 0]) ?_ 1 _ rfl; refine bO ?_; refine blk_put (cs := #[.int .i64 0, .int .i64 0, .int .i64 0, .int .i64 0]) ?_ 0 _ rfl; refine bO ?_; exact BK112.out) Try.underlying24 rfl (by kernel_rfl)) rfl ?_
  exact ⟨by first | rfl | (simp [errW_none, errW_some] <;> rfl) | (simp [*, errW_none, errW_some] <;> rfl), by repeat (first | (with_reducible first | exact HB.out | apply below_alloc | apply pw_below_drewN | apply below_drew1 | refine below_set ?_ GE111.out | refine below_set ?_ GE112.out) | exact HB.out)⟩

/-! ### rect_Empty: function 25 -/
def rect_Empty.f (a0_0 : Int) (a0_1 : Int) (a0_2 : Int) (a0_3 : Int) : Option (Bool) := (rect_known.f a0_0 a0_1 a0_2 a0_3).bind fun bt115 => (if bt115.2.2.1 = 0 then (some true) else (some (bt115.2.2.2 == 0)))
set_option maxHeartbeats 8000000 in
set_option maxRecDepth 100000 in
theorem rect_Empty.calls (a0_0 : Int) (a0_1 : Int) (a0_2 : Int) (a0_3 : Int) (r : Bool) (w : World) (h : rect_Empty.f a0_0 a0_1 a0_2 a0_3 = some r) :
  Calls Try.prog 25 #[.agg #[.int .i64 a0_0, .int .i64 a0_1, .int .i64 a0_2, .int .i64 a0_3]] w fun e w' => e = .returned (.bool r) ∧ Below w.heap.size w w' := by
 have hu24 := Try.underlying24
 have HB := am (Below.refl w.heap.size w)
 have H : ((rect_known.f a0_0 a0_1 a0_2 a0_3).bind fun bt115 => (if bt115.2.2.1 = 0 then (some true) else (some (bt115.2.2.2 == 0)))) = some r := h
 clear h
 replace H := Option.bind_eq_some_iff.mp H
 obtain ⟨⟨t115, t116, t117, t118⟩, A20, H⟩ := H
 replace H : (if t117 = 0 then (some true) else (some (t118 == 0))) = some r := H
 have A2 := Aside0.mk A20
 clear A20
 by_cases c3 : t117 = 0
 ·rw [if_pos c3] at H
  have c3b0 : (t117 == 0) = true := beq_iff_eq.mpr c3
  have c3b1 : (t117 != 0) = false := bne_eq_false_iff_eq.mpr c3
  clear c3
  obtain rfl := Option.some.inj H
  go_enter Try.func25, Try.ntmps25
  go_wp2_with (first | ((with_reducible refine gate_dst (N := 1) rfl ?_); refine boxE (N := 1) #[.int .i64 a0_0, .int .i64 a0_1, .int .i64 a0_2, .int .i64 a0_3] 24 ?_; intro gb114 hg w4 hbox hb; have BK114 := am (hbox); have GW114 := gW hg HB; have GE114 := gW hg HB; replace HB := hYb HB hb; clear hb hbox hg; have hcz5_0 := blk_cell BK114.out; have hfz5_0 := blk_frozen BK114.out) | ((with_reducible refine gate_callee (f := 41) rfl ?_); refine goesP (some 4) Try.func41 #[.agg #[.int .i64 a0_0, .int .i64 a0_1, .int .i64 a0_2, .int .i64 a0_3]] ?_; (with_reducible refine (rect_known.calls a0_0 a0_1 a0_2 a0_3 t115 t116 t117 t118 _ A2.out).mono ?_); rintro e w6 ⟨rfl, hb⟩; refine ⟨_, rfl, ?_⟩; replace BK114 := bY BK114 hb; replace HB := hYb HB hb; (try clear hb); (try clear hb2); (try clear hk); (try clear hi); have hcz7_0 := blk_cell BK114.out; have hfz7_0 := blk_frozen BK114.out))
  go_ret
  exact ⟨by first | rfl | (simp [errW_none, errW_some] <;> rfl) | (simp [*, errW_none, errW_some] <;> rfl), by repeat (first | (with_reducible first | exact HB.out | apply below_alloc | apply pw_below_drewN | apply below_drew1 | refine below_set ?_ GE114.out) | exact HB.out)⟩
 ·rw [if_neg c3] at H
  have c3b0 : (t117 == 0) = false := beq_eq_false_iff_ne.mpr c3
  have c3b1 : (t117 != 0) = true := bne_iff_ne.mpr c3
  obtain rfl := Option.some.inj H
  go_enter Try.func25, Try.ntmps25
  go_wp2_with (first | ((with_reducible refine gate_dst (N := 1) rfl ?_); refine boxE (N := 1) #[.int .i64 a0_0, .int .i64 a0_1, .int .i64 a0_2, .int .i64 a0_3] 24 ?_; intro gb114 hg w8 hbox hb; have BK114 := am (hbox); have GW114 := gW hg HB; have GE114 := gW hg HB; replace HB := hYb HB hb; clear hb hbox hg; have hcz9_0 := blk_cell BK114.out; have hfz9_0 := blk_frozen BK114.out) | ((with_reducible refine gate_callee (f := 41) rfl ?_); refine goesP (some 4) Try.func41 #[.agg #[.int .i64 a0_0, .int .i64 a0_1, .int .i64 a0_2, .int .i64 a0_3]] ?_; (with_reducible refine (rect_known.calls a0_0 a0_1 a0_2 a0_3 t115 t116 t117 t118 _ A2.out).mono ?_); rintro e w10 ⟨rfl, hb⟩; refine ⟨_, rfl, ?_⟩; replace BK114 := bY BK114 hb; replace HB := hYb HB hb; (try clear hb); (try clear hb2); (try clear hk); (try clear hi); have hcz11_0 := blk_cell BK114.out; have hfz11_0 := blk_frozen BK114.out))
  go_ret
  exact ⟨by first | rfl | (simp [errW_none, errW_some] <;> rfl) | (simp [*, errW_none, errW_some] <;> rfl), by repeat (first | (with_reducible first | exact HB.out | apply below_alloc | apply pw_below_drewN | apply below_drew1 | refine below_set ?_ GE114.out) | exact HB.out)⟩

/-! ### rect_Within: function 26 -/
def rect_Within.f (a0_0 : Int) (a0_1 : Int) (a0_2 : Int) (a0_3 : Int) (a1_0 : Int) (a1_1 : Int) (a1_2 : Int) (a1_3 : Int) : Option (Bool) := (rect_Empty.f a0_0 a0_1 a0_2 a0_3).bind fun t121 => (if t121 = true then (some true) else ((rect_known.f a1_0 a1_1 a1_2 a1_3).bind fun bt122 => (if a0_0 ≥ bt122.1 then (if a0_1 ≥ bt122.2.1 then (if (wrap64 (a0_0 + a0_2)) ≤ (wrap64 (bt122.1 + bt122.2.2.1)) then (some (decide ((wrap64 (a0_1 + a0_3)) ≤ (wrap64 (bt122.2.1 + bt122.2.2.2))))) else (some false)) else (some false)) else (some false))))
set_option maxHeartbeats 8000000 in
set_option maxRecDepth 100000 in
theorem rect_Within.calls (a0_0 : Int) (a0_1 : Int) (a0_2 : Int) (a0_3 : Int) (a1_0 : Int) (a1_1 : Int) (a1_2 : Int) (a1_3 : Int) (r : Bool) (w : World) (h : rect_Within.f a0_0 a0_1 a0_2 a0_3 a1_0 a1_1 a1_2 a1_3 = some r) :
  Calls Try.prog 26 #[.agg #[.int .i64 a0_0, .int .i64 a0_1, .int .i64 a0_2, .int .i64 a0_3], .agg #[.int .i64 a1_0, .int .i64 a1_1, .int .i64 a1_2, .int .i64 a1_3]] w fun e w' => e = .returned (.bool r) ∧ Below w.heap.size w w' := by
 have hu24 := Try.underlying24
 have HB := am (Below.refl w.heap.size w)
 have H : ((rect_Empty.f a0_0 a0_1 a0_2 a0_3).bind fun t121 => (if t121 = true then (some true) else ((rect_known.f a1_0 a1_1 a1_2 a1_3).bind fun bt122 => (if a0_0 ≥ bt122.1 then (if a0_1 ≥ bt122.2.1 then (if (wrap64 (a0_0 + a0_2)) ≤ (wrap64 (bt122.1 + bt122.2.2.1)) then (some (decide ((wrap64 (a0_1 + a0_3)) ≤ (wrap64 (bt122.2.1 + bt122.2.2.2))))) else (some false)) else (some false)) else (some false))))) = some r := h
 clear h
 replace H := Option.bind_eq_some_iff.mp H
 obtain ⟨t121, A30, H⟩ := H
 replace H : (if t121 = true then (some true) else ((rect_known.f a1_0 a1_1 a1_2 a1_3).bind fun bt122 => (if a0_0 ≥ bt122.1 then (if a0_1 ≥ bt122.2.1 then (if (wrap64 (a0_0 + a0_2)) ≤ (wrap64 (bt122.1 + bt122.2.2.1)) then (some (decide ((wrap64 (a0_1 + a0_3)) ≤ (wrap64 (bt122.2.1 + bt122.2.2.2))))) else (some false)) else (some false)) else (some false)))) = some r := H
 have A3 := Aside0.mk A30
 clear A30
 by_cases c4 : t121 = true
 ·subst c4
  have H1 : (some true) = some r := by rw [if_pos rfl] at H; exact H
  clear H
  have H := H1
  clear H1
  obtain rfl := Option.some.inj H
  go_enter Try.func26, Try.ntmps26
  go_wp2_with (first | ((with_reducible refine gate_dst (N := 2) rfl ?_); refine boxE (N := 2) #[.int .i64 a0_0, .int .i64 a0_1, .int .i64 a0_2, .int .i64 a0_3] 24 ?_; intro gb119 hg w5 hbox hb; have BK119 := am (hbox); have GW119 := gW hg HB; have GE119 := gW hg HB; replace HB := hYb HB hb; clear hb hbox hg) | ((with_reducible refine gate_dst (N := 3) rfl ?_); refine boxE (N := 3) #[.int .i64 a1_0, .int .i64 a1_1, .int .i64 a1_2, .int .i64 a1_3] 24 ?_; intro gb120 hg w6 hbox hb; have BK120 := am (hbox); have GW120 := gW hg HB; have GE120 := gW hg HB; have NB119_120 := nL hg BK119; have NB120_119 := nG hg BK119; replace BK119 := bY BK119 hb; replace HB := hYb HB hb; clear hb hbox hg; have hnb7 := NB119_120.out; have hnc7 := NB120_119.out; have hcz8_0 := blk_cell BK119.out; have hfz8_0 := blk_frozen BK119.out) | ((with_reducible refine gate_callee (f := 25) rfl ?_); refine goesP (some 6) Try.func25 #[.agg #[.int .i64 a0_0, .int .i64 a0_1, .int .i64 a0_2, .int .i64 a0_3]] ?_; (with_reducible refine (rect_Empty.calls a0_0 a0_1 a0_2 a0_3 true _ A3.out).mono ?_); rintro e w9 ⟨rfl, hb⟩; refine ⟨_, rfl, ?_⟩; replace BK119 := bY BK119 hb; replace BK120 := bY BK120 hb; replace HB := hYb HB hb; (try clear hb); (try clear hb2); (try clear hk); (try clear hi)))
  go_ret
  exact ⟨by first | rfl | (simp [errW_none, errW_some] <;> rfl) | (simp [*, errW_none, errW_some] <;> rfl), by exact beX HB.out⟩
 ·replace c4 := Bool.eq_false_iff.mpr c4
  subst c4
  have H1 : ((rect_known.f a1_0 a1_1 a1_2 a1_3).bind fun bt122 => (if a0_0 ≥ bt122.1 then (if a0_1 ≥ bt122.2.1 then (if (wrap64 (a0_0 + a0_2)) ≤ (wrap64 (bt122.1 + bt122.2.2.1)) then (some (decide ((wrap64 (a0_1 + a0_3)) ≤ (wrap64 (bt122.2.1 + bt122.2.2.2))))) else (some false)) else (some false)) else (some false))) = some r := by rw [if_neg (show ¬ (false = true) by decide)] at H; exact H
  clear H
  have H := H1
  clear H1
  replace H := Option.bind_eq_some_iff.mp H
  obtain ⟨⟨t122, t123, t124, t125⟩, A100, H⟩ := H
  replace H : (if a0_0 ≥ t122 then (if a0_1 ≥ t123 then (if (wrap64 (a0_0 + a0_2)) ≤ (wrap64 (t122 + t124)) then (some (decide ((wrap64 (a0_1 + a0_3)) ≤ (wrap64 (t123 + t125))))) else (some false)) else (some false)) else (some false)) = some r := H
  have A10 := Aside0.mk A100
  clear A100
  by_cases c11 : a0_0 ≥ t122
  ·rw [if_pos c11] at H
   have c11b0 : decide (t122 ≤ a0_0) = true := decide_eq_true c11
   clear c11
   by_cases c12 : a0_1 ≥ t123
   ·rw [if_pos c12] at H
    have c12b0 : decide (t123 ≤ a0_1) = true := decide_eq_true c12
    clear c12
    by_cases c13 : (wrap64 (a0_0 + a0_2)) ≤ (wrap64 (t122 + t124))
    ·rw [if_pos c13] at H
     have c13b0 : decide ((wrap64 (a0_0 + a0_2)) ≤ (wrap64 (t122 + t124))) = true := decide_eq_true c13
     clear c13
     obtain rfl := Option.some.inj H
     go_enter Try.func26, Try.ntmps26
     go_wp2_with (first | ((with_reducible refine gate_dst (N := 2) rfl ?_); refine boxE (N := 2) #[.int .i64 a0_0, .int .i64 a0_1, .int .i64 a0_2, .int .i64 a0_3] 24 ?_; intro gb119 hg w14 hbox hb; have BK119 := am (hbox); have GW119 := gW hg HB; have GE119 := gW hg HB; replace HB := hYb HB hb; clear hb hbox hg) | ((with_reducible refine gate_dst (N := 3) rfl ?_); refine boxE (N := 3) #[.int .i64 a1_0, .int .i64 a1_1, .int .i64 a1_2, .int .i64 a1_3] 24 ?_; intro gb120 hg w15 hbox hb; have BK120 := am (hbox); have GW120 := gW hg HB; have GE120 := gW hg HB; have NB119_120 := nL hg BK119; have NB120_119 := nG hg BK119; replace BK119 := bY BK119 hb; replace HB := hYb HB hb; clear hb hbox hg; have hnb16 := NB119_120.out; have hnc16 := NB120_119.out; have hcz17_0 := blk_cell BK119.out; have hfz17_0 := blk_frozen BK119.out) | ((with_reducible refine gate_callee (f := 25) rfl ?_); refine goesP (some 6) Try.func25 #[.agg #[.int .i64 a0_0, .int .i64 a0_1, .int .i64 a0_2, .int .i64 a0_3]] ?_; (with_reducible refine (rect_Empty.calls a0_0 a0_1 a0_2 a0_3 false _ A3.out).mono ?_); rintro e w18 ⟨rfl, hb⟩; refine ⟨_, rfl, ?_⟩; replace BK119 := bY BK119 hb; replace BK120 := bY BK120 hb; replace HB := hYb HB hb; (try clear hb); (try clear hb2); (try clear hk); (try clear hi); have hcz19_0 := blk_cell BK120.out; have hfz19_0 := blk_frozen BK120.out) | ((with_reducible refine gate_callee (f := 41) rfl ?_); refine goesP (some 8) Try.func41 #[.agg #[.int .i64 a1_0, .int .i64 a1_1, .int .i64 a1_2, .int .i64 a1_3]] ?_; (with_reducible refine (rect_known.calls a1_0 a1_1 a1_2 a1_3 t122 t123 t124 t125 _ A10.out).mono ?_); rintro e w20 ⟨rfl, hb⟩; refine ⟨_, rfl, ?_⟩; replace BK119 := bY BK119 hb; replace BK120 := bY BK120 hb; replace HB := hYb HB hb; (try clear hb); (try clear hb2); (try clear hk); (try clear hi); have hcz21_0 := blk_cell BK120.out; have hfz21_0 := blk_frozen BK120.out; have hcz22_0 := blk_cell BK119.out; have hfz22_0 := blk_frozen BK119.out))
     go_ret
     exact ⟨by first | rfl | (simp [errW_none, errW_some] <;> rfl) | (simp [*, errW_none, errW_some] <;> rfl), by repeat (first | (with_reducible first | exact HB.out | apply below_alloc | apply pw_below_drewN | apply below_drew1 | refine below_set ?_ GE119.out | refine below_set ?_ GE120.out) | exact HB.out)⟩
    ·rw [if_neg c13] at H
     have c13b0 : decide ((wrap64 (a0_0 + a0_2)) ≤ (wrap64 (t122 + t124))) = false := decide_eq_false c13
     clear c13
     obtain rfl := Option.some.inj H
     go_enter Try.func26, Try.ntmps26
     go_wp2_with (first | ((with_reducible refine gate_dst (N := 2) rfl ?_); refine boxE (N := 2) #[.int .i64 a0_0, .int .i64 a0_1, .int .i64 a0_2, .int .i64 a0_3] 24 ?_; intro gb119 hg w23 hbox hb; have BK119 := am (hbox); have GW119 := gW hg HB; have GE119 := gW hg HB; replace HB := hYb HB hb; clear hb hbox hg) | ((with_reducible refine gate_dst (N := 3) rfl ?_); refine boxE (N := 3) #[.int .i64 a1_0, .int .i64 a1_1, .int .i64 a1_2, .int .i64 a1_3] 24 ?_; intro gb120 hg w24 hbox hb; have BK120 := am (hbox); have GW120 := gW hg HB; have GE120 := gW hg HB; have NB119_120 := nL hg BK119; have NB120_119 := nG hg BK119; replace BK119 := bY BK119 hb; replace HB := hYb HB hb; clear hb hbox hg; have hnb25 := NB119_120.out; have hnc25 := NB120_119.out; have hcz26_0 := blk_cell BK119.out; have hfz26_0 := blk_frozen BK119.out) | ((with_reducible refine gate_callee (f := 25) rfl ?_); refine goesP (some 6) Try.func25 #[.agg #[.int .i64 a0_0, .int .i64 a0_1, .int .i64 a0_2, .int .i64 a0_3]] ?_; (with_reducible refine (rect_Empty.calls a0_0 a0_1 a0_2 a0_3 false _ A3.out).mono ?_); rintro e w27 ⟨rfl, hb⟩; refine ⟨_, rfl, ?_⟩; replace BK119 := bY BK119 hb; replace BK120 := bY BK120 hb; replace HB := hYb HB hb; (try clear hb); (try clear hb2); (try clear hk); (try clear hi); have hcz28_0 := blk_cell BK120.out; have hfz28_0 := blk_frozen BK120.out) | ((with_reducible refine gate_callee (f := 41) rfl ?_); refine goesP (some 8) Try.func41 #[.agg #[.int .i64 a1_0, .int .i64 a1_1, .int .i64 a1_2, .int .i64 a1_3]] ?_; (with_reducible refine (rect_known.calls a1_0 a1_1 a1_2 a1_3 t122 t123 t124 t125 _ A10.out).mono ?_); rintro e w29 ⟨rfl, hb⟩; refine ⟨_, rfl, ?_⟩; replace BK119 := bY BK119 hb; replace BK120 := bY BK120 hb; replace HB := hYb HB hb; (try clear hb); (try clear hb2); (try clear hk); (try clear hi); have hcz30_0 := blk_cell BK120.out; have hfz30_0 := blk_frozen BK120.out; have hcz31_0 := blk_cell BK119.out; have hfz31_0 := blk_frozen BK119.out))
     go_ret
     exact ⟨by first | rfl | (simp [errW_none, errW_some] <;> rfl) | (simp [*, errW_none, errW_some] <;> rfl), by repeat (first | (with_reducible first | exact HB.out | apply below_alloc | apply pw_below_drewN | apply below_drew1 | refine below_set ?_ GE119.out | refine below_set ?_ GE120.out) | exact HB.out)⟩
   ·rw [if_neg c12] at H
    have c12b0 : decide (t123 ≤ a0_1) = false := decide_eq_false c12
    clear c12
    obtain rfl := Option.some.inj H
    go_enter Try.func26, Try.ntmps26
    go_wp2_with (first | ((with_reducible refine gate_dst (N := 2) rfl ?_); refine boxE (N := 2) #[.int .i64 a0_0, .int .i64 a0_1, .int .i64 a0_2, .int .i64 a0_3] 24 ?_; intro gb119 hg w32 hbox hb; have BK119 := am (hbox); have GW119 := gW hg HB; have GE119 := gW hg HB; replace HB := hYb HB hb; clear hb hbox hg) | ((with_reducible refine gate_dst (N := 3) rfl ?_); refine boxE (N := 3) #[.int .i64 a1_0, .int .i64 a1_1, .int .i64 a1_2, .int .i64 a1_3] 24 ?_; intro gb120 hg w33 hbox hb; have BK120 := am (hbox); have GW120 := gW hg HB; have GE120 := gW hg HB; have NB119_120 := nL hg BK119; have NB120_119 := nG hg BK119; replace BK119 := bY BK119 hb; replace HB := hYb HB hb; clear hb hbox hg; have hnb34 := NB119_120.out; have hnc34 := NB120_119.out; have hcz35_0 := blk_cell BK119.out; have hfz35_0 := blk_frozen BK119.out) | ((with_reducible refine gate_callee (f := 25) rfl ?_); refine goesP (some 6) Try.func25 #[.agg #[.int .i64 a0_0, .int .i64 a0_1, .int .i64 a0_2, .int .i64 a0_3]] ?_; (with_reducible refine (rect_Empty.calls a0_0 a0_1 a0_2 a0_3 false _ A3.out).mono ?_); rintro e w36 ⟨rfl, hb⟩; refine ⟨_, rfl, ?_⟩; replace BK119 := bY BK119 hb; replace BK120 := bY BK120 hb; replace HB := hYb HB hb; (try clear hb); (try clear hb2); (try clear hk); (try clear hi); have hcz37_0 := blk_cell BK120.out; have hfz37_0 := blk_frozen BK120.out) | ((with_reducible refine gate_callee (f := 41) rfl ?_); refine goesP (some 8) Try.func41 #[.agg #[.int .i64 a1_0, .int .i64 a1_1, .int .i64 a1_2, .int .i64 a1_3]] ?_; (with_reducible refine (rect_known.calls a1_0 a1_1 a1_2 a1_3 t122 t123 t124 t125 _ A10.out).mono ?_); rintro e w38 ⟨rfl, hb⟩; refine ⟨_, rfl, ?_⟩; replace BK119 := bY BK119 hb; replace BK120 := bY BK120 hb; replace HB := hYb HB hb; (try clear hb); (try clear hb2); (try clear hk); (try clear hi); have hcz39_0 := blk_cell BK120.out; have hfz39_0 := blk_frozen BK120.out; have hcz40_0 := blk_cell BK119.out; have hfz40_0 := blk_frozen BK119.out))
    go_ret
    exact ⟨by first | rfl | (simp [errW_none, errW_some] <;> rfl) | (simp [*, errW_none, errW_some] <;> rfl), by repeat (first | (with_reducible first | exact HB.out | apply below_alloc | apply pw_below_drewN | apply below_drew1 | refine below_set ?_ GE119.out | refine below_set ?_ GE120.out) | exact HB.out)⟩
  ·rw [if_neg c11] at H
   have c11b0 : decide (t122 ≤ a0_0) = false := decide_eq_false c11
   clear c11
   obtain rfl := Option.some.inj H
   go_enter Try.func26, Try.ntmps26
   go_wp2_with (first | ((with_reducible refine gate_dst (N := 2) rfl ?_); refine boxE (N := 2) #[.int .i64 a0_0, .int .i64 a0_1, .int .i64 a0_2, .int .i64 a0_3] 24 ?_; intro gb119 hg w41 hbox hb; have BK119 := am (hbox); have GW119 := gW hg HB; have GE119 := gW hg HB; replace HB := hYb HB hb; clear hb hbox hg) | ((with_reducible refine gate_dst (N := 3) rfl ?_); refine boxE (N := 3) #[.int .i64 a1_0, .int .i64 a1_1, .int .i64 a1_2, .int .i64 a1_3] 24 ?_; intro gb120 hg w42 hbox hb; have BK120 := am (hbox); have GW120 := gW hg HB; have GE120 := gW hg HB; have NB119_120 := nL hg BK119; have NB120_119 := nG hg BK119; replace BK119 := bY BK119 hb; replace HB := hYb HB hb; clear hb hbox hg; have hnb43 := NB119_120.out; have hnc43 := NB120_119.out; have hcz44_0 := blk_cell BK119.out; have hfz44_0 := blk_frozen BK119.out) | ((with_reducible refine gate_callee (f := 25) rfl ?_); refine goesP (some 6) Try.func25 #[.agg #[.int .i64 a0_0, .int .i64 a0_1, .int .i64 a0_2, .int .i64 a0_3]] ?_; (with_reducible refine (rect_Empty.calls a0_0 a0_1 a0_2 a0_3 false _ A3.out).mono ?_); rintro e w45 ⟨rfl, hb⟩; refine ⟨_, rfl, ?_⟩; replace BK119 := bY BK119 hb; replace BK120 := bY BK120 hb; replace HB := hYb HB hb; (try clear hb); (try clear hb2); (try clear hk); (try clear hi); have hcz46_0 := blk_cell BK120.out; have hfz46_0 := blk_frozen BK120.out) | ((with_reducible refine gate_callee (f := 41) rfl ?_); refine goesP (some 8) Try.func41 #[.agg #[.int .i64 a1_0, .int .i64 a1_1, .int .i64 a1_2, .int .i64 a1_3]] ?_; (with_reducible refine (rect_known.calls a1_0 a1_1 a1_2 a1_3 t122 t123 t124 t125 _ A10.out).mono ?_); rintro e w47 ⟨rfl, hb⟩; refine ⟨_, rfl, ?_⟩; replace BK119 := bY BK119 hb; replace BK120 := bY BK120 hb; replace HB := hYb HB hb; (try clear hb); (try clear hb2); (try clear hk); (try clear hi); have hcz48_0 := blk_cell BK120.out; have hfz48_0 := blk_frozen BK120.out; have hcz49_0 := blk_cell BK119.out; have hfz49_0 := blk_frozen BK119.out))
   go_ret
   exact ⟨by first | rfl | (simp [errW_none, errW_some] <;> rfl) | (simp [*, errW_none, errW_some] <;> rfl), by repeat (first | (with_reducible first | exact HB.out | apply below_alloc | apply pw_below_drewN | apply below_drew1 | refine below_set ?_ GE119.out | refine below_set ?_ GE120.out) | exact HB.out)⟩

/-! ### rect_between: function 61 -/
def rect_between.f (a0 : Int) (a1 : Int) (a2 : Int) (a3 : Int) : Option (Int × Int × Int × Int) := if a0 ≥ a2 then (some (0, 0, 0, 0)) else (if a1 ≥ a3 then (some (0, 0, 0, 0)) else (some (a0, a1, wrap64 (a2 - a0), wrap64 (a3 - a1))))
set_option maxHeartbeats 8000000 in
set_option maxRecDepth 100000 in
theorem rect_between.calls (a0 : Int) (a1 : Int) (a2 : Int) (a3 : Int) (r1 : Int) (r2 : Int) (r3 : Int) (r4 : Int) (w : World) (h : rect_between.f a0 a1 a2 a3 = some (r1, r2, r3, r4)) :
  Calls Try.prog 61 #[.int .i64 a0, .int .i64 a1, .int .i64 a2, .int .i64 a3] w fun e w' => e = .returned (.agg #[.int .i64 r1, .int .i64 r2, .int .i64 r3, .int .i64 r4]) ∧ Below w.heap.size w w' := by
 have hu24 := Try.underlying24
 have HB := am (Below.refl w.heap.size w)
 have H : (if a0 ≥ a2 then (some (0, 0, 0, 0)) else (if a1 ≥ a3 then (some (0, 0, 0, 0)) else (some (a0, a1, wrap64 (a2 - a0), wrap64 (a3 - a1))))) = some (r1, r2, r3, r4) := h
 clear h
 by_cases c5 : a0 ≥ a2
 ·rw [if_pos c5] at H
  have c5b0 : decide (a2 ≤ a0) = true := decide_eq_true c5
  clear c5
  simp only [Option.some.injEq, Prod.mk.injEq] at H
  obtain ⟨rfl, rfl, rfl, rfl⟩ := H
  go_enter Try.func61, Try.ntmps61
  go_wp2_with (first | ((with_reducible refine gate_dst (N := 8) rfl ?_); refine boxE (N := 8) #[.int .i64 0, .int .i64 0, .int .i64 0, .int .i64 0] 24 ?_; intro gb126 hg w6 hbox hb; have BK126 := am (hbox); have GW126 := gW hg HB; have GE126 := gW hg HB; replace HB := hYb HB hb; clear hb hbox hg; have hcz7_0 := blk_cell BK126.out; have hfz7_0 := blk_frozen BK126.out))
  refine bodyPost_ret (results_cell_row rfl _ _ gb126 24 #[.int .i64 0, .int .i64 0, .int .i64 0, .int .i64 0] (0, 0) _ rfl (by refine bO ?_; refine blk_put (cs := #[.int .i64 0, .int .i64 0, .int .i64 0, .int .i64 0]) ?_ 3 _ rfl; refine bO ?_; refine blk_put (cs := #[.int .i64 0, .int .i64 0, .int .i64 0, .int .i64 0]) ?_ 2 _ rfl; refine bO ?_; refine blk_put (cs := #[.int .i64 0, .int .i64 0, .int .i64 0, .int .i64 0]) ?_ 1 _ rfl; refine bO ?_; refine blk_put (cs := #[.int .i64 0, .int .i64 0, .int .i64 0, .int .i64 0]) ?_ 0 _ rfl; refine bO ?_; exact BK126.out) Try.underlying24 rfl (by kernel_rfl)) rfl ?_
  exact ⟨by first | rfl | (simp [errW_none, errW_some] <;> rfl) | (simp [*, errW_none, errW_some] <;> rfl), by repeat (first | (with_reducible first | exact HB.out | apply below_alloc | apply pw_below_drewN | apply below_drew1 | refine below_set ?_ GE126.out) | exact HB.out)⟩
 ·rw [if_neg c5] at H
  have c5b0 : decide (a2 ≤ a0) = false := decide_eq_false c5
  clear c5
  by_cases c8 : a1 ≥ a3
  ·rw [if_pos c8] at H
   have c8b0 : decide (a3 ≤ a1) = true := decide_eq_true c8
   clear c8
   simp only [Option.some.injEq, Prod.mk.injEq] at H
   obtain ⟨rfl, rfl, rfl, rfl⟩ := H
   go_enter Try.func61, Try.ntmps61
   go_wp2_with (first | ((with_reducible refine gate_dst (N := 8) rfl ?_); refine boxE (N := 8) #[.int .i64 0, .int .i64 0, .int .i64 0, .int .i64 0] 24 ?_; intro gb126 hg w9 hbox hb; have BK126 := am (hbox); have GW126 := gW hg HB; have GE126 := gW hg HB; replace HB := hYb HB hb; clear hb hbox hg; have hcz10_0 := blk_cell BK126.out; have hfz10_0 := blk_frozen BK126.out))
   refine bodyPost_ret (results_cell_row rfl _ _ gb126 24 #[.int .i64 0, .int .i64 0, .int .i64 0, .int .i64 0] (0, 0) _ rfl (by refine bO ?_; refine blk_put (cs := #[.int .i64 0, .int .i64 0, .int .i64 0, .int .i64 0]) ?_ 3 _ rfl; refine bO ?_; refine blk_put (cs := #[.int .i64 0, .int .i64 0, .int .i64 0, .int .i64 0]) ?_ 2 _ rfl; refine bO ?_; refine blk_put (cs := #[.int .i64 0, .int .i64 0, .int .i64 0, .int .i64 0]) ?_ 1 _ rfl; refine bO ?_; refine blk_put (cs := #[.int .i64 0, .int .i64 0, .int .i64 0, .int .i64 0]) ?_ 0 _ rfl; refine bO ?_; exact BK126.out) Try.underlying24 rfl (by kernel_rfl)) rfl ?_
   exact ⟨by first | rfl | (simp [errW_none, errW_some] <;> rfl) | (simp [*, errW_none, errW_some] <;> rfl), by repeat (first | (with_reducible first | exact HB.out | apply below_alloc | apply pw_below_drewN | apply below_drew1 | refine below_set ?_ GE126.out) | exact HB.out)⟩
  ·rw [if_neg c8] at H
   have c8b0 : decide (a3 ≤ a1) = false := decide_eq_false c8
   clear c8
   simp only [Option.some.injEq, Prod.mk.injEq] at H
   obtain ⟨rfl, rfl, rfl, rfl⟩ := H
   go_enter Try.func61, Try.ntmps61
   go_wp2_with (first | ((with_reducible refine gate_dst (N := 8) rfl ?_); refine boxE (N := 8) #[.int .i64 0, .int .i64 0, .int .i64 0, .int .i64 0] 24 ?_; intro gb126 hg w11 hbox hb; have BK126 := am (hbox); have GW126 := gW hg HB; have GE126 := gW hg HB; replace HB := hYb HB hb; clear hb hbox hg; have hcz12_0 := blk_cell BK126.out; have hfz12_0 := blk_frozen BK126.out))
   refine bodyPost_ret (results_cell_row rfl _ _ gb126 24 #[.int .i64 a0, .int .i64 a1, .int .i64 (wrap64 (a2 - a0)), .int .i64 (wrap64 (a3 - a1))] (0, 0) _ rfl (by refine bO ?_; refine blk_put (cs := #[.int .i64 a0, .int .i64 a1, .int .i64 (wrap64 (a2 - a0)), .int .i64 0]) ?_ 3 _ rfl; refine bO ?_; refine blk_put (cs := #[.int .i64 a0, .int .i64 a1, .int .i64 0, .int .i64 0]) ?_ 2 _ rfl; refine bO ?_; refine blk_put (cs := #[.int .i64 a0, .int .i64 0, .int .i64 0, .int .i64 0]) ?_ 1 _ rfl; refine bO ?_; refine blk_put (cs := #[.int .i64 0, .int .i64 0, .int .i64 0, .int .i64 0]) ?_ 0 _ rfl; refine bO ?_; exact BK126.out) Try.underlying24 rfl (by kernel_rfl)) rfl ?_
   exact ⟨by first | rfl | (simp [errW_none, errW_some] <;> rfl) | (simp [*, errW_none, errW_some] <;> rfl), by repeat (first | (with_reducible first | exact HB.out | apply below_alloc | apply pw_below_drewN | apply below_drew1 | refine below_set ?_ GE126.out) | exact HB.out)⟩

/-! ### rect_meet: function 42 -/
def rect_meet.f (a0_0 : Int) (a0_1 : Int) (a0_2 : Int) (a0_3 : Int) (a1_0 : Int) (a1_1 : Int) (a1_2 : Int) (a1_3 : Int) : Option (Int × Int × Int × Int) := (rect_between.f (mx a0_0 a1_0) (mx a0_1 a1_1) (mn (wrap64 (a0_0 + a0_2)) (wrap64 (a1_0 + a1_2))) (mn (wrap64 (a0_1 + a0_3)) (wrap64 (a1_1 + a1_3)))).bind fun bt130 => (some (bt130.1, bt130.2.1, bt130.2.2.1, bt130.2.2.2))
set_option maxHeartbeats 8000000 in
set_option maxRecDepth 100000 in
theorem rect_meet.calls (a0_0 : Int) (a0_1 : Int) (a0_2 : Int) (a0_3 : Int) (a1_0 : Int) (a1_1 : Int) (a1_2 : Int) (a1_3 : Int) (r1 : Int) (r2 : Int) (r3 : Int) (r4 : Int) (w : World) (h : rect_meet.f a0_0 a0_1 a0_2 a0_3 a1_0 a1_1 a1_2 a1_3 = some (r1, r2, r3, r4)) :
  Calls Try.prog 42 #[.agg #[.int .i64 a0_0, .int .i64 a0_1, .int .i64 a0_2, .int .i64 a0_3], .agg #[.int .i64 a1_0, .int .i64 a1_1, .int .i64 a1_2, .int .i64 a1_3]] w fun e w' => e = .returned (.agg #[.int .i64 r1, .int .i64 r2, .int .i64 r3, .int .i64 r4]) ∧ Below w.heap.size w w' := by
 have hu24 := Try.underlying24
 have HB := am (Below.refl w.heap.size w)
 have H : ((rect_between.f (mx a0_0 a1_0) (mx a0_1 a1_1) (mn (wrap64 (a0_0 + a0_2)) (wrap64 (a1_0 + a1_2))) (mn (wrap64 (a0_1 + a0_3)) (wrap64 (a1_1 + a1_3)))).bind fun bt130 => (some (bt130.1, bt130.2.1, bt130.2.2.1, bt130.2.2.2))) = some (r1, r2, r3, r4) := h
 clear h
 obtain ⟨ji3, hji3⟩ : ∃ j_ : Int, (mx a0_0 a1_0) = j_ := ⟨_, rfl⟩
 replace H : ((rect_between.f (ji3) (mx a0_1 a1_1) (mn (wrap64 (a0_0 + a0_2)) (wrap64 (a1_0 + a1_2))) (mn (wrap64 (a0_1 + a0_3)) (wrap64 (a1_1 + a1_3)))).bind fun bt130 => (some (bt130.1, bt130.2.1, bt130.2.2.1, bt130.2.2.2))) = some (r1, r2, r3, r4) := by first | (rw [hji3] at H; exact H) | (simp only [hji3] at H ⊢; exact H)
 have hji3_ : (if a0_0 < a1_0 then a1_0 else a0_0) = ji3 := hji3
 obtain ⟨ji4, hji4⟩ : ∃ j_ : Int, (mx a0_1 a1_1) = j_ := ⟨_, rfl⟩
 replace H : ((rect_between.f (ji3) (ji4) (mn (wrap64 (a0_0 + a0_2)) (wrap64 (a1_0 + a1_2))) (mn (wrap64 (a0_1 + a0_3)) (wrap64 (a1_1 + a1_3)))).bind fun bt130 => (some (bt130.1, bt130.2.1, bt130.2.2.1, bt130.2.2.2))) = some (r1, r2, r3, r4) := by first | (rw [hji4] at H; exact H) | (simp only [hji4] at H ⊢; exact H)
 have hji4_ : (if a0_1 < a1_1 then a1_1 else a0_1) = ji4 := hji4
 obtain ⟨ji5, hji5⟩ : ∃ j_ : Int, (mn (wrap64 (a0_0 + a0_2)) (wrap64 (a1_0 + a1_2))) = j_ := ⟨_, rfl⟩
 replace H : ((rect_between.f (ji3) (ji4) (ji5) (mn (wrap64 (a0_1 + a0_3)) (wrap64 (a1_1 + a1_3)))).bind fun bt130 => (some (bt130.1, bt130.2.1, bt130.2.2.1, bt130.2.2.2))) = some (r1, r2, r3, r4) := by first | (rw [hji5] at H; exact H) | (simp only [hji5] at H ⊢; exact H)
 have hji5_ : (if (wrap64 (a1_0 + a1_2)) < (wrap64 (a0_0 + a0_2)) then (wrap64 (a1_0 + a1_2)) else (wrap64 (a0_0 + a0_2))) = ji5 := hji5
 obtain ⟨ji6, hji6⟩ : ∃ j_ : Int, (mn (wrap64 (a0_1 + a0_3)) (wrap64 (a1_1 + a1_3))) = j_ := ⟨_, rfl⟩
 replace H : ((rect_between.f (ji3) (ji4) (ji5) (ji6)).bind fun bt130 => (some (bt130.1, bt130.2.1, bt130.2.2.1, bt130.2.2.2))) = some (r1, r2, r3, r4) := by first | (rw [hji6] at H; exact H) | (simp only [hji6] at H ⊢; exact H)
 have hji6_ : (if (wrap64 (a1_1 + a1_3)) < (wrap64 (a0_1 + a0_3)) then (wrap64 (a1_1 + a1_3)) else (wrap64 (a0_1 + a0_3))) = ji6 := hji6
 replace H := Option.bind_eq_some_iff.mp H
 obtain ⟨⟨t130, t131, t132, t133⟩, A70, H⟩ := H
 replace H : (some (t130, t131, t132, t133)) = some (r1, r2, r3, r4) := H
 have A7 := Aside0.mk A70
 clear A70
 simp only [Option.some.injEq, Prod.mk.injEq] at H
 obtain ⟨rfl, rfl, rfl, rfl⟩ := H
 go_enter Try.func42, Try.ntmps42
 go_wp2_with (first | ((with_reducible refine gate_dst (N := 2) rfl ?_); refine boxE (N := 2) #[.int .i64 a0_0, .int .i64 a0_1, .int .i64 a0_2, .int .i64 a0_3] 24 ?_; intro gb127 hg w8 hbox hb; have BK127 := am (hbox); have GW127 := gW hg HB; have GE127 := gW hg HB; replace HB := hYb HB hb; clear hb hbox hg) | ((with_reducible refine gate_dst (N := 3) rfl ?_); refine boxE (N := 3) #[.int .i64 a1_0, .int .i64 a1_1, .int .i64 a1_2, .int .i64 a1_3] 24 ?_; intro gb128 hg w9 hbox hb; have BK128 := am (hbox); have GW128 := gW hg HB; have GE128 := gW hg HB; have NB127_128 := nL hg BK127; have NB128_127 := nG hg BK127; replace BK127 := bY BK127 hb; replace HB := hYb HB hb; clear hb hbox hg) | ((with_reducible refine gate_dst (N := 4) rfl ?_); refine boxE (N := 4) #[.int .i64 0, .int .i64 0, .int .i64 0, .int .i64 0] 24 ?_; intro gb129 hg w10 hbox hb; have BK129 := am (hbox); have GW129 := gW hg HB; have GE129 := gW hg HB; have NB127_129 := nL hg BK127; have NB129_127 := nG hg BK127; have NB128_129 := nL hg BK128; have NB129_128 := nG hg BK128; replace BK127 := bY BK127 hb; replace BK128 := bY BK128 hb; replace HB := hYb HB hb; clear hb hbox hg; have hnb11 := NB127_128.out; have hnc11 := NB128_127.out; have hnb12 := NB127_129.out; have hnc12 := NB129_127.out; have hcz13_0 := blk_cell BK127.out; have hfz13_0 := blk_frozen BK127.out; have hnb14 := NB128_129.out; have hnc14 := NB129_128.out; have hcz15_0 := blk_cell BK128.out; have hfz15_0 := blk_frozen BK128.out) | ((with_reducible refine gate_callee (f := 61) rfl ?_); refine goesL_ (some 37) rfl rfl Try.func61 (by kernel_rfl) rfl #[.int .i64 ji3, .int .i64 ji4, .int .i64 ji5, .int .i64 ji6] rfl (by (try simp only [List.map_toArray, List.map_cons, List.map_nil]); first | done | (simp only [hji3, hji4, hji5, hji6]; rfl) | rfl | (simp only [List.length_drop, List.length_take]; rfl)) ?_; (with_reducible refine (rect_between.calls ji3 ji4 ji5 ji6 t130 t131 t132 t133 _ A7.out).mono ?_); rintro e w16 ⟨rfl, hb⟩; refine ⟨_, rfl, ?_⟩; replace BK127 := bY BK127 hb; replace BK128 := bY BK128 hb; replace BK129 := bY BK129 hb; replace HB := hYb HB hb; (try clear hb); (try clear hb2); (try clear hk); (try clear hi); have hcz17_0 := blk_cell BK129.out; have hfz17_0 := blk_frozen BK129.out))
 refine bodyPost_ret (results_cell_row rfl _ _ gb129 24 #[.int .i64 t130, .int .i64 t131, .int .i64 t132, .int .i64 t133] (0, 0) _ rfl (by refine bO ?_; refine blk_put (cs := #[.int .i64 t130, .int .i64 t131, .int .i64 t132, .int .i64 0]) ?_ 3 _ rfl; refine bO ?_; refine blk_put (cs := #[.int .i64 t130, .int .i64 t131, .int .i64 0, .int .i64 0]) ?_ 2 _ rfl; refine bO ?_; refine blk_put (cs := #[.int .i64 t130, .int .i64 0, .int .i64 0, .int .i64 0]) ?_ 1 _ rfl; refine bO ?_; refine blk_put (cs := #[.int .i64 0, .int .i64 0, .int .i64 0, .int .i64 0]) ?_ 0 _ rfl; refine bO ?_; exact BK129.out) Try.underlying24 rfl (by kernel_rfl)) rfl ?_
 exact ⟨by first | rfl | (simp [errW_none, errW_some] <;> rfl) | (simp only [← hji3, ← hji4, ← hji5, ← hji6]; first | rfl | (simp [errW_none, errW_some] <;> rfl)) | (simp [*, errW_none, errW_some] <;> rfl), by repeat (first | (with_reducible first | exact HB.out | apply below_alloc | apply pw_below_drewN | apply below_drew1 | refine below_set ?_ GE127.out | refine below_set ?_ GE128.out | refine below_set ?_ GE129.out) | exact HB.out)⟩

end Go.Proofs.Ytocefehnemahhaa.G
