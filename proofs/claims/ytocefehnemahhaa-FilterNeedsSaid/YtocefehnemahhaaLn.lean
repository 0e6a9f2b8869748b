import Derived.Test.YtocefehnemahhaaG14
import Derived.Test.YtocefehnemahhaaG7
namespace Go.Proofs.Ytocefehnemahhaa.G
open Go.RowKit Go.Proofs.YtocefehnemahhaaW.PrintWords Go.Proofs.YtocefehnemahhaaW.PrintLast Go.Proofs.YtocefehnemahhaaW.PrintMore
set_option linter.unusedVariables false
set_option linter.unusedSimpArgs false
theorem toB {P : Program} {f : FuncId} {args : Array Value} {w : World} {v : Value} (h : Calls P f args w fun e w' => e = .returned v ∧ Drawn0 w w') : Calls P f args w fun e w' => e = .returned v ∧ Below w.heap.size w w' :=
  h.mono fun e w' hh => ⟨hh.1, by obtain ⟨n, rfl⟩ := hh.2; exact pw_below_drewN (Below.refl _ _) n⟩

set_option maxHeartbeats 8000000 in
set_option maxRecDepth 100000 in
theorem needs_walk (k : Nat) (kd : Int) (A : Option Addr) (c : Nat) (l : List Int) (o0 o1 o2 o3 b0 b1 b2 b3 n0 n1 n2 n3 er cc rr : Int) (w : World) (hr : Kd.C (Kd.int .i64) w A l.length l) (hc : l.length ≤ c)
    (e1 : filter_Needs.f k kd l o0 o1 o2 o3 b0 b1 b2 b3 = some (n0, n1, n2, n3, er)) (e2 : imageeditorref16_Needs.f k kd l o0 o1 o2 o3 b0 b1 b2 b3 = some (n0, n1, n2, n3, er)) (e3 : filter_Check.f kd l = some cc) (e4 : imageeditorref16_Check.f k kd l = some cc) (e5 : filter_Reach.f k kd l = some rr) (e6 : imageeditorref16_Reach.f k kd l = some rr) :
    Calls Try.prog 3 #[.agg #[.int .i64 kd, .slice A (l.length) c, .int .i64 o0, .int .i64 o1, .int .i64 o2, .int .i64 o3, .int .i64 b0, .int .i64 b1, .int .i64 b2, .int .i64 b3]] w fun e w' => e = .returned (.bool true) ∧ Below w.heap.size w w' := by
  have hu24 := Try.underlying24
  have hu26 := Try.underlying26
  have HB := Aside0.mk (Below.refl w.heap.size w)
  go_enter Try.func3, Try.ntmps3
  go_wp2_with (first
    | ((with_reducible refine gate_dst (N := 1) rfl ?_); refine boxE (N := 1) #[.int .i64 kd, .slice A (l.length) c, .int .i64 o0, .int .i64 o1, .int .i64 o2, .int .i64 o3, .int .i64 b0, .int .i64 b1, .int .i64 b2, .int .i64 b3] 26 ?_; intro g1 hg w1 hx hb; have z_g1 := zB hg HB; replace HB := hh HB hb; have B_g1 := am hx; clear hx hb hg; have hz_g1 := blk_cell B_g1.out)
    | ((with_reducible refine gate_dst (N := 16) rfl ?_); refine goesE (N := some 16) Try.func7 #[.int .i64 kd, .slice A (l.length) c, .agg #[.int .i64 o0, .int .i64 o1, .int .i64 o2, .int .i64 o3], .agg #[.int .i64 b0, .int .i64 b1, .int .i64 b2, .int .i64 b3]] ?_; refine (filter_Needs.calls k kd _ _ l o0 o1 o2 o3 b0 b1 b2 b3 n0 n1 n2 n3 er _ (Kd.C_below hr HB.out) hc e1).mono ?_; rintro e w2 ⟨rfl, hb⟩; refine ⟨_, rfl, ?_⟩; clear hz_g1; replace B_g1 := bb B_g1 hb; replace HB := hh HB hb; clear hb)
    | ((with_reducible refine gate_dst (N := 3) rfl ?_); refine boxE (N := 3) #[.int .i64 0, .int .i64 0, .int .i64 0, .int .i64 0] 24 ?_; intro g3 hg w3 hx hb; have l_g1_g3 := lB hg B_g1; have z_g3 := zB hg HB; replace B_g1 := bb B_g1 hb; replace HB := hh HB hb; have B_g3 := am hx; clear hx hb hg; have hf_g3 := blk_frozen B_g3.out; have hz_g3 := blk_cell B_g3.out)
    | ((with_reducible refine gate_store (t := 24) (p := 3) rfl ?_); refine storeE (t := 24) (p := 3) (sets w3 g3 0 [.int .i64 n0, .int .i64 n1, .int .i64 n2, .int .i64 n3]) ?_; intro w4 hw; replace B_g1 := fS hw B_g1 (Nat.ne_of_lt l_g1_g3); replace B_g3 := pS #[.int .i64 n0, .int .i64 n1, .int .i64 n2, .int .i64 n3] hw B_g3; replace HB := hS hw HB z_g3; clear hf_g3 hz_g3; clear hw; have hz_g1 := blk_cell B_g1.out)
    | ((with_reducible refine gate_dst (N := 28) rfl ?_); refine goesE (N := some 28) Try.func8 #[.int .i64 kd, .slice A (l.length) c, .agg #[.int .i64 o0, .int .i64 o1, .int .i64 o2, .int .i64 o3], .agg #[.int .i64 b0, .int .i64 b1, .int .i64 b2, .int .i64 b3]] ?_; refine (imageeditorref16_Needs.calls k kd _ _ l o0 o1 o2 o3 b0 b1 b2 b3 n0 n1 n2 n3 er _ (Kd.C_below hr HB.out) hc e2).mono ?_; rintro e w5 ⟨rfl, hb⟩; refine ⟨_, rfl, ?_⟩; clear hz_g1; replace B_g1 := bb B_g1 hb; replace B_g3 := bb B_g3 hb; replace HB := hh HB hb; clear hb)
    | ((with_reducible refine gate_dst (N := 5) rfl ?_); refine boxE (N := 5) #[.int .i64 0, .int .i64 0, .int .i64 0, .int .i64 0] 24 ?_; intro g5 hg w6 hx hb; have l_g1_g5 := lB hg B_g1; have l_g3_g5 := lB hg B_g3; have z_g5 := zB hg HB; replace B_g1 := bb B_g1 hb; replace B_g3 := bb B_g3 hb; replace HB := hh HB hb; have B_g5 := am hx; clear hx hb hg; have hf_g5 := blk_frozen B_g5.out; have hz_g5 := blk_cell B_g5.out)
    | ((with_reducible refine gate_store (t := 24) (p := 5) rfl ?_); refine storeE (t := 24) (p := 5) (sets w6 g5 0 [.int .i64 n0, .int .i64 n1, .int .i64 n2, .int .i64 n3]) ?_; intro w7 hw; replace B_g1 := fS hw B_g1 (Nat.ne_of_lt l_g1_g5); replace B_g3 := fS hw B_g3 (Nat.ne_of_lt l_g3_g5); replace B_g5 := pS #[.int .i64 n0, .int .i64 n1, .int .i64 n2, .int .i64 n3] hw B_g5; replace HB := hS hw HB z_g5; clear hf_g5 hz_g5; clear hw))
  refine region_inv (fun f a w' => a = { tmps := #[.agg #[.int .i64 kd, .slice A (l.length) c, .int .i64 o0, .int .i64 o1, .int .i64 o2, .int .i64 o3, .int .i64 b0, .int .i64 b1, .int .i64 b2, .int .i64 b3], .pointer (some ⟨g1, 0, none⟩), selO (f 37) (.bool true) (.bool false), .pointer (some ⟨g3, 0, none⟩), .int .i64 er, .pointer (some ⟨g5, 0, none⟩), .int .i64 er, .tuple #[.agg #[.int .i64 n0, .int .i64 n1, .int .i64 n2, .int .i64 n3], .int .i64 er], .pointer (some ⟨g1, 0, none⟩), .int .i64 kd, .pointer (some ⟨g1, 1, none⟩), .slice A (l.length) c, .pointer (some ⟨g1, 2, none⟩), .agg #[.int .i64 o0, .int .i64 o1, .int .i64 o2, .int .i64 o3], .pointer (some ⟨g1, 6, none⟩), .agg #[.int .i64 b0, .int .i64 b1, .int .i64 b2, .int .i64 b3], .tuple #[.agg #[.int .i64 n0, .int .i64 n1, .int .i64 n2, .int .i64 n3], .int .i64 er], .agg #[.int .i64 n0, .int .i64 n1, .int .i64 n2, .int .i64 n3], .int .i64 er, .tuple #[.agg #[.int .i64 n0, .int .i64 n1, .int .i64 n2, .int .i64 n3], .int .i64 er], .pointer (some ⟨g1, 0, none⟩), .int .i64 kd, .pointer (some ⟨g1, 1, none⟩), .slice A (l.length) c, .pointer (some ⟨g1, 2, none⟩), .agg #[.int .i64 o0, .int .i64 o1, .int .i64 o2, .int .i64 o3], .pointer (some ⟨g1, 6, none⟩), .agg #[.int .i64 b0, .int .i64 b1, .int .i64 b2, .int .i64 b3], .tuple #[.agg #[.int .i64 n0, .int .i64 n1, .int .i64 n2, .int .i64 n3], .int .i64 er], .agg #[.int .i64 n0, .int .i64 n1, .int .i64 n2, .int .i64 n3], .int .i64 er, sel (f 0) (.agg #[.int .i64 n0, .int .i64 n1, .int .i64 n2, .int .i64 n3]), sel (f 1) (.agg #[.int .i64 n0, .int .i64 n1, .int .i64 n2, .int .i64 n3]), sel (f 2) (.bool true), sel (f 3) (.bool true), sel (f 4) (.int .i64 er), sel (f 5) (.int .i64 er), sel (f 6) (.bool true), sel (f 7) (.bool true), sel (f 8) (.bool true), sel (f 9) (.pointer (some ⟨g1, 0, none⟩)), sel (f 10) (.int .i64 kd), sel (f 11) (.pointer (some ⟨g1, 1, none⟩)), sel (f 12) (.slice A (l.length) c), sel (f 13) (.int .i64 cc), sel (f 14) (.pointer (some ⟨g1, 0, none⟩)), sel (f 15) (.int .i64 kd), sel (f 16) (.pointer (some ⟨g1, 1, none⟩)), sel (f 17) (.slice A (l.length) c), sel (f 18) (.int .i64 cc), sel (f 19) (.bool true), sel (f 20) (.bool true), sel (f 21) (.bool true), sel (f 22) (.pointer (some ⟨g1, 0, none⟩)), sel (f 23) (.int .i64 kd), sel (f 24) (.pointer (some ⟨g1, 1, none⟩)), sel (f 25) (.slice A (l.length) c), sel (f 26) (.int .i64 rr), sel (f 27) (.pointer (some ⟨g1, 0, none⟩)), sel (f 28) (.int .i64 kd), sel (f 29) (.pointer (some ⟨g1, 1, none⟩)), sel (f 30) (.slice A (l.length) c), sel (f 31) (.int .i64 rr), sel (f 32) (.bool true), sel (f 33) (.bool true), sel (f 34) (.bool true), sel (f 35) (.bool true), sel (f 36) (.bool true)], defers := [] } ∧ Below w.heap.size w w' ∧ w'.heap[g1]? = some (.cells #[.int .i64 kd, .slice A (l.length) c, .int .i64 o0, .int .i64 o1, .int .i64 o2, .int .i64 o3, .int .i64 b0, .int .i64 b1, .int .i64 b2, .int .i64 b3] 26 (0, 0)) ∧ w'.heap[g3]? = some (.cells #[.int .i64 n0, .int .i64 n1, .int .i64 n2, .int .i64 n3] 24 (0, 0)) ∧ w'.heap[g5]? = some (.cells #[.int .i64 n0, .int .i64 n1, .int .i64 n2, .int .i64 n3] 24 (0, 0))) (by kernel_rfl) (by kernel_rfl) ?start ?fin ?steps
  case start => exact ⟨rfl, HB.out.drew, blk_drew B_g1.out, blk_drew B_g3.out, blk_drew B_g5.out⟩
  case steps =>
    clear HB B_g1 B_g3 B_g5
    refine ⟨?o0, ?o1, ?o2, ?o3, ?o4, ?o5, ?o6, ?o7, ?o8, ?o9, ?o10, ?o11, ?o12, ?o13, ?o14, ?o15, ?o16, ?o17, ?o18, ?o19, ?o20, ?o21, ?o22, ?o23, ?o24, ?o25, ?o26, ?o27, ?o28, ?o29, ?o30, ?o31, ?o32, ?o33, ?o34, ?o35, ?o36, ?o37, trivial⟩
    case o0 =>
      rintro f a w' ⟨rfl, HB, k_g1, k_g3, k_g5⟩ hf hd K hK
      have hz := blk_cell k_g3
      exact valE (N := some 31) (.agg #[.int .i64 n0, .int .i64 n1, .int .i64 n2, .int .i64 n3]) (hK _ _ ⟨rfl, HB, k_g1, k_g3, k_g5⟩)
    case o1 =>
      rintro f a w' ⟨rfl, HB, k_g1, k_g3, k_g5⟩ hf hd K hK
      have hz := blk_cell k_g5
      exact valE (N := some 32) (.agg #[.int .i64 n0, .int .i64 n1, .int .i64 n2, .int .i64 n3]) (hK _ _ ⟨rfl, HB, k_g1, k_g3, k_g5⟩)
    case o2 =>
      rintro f a w' ⟨rfl, HB, k_g1, k_g3, k_g5⟩ hf hd K hK
      have e0 := hd 0 (by kernel_rfl)
      have e1 := hd 1 (by kernel_rfl)
      rw [e0, e1]
      repeat rw [sel_true]
      exact valE (N := some 33) (.bool true) (hK _ _ ⟨(by simp [Act.put, upd, sel_true, selO_true, e0, e1]), HB, k_g1, k_g3, k_g5⟩)
    case o3 =>
      rintro f a w' ⟨rfl, HB, k_g1, k_g3, k_g5⟩ hf hd K hK
      have e2 := hd 2 (by kernel_rfl)
      rw [e2]
      repeat rw [sel_true]
      exact valE (N := some 34) (.bool true) (hK _ _ ⟨(by simp [Act.put, upd, sel_true, selO_true, e2]), HB, k_g1, k_g3, k_g5⟩)
    case o4 =>
      rintro f a w' ⟨rfl, HB, k_g1, k_g3, k_g5⟩ hf hd K hK
      have e3 := hd 3 (by kernel_rfl)
      rw [e3]
      repeat rw [sel_true]
      exact valE (N := some 35) (.int .i64 er) (hK _ _ ⟨(by simp [Act.put, upd, sel_true, selO_true, e3]), HB, k_g1, k_g3, k_g5⟩)
    case o5 =>
      rintro f a w' ⟨rfl, HB, k_g1, k_g3, k_g5⟩ hf hd K hK
      have e3 := hd 3 (by kernel_rfl)
      rw [e3]
      repeat rw [sel_true]
      exact valE (N := some 36) (.int .i64 er) (hK _ _ ⟨(by simp [Act.put, upd, sel_true, selO_true, e3]), HB, k_g1, k_g3, k_g5⟩)
    case o6 =>
      rintro f a w' ⟨rfl, HB, k_g1, k_g3, k_g5⟩ hf hd K hK
      have e3 := hd 3 (by kernel_rfl)
      have e4 := hd 4 (by kernel_rfl)
      have e5 := hd 5 (by kernel_rfl)
      rw [e3, e4, e5]
      repeat rw [sel_true]
      exact valE (N := some 37) (.bool true) (hK _ _ ⟨(by simp [Act.put, upd, sel_true, selO_true, e3, e4, e5]), HB, k_g1, k_g3, k_g5⟩)
    case o7 =>
      rintro f a w' ⟨rfl, HB, k_g1, k_g3, k_g5⟩ hf hd K hK
      have e3 := hd 3 (by kernel_rfl)
      have e6 := hd 6 (by kernel_rfl)
      rw [e3, e6]
      repeat rw [sel_true]
      exact valE (N := some 38) (.bool true) (hK _ _ ⟨(by simp [Act.put, upd, sel_true, selO_true, e3, e6]), HB, k_g1, k_g3, k_g5⟩)
    case o8 =>
      rintro f a w' ⟨rfl, HB, k_g1, k_g3, k_g5⟩ hf hd K hK
      have e7 := hd 7 (by kernel_rfl)
      rw [e7]
      repeat rw [sel_true]
      exact valE (N := some 39) (.bool true) (hK _ _ ⟨(by simp [Act.put, upd, sel_true, selO_true, e7]), HB, k_g1, k_g3, k_g5⟩)
    case o9 =>
      rintro f a w' ⟨rfl, HB, k_g1, k_g3, k_g5⟩ hf hd K hK
      have e8 := hd 8 (by kernel_rfl)
      rw [e8]
      repeat rw [sel_true]
      exact valE (N := some 40) (.pointer (some ⟨g1, 0, none⟩)) (hK _ _ ⟨(by simp [Act.put, upd, sel_true, selO_true, e8]), HB, k_g1, k_g3, k_g5⟩)
    case o10 =>
      rintro f a w' ⟨rfl, HB, k_g1, k_g3, k_g5⟩ hf hd K hK
      have e8 := hd 8 (by kernel_rfl)
      have e9 := hd 9 (by kernel_rfl)
      rw [e8, e9]
      repeat rw [sel_true]
      have hz := blk_cell k_g1
      exact valE (N := some 41) (.int .i64 kd) (hK _ _ ⟨(by simp [Act.put, upd, sel_true, selO_true, e8, e9]), HB, k_g1, k_g3, k_g5⟩)
    case o11 =>
      rintro f a w' ⟨rfl, HB, k_g1, k_g3, k_g5⟩ hf hd K hK
      have e8 := hd 8 (by kernel_rfl)
      rw [e8]
      repeat rw [sel_true]
      exact valE (N := some 42) (.pointer (some ⟨g1, 1, none⟩)) (hK _ _ ⟨(by simp [Act.put, upd, sel_true, selO_true, e8]), HB, k_g1, k_g3, k_g5⟩)
    case o12 =>
      rintro f a w' ⟨rfl, HB, k_g1, k_g3, k_g5⟩ hf hd K hK
      have e8 := hd 8 (by kernel_rfl)
      have e11 := hd 11 (by kernel_rfl)
      rw [e8, e11]
      repeat rw [sel_true]
      have hz := blk_cell k_g1
      exact valE (N := some 43) (.slice A (l.length) c) (hK _ _ ⟨(by simp [Act.put, upd, sel_true, selO_true, e8, e11]), HB, k_g1, k_g3, k_g5⟩)
    case o13 =>
      rintro f a w' ⟨rfl, HB, k_g1, k_g3, k_g5⟩ hf hd K hK
      have e8 := hd 8 (by kernel_rfl)
      have e10 := hd 10 (by kernel_rfl)
      have e12 := hd 12 (by kernel_rfl)
      rw [e8, e10, e12]
      repeat rw [sel_true]
      refine goesD (N := some 44) Try.func9 #[.int .i64 kd, .slice A (l.length) c] ?_
      refine (filter_Check.calls kd _ _ l cc _ (Kd.C_below hr HB) hc e3).mono ?_
      rintro e w1 ⟨rfl, hb⟩
      exact ⟨_, rfl, hK _ _ ⟨(by simp [Act.put, upd, sel_true, selO_true, e8, e10, e12]), below_step HB hb, blk_below k_g1 hb, blk_below k_g3 hb, blk_below k_g5 hb⟩⟩
    case o14 =>
      rintro f a w' ⟨rfl, HB, k_g1, k_g3, k_g5⟩ hf hd K hK
      have e8 := hd 8 (by kernel_rfl)
      rw [e8]
      repeat rw [sel_true]
      exact valE (N := some 45) (.pointer (some ⟨g1, 0, none⟩)) (hK _ _ ⟨(by simp [Act.put, upd, sel_true, selO_true, e8]), HB, k_g1, k_g3, k_g5⟩)
    case o15 =>
      rintro f a w' ⟨rfl, HB, k_g1, k_g3, k_g5⟩ hf hd K hK
      have e8 := hd 8 (by kernel_rfl)
      have e14 := hd 14 (by kernel_rfl)
      rw [e8, e14]
      repeat rw [sel_true]
      have hz := blk_cell k_g1
      exact valE (N := some 46) (.int .i64 kd) (hK _ _ ⟨(by simp [Act.put, upd, sel_true, selO_true, e8, e14]), HB, k_g1, k_g3, k_g5⟩)
    case o16 =>
      rintro f a w' ⟨rfl, HB, k_g1, k_g3, k_g5⟩ hf hd K hK
      have e8 := hd 8 (by kernel_rfl)
      rw [e8]
      repeat rw [sel_true]
      exact valE (N := some 47) (.pointer (some ⟨g1, 1, none⟩)) (hK _ _ ⟨(by simp [Act.put, upd, sel_true, selO_true, e8]), HB, k_g1, k_g3, k_g5⟩)
    case o17 =>
      rintro f a w' ⟨rfl, HB, k_g1, k_g3, k_g5⟩ hf hd K hK
      have e8 := hd 8 (by kernel_rfl)
      have e16 := hd 16 (by kernel_rfl)
      rw [e8, e16]
      repeat rw [sel_true]
      have hz := blk_cell k_g1
      exact valE (N := some 48) (.slice A (l.length) c) (hK _ _ ⟨(by simp [Act.put, upd, sel_true, selO_true, e8, e16]), HB, k_g1, k_g3, k_g5⟩)
    case o18 =>
      rintro f a w' ⟨rfl, HB, k_g1, k_g3, k_g5⟩ hf hd K hK
      have e8 := hd 8 (by kernel_rfl)
      have e15 := hd 15 (by kernel_rfl)
      have e17 := hd 17 (by kernel_rfl)
      rw [e8, e15, e17]
      repeat rw [sel_true]
      refine goesD (N := some 49) Try.func10 #[.int .i64 kd, .slice A (l.length) c] ?_
      refine (toB (imageeditorref16_Check.calls k kd _ _ l cc _ (Kd.C_below hr HB) hc e4)).mono ?_
      rintro e w1 ⟨rfl, hb⟩
      exact ⟨_, rfl, hK _ _ ⟨(by simp [Act.put, upd, sel_true, selO_true, e8, e15, e17]), below_step HB hb, blk_below k_g1 hb, blk_below k_g3 hb, blk_below k_g5 hb⟩⟩
    case o19 =>
      rintro f a w' ⟨rfl, HB, k_g1, k_g3, k_g5⟩ hf hd K hK
      have e8 := hd 8 (by kernel_rfl)
      have e13 := hd 13 (by kernel_rfl)
      have e18 := hd 18 (by kernel_rfl)
      rw [e8, e13, e18]
      repeat rw [sel_true]
      exact valE (N := some 50) (.bool true) (hK _ _ ⟨(by simp [Act.put, upd, sel_true, selO_true, e8, e13, e18]), HB, k_g1, k_g3, k_g5⟩)
    case o20 =>
      rintro f a w' ⟨rfl, HB, k_g1, k_g3, k_g5⟩ hf hd K hK
      have e8 := hd 8 (by kernel_rfl)
      have e19 := hd 19 (by kernel_rfl)
      rw [e8, e19]
      repeat rw [sel_true]
      exact valE (N := some 51) (.bool true) (hK _ _ ⟨(by simp [Act.put, upd, sel_true, selO_true, e8, e19]), HB, k_g1, k_g3, k_g5⟩)
    case o21 =>
      rintro f a w' ⟨rfl, HB, k_g1, k_g3, k_g5⟩ hf hd K hK
      have e20 := hd 20 (by kernel_rfl)
      rw [e20]
      repeat rw [sel_true]
      exact valE (N := some 52) (.bool true) (hK _ _ ⟨(by simp [Act.put, upd, sel_true, selO_true, e20]), HB, k_g1, k_g3, k_g5⟩)
    case o22 =>
      rintro f a w' ⟨rfl, HB, k_g1, k_g3, k_g5⟩ hf hd K hK
      have e21 := hd 21 (by kernel_rfl)
      rw [e21]
      repeat rw [sel_true]
      exact valE (N := some 53) (.pointer (some ⟨g1, 0, none⟩)) (hK _ _ ⟨(by simp [Act.put, upd, sel_true, selO_true, e21]), HB, k_g1, k_g3, k_g5⟩)
    case o23 =>
      rintro f a w' ⟨rfl, HB, k_g1, k_g3, k_g5⟩ hf hd K hK
      have e21 := hd 21 (by kernel_rfl)
      have e22 := hd 22 (by kernel_rfl)
      rw [e21, e22]
      repeat rw [sel_true]
      have hz := blk_cell k_g1
      exact valE (N := some 54) (.int .i64 kd) (hK _ _ ⟨(by simp [Act.put, upd, sel_true, selO_true, e21, e22]), HB, k_g1, k_g3, k_g5⟩)
    case o24 =>
      rintro f a w' ⟨rfl, HB, k_g1, k_g3, k_g5⟩ hf hd K hK
      have e21 := hd 21 (by kernel_rfl)
      rw [e21]
      repeat rw [sel_true]
      exact valE (N := some 55) (.pointer (some ⟨g1, 1, none⟩)) (hK _ _ ⟨(by simp [Act.put, upd, sel_true, selO_true, e21]), HB, k_g1, k_g3, k_g5⟩)
    case o25 =>
      rintro f a w' ⟨rfl, HB, k_g1, k_g3, k_g5⟩ hf hd K hK
      have e21 := hd 21 (by kernel_rfl)
      have e24 := hd 24 (by kernel_rfl)
      rw [e21, e24]
      repeat rw [sel_true]
      have hz := blk_cell k_g1
      exact valE (N := some 56) (.slice A (l.length) c) (hK _ _ ⟨(by simp [Act.put, upd, sel_true, selO_true, e21, e24]), HB, k_g1, k_g3, k_g5⟩)
    case o26 =>
      rintro f a w' ⟨rfl, HB, k_g1, k_g3, k_g5⟩ hf hd K hK
      have e21 := hd 21 (by kernel_rfl)
      have e23 := hd 23 (by kernel_rfl)
      have e25 := hd 25 (by kernel_rfl)
      rw [e21, e23, e25]
      repeat rw [sel_true]
      refine goesD (N := some 57) Try.func11 #[.int .i64 kd, .slice A (l.length) c] ?_
      refine (filter_Reach.calls k kd _ _ l rr _ (Kd.C_below hr HB) hc e5).mono ?_
      rintro e w1 ⟨rfl, hb⟩
      exact ⟨_, rfl, hK _ _ ⟨(by simp [Act.put, upd, sel_true, selO_true, e21, e23, e25]), below_step HB hb, blk_below k_g1 hb, blk_below k_g3 hb, blk_below k_g5 hb⟩⟩
    case o27 =>
      rintro f a w' ⟨rfl, HB, k_g1, k_g3, k_g5⟩ hf hd K hK
      have e21 := hd 21 (by kernel_rfl)
      rw [e21]
      repeat rw [sel_true]
      exact valE (N := some 58) (.pointer (some ⟨g1, 0, none⟩)) (hK _ _ ⟨(by simp [Act.put, upd, sel_true, selO_true, e21]), HB, k_g1, k_g3, k_g5⟩)
    case o28 =>
      rintro f a w' ⟨rfl, HB, k_g1, k_g3, k_g5⟩ hf hd K hK
      have e21 := hd 21 (by kernel_rfl)
      have e27 := hd 27 (by kernel_rfl)
      rw [e21, e27]
      repeat rw [sel_true]
      have hz := blk_cell k_g1
      exact valE (N := some 59) (.int .i64 kd) (hK _ _ ⟨(by simp [Act.put, upd, sel_true, selO_true, e21, e27]), HB, k_g1, k_g3, k_g5⟩)
    case o29 =>
      rintro f a w' ⟨rfl, HB, k_g1, k_g3, k_g5⟩ hf hd K hK
      have e21 := hd 21 (by kernel_rfl)
      rw [e21]
      repeat rw [sel_true]
      exact valE (N := some 60) (.pointer (some ⟨g1, 1, none⟩)) (hK _ _ ⟨(by simp [Act.put, upd, sel_true, selO_true, e21]), HB, k_g1, k_g3, k_g5⟩)
    case o30 =>
      rintro f a w' ⟨rfl, HB, k_g1, k_g3, k_g5⟩ hf hd K hK
      have e21 := hd 21 (by kernel_rfl)
      have e29 := hd 29 (by kernel_rfl)
      rw [e21, e29]
      repeat rw [sel_true]
      have hz := blk_cell k_g1
      exact valE (N := some 61) (.slice A (l.length) c) (hK _ _ ⟨(by simp [Act.put, upd, sel_true, selO_true, e21, e29]), HB, k_g1, k_g3, k_g5⟩)
    case o31 =>
      rintro f a w' ⟨rfl, HB, k_g1, k_g3, k_g5⟩ hf hd K hK
      have e21 := hd 21 (by kernel_rfl)
      have e28 := hd 28 (by kernel_rfl)
      have e30 := hd 30 (by kernel_rfl)
      rw [e21, e28, e30]
      repeat rw [sel_true]
      refine goesD (N := some 62) Try.func12 #[.int .i64 kd, .slice A (l.length) c] ?_
      refine (imageeditorref16_Reach.calls k kd _ _ l rr _ (Kd.C_below hr HB) hc e6).mono ?_
      rintro e w1 ⟨rfl, hb⟩
      exact ⟨_, rfl, hK _ _ ⟨(by simp [Act.put, upd, sel_true, selO_true, e21, e28, e30]), below_step HB hb, blk_below k_g1 hb, blk_below k_g3 hb, blk_below k_g5 hb⟩⟩
    case o32 =>
      rintro f a w' ⟨rfl, HB, k_g1, k_g3, k_g5⟩ hf hd K hK
      have e21 := hd 21 (by kernel_rfl)
      have e26 := hd 26 (by kernel_rfl)
      have e31 := hd 31 (by kernel_rfl)
      rw [e21, e26, e31]
      repeat rw [sel_true]
      exact valE (N := some 63) (.bool true) (hK _ _ ⟨(by simp [Act.put, upd, sel_true, selO_true, e21, e26, e31]), HB, k_g1, k_g3, k_g5⟩)
    case o33 =>
      rintro f a w' ⟨rfl, HB, k_g1, k_g3, k_g5⟩ hf hd K hK
      have e21 := hd 21 (by kernel_rfl)
      have e32 := hd 32 (by kernel_rfl)
      rw [e21, e32]
      repeat rw [sel_true]
      exact valE (N := some 64) (.bool true) (hK _ _ ⟨(by simp [Act.put, upd, sel_true, selO_true, e21, e32]), HB, k_g1, k_g3, k_g5⟩)
    case o34 =>
      rintro f a w' ⟨rfl, HB, k_g1, k_g3, k_g5⟩ hf hd K hK
      have e33 := hd 33 (by kernel_rfl)
      rw [e33]
      repeat rw [sel_true]
      exact valE (N := some 65) (.bool true) (hK _ _ ⟨(by simp [Act.put, upd, sel_true, selO_true, e33]), HB, k_g1, k_g3, k_g5⟩)
    case o35 =>
      rintro f a w' ⟨rfl, HB, k_g1, k_g3, k_g5⟩ hf hd K hK
      have e34 := hd 34 (by kernel_rfl)
      rw [e34]
      repeat rw [sel_true]
      refine goesD (N := some 66) Try.func13 #[] ?_
      refine (imageeditorlaw16_example.calls true _ rfl).mono ?_
      rintro e w1 ⟨rfl, hb⟩
      exact ⟨_, rfl, hK _ _ ⟨(by simp [Act.put, upd, sel_true, selO_true, e34]), below_step HB hb, blk_below k_g1 hb, blk_below k_g3 hb, blk_below k_g5 hb⟩⟩
    case o36 =>
      rintro f a w' ⟨rfl, HB, k_g1, k_g3, k_g5⟩ hf hd K hK
      have e34 := hd 34 (by kernel_rfl)
      have e35 := hd 35 (by kernel_rfl)
      rw [e34, e35]
      repeat rw [sel_true]
      exact valE (N := some 67) (.bool true) (hK _ _ ⟨(by simp [Act.put, upd, sel_true, selO_true, e34, e35]), HB, k_g1, k_g3, k_g5⟩)
    case o37 =>
      rintro f a w' ⟨rfl, HB, k_g1, k_g3, k_g5⟩ hf hd K hK
      have e36 := hd 36 (by kernel_rfl)
      rw [e36]
      repeat rw [sel_true]
      exact valE (N := some 2) (.bool true) (hK _ _ ⟨(by simp [Act.put, upd, sel_true, selO_true, e36]), HB, k_g1, k_g3, k_g5⟩)
  case fin =>
    clear HB B_g1 B_g3 B_g5
    rintro f a w' hall ⟨rfl, HB, k_g1, k_g3, k_g5⟩
    have h0 := hall 0 (by decide)
    have h1 := hall 1 (by decide)
    have h2 := hall 2 (by decide)
    have h3 := hall 3 (by decide)
    have h4 := hall 4 (by decide)
    have h5 := hall 5 (by decide)
    have h6 := hall 6 (by decide)
    have h7 := hall 7 (by decide)
    have h8 := hall 8 (by decide)
    have h9 := hall 9 (by decide)
    have h10 := hall 10 (by decide)
    have h11 := hall 11 (by decide)
    have h12 := hall 12 (by decide)
    have h13 := hall 13 (by decide)
    have h14 := hall 14 (by decide)
    have h15 := hall 15 (by decide)
    have h16 := hall 16 (by decide)
    have h17 := hall 17 (by decide)
    have h18 := hall 18 (by decide)
    have h19 := hall 19 (by decide)
    have h20 := hall 20 (by decide)
    have h21 := hall 21 (by decide)
    have h22 := hall 22 (by decide)
    have h23 := hall 23 (by decide)
    have h24 := hall 24 (by decide)
    have h25 := hall 25 (by decide)
    have h26 := hall 26 (by decide)
    have h27 := hall 27 (by decide)
    have h28 := hall 28 (by decide)
    have h29 := hall 29 (by decide)
    have h30 := hall 30 (by decide)
    have h31 := hall 31 (by decide)
    have h32 := hall 32 (by decide)
    have h33 := hall 33 (by decide)
    have h34 := hall 34 (by decide)
    have h35 := hall 35 (by decide)
    have h36 := hall 36 (by decide)
    have h37 := hall 37 (by decide)
    rw [h0, h1, h2, h3, h4, h5, h6, h7, h8, h9, h10, h11, h12, h13, h14, h15, h16, h17, h18, h19, h20, h21, h22, h23, h24, h25, h26, h27, h28, h29, h30, h31, h32, h33, h34, h35, h36, h37]
    simp only [sel_true, selO_true]
    replace HB := am HB
    have B_g1 := am k_g1
    have B_g3 := am k_g3
    have B_g5 := am k_g5
    clear hall h0 h1 h2 h3 h4 h5 h6 h7 h8 h9 h10 h11 h12 h13 h14 h15 h16 h17 h18 h19 h20 h21 h22 h23 h24 h25 h26 h27 h28 h29 h30 h31 h32 h33 h34 h35 h36 h37 k_g1 k_g3 k_g5
    (try clear f)
    go_wp2
    go_ret
    exact ⟨rfl, HB.out⟩

end Go.Proofs.Ytocefehnemahhaa.G
