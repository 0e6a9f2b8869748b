import Derived.Test.YtocefehnemahhaaG11
import Derived.Test.YtocefehnemahhaaG12
import Derived.Test.YtocefehnemahhaaG13
import Derived.Test.YtocefehnemahhaaG14
import Derived.Test.YtocefehnemahhaaG15
import Derived.Test.YtocefehnemahhaaG16
namespace Go.Proofs.Ytocefehnemahhaa.G
open Go.RowKit Go.Proofs.YtocefehnemahhaaW.PrintWords Go.Proofs.YtocefehnemahhaaW.PrintLast Go.Proofs.YtocefehnemahhaaW.PrintMore
set_option linter.unusedVariables false
set_option linter.unusedSimpArgs false
theorem toB {P : Program} {f : FuncId} {args : Array Value} {w : World} {v : Value} (h : Calls P f args w fun e w' => e = .returned v ∧ Drawn0 w w') : Calls P f args w fun e w' => e = .returned v ∧ Below w.heap.size w w' :=
  h.mono fun e w' hh => ⟨hh.1, by obtain ⟨n, rfl⟩ := hh.2; exact pw_below_drewN (Below.refl _ _) n⟩

set_option maxHeartbeats 8000000 in
set_option maxRecDepth 100000 in
theorem parts_walk (k : Nat) (a0 a1 : Int) (A : Option Addr) (c : Nat) (l : List S51) (kd : Int) (B : Option Addr) (d : Nat) (ps : List Int) (o0 o1 o2 o3 cc pc : Int) (vb eb wb : Bool) (w : World) (hr : Kd.C k51 w A l.length l) (hc : l.length ≤ c) (hp : Kd.C (Kd.int .i64) w B ps.length ps) (hq : ps.length ≤ d)
    (e0 : imageeditorref11_Check.f k a0 a1 l = some cc) (e1 : imageeditorref16_Check.f k kd ps = some pc) (e2 : imageeditorref02_Valid.f o0 o1 o2 o3 = some vb) (e3 : imageeditorref02_Empty.f o0 o1 o2 o3 = some eb) (e4 : imageeditorref02_Within.f k o0 o1 o2 o3 0 0 a0 a1 = some wb)
    (hY : (l.length : Int) ≤ 1024 → cc = 0 → pc = 0 → vb = true → eb = false → wb = true → ∃ (wl pl al : List S51) (n0 n1 n2 n3 : Int), filter_Whole.f k a0 a1 l kd ps = some (a0, a1, wl, 0) ∧ imageeditorref11_Check.f k a0 a1 wl = some 0 ∧ filter_Needs.f k kd ps o0 o1 o2 o3 0 0 a0 a1 = some (n0, n1, n2, n3, 0) ∧ imageeditorref11_Crop.f k a0 a1 l n0 n1 n2 n3 = some (n2, n3, pl, 0) ∧ filter_Apply.f k n2 n3 pl n0 n1 0 0 a0 a1 kd ps o0 o1 o2 o3 = some (o2, o3, al, 0) ∧ imageeditorref11_Crop.f k a0 a1 wl o0 o1 o2 o3 = some (o2, o3, al, 0) ∧ imageeditorlaw16_same.f k o2 o3 al o2 o3 al = some true) :
    Calls Try.prog 4 #[.agg #[.int .i64 a0, .int .i64 a1, .slice A (l.length) c, .int .i64 kd, .slice B (ps.length) d, .int .i64 o0, .int .i64 o1, .int .i64 o2, .int .i64 o3]] w fun e w' => e = .returned (.bool true) ∧ Below w.heap.size w w' := by
  have hu36 := Try.underlying36
  have hu51 := Try.underlying51
  have hu34 := Try.underlying34
  have hu22 := Try.underlying22
  have hu24 := Try.underlying24
  have hu38 := Try.underlying38
  have hu47 := Try.underlying47
  have HB := Aside0.mk (Below.refl w.heap.size w)
  go_enter Try.func4, Try.ntmps4
  go_wp2_with (first
    | ((with_reducible refine gate_dst (N := 1) rfl ?_); refine boxE (N := 1) #[.int .i64 a0, .int .i64 a1, .slice A (l.length) c, .int .i64 kd, .slice B (ps.length) d, .int .i64 o0, .int .i64 o1, .int .i64 o2, .int .i64 o3] 38 ?_; intro g1 hg w1 hx hb; have z_g1 := zB hg HB; replace HB := hh HB hb; have B_g1 := am hx; clear hx hb hg))
  refine region_inv (fun f a w' => ∃ (g3 : Nat) (g6 : Nat), a = { tmps := #[.agg #[.int .i64 a0, .int .i64 a1, .slice A (l.length) c, .int .i64 kd, .slice B (ps.length) d, .int .i64 o0, .int .i64 o1, .int .i64 o2, .int .i64 o3], .pointer (some ⟨g1, 0, none⟩), .bool false, sel (f 8) (.pointer (some ⟨g3, 0, none⟩)), sel (f 11) (.int .i64 kd), sel (f 12) (.slice B (ps.length) d), sel (f 9) (.pointer (some ⟨g6, 0, none⟩)), undef, undef, undef, undef, undef, undef, undef, undef, sel (f 0) (.pointer (some ⟨g1, 0, none⟩)), sel (f 1) (.agg #[.int .i64 a0, .int .i64 a1, .slice A (l.length) c]), sel (f 2) (.pointer (some ⟨g1, 3, none⟩)), sel (f 3) (.int .i64 kd), sel (f 4) (.pointer (some ⟨g1, 4, none⟩)), sel (f 5) (.slice B (ps.length) d), sel (f 6) (.pointer (some ⟨g1, 5, none⟩)), sel (f 7) (.agg #[.int .i64 o0, .int .i64 o1, .int .i64 o2, .int .i64 o3]), undef, undef, undef, undef, undef, undef, undef, undef, undef, undef, undef, undef, undef, undef, undef, undef, undef, undef, undef, undef, undef, undef, undef, undef, undef, undef, undef, undef, undef, undef, undef, undef, undef, undef, undef, undef, undef, undef, undef, undef, undef, undef, undef, undef, undef, undef, undef, undef, undef, undef, undef, undef, undef, undef, undef, undef, undef, undef, undef, undef, undef, undef, undef, undef, undef, undef, undef, undef, undef, undef, undef, undef, undef, undef, undef, undef, undef, undef, undef, undef, undef, undef, undef, undef, undef, undef, undef, undef, undef, undef, undef, undef, undef, undef, undef, undef, undef, undef, undef, undef, undef, undef, undef, undef, undef, undef, undef, undef, undef, undef, undef], defers := [] } ∧ Below w.heap.size w w' ∧ w'.heap[g1]? = some (.cells #[.int .i64 a0, .int .i64 a1, .slice A (l.length) c, .int .i64 kd, .slice B (ps.length) d, .int .i64 o0, .int .i64 o1, .int .i64 o2, .int .i64 o3] 38 (0, 0)) ∧ (f 8 = true → g1 < g3 ∧ w.heap.size ≤ g3 ∧ w'.heap[g3]? = some (.cells (if f 10 = true then #[.int .i64 a0, .int .i64 a1, .slice A (l.length) c] else #[.int .i64 0, .int .i64 0, .slice none 0 0]) 36 (0, 0))) ∧ (f 9 = true → g1 < g6 ∧ w.heap.size ≤ g6 ∧ w'.heap[g6]? = some (.cells (if f 13 = true then #[.int .i64 o0, .int .i64 o1, .int .i64 o2, .int .i64 o3] else #[.int .i64 0, .int .i64 0, .int .i64 0, .int .i64 0]) 24 (0, 0))) ∧ (f 8 = true → f 9 = true → g3 ≠ g6) ∧ (f 10 = true → f 8 = true) ∧ (f 13 = true → f 9 = true)) (by kernel_rfl) (by kernel_rfl) ?start ?fin ?steps
  case start => exact ⟨0, 0, rfl, HB.out.drew, blk_drew B_g1.out, by simp, by simp, by simp, by simp, by simp⟩
  case steps =>
    clear HB B_g1
    refine ⟨?o0, ?o1, ?o2, ?o3, ?o4, ?o5, ?o6, ?o7, ?o8, ?o9, ?o10, ?o11, ?o12, ?o13, trivial⟩
    case o0 =>
      rintro f a w' ⟨g3, g6, rfl, HB, k_g1, n_g3, n_g6, d_g3_g6, s_10_8, s_13_9⟩ hf hd K hK
      exact valE (N := some 15) (.pointer (some ⟨g1, 0, none⟩)) (hK _ _ ⟨g3, g6, rfl, HB, k_g1, n_g3, n_g6, d_g3_g6, s_10_8, s_13_9⟩)
    case o1 =>
      rintro f a w' ⟨g3, g6, rfl, HB, k_g1, n_g3, n_g6, d_g3_g6, s_10_8, s_13_9⟩ hf hd K hK
      have e0 := hd 0 (by kernel_rfl)
      rw [e0]
      repeat rw [sel_true]
      have hz := blk_cell k_g1
      exact valE (N := some 16) (.agg #[.int .i64 a0, .int .i64 a1, .slice A (l.length) c]) (hK _ _ ⟨g3, g6, (by simp [Act.put, upd, sel_true, e0]), HB, k_g1, n_g3, n_g6, d_g3_g6, s_10_8, s_13_9⟩)
    case o2 =>
      rintro f a w' ⟨g3, g6, rfl, HB, k_g1, n_g3, n_g6, d_g3_g6, s_10_8, s_13_9⟩ hf hd K hK
      exact valE (N := some 17) (.pointer (some ⟨g1, 3, none⟩)) (hK _ _ ⟨g3, g6, rfl, HB, k_g1, n_g3, n_g6, d_g3_g6, s_10_8, s_13_9⟩)
    case o3 =>
      rintro f a w' ⟨g3, g6, rfl, HB, k_g1, n_g3, n_g6, d_g3_g6, s_10_8, s_13_9⟩ hf hd K hK
      have e2 := hd 2 (by kernel_rfl)
      rw [e2]
      repeat rw [sel_true]
      have hz := blk_cell k_g1
      exact valE (N := some 18) (.int .i64 kd) (hK _ _ ⟨g3, g6, (by simp [Act.put, upd, sel_true, e2]), HB, k_g1, n_g3, n_g6, d_g3_g6, s_10_8, s_13_9⟩)
    case o4 =>
      rintro f a w' ⟨g3, g6, rfl, HB, k_g1, n_g3, n_g6, d_g3_g6, s_10_8, s_13_9⟩ hf hd K hK
      exact valE (N := some 19) (.pointer (some ⟨g1, 4, none⟩)) (hK _ _ ⟨g3, g6, rfl, HB, k_g1, n_g3, n_g6, d_g3_g6, s_10_8, s_13_9⟩)
    case o5 =>
      rintro f a w' ⟨g3, g6, rfl, HB, k_g1, n_g3, n_g6, d_g3_g6, s_10_8, s_13_9⟩ hf hd K hK
      have e4 := hd 4 (by kernel_rfl)
      rw [e4]
      repeat rw [sel_true]
      have hz := blk_cell k_g1
      exact valE (N := some 20) (.slice B (ps.length) d) (hK _ _ ⟨g3, g6, (by simp [Act.put, upd, sel_true, e4]), HB, k_g1, n_g3, n_g6, d_g3_g6, s_10_8, s_13_9⟩)
    case o6 =>
      rintro f a w' ⟨g3, g6, rfl, HB, k_g1, n_g3, n_g6, d_g3_g6, s_10_8, s_13_9⟩ hf hd K hK
      exact valE (N := some 21) (.pointer (some ⟨g1, 5, none⟩)) (hK _ _ ⟨g3, g6, rfl, HB, k_g1, n_g3, n_g6, d_g3_g6, s_10_8, s_13_9⟩)
    case o7 =>
      rintro f a w' ⟨g3, g6, rfl, HB, k_g1, n_g3, n_g6, d_g3_g6, s_10_8, s_13_9⟩ hf hd K hK
      have e6 := hd 6 (by kernel_rfl)
      rw [e6]
      repeat rw [sel_true]
      have hz := blk_cell k_g1
      exact valE (N := some 22) (.agg #[.int .i64 o0, .int .i64 o1, .int .i64 o2, .int .i64 o3]) (hK _ _ ⟨g3, g6, (by simp [Act.put, upd, sel_true, e6]), HB, k_g1, n_g3, n_g6, d_g3_g6, s_10_8, s_13_9⟩)
    case o8 =>
      rintro f a w' ⟨g3, g6, rfl, HB, k_g1, n_g3, n_g6, d_g3_g6, s_10_8, s_13_9⟩ hf hd K hK
      refine bxE (N := 3) #[.int .i64 0, .int .i64 0, .slice none 0 0] 36 ?_
      intro g9 hg w1 hx hb
      have h8 : ¬ f 10 = true := fun t => by rw [s_10_8 t] at hf; cases hf
      exact hK _ _ ⟨g9, g6, rfl, below_step HB hb, blk_below k_g1 hb, fun _ => ⟨lB0 hg k_g1, zB0 hg HB, by rw [if_neg (show ¬ upd f 8 10 = true from h8)]; exact hx⟩, fun t => ⟨(n_g6 t).1, (n_g6 t).2.1, blk_below (n_g6 t).2.2 hb⟩, fun _ t => Nat.ne_of_gt (lB0 hg (n_g6 t).2.2), fun _ => rfl, s_13_9⟩
    case o9 =>
      rintro f a w' ⟨g3, g6, rfl, HB, k_g1, n_g3, n_g6, d_g3_g6, s_10_8, s_13_9⟩ hf hd K hK
      refine bxE (N := 6) #[.int .i64 0, .int .i64 0, .int .i64 0, .int .i64 0] 24 ?_
      intro g9 hg w1 hx hb
      have h8 : ¬ f 13 = true := fun t => by rw [s_13_9 t] at hf; cases hf
      exact hK _ _ ⟨g3, g9, rfl, below_step HB hb, blk_below k_g1 hb, fun t => ⟨(n_g3 t).1, (n_g3 t).2.1, blk_below (n_g3 t).2.2 hb⟩, fun _ => ⟨lB0 hg k_g1, zB0 hg HB, by rw [if_neg (show ¬ upd f 9 13 = true from h8)]; exact hx⟩, fun t _ => Nat.ne_of_lt (lB0 hg (n_g3 t).2.2), s_10_8, fun _ => rfl⟩
    case o10 =>
      rintro f a w' ⟨g3, g6, rfl, HB, k_g1, n_g3, n_g6, d_g3_g6, s_10_8, s_13_9⟩ hf hd K hK
      have e1 := hd 1 (by kernel_rfl)
      have e8 := hd 8 (by kernel_rfl)
      rw [e1, e8]
      repeat rw [sel_true]
      have kk := (n_g3 (hd 8 (by kernel_rfl))).2.2
      have l_g1 := (n_g3 (hd 8 (by kernel_rfl))).1
      have zz := (n_g3 (hd 8 (by kernel_rfl))).2.1
      rw [hf, if_neg (by decide)] at kk
      have hz := blk_cell kk
      have hz' := blk_frozen kk
      exact skipE (w1 := (sets w' g3 0 [.int .i64 a0, .int .i64 a1, .slice A (l.length) c])) (hK _ _ ⟨g3, g6, (by simp [Act.put, upd, sel_true, e1, e8]), hS0 HB zz, fS0 k_g1 (Nat.ne_of_lt l_g1), fun _ => ⟨l_g1, zz, pS0 #[.int .i64 a0, .int .i64 a1, .slice A (l.length) c] kk⟩, fun t => ⟨(n_g6 t).1, (n_g6 t).2.1, fS0 (n_g6 t).2.2 (d_g3_g6 (hd 8 (by kernel_rfl)) t).symm⟩, d_g3_g6, fun _ => hd 8 (by kernel_rfl), s_13_9⟩)
    case o11 =>
      rintro f a w' ⟨g3, g6, rfl, HB, k_g1, n_g3, n_g6, d_g3_g6, s_10_8, s_13_9⟩ hf hd K hK
      have e3 := hd 3 (by kernel_rfl)
      rw [e3]
      repeat rw [sel_true]
      exact valE (N := some 4) (.int .i64 kd) (hK _ _ ⟨g3, g6, (by simp [Act.put, upd, sel_true, e3]), HB, k_g1, n_g3, n_g6, d_g3_g6, s_10_8, s_13_9⟩)
    case o12 =>
      rintro f a w' ⟨g3, g6, rfl, HB, k_g1, n_g3, n_g6, d_g3_g6, s_10_8, s_13_9⟩ hf hd K hK
      have e5 := hd 5 (by kernel_rfl)
      rw [e5]
      repeat rw [sel_true]
      exact valE (N := some 5) (.slice B (ps.length) d) (hK _ _ ⟨g3, g6, (by simp [Act.put, upd, sel_true, e5]), HB, k_g1, n_g3, n_g6, d_g3_g6, s_10_8, s_13_9⟩)
    case o13 =>
      rintro f a w' ⟨g3, g6, rfl, HB, k_g1, n_g3, n_g6, d_g3_g6, s_10_8, s_13_9⟩ hf hd K hK
      have e7 := hd 7 (by kernel_rfl)
      have e9 := hd 9 (by kernel_rfl)
      rw [e7, e9]
      repeat rw [sel_true]
      have kk := (n_g6 (hd 9 (by kernel_rfl))).2.2
      have l_g1 := (n_g6 (hd 9 (by kernel_rfl))).1
      have zz := (n_g6 (hd 9 (by kernel_rfl))).2.1
      rw [hf, if_neg (by decide)] at kk
      have hz := blk_cell kk
      have hz' := blk_frozen kk
      exact skipE (w1 := (sets w' g6 0 [.int .i64 o0, .int .i64 o1, .int .i64 o2, .int .i64 o3])) (hK _ _ ⟨g3, g6, (by simp [Act.put, upd, sel_true, e7, e9]), hS0 HB zz, fS0 k_g1 (Nat.ne_of_lt l_g1), fun t => ⟨(n_g3 t).1, (n_g3 t).2.1, fS0 (n_g3 t).2.2 (d_g3_g6 t (hd 9 (by kernel_rfl)))⟩, fun _ => ⟨l_g1, zz, pS0 #[.int .i64 o0, .int .i64 o1, .int .i64 o2, .int .i64 o3] kk⟩, d_g3_g6, s_10_8, fun _ => hd 9 (by kernel_rfl)⟩)
  case fin =>
    clear HB B_g1
    rintro f a w' hall ⟨g3, g6, rfl, HB, k_g1, n_g3, n_g6, d_g3_g6, s_10_8, s_13_9⟩
    have h0 := hall 0 (by decide)
    have h1 := hall 1 (by decide)
    have h2 := hall 2 (by decide)
    have h3 := hall 3 (by decide)
    have h4 := hall 4 (by decide)
    have h5 := hall 5 (by decide)
    have h6 := hall 6 (by decide)
    have h7 := hall 7 (by decide)
    have h8 := hall 8 (by decide)
    have h9 := hall 9 (by decide)
    have h10 := hall 10 (by decide)
    have h11 := hall 11 (by decide)
    have h12 := hall 12 (by decide)
    have h13 := hall 13 (by decide)
    obtain ⟨l_g1_g3, z_g3, k_g3⟩ := n_g3 h8
    obtain ⟨l_g1_g6, z_g6, k_g6⟩ := n_g6 h9
    have l_g3_g6 := d_g3_g6 h8 h9
    rw [if_pos h10] at k_g3
    rw [if_pos h13] at k_g6
    rw [h0, h1, h2, h3, h4, h5, h6, h7, h8, h9, h11, h12]
    simp only [sel_true]
    replace HB := am HB
    have B_g1 := am k_g1
    have B_g3 := am k_g3
    have B_g6 := am k_g6
    clear hall h0 h1 h2 h3 h4 h5 h6 h7 h8 h9 h10 h11 h12 h13 k_g1 k_g3 k_g6
    (try clear s_10_8 s_13_9 n_g3 n_g6 d_g3_g6 f)
    have hz_g3 := blk_cell B_g3.out
    go_upto_region 3 with (first
      | ((with_reducible refine gate_dst (N := 7) rfl ?_); refine boxE (N := 7) #[.int .i64 0, .int .i64 0, .int .i64 0, .int .i64 0] 24 ?_; intro g7 hg w2 hx hb; have l_g1_g7 := lB hg B_g1; have l_g3_g7 := lB hg B_g3; have l_g6_g7 := lB hg B_g6; have z_g7 := zB hg HB; clear hz_g3; replace B_g1 := bb B_g1 hb; replace B_g3 := bb B_g3 hb; replace B_g6 := bb B_g6 hb; replace HB := hh HB hb; have B_g7 := am hx; clear hx hb hg; have hf_g7 := blk_frozen B_g7.out; have hz_g7 := blk_cell B_g7.out)
      | ((with_reducible refine gate_store (t := 24) (p := 7) rfl ?_); refine storeE (t := 24) (p := 7) (sets w2 g7 0 [.int .i64 0, .int .i64 0, .int .i64 a0, .int .i64 a1]) ?_; intro w3 hw; replace B_g1 := fS hw B_g1 (Nat.ne_of_lt l_g1_g7); replace B_g3 := fS hw B_g3 (Nat.ne_of_lt l_g3_g7); replace B_g6 := fS hw B_g6 (Nat.ne_of_lt l_g6_g7); replace B_g7 := pS #[.int .i64 0, .int .i64 0, .int .i64 a0, .int .i64 a1] hw B_g7; replace HB := hS hw HB z_g7; clear hf_g7 hz_g7; clear hw; have hz_g3 := blk_cell B_g3.out))
    by_cases s0 : (1024 : Int) < (l.length : Int)
    · have t0 := decide_eq_true s0
      go_wp2
      go_ret
      exact ⟨rfl, HB.out⟩
    have t0 : decide ((1024 : Int) < (l.length : Int)) = false := decide_eq_false s0
    by_cases s_cc : cc = 0
    case neg =>
      have t1 : (cc != 0) = true := bne_iff_ne.mpr s_cc
      go_wp2_with (first
        | ((with_reducible refine gate_dst (N := 34) rfl ?_); refine gate_guard (by rfl) ?_; dsimp only; refine goesE (N := some 34) Try.func14 #[.agg #[.int .i64 a0, .int .i64 a1, .slice A (l.length) c]] ?_; refine (imageeditorref11_Check.calls k _ _ _ _ l cc _ (Kd.C_below hr HB.out) hc e0).mono ?_; rintro e w4 ⟨rfl, hb⟩; refine ⟨_, rfl, ?_⟩; clear hz_g3; replace B_g1 := bb B_g1 hb; replace B_g3 := bb B_g3 hb; replace B_g6 := bb B_g6 hb; replace B_g7 := bb B_g7 hb; replace HB := hh HB hb; clear hb))
      go_ret
      exact ⟨rfl, HB.out⟩
    subst s_cc
    by_cases s_pc : pc = 0
    case neg =>
      have t2 : (pc != 0) = true := bne_iff_ne.mpr s_pc
      go_wp2_with (first
        | ((with_reducible refine gate_dst (N := 34) rfl ?_); refine gate_guard (by rfl) ?_; dsimp only; refine goesE (N := some 34) Try.func14 #[.agg #[.int .i64 a0, .int .i64 a1, .slice A (l.length) c]] ?_; refine (imageeditorref11_Check.calls k _ _ _ _ l 0 _ (Kd.C_below hr HB.out) hc e0).mono ?_; rintro e w4 ⟨rfl, hb⟩; refine ⟨_, rfl, ?_⟩; clear hz_g3; replace B_g1 := bb B_g1 hb; replace B_g3 := bb B_g3 hb; replace B_g6 := bb B_g6 hb; replace B_g7 := bb B_g7 hb; replace HB := hh HB hb; clear hb)
        | ((with_reducible refine gate_dst (N := 40) rfl ?_); refine gate_guard (by rfl) ?_; dsimp only; refine goesE (N := some 40) Try.func10 #[.int .i64 kd, .slice B (ps.length) d] ?_; refine (toB (imageeditorref16_Check.calls k kd _ _ ps pc _ (Kd.C_below hp HB.out) hq e1)).mono ?_; rintro e w5 ⟨rfl, hb⟩; refine ⟨_, rfl, ?_⟩; replace B_g1 := bb B_g1 hb; replace B_g3 := bb B_g3 hb; replace B_g6 := bb B_g6 hb; replace B_g7 := bb B_g7 hb; replace HB := hh HB hb; clear hb))
      go_ret
      exact ⟨rfl, HB.out⟩
    subst s_pc
    by_cases s_vb : vb = true
    case neg =>
      obtain rfl : vb = false := by simpa using s_vb
      go_wp2_with (first
        | ((with_reducible refine gate_dst (N := 34) rfl ?_); refine gate_guard (by rfl) ?_; dsimp only; refine goesE (N := some 34) Try.func14 #[.agg #[.int .i64 a0, .int .i64 a1, .slice A (l.length) c]] ?_; refine (imageeditorref11_Check.calls k _ _ _ _ l 0 _ (Kd.C_below hr HB.out) hc e0).mono ?_; rintro e w4 ⟨rfl, hb⟩; refine ⟨_, rfl, ?_⟩; clear hz_g3; replace B_g1 := bb B_g1 hb; replace B_g3 := bb B_g3 hb; replace B_g6 := bb B_g6 hb; replace B_g7 := bb B_g7 hb; replace HB := hh HB hb; clear hb)
        | ((with_reducible refine gate_dst (N := 40) rfl ?_); refine gate_guard (by rfl) ?_; dsimp only; refine goesE (N := some 40) Try.func10 #[.int .i64 kd, .slice B (ps.length) d] ?_; refine (toB (imageeditorref16_Check.calls k kd _ _ ps 0 _ (Kd.C_below hp HB.out) hq e1)).mono ?_; rintro e w5 ⟨rfl, hb⟩; refine ⟨_, rfl, ?_⟩; replace B_g1 := bb B_g1 hb; replace B_g3 := bb B_g3 hb; replace B_g6 := bb B_g6 hb; replace B_g7 := bb B_g7 hb; replace HB := hh HB hb; clear hb; have hz_g6 := blk_cell B_g6.out)
        | ((with_reducible refine gate_dst (N := 45) rfl ?_); refine gate_guard (by rfl) ?_; dsimp only; refine goesE (N := some 45) Try.func15 #[.agg #[.int .i64 o0, .int .i64 o1, .int .i64 o2, .int .i64 o3]] ?_; refine (imageeditorref02_Valid.calls _ _ _ _ false _ e2).mono ?_; rintro e w6 ⟨rfl, hb⟩; refine ⟨_, rfl, ?_⟩; clear hz_g6; replace B_g1 := bb B_g1 hb; replace B_g3 := bb B_g3 hb; replace B_g6 := bb B_g6 hb; replace B_g7 := bb B_g7 hb; replace HB := hh HB hb; clear hb))
      go_ret
      exact ⟨rfl, HB.out⟩
    subst s_vb
    by_cases s_eb : eb = false
    case neg =>
      obtain rfl : eb = true := by simpa using s_eb
      go_wp2_with (first
        | ((with_reducible refine gate_dst (N := 34) rfl ?_); refine gate_guard (by rfl) ?_; dsimp only; refine goesE (N := some 34) Try.func14 #[.agg #[.int .i64 a0, .int .i64 a1, .slice A (l.length) c]] ?_; refine (imageeditorref11_Check.calls k _ _ _ _ l 0 _ (Kd.C_below hr HB.out) hc e0).mono ?_; rintro e w4 ⟨rfl, hb⟩; refine ⟨_, rfl, ?_⟩; clear hz_g3; replace B_g1 := bb B_g1 hb; replace B_g3 := bb B_g3 hb; replace B_g6 := bb B_g6 hb; replace B_g7 := bb B_g7 hb; replace HB := hh HB hb; clear hb)
        | ((with_reducible refine gate_dst (N := 40) rfl ?_); refine gate_guard (by rfl) ?_; dsimp only; refine goesE (N := some 40) Try.func10 #[.int .i64 kd, .slice B (ps.length) d] ?_; refine (toB (imageeditorref16_Check.calls k kd _ _ ps 0 _ (Kd.C_below hp HB.out) hq e1)).mono ?_; rintro e w5 ⟨rfl, hb⟩; refine ⟨_, rfl, ?_⟩; replace B_g1 := bb B_g1 hb; replace B_g3 := bb B_g3 hb; replace B_g6 := bb B_g6 hb; replace B_g7 := bb B_g7 hb; replace HB := hh HB hb; clear hb; have hz_g6 := blk_cell B_g6.out)
        | ((with_reducible refine gate_dst (N := 45) rfl ?_); refine gate_guard (by rfl) ?_; dsimp only; refine goesE (N := some 45) Try.func15 #[.agg #[.int .i64 o0, .int .i64 o1, .int .i64 o2, .int .i64 o3]] ?_; refine (imageeditorref02_Valid.calls _ _ _ _ true _ e2).mono ?_; rintro e w6 ⟨rfl, hb⟩; refine ⟨_, rfl, ?_⟩; clear hz_g6; replace B_g1 := bb B_g1 hb; replace B_g3 := bb B_g3 hb; replace B_g6 := bb B_g6 hb; replace B_g7 := bb B_g7 hb; replace HB := hh HB hb; clear hb; have hz_g6 := blk_cell B_g6.out)
        | ((with_reducible refine gate_dst (N := 50) rfl ?_); refine gate_guard (by rfl) ?_; dsimp only; refine goesE (N := some 50) Try.func16 #[.agg #[.int .i64 o0, .int .i64 o1, .int .i64 o2, .int .i64 o3]] ?_; refine (imageeditorref02_Empty.calls _ _ _ _ true _ e3).mono ?_; rintro e w7 ⟨rfl, hb⟩; refine ⟨_, rfl, ?_⟩; clear hz_g6; replace B_g1 := bb B_g1 hb; replace B_g3 := bb B_g3 hb; replace B_g6 := bb B_g6 hb; replace B_g7 := bb B_g7 hb; replace HB := hh HB hb; clear hb))
      go_ret
      exact ⟨rfl, HB.out⟩
    subst s_eb
    by_cases s_wb : wb = true
    case neg =>
      obtain rfl : wb = false := by simpa using s_wb
      go_wp2_with (first
        | ((with_reducible refine gate_dst (N := 34) rfl ?_); refine gate_guard (by rfl) ?_; dsimp only; refine goesE (N := some 34) Try.func14 #[.agg #[.int .i64 a0, .int .i64 a1, .slice A (l.length) c]] ?_; refine (imageeditorref11_Check.calls k _ _ _ _ l 0 _ (Kd.C_below hr HB.out) hc e0).mono ?_; rintro e w4 ⟨rfl, hb⟩; refine ⟨_, rfl, ?_⟩; clear hz_g3; replace B_g1 := bb B_g1 hb; replace B_g3 := bb B_g3 hb; replace B_g6 := bb B_g6 hb; replace B_g7 := bb B_g7 hb; replace HB := hh HB hb; clear hb)
        | ((with_reducible refine gate_dst (N := 40) rfl ?_); refine gate_guard (by rfl) ?_; dsimp only; refine goesE (N := some 40) Try.func10 #[.int .i64 kd, .slice B (ps.length) d] ?_; refine (toB (imageeditorref16_Check.calls k kd _ _ ps 0 _ (Kd.C_below hp HB.out) hq e1)).mono ?_; rintro e w5 ⟨rfl, hb⟩; refine ⟨_, rfl, ?_⟩; replace B_g1 := bb B_g1 hb; replace B_g3 := bb B_g3 hb; replace B_g6 := bb B_g6 hb; replace B_g7 := bb B_g7 hb; replace HB := hh HB hb; clear hb; have hz_g6 := blk_cell B_g6.out)
        | ((with_reducible refine gate_dst (N := 45) rfl ?_); refine gate_guard (by rfl) ?_; dsimp only; refine goesE (N := some 45) Try.func15 #[.agg #[.int .i64 o0, .int .i64 o1, .int .i64 o2, .int .i64 o3]] ?_; refine (imageeditorref02_Valid.calls _ _ _ _ true _ e2).mono ?_; rintro e w6 ⟨rfl, hb⟩; refine ⟨_, rfl, ?_⟩; clear hz_g6; replace B_g1 := bb B_g1 hb; replace B_g3 := bb B_g3 hb; replace B_g6 := bb B_g6 hb; replace B_g7 := bb B_g7 hb; replace HB := hh HB hb; clear hb; have hz_g6 := blk_cell B_g6.out)
        | ((with_reducible refine gate_dst (N := 50) rfl ?_); refine gate_guard (by rfl) ?_; dsimp only; refine goesE (N := some 50) Try.func16 #[.agg #[.int .i64 o0, .int .i64 o1, .int .i64 o2, .int .i64 o3]] ?_; refine (imageeditorref02_Empty.calls _ _ _ _ false _ e3).mono ?_; rintro e w7 ⟨rfl, hb⟩; refine ⟨_, rfl, ?_⟩; clear hz_g6; replace B_g1 := bb B_g1 hb; replace B_g3 := bb B_g3 hb; replace B_g6 := bb B_g6 hb; replace B_g7 := bb B_g7 hb; replace HB := hh HB hb; clear hb; have hz_g6 := blk_cell B_g6.out; have hz_g7 := blk_cell B_g7.out)
        | ((with_reducible refine gate_dst (N := 55) rfl ?_); refine gate_guard (by rfl) ?_; dsimp only; refine goesE (N := some 55) Try.func17 #[.agg #[.int .i64 o0, .int .i64 o1, .int .i64 o2, .int .i64 o3], .agg #[.int .i64 0, .int .i64 0, .int .i64 a0, .int .i64 a1]] ?_; refine (imageeditorref02_Within.calls k _ _ _ _ _ _ _ _ false _ e4).mono ?_; rintro e w8 ⟨rfl, hb⟩; refine ⟨_, rfl, ?_⟩; clear hz_g6 hz_g7; replace B_g1 := bb B_g1 hb; replace B_g3 := bb B_g3 hb; replace B_g6 := bb B_g6 hb; replace B_g7 := bb B_g7 hb; replace HB := hh HB hb; clear hb))
      go_ret
      exact ⟨rfl, HB.out⟩
    subst s_wb
    obtain ⟨wl, pl, al, n0, n1, n2, n3, e_wl, e_cw, e_n, e_pl, e_al, e_ql, e_s⟩ := hY (by omega) rfl rfl rfl rfl rfl
    go_wp2_with (first
      | ((with_reducible refine gate_dst (N := 34) rfl ?_); refine gate_guard (by rfl) ?_; dsimp only; refine goesE (N := some 34) Try.func14 #[.agg #[.int .i64 a0, .int .i64 a1, .slice A (l.length) c]] ?_; refine (imageeditorref11_Check.calls k _ _ _ _ l 0 _ (Kd.C_below hr HB.out) hc e0).mono ?_; rintro e w4 ⟨rfl, hb⟩; refine ⟨_, rfl, ?_⟩; clear hz_g3; replace B_g1 := bb B_g1 hb; replace B_g3 := bb B_g3 hb; replace B_g6 := bb B_g6 hb; replace B_g7 := bb B_g7 hb; replace HB := hh HB hb; clear hb)
      | ((with_reducible refine gate_dst (N := 40) rfl ?_); refine gate_guard (by rfl) ?_; dsimp only; refine goesE (N := some 40) Try.func10 #[.int .i64 kd, .slice B (ps.length) d] ?_; refine (toB (imageeditorref16_Check.calls k kd _ _ ps 0 _ (Kd.C_below hp HB.out) hq e1)).mono ?_; rintro e w5 ⟨rfl, hb⟩; refine ⟨_, rfl, ?_⟩; replace B_g1 := bb B_g1 hb; replace B_g3 := bb B_g3 hb; replace B_g6 := bb B_g6 hb; replace B_g7 := bb B_g7 hb; replace HB := hh HB hb; clear hb; have hz_g6 := blk_cell B_g6.out)
      | ((with_reducible refine gate_dst (N := 45) rfl ?_); refine gate_guard (by rfl) ?_; dsimp only; refine goesE (N := some 45) Try.func15 #[.agg #[.int .i64 o0, .int .i64 o1, .int .i64 o2, .int .i64 o3]] ?_; refine (imageeditorref02_Valid.calls _ _ _ _ true _ e2).mono ?_; rintro e w6 ⟨rfl, hb⟩; refine ⟨_, rfl, ?_⟩; clear hz_g6; replace B_g1 := bb B_g1 hb; replace B_g3 := bb B_g3 hb; replace B_g6 := bb B_g6 hb; replace B_g7 := bb B_g7 hb; replace HB := hh HB hb; clear hb; have hz_g6 := blk_cell B_g6.out)
      | ((with_reducible refine gate_dst (N := 50) rfl ?_); refine gate_guard (by rfl) ?_; dsimp only; refine goesE (N := some 50) Try.func16 #[.agg #[.int .i64 o0, .int .i64 o1, .int .i64 o2, .int .i64 o3]] ?_; refine (imageeditorref02_Empty.calls _ _ _ _ false _ e3).mono ?_; rintro e w7 ⟨rfl, hb⟩; refine ⟨_, rfl, ?_⟩; clear hz_g6; replace B_g1 := bb B_g1 hb; replace B_g3 := bb B_g3 hb; replace B_g6 := bb B_g6 hb; replace B_g7 := bb B_g7 hb; replace HB := hh HB hb; clear hb; have hz_g6 := blk_cell B_g6.out; have hz_g7 := blk_cell B_g7.out)
      | ((with_reducible refine gate_dst (N := 55) rfl ?_); refine gate_guard (by rfl) ?_; dsimp only; refine goesE (N := some 55) Try.func17 #[.agg #[.int .i64 o0, .int .i64 o1, .int .i64 o2, .int .i64 o3], .agg #[.int .i64 0, .int .i64 0, .int .i64 a0, .int .i64 a1]] ?_; refine (imageeditorref02_Within.calls k _ _ _ _ _ _ _ _ true _ e4).mono ?_; rintro e w8 ⟨rfl, hb⟩; refine ⟨_, rfl, ?_⟩; clear hz_g6 hz_g7; replace B_g1 := bb B_g1 hb; replace B_g3 := bb B_g3 hb; replace B_g6 := bb B_g6 hb; replace B_g7 := bb B_g7 hb; replace HB := hh HB hb; clear hb; have hz_g3 := blk_cell B_g3.out)
      | ((with_reducible refine gate_dst (N := 62) rfl ?_); refine goesE (N := some 62) Try.func18 #[.agg #[.int .i64 a0, .int .i64 a1, .slice A (l.length) c], .int .i64 kd, .slice B (ps.length) d] ?_; refine (filter_Whole.calls k a0 a1 _ c l kd _ d ps a0 a1 wl 0 _ (Kd.C_below hr HB.out) hc (Kd.C_below hp HB.out) hq e_wl).mono ?_; rintro e w9 ⟨v2_, rfl, hR, hb⟩; refine ⟨_, rfl, ?_⟩; clear hz_g3; replace B_g1 := bb B_g1 hb; replace B_g3 := bb B_g3 hb; replace B_g6 := bb B_g6 hb; replace B_g7 := bb B_g7 hb; replace HB := hh HB hb; have R_wl := am hR; obtain ⟨A_wl, c_wl, rfl⟩ := Kd.R_slice R_wl.out; clear hR; clear hb)
      | ((with_reducible refine gate_dst (N := 8) rfl ?_); refine boxE (N := 8) #[.int .i64 0, .int .i64 0, .slice none 0 0] 36 ?_; intro g8 hg w10 hx hb; have l_g1_g8 := lB hg B_g1; have l_g3_g8 := lB hg B_g3; have l_g6_g8 := lB hg B_g6; have l_g7_g8 := lB hg B_g7; have z_g8 := zB hg HB; replace B_g1 := bb B_g1 hb; replace B_g3 := bb B_g3 hb; replace B_g6 := bb B_g6 hb; replace B_g7 := bb B_g7 hb; replace R_wl := rB R_wl hb; replace HB := hh HB hb; have B_g8 := am hx; clear hx hb hg; have hf_g8 := blk_frozen B_g8.out; have hz_g8 := blk_cell B_g8.out)
      | ((with_reducible refine gate_store (t := 36) (p := 8) rfl ?_); refine storeE (t := 36) (p := 8) (sets w10 g8 0 [.int .i64 a0, .int .i64 a1, .slice A_wl (wl.length) c_wl]) ?_; intro w11 hw; replace R_wl := rS hw R_wl B_g8 (by decide); replace B_g1 := fS hw B_g1 (Nat.ne_of_lt l_g1_g8); replace B_g3 := fS hw B_g3 (Nat.ne_of_lt l_g3_g8); replace B_g6 := fS hw B_g6 (Nat.ne_of_lt l_g6_g8); replace B_g7 := fS hw B_g7 (Nat.ne_of_lt l_g7_g8); replace B_g8 := pS #[.int .i64 a0, .int .i64 a1, .slice A_wl (wl.length) c_wl] hw B_g8; replace HB := hS hw HB z_g8; clear hf_g8 hz_g8; clear hw; have hz_g8 := blk_cell B_g8.out)
      | ((with_reducible refine gate_dst (N := 69) rfl ?_); refine gate_guard (by rfl) ?_; dsimp only; refine goesE (N := some 69) Try.func14 #[.agg #[.int .i64 a0, .int .i64 a1, .slice A_wl (wl.length) c_wl]] ?_; refine (imageeditorref11_Check.calls k _ _ _ _ wl 0 _ (Kd.R_reads' R_wl.out).2.2 (Kd.R_reads' R_wl.out).2.1 e_cw).mono ?_; rintro e w12 ⟨rfl, hb⟩; refine ⟨_, rfl, ?_⟩; clear hz_g8; replace B_g1 := bb B_g1 hb; replace B_g3 := bb B_g3 hb; replace B_g6 := bb B_g6 hb; replace B_g7 := bb B_g7 hb; replace B_g8 := bb B_g8 hb; replace R_wl := rB R_wl hb; replace HB := hh HB hb; clear hb; have hz_g3 := blk_cell B_g3.out; have hz_g6 := blk_cell B_g6.out; have hz_g7 := blk_cell B_g7.out; have hz_g8 := blk_cell B_g8.out)
      | ((with_reducible refine gate_dst (N := 91) rfl ?_); refine goesE (N := some 91) Try.func7 #[.int .i64 kd, .slice B (ps.length) d, .agg #[.int .i64 o0, .int .i64 o1, .int .i64 o2, .int .i64 o3], .agg #[.int .i64 0, .int .i64 0, .int .i64 a0, .int .i64 a1]] ?_; refine (filter_Needs.calls k kd _ _ ps o0 o1 o2 o3 0 0 a0 a1 n0 n1 n2 n3 0 _ (Kd.C_below hp HB.out) hq e_n).mono ?_; rintro e w13 ⟨rfl, hb⟩; refine ⟨_, rfl, ?_⟩; clear hz_g3 hz_g6 hz_g7 hz_g8; replace B_g1 := bb B_g1 hb; replace B_g3 := bb B_g3 hb; replace B_g6 := bb B_g6 hb; replace B_g7 := bb B_g7 hb; replace B_g8 := bb B_g8 hb; replace R_wl := rB R_wl hb; replace HB := hh HB hb; clear hb)
      | ((with_reducible refine gate_dst (N := 10) rfl ?_); refine boxE (N := 10) #[.int .i64 0, .int .i64 0, .int .i64 0, .int .i64 0] 24 ?_; intro g10 hg w14 hx hb; have l_g1_g10 := lB hg B_g1; have l_g3_g10 := lB hg B_g3; have l_g6_g10 := lB hg B_g6; have l_g7_g10 := lB hg B_g7; have l_g8_g10 := lB hg B_g8; have z_g10 := zB hg HB; replace B_g1 := bb B_g1 hb; replace B_g3 := bb B_g3 hb; replace B_g6 := bb B_g6 hb; replace B_g7 := bb B_g7 hb; replace B_g8 := bb B_g8 hb; replace R_wl := rB R_wl hb; replace HB := hh HB hb; have B_g10 := am hx; clear hx hb hg; have hf_g10 := blk_frozen B_g10.out; have hz_g10 := blk_cell B_g10.out)
      | ((with_reducible refine gate_store (t := 24) (p := 10) rfl ?_); refine storeE (t := 24) (p := 10) (sets w14 g10 0 [.int .i64 n0, .int .i64 n1, .int .i64 n2, .int .i64 n3]) ?_; intro w15 hw; replace R_wl := rS hw R_wl B_g10 (by decide); replace B_g1 := fS hw B_g1 (Nat.ne_of_lt l_g1_g10); replace B_g3 := fS hw B_g3 (Nat.ne_of_lt l_g3_g10); replace B_g6 := fS hw B_g6 (Nat.ne_of_lt l_g6_g10); replace B_g7 := fS hw B_g7 (Nat.ne_of_lt l_g7_g10); replace B_g8 := fS hw B_g8 (Nat.ne_of_lt l_g8_g10); replace B_g10 := pS #[.int .i64 n0, .int .i64 n1, .int .i64 n2, .int .i64 n3] hw B_g10; replace HB := hS hw HB z_g10; clear hf_g10 hz_g10; clear hw; have hz_g10 := blk_cell B_g10.out; have hz_g3 := blk_cell B_g3.out)
      | ((with_reducible refine gate_dst (N := 99) rfl ?_); refine goesE (N := some 99) Try.func19 #[.agg #[.int .i64 a0, .int .i64 a1, .slice A (l.length) c], .agg #[.int .i64 n0, .int .i64 n1, .int .i64 n2, .int .i64 n3]] ?_; refine (imageeditorref11_Crop.calls k _ _ _ _ l n0 n1 n2 n3 n2 n3 pl 0 _ (Kd.C_below hr HB.out) hc e_pl).mono ?_; rintro e w16 ⟨v2_, rfl, hR, hb⟩; refine ⟨_, rfl, ?_⟩; clear hz_g10 hz_g3; replace B_g1 := bb B_g1 hb; replace B_g3 := bb B_g3 hb; replace B_g6 := bb B_g6 hb; replace B_g7 := bb B_g7 hb; replace B_g8 := bb B_g8 hb; replace B_g10 := bb B_g10 hb; replace R_wl := rB R_wl hb; replace HB := hh HB hb; have R_pl := am hR; obtain ⟨A_pl, c_pl, rfl⟩ := Kd.R_slice R_pl.out; clear hR; clear hb)
      | ((with_reducible refine gate_dst (N := 11) rfl ?_); refine boxE (N := 11) #[.int .i64 0, .int .i64 0, .slice none 0 0] 36 ?_; intro g11 hg w17 hx hb; have l_g1_g11 := lB hg B_g1; have l_g3_g11 := lB hg B_g3; have l_g6_g11 := lB hg B_g6; have l_g7_g11 := lB hg B_g7; have l_g8_g11 := lB hg B_g8; have l_g10_g11 := lB hg B_g10; have z_g11 := zB hg HB; replace B_g1 := bb B_g1 hb; replace B_g3 := bb B_g3 hb; replace B_g6 := bb B_g6 hb; replace B_g7 := bb B_g7 hb; replace B_g8 := bb B_g8 hb; replace B_g10 := bb B_g10 hb; replace R_wl := rB R_wl hb; replace R_pl := rB R_pl hb; replace HB := hh HB hb; have B_g11 := am hx; clear hx hb hg; have hf_g11 := blk_frozen B_g11.out; have hz_g11 := blk_cell B_g11.out)
      | ((with_reducible refine gate_store (t := 36) (p := 11) rfl ?_); refine storeE (t := 36) (p := 11) (sets w17 g11 0 [.int .i64 n2, .int .i64 n3, .slice A_pl (pl.length) c_pl]) ?_; intro w18 hw; replace R_wl := rS hw R_wl B_g11 (by decide); replace R_pl := rS hw R_pl B_g11 (by decide); replace B_g1 := fS hw B_g1 (Nat.ne_of_lt l_g1_g11); replace B_g3 := fS hw B_g3 (Nat.ne_of_lt l_g3_g11); replace B_g6 := fS hw B_g6 (Nat.ne_of_lt l_g6_g11); replace B_g7 := fS hw B_g7 (Nat.ne_of_lt l_g7_g11); replace B_g8 := fS hw B_g8 (Nat.ne_of_lt l_g8_g11); replace B_g10 := fS hw B_g10 (Nat.ne_of_lt l_g10_g11); replace B_g11 := pS #[.int .i64 n2, .int .i64 n3, .slice A_pl (pl.length) c_pl] hw B_g11; replace HB := hS hw HB z_g11; clear hf_g11 hz_g11; clear hw; have hz_g10 := blk_cell B_g10.out; have hz_g11 := blk_cell B_g11.out; have hz_g6 := blk_cell B_g6.out; have hz_g7 := blk_cell B_g7.out)
      | ((with_reducible refine gate_dst (N := 115) rfl ?_); refine goesE (N := some 115) Try.func20 #[.agg #[.int .i64 n2, .int .i64 n3, .slice A_pl (pl.length) c_pl], .agg #[.int .i64 n0, .int .i64 n1], .agg #[.int .i64 0, .int .i64 0, .int .i64 a0, .int .i64 a1], .int .i64 kd, .slice B (ps.length) d, .agg #[.int .i64 o0, .int .i64 o1, .int .i64 o2, .int .i64 o3]] ?_; refine (filter_Apply.calls k n2 n3 _ _ pl n0 n1 0 0 a0 a1 kd _ _ ps o0 o1 o2 o3 o2 o3 al 0 _ (Kd.R_reads' R_pl.out).2.2 (Kd.R_reads' R_pl.out).2.1 (Kd.C_below hp HB.out) hq e_al).mono ?_; rintro e w19 ⟨v2_, rfl, hR, hb⟩; refine ⟨_, rfl, ?_⟩; clear hz_g10 hz_g11 hz_g6 hz_g7; replace B_g1 := bb B_g1 hb; replace B_g3 := bb B_g3 hb; replace B_g6 := bb B_g6 hb; replace B_g7 := bb B_g7 hb; replace B_g8 := bb B_g8 hb; replace B_g10 := bb B_g10 hb; replace B_g11 := bb B_g11 hb; replace R_wl := rB R_wl hb; replace R_pl := rB R_pl hb; replace HB := hh HB hb; have R_al := am hR; obtain ⟨A_al, c_al, rfl⟩ := Kd.R_slice R_al.out; clear hR; clear hb)
      | ((with_reducible refine gate_dst (N := 12) rfl ?_); refine boxE (N := 12) #[.int .i64 0, .int .i64 0, .slice none 0 0] 36 ?_; intro g12 hg w20 hx hb; have l_g1_g12 := lB hg B_g1; have l_g3_g12 := lB hg B_g3; have l_g6_g12 := lB hg B_g6; have l_g7_g12 := lB hg B_g7; have l_g8_g12 := lB hg B_g8; have l_g10_g12 := lB hg B_g10; have l_g11_g12 := lB hg B_g11; have z_g12 := zB hg HB; replace B_g1 := bb B_g1 hb; replace B_g3 := bb B_g3 hb; replace B_g6 := bb B_g6 hb; replace B_g7 := bb B_g7 hb; replace B_g8 := bb B_g8 hb; replace B_g10 := bb B_g10 hb; replace B_g11 := bb B_g11 hb; replace R_wl := rB R_wl hb; replace R_pl := rB R_pl hb; replace R_al := rB R_al hb; replace HB := hh HB hb; have B_g12 := am hx; clear hx hb hg; have hf_g12 := blk_frozen B_g12.out; have hz_g12 := blk_cell B_g12.out)
      | ((with_reducible refine gate_store (t := 36) (p := 12) rfl ?_); refine storeE (t := 36) (p := 12) (sets w20 g12 0 [.int .i64 o2, .int .i64 o3, .slice A_al (al.length) c_al]) ?_; intro w21 hw; replace R_wl := rS hw R_wl B_g12 (by decide); replace R_pl := rS hw R_pl B_g12 (by decide); replace R_al := rS hw R_al B_g12 (by decide); replace B_g1 := fS hw B_g1 (Nat.ne_of_lt l_g1_g12); replace B_g3 := fS hw B_g3 (Nat.ne_of_lt l_g3_g12); replace B_g6 := fS hw B_g6 (Nat.ne_of_lt l_g6_g12); replace B_g7 := fS hw B_g7 (Nat.ne_of_lt l_g7_g12); replace B_g8 := fS hw B_g8 (Nat.ne_of_lt l_g8_g12); replace B_g10 := fS hw B_g10 (Nat.ne_of_lt l_g10_g12); replace B_g11 := fS hw B_g11 (Nat.ne_of_lt l_g11_g12); replace B_g12 := pS #[.int .i64 o2, .int .i64 o3, .slice A_al (al.length) c_al] hw B_g12; replace HB := hS hw HB z_g12; clear hf_g12 hz_g12; clear hw; have hz_g6 := blk_cell B_g6.out; have hz_g8 := blk_cell B_g8.out)
      | ((with_reducible refine gate_dst (N := 121) rfl ?_); refine goesE (N := some 121) Try.func19 #[.agg #[.int .i64 a0, .int .i64 a1, .slice A_wl (wl.length) c_wl], .agg #[.int .i64 o0, .int .i64 o1, .int .i64 o2, .int .i64 o3]] ?_; refine (imageeditorref11_Crop.calls k _ _ _ _ wl o0 o1 o2 o3 o2 o3 al 0 _ (Kd.R_reads' R_wl.out).2.2 (Kd.R_reads' R_wl.out).2.1 e_ql).mono ?_; rintro e w22 ⟨v2_, rfl, hR, hb⟩; refine ⟨_, rfl, ?_⟩; clear hz_g6 hz_g8; replace B_g1 := bb B_g1 hb; replace B_g3 := bb B_g3 hb; replace B_g6 := bb B_g6 hb; replace B_g7 := bb B_g7 hb; replace B_g8 := bb B_g8 hb; replace B_g10 := bb B_g10 hb; replace B_g11 := bb B_g11 hb; replace B_g12 := bb B_g12 hb; replace R_wl := rB R_wl hb; replace R_pl := rB R_pl hb; replace R_al := rB R_al hb; replace HB := hh HB hb; have R_ql := am hR; obtain ⟨A_ql, c_ql, rfl⟩ := Kd.R_slice R_ql.out; clear hR; clear hb)
      | ((with_reducible refine gate_dst (N := 13) rfl ?_); refine boxE (N := 13) #[.int .i64 0, .int .i64 0, .slice none 0 0] 36 ?_; intro g13 hg w23 hx hb; have l_g1_g13 := lB hg B_g1; have l_g3_g13 := lB hg B_g3; have l_g6_g13 := lB hg B_g6; have l_g7_g13 := lB hg B_g7; have l_g8_g13 := lB hg B_g8; have l_g10_g13 := lB hg B_g10; have l_g11_g13 := lB hg B_g11; have l_g12_g13 := lB hg B_g12; have z_g13 := zB hg HB; replace B_g1 := bb B_g1 hb; replace B_g3 := bb B_g3 hb; replace B_g6 := bb B_g6 hb; replace B_g7 := bb B_g7 hb; replace B_g8 := bb B_g8 hb; replace B_g10 := bb B_g10 hb; replace B_g11 := bb B_g11 hb; replace B_g12 := bb B_g12 hb; replace R_wl := rB R_wl hb; replace R_pl := rB R_pl hb; replace R_al := rB R_al hb; replace R_ql := rB R_ql hb; replace HB := hh HB hb; have B_g13 := am hx; clear hx hb hg; have hf_g13 := blk_frozen B_g13.out; have hz_g13 := blk_cell B_g13.out)
      | ((with_reducible refine gate_store (t := 36) (p := 13) rfl ?_); refine storeE (t := 36) (p := 13) (sets w23 g13 0 [.int .i64 o2, .int .i64 o3, .slice A_ql (al.length) c_ql]) ?_; intro w24 hw; replace R_wl := rS hw R_wl B_g13 (by decide); replace R_pl := rS hw R_pl B_g13 (by decide); replace R_al := rS hw R_al B_g13 (by decide); replace R_ql := rS hw R_ql B_g13 (by decide); replace B_g1 := fS hw B_g1 (Nat.ne_of_lt l_g1_g13); replace B_g3 := fS hw B_g3 (Nat.ne_of_lt l_g3_g13); replace B_g6 := fS hw B_g6 (Nat.ne_of_lt l_g6_g13); replace B_g7 := fS hw B_g7 (Nat.ne_of_lt l_g7_g13); replace B_g8 := fS hw B_g8 (Nat.ne_of_lt l_g8_g13); replace B_g10 := fS hw B_g10 (Nat.ne_of_lt l_g10_g13); replace B_g11 := fS hw B_g11 (Nat.ne_of_lt l_g11_g13); replace B_g12 := fS hw B_g12 (Nat.ne_of_lt l_g12_g13); replace B_g13 := pS #[.int .i64 o2, .int .i64 o3, .slice A_ql (al.length) c_ql] hw B_g13; replace HB := hS hw HB z_g13; clear hf_g13 hz_g13; clear hw; have hz_g12 := blk_cell B_g12.out; have hz_g13 := blk_cell B_g13.out)
      | ((with_reducible refine gate_dst (N := 129) rfl ?_); refine gate_guard (by rfl) ?_; dsimp only; refine goesE (N := some 129) Try.func21 #[.agg #[.int .i64 o2, .int .i64 o3, .slice A_al (al.length) c_al], .agg #[.int .i64 o2, .int .i64 o3, .slice A_ql (al.length) c_ql]] ?_; refine (imageeditorlaw16_same.calls k _ _ _ _ al _ _ _ _ al true _ (Kd.R_reads' R_al.out).2.2 (Kd.R_reads' R_al.out).2.1 (Kd.R_reads' R_ql.out).2.2 (Kd.R_reads' R_ql.out).2.1 e_s).mono ?_; rintro e w25 ⟨rfl, hb⟩; refine ⟨_, rfl, ?_⟩; clear hz_g12 hz_g13; replace B_g1 := bb B_g1 hb; replace B_g3 := bb B_g3 hb; replace B_g6 := bb B_g6 hb; replace B_g7 := bb B_g7 hb; replace B_g8 := bb B_g8 hb; replace B_g10 := bb B_g10 hb; replace B_g11 := bb B_g11 hb; replace B_g12 := bb B_g12 hb; replace B_g13 := bb B_g13 hb; replace R_wl := rB R_wl hb; replace R_pl := rB R_pl hb; replace R_al := rB R_al hb; replace R_ql := rB R_ql hb; replace HB := hh HB hb; clear hb)
      | ((with_reducible refine gate_dst (N := 132) rfl ?_); refine gate_guard (by rfl) ?_; dsimp only; refine goesE (N := some 132) Try.func13 #[] ?_; refine (imageeditorlaw16_example.calls true _ rfl).mono ?_; rintro e w26 ⟨rfl, hb⟩; refine ⟨_, rfl, ?_⟩; replace B_g1 := bb B_g1 hb; replace B_g3 := bb B_g3 hb; replace B_g6 := bb B_g6 hb; replace B_g7 := bb B_g7 hb; replace B_g8 := bb B_g8 hb; replace B_g10 := bb B_g10 hb; replace B_g11 := bb B_g11 hb; replace B_g12 := bb B_g12 hb; replace B_g13 := bb B_g13 hb; replace R_wl := rB R_wl hb; replace R_pl := rB R_pl hb; replace R_al := rB R_al hb; replace R_ql := rB R_ql hb; replace HB := hh HB hb; clear hb))
    go_ret
    exact ⟨rfl, HB.out⟩
end Go.Proofs.Ytocefehnemahhaa.G
