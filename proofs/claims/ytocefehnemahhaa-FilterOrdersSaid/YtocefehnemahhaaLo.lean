import Derived.Test.YtocefehnemahhaaMo
import Derived.Test.YtocefehnemahhaaG11
import Derived.Test.YtocefehnemahhaaG12
import Derived.Test.YtocefehnemahhaaG13
namespace Go.Proofs.Ytocefehnemahhaa.G
open Go.RowKit Go.Proofs.YtocefehnemahhaaW.PrintWords Go.Proofs.YtocefehnemahhaaW.PrintLast Go.Proofs.YtocefehnemahhaaW.PrintMore
set_option linter.unusedVariables false
set_option linter.unusedSimpArgs false
set_option maxHeartbeats 8000000 in
set_option maxRecDepth 100000 in
theorem orders_o1 (k : Nat) (a0 a1 : Int) (A : Option Addr) (c : Nat) (l : List S51) (rad : Int) (cc : Int) (w : World) (hr : Kd.C k51 w A l.length l) (hc : l.length ≤ c) (e0 : imageeditorref11_Check.f k a0 a1 l = some cc) (h : cc ≠ 0) :
    Calls Try.prog 6 #[.agg #[.int .i64 a0, .int .i64 a1, .slice A (l.length) c], .int .i64 rad] w fun e w' => e = .returned (.bool true) ∧ Below w.heap.size w w' := by
  have hu36 := Try.underlying36
  have hu51 := Try.underlying51
  have hu34 := Try.underlying34
  have hu22 := Try.underlying22
  have HB := Aside0.mk (Below.refl w.heap.size w)
  have t1 : (cc != 0) = true := bne_iff_ne.mpr h
  go_enter Try.func6, Try.ntmps6
  go_wp2_with (first
    | ((with_reducible refine gate_dst (N := 2) rfl ?_); refine boxE (N := 2) #[.int .i64 a0, .int .i64 a1, .slice A (l.length) c] 36 ?_; intro g2 hg w1 hx hb; have z_g2 := zB hg HB; replace HB := hh HB hb; have B_g2 := am hx; clear hx hb hg; have hz_g2 := blk_cell B_g2.out)
    | ((with_reducible refine gate_dst (N := 16) rfl ?_); refine goesE (N := some 16) Try.func14 #[.agg #[.int .i64 a0, .int .i64 a1, .slice A (l.length) c]] ?_; refine (imageeditorref11_Check.calls k _ _ _ _ l cc _ (Kd.C_below hr HB.out) hc e0).mono ?_; rintro e w2 ⟨rfl, hb⟩; refine ⟨_, rfl, ?_⟩; clear hz_g2; replace B_g2 := bb B_g2 hb; replace HB := hh HB hb; clear hb))
  go_ret
  exact ⟨rfl, HB.out⟩
set_option maxHeartbeats 8000000 in
set_option maxRecDepth 100000 in
theorem orders_o2 (k : Nat) (a0 a1 : Int) (A : Option Addr) (c : Nat) (l : List S51) (rad : Int) (w : World) (hr : Kd.C k51 w A l.length l) (hc : l.length ≤ c) (e0 : imageeditorref11_Check.f k a0 a1 l = some 0) (h : rad < 0) :
    Calls Try.prog 6 #[.agg #[.int .i64 a0, .int .i64 a1, .slice A (l.length) c], .int .i64 rad] w fun e w' => e = .returned (.bool true) ∧ Below w.heap.size w w' := by
  have hu36 := Try.underlying36
  have hu51 := Try.underlying51
  have hu34 := Try.underlying34
  have hu22 := Try.underlying22
  have HB := Aside0.mk (Below.refl w.heap.size w)
  have t1 := decide_eq_true h
  go_enter Try.func6, Try.ntmps6
  go_wp2_with (first
    | ((with_reducible refine gate_dst (N := 2) rfl ?_); refine boxE (N := 2) #[.int .i64 a0, .int .i64 a1, .slice A (l.length) c] 36 ?_; intro g2 hg w1 hx hb; have z_g2 := zB hg HB; replace HB := hh HB hb; have B_g2 := am hx; clear hx hb hg; have hz_g2 := blk_cell B_g2.out)
    | ((with_reducible refine gate_dst (N := 16) rfl ?_); refine goesE (N := some 16) Try.func14 #[.agg #[.int .i64 a0, .int .i64 a1, .slice A (l.length) c]] ?_; refine (imageeditorref11_Check.calls k _ _ _ _ l 0 _ (Kd.C_below hr HB.out) hc e0).mono ?_; rintro e w2 ⟨rfl, hb⟩; refine ⟨_, rfl, ?_⟩; clear hz_g2; replace B_g2 := bb B_g2 hb; replace HB := hh HB hb; clear hb))
  go_ret
  exact ⟨rfl, HB.out⟩
set_option maxHeartbeats 8000000 in
set_option maxRecDepth 100000 in
theorem orders_o3 (k : Nat) (a0 a1 : Int) (A : Option Addr) (c : Nat) (l : List S51) (rad : Int) (w : World) (hr : Kd.C k51 w A l.length l) (hc : l.length ≤ c) (e0 : imageeditorref11_Check.f k a0 a1 l = some 0) (h0 : 0 ≤ rad) (h : 4 < rad) :
    Calls Try.prog 6 #[.agg #[.int .i64 a0, .int .i64 a1, .slice A (l.length) c], .int .i64 rad] w fun e w' => e = .returned (.bool true) ∧ Below w.heap.size w w' := by
  have hu36 := Try.underlying36
  have hu51 := Try.underlying51
  have hu34 := Try.underlying34
  have hu22 := Try.underlying22
  have HB := Aside0.mk (Below.refl w.heap.size w)
  have t1 : decide (rad < 0) = false := decide_eq_false (by omega)
  have t2 := decide_eq_true h
  go_enter Try.func6, Try.ntmps6
  go_wp2_with (first
    | ((with_reducible refine gate_dst (N := 2) rfl ?_); refine boxE (N := 2) #[.int .i64 a0, .int .i64 a1, .slice A (l.length) c] 36 ?_; intro g2 hg w1 hx hb; have z_g2 := zB hg HB; replace HB := hh HB hb; have B_g2 := am hx; clear hx hb hg; have hz_g2 := blk_cell B_g2.out)
    | ((with_reducible refine gate_dst (N := 16) rfl ?_); refine goesE (N := some 16) Try.func14 #[.agg #[.int .i64 a0, .int .i64 a1, .slice A (l.length) c]] ?_; refine (imageeditorref11_Check.calls k _ _ _ _ l 0 _ (Kd.C_below hr HB.out) hc e0).mono ?_; rintro e w2 ⟨rfl, hb⟩; refine ⟨_, rfl, ?_⟩; clear hz_g2; replace B_g2 := bb B_g2 hb; replace HB := hh HB hb; clear hb))
  go_ret
  exact ⟨rfl, HB.out⟩
set_option maxHeartbeats 8000000 in
set_option maxRecDepth 100000 in
theorem orders_o4 (k : Nat) (a0 a1 : Int) (A : Option Addr) (c : Nat) (l : List S51) (rad : Int) (w : World) (hr : Kd.C k51 w A l.length l) (hc : l.length ≤ c) (e0 : imageeditorref11_Check.f k a0 a1 l = some 0) (h0 : 0 ≤ rad) (h1 : rad ≤ 4) (h : (1024 : Int) < (l.length : Int)) :
    Calls Try.prog 6 #[.agg #[.int .i64 a0, .int .i64 a1, .slice A (l.length) c], .int .i64 rad] w fun e w' => e = .returned (.bool true) ∧ Below w.heap.size w w' := by
  have hu36 := Try.underlying36
  have hu51 := Try.underlying51
  have hu34 := Try.underlying34
  have hu22 := Try.underlying22
  have HB := Aside0.mk (Below.refl w.heap.size w)
  have t1 : decide (rad < 0) = false := decide_eq_false (by omega)
  have t2 : decide (4 < rad) = false := decide_eq_false (by omega)
  have t3 := decide_eq_true h
  go_enter Try.func6, Try.ntmps6
  go_wp2_with (first
    | ((with_reducible refine gate_dst (N := 2) rfl ?_); refine boxE (N := 2) #[.int .i64 a0, .int .i64 a1, .slice A (l.length) c] 36 ?_; intro g2 hg w1 hx hb; have z_g2 := zB hg HB; replace HB := hh HB hb; have B_g2 := am hx; clear hx hb hg; have hz_g2 := blk_cell B_g2.out)
    | ((with_reducible refine gate_dst (N := 16) rfl ?_); refine goesE (N := some 16) Try.func14 #[.agg #[.int .i64 a0, .int .i64 a1, .slice A (l.length) c]] ?_; refine (imageeditorref11_Check.calls k _ _ _ _ l 0 _ (Kd.C_below hr HB.out) hc e0).mono ?_; rintro e w2 ⟨rfl, hb⟩; refine ⟨_, rfl, ?_⟩; clear hz_g2; replace B_g2 := bb B_g2 hb; replace HB := hh HB hb; clear hb; have hz_g2 := blk_cell B_g2.out))
  go_ret
  exact ⟨rfl, HB.out⟩
theorem below_of {p q : S51} (h : belowS p q) : imageeditorlaw16_below.f p.f0 p.f1 p.f2 p.f3 q.f0 q.f1 q.f2 q.f3 = some true := by
  obtain ⟨h0, h1, h2, h3⟩ := h
  unfold imageeditorlaw16_below.f
  simp [h0, h1, h2, h3]
set_option maxHeartbeats 8000000 in
set_option maxRecDepth 100000 in
theorem orders_main (k : Nat) (a0 a1 : Int) (A : Option Addr) (c : Nat) (l : List S51) (rad : Int) (w : World) (hr : Kd.C k51 w A l.length l) (hc : l.length ≤ c) (e0 : imageeditorref11_Check.f k a0 a1 l = some 0) (h0 : 0 ≤ rad) (h1 : rad ≤ 4) (h2 : (l.length : Int) ≤ 1024)
    (hY : (∀ i : Nat, i < l.length → (rd_T51 l i).f3 ≠ 0) → ∃ lo md hi : List S51, filter_Whole.f k a0 a1 l 8 [rad] = some (a0, a1, lo, 0) ∧ filter_Whole.f k a0 a1 l 4 [rad] = some (a0, a1, md, 0) ∧ filter_Whole.f k a0 a1 l 7 [rad] = some (a0, a1, hi, 0) ∧ lo.length = l.length ∧ md.length = l.length ∧ hi.length = l.length ∧ (∀ i : Nat, i < l.length → belowS (rd_T51 lo i) (rd_T51 l i) ∧ belowS (rd_T51 l i) (rd_T51 hi i) ∧ belowS (rd_T51 lo i) (rd_T51 md i) ∧ belowS (rd_T51 md i) (rd_T51 hi i)) ∧ (rad = 0 → ∃ bx : List S51, filter_Whole.f k a0 a1 l 1 [0] = some (a0, a1, bx, 0) ∧ imageeditorlaw16_same.f k a0 a1 lo a0 a1 l = some true ∧ imageeditorlaw16_same.f k a0 a1 md a0 a1 l = some true ∧ imageeditorlaw16_same.f k a0 a1 hi a0 a1 l = some true ∧ imageeditorlaw16_same.f k a0 a1 bx a0 a1 l = some true)) :
    Calls Try.prog 6 #[.agg #[.int .i64 a0, .int .i64 a1, .slice A (l.length) c], .int .i64 rad] w fun e w' => e = .returned (.bool true) ∧ Below w.heap.size w w' := by
  have hu36 := Try.underlying36
  have hu51 := Try.underlying51
  have hu34 := Try.underlying34
  have hu22 := Try.underlying22
  have HB := Aside0.mk (Below.refl w.heap.size w)
  have t1 : decide (rad < 0) = false := decide_eq_false (by omega)
  have t2 : decide (4 < rad) = false := decide_eq_false (by omega)
  have t3 : decide ((1024 : Int) < (l.length : Int)) = false := decide_eq_false (by omega)
  go_enter Try.func6, Try.ntmps6
  go_wp2_with (first
    | ((with_reducible refine gate_dst (N := 2) rfl ?_); refine boxE (N := 2) #[.int .i64 a0, .int .i64 a1, .slice A (l.length) c] 36 ?_; intro g2 hg w1 hx hb; have z_g2 := zB hg HB; replace HB := hh HB hb; have B_g2 := am hx; clear hx hb hg; have hz_g2 := blk_cell B_g2.out)
    | ((with_reducible refine gate_dst (N := 16) rfl ?_); refine goesE (N := some 16) Try.func14 #[.agg #[.int .i64 a0, .int .i64 a1, .slice A (l.length) c]] ?_; refine (imageeditorref11_Check.calls k _ _ _ _ l 0 _ (Kd.C_below hr HB.out) hc e0).mono ?_; rintro e w2 ⟨rfl, hb⟩; refine ⟨_, rfl, ?_⟩; clear hz_g2; replace B_g2 := bb B_g2 hb; replace HB := hh HB hb; clear hb; have hz_g2 := blk_cell B_g2.out))
  go_loopg [5] l.length (fun kq v5 w' => ∃ (i : Nat), v5 = .int .i64 (i : Int) ∧ Aside0 (i ≤ l.length ∧ l.length - i ≤ kq) ∧ Aside0 (∀ j : Nat, j < i → (rd_T51 l j).f3 ≠ 0) ∧ Aside0 (w'.heap[g2]? = some (.cells #[.int .i64 a0, .int .i64 a1, .slice A (l.length) c] 36 (0, 0))) ∧ Aside0 (Below w.heap.size w w'))
  case atStart => exact ⟨0, rfl, ⟨Nat.zero_le _, Nat.le_refl _⟩, ⟨fun j h => absurd h (Nat.not_lt_zero j)⟩, B_g2, HB⟩
  case round =>
    clear hz_g2
    clear HB B_g2
    obtain ⟨i, rfl, HX5, HE5, B_g2, HB⟩ := hrel
    obtain ⟨hx5, hk5⟩ := HX5.out
    by_cases hlt5 : i < l.length
    · have c5 : decide ((i : Int) < (l.length : Int)) = true := decide_eq_true (by omega)
      cases gk with
      | zero => omega
      | succ k5 =>
        have p5 : 0 ≤ (i : Int) := by omega
        have q5 : (i : Int) < (l.length : Int) := by omega
        obtain ⟨ad, e9, hx0, hx1, hx2, hx3⟩ := at_T51 hr (i : Int) p5 q5
        subst e9
        simp only [Int.toNat_natCast] at hx0 hx1 hx2 hx3
        replace p5 := eq_true p5
        replace q5 := eq_true q5
        have hp_hx3 := (HB.out.cell (World.block_lt_of_cell? w _ hx3)).trans hx3
        have hz_g2 := blk_cell B_g2.out
        by_cases h5 : (rd_T51 l (i : Int)).f3 = 0
        · have t5 : ((rd_T51 l (i : Int)).f3 == 0) = true := beq_iff_eq.mpr h5
          go_wp2
          go_ret
          exact ⟨rfl, HB.out⟩
        · have t5 : ((rd_T51 l (i : Int)).f3 == 0) = false := beq_eq_false_iff_ne.mpr h5
          go_wp2
          go_roundg k5
          case measure => omega
          case rel => exact ⟨i + 1, by simp, ⟨by omega, by omega⟩, ⟨fun j hj => by rcases Nat.lt_succ_iff_lt_or_eq.1 hj with h | rfl; exact HE5.out j h; exact h5⟩, B_g2, HB⟩
    · have c5 : decide ((i : Int) < (l.length : Int)) = false := decide_eq_false (by omega)
      obtain ⟨lo, md, hi, e_lo, e_md, e_hi, l_lo, l_md, l_hi, hbe, hz0⟩ := hY fun j hj => HE5.out j (by omega)
      clear HE5 HX5 hY
      have t_lo : ((lo.length : Int) != (l.length : Int)) = false := by rw [l_lo]; exact bne_self_eq_false _
      replace l_lo := am l_lo
      have t_md : ((md.length : Int) != (l.length : Int)) = false := by rw [l_md]; exact bne_self_eq_false _
      replace l_md := am l_md
      have t_hi : ((hi.length : Int) != (l.length : Int)) = false := by rw [l_hi]; exact bne_self_eq_false _
      replace l_hi := am l_hi
      have hz_g2 := blk_cell B_g2.out
      go_upto_region 11 with (first
        | ((with_reducible refine gate_dst (N := 49) rfl ?_); refine lit_event2 ?hg (N := 49) ?hd (cs := #[.int .i64 rad]) (t := 3) (n := 1) ?hr ?_; (case hd => rfl); (case hg => rfl); (case hr => first | (go_simp; done) | (go_simp; rfl) | kernel_rfl); intro g49 hg w3 hx hb; have l_g2_g49 := lB hg B_g2; have z_g49 := zB hg HB; clear hz_g2; replace B_g2 := bb B_g2 hb; replace HB := hh HB hb; have B_g49 := am hx; clear hx hb hg)
        | ((with_reducible refine gate_dst (N := 50) rfl ?_); refine goesE (N := some 50) Try.func18 #[.agg #[.int .i64 a0, .int .i64 a1, .slice A (l.length) c], .int .i64 8, .slice (some ⟨g49, 0, none⟩) 1 1] ?_; refine (filter_Whole.calls k a0 a1 _ c l 8 _ 1 [rad] a0 a1 lo 0 _ (Kd.C_below hr HB.out) hc (C_of_ints [rad] B_g49.out rfl (by simp)) (by simp) e_lo).mono ?_; rintro e w4 ⟨v2_, rfl, hR, hb⟩; refine ⟨_, rfl, ?_⟩; replace B_g2 := bb B_g2 hb; replace B_g49 := bb B_g49 hb; replace HB := hh HB hb; have R_lo := am hR; obtain ⟨A_lo, c_lo, rfl⟩ := Kd.R_slice R_lo.out; clear hR; clear hb)
        | ((with_reducible refine gate_dst (N := 6) rfl ?_); refine boxE (N := 6) #[.int .i64 0, .int .i64 0, .slice none 0 0] 36 ?_; intro g6 hg w5 hx hb; have l_g2_g6 := lB hg B_g2; have l_g49_g6 := lB hg B_g49; have z_g6 := zB hg HB; replace B_g2 := bb B_g2 hb; replace B_g49 := bb B_g49 hb; replace R_lo := rB R_lo hb; replace HB := hh HB hb; have B_g6 := am hx; clear hx hb hg; have hf_g6 := blk_frozen B_g6.out; have hz_g6 := blk_cell B_g6.out)
        | ((with_reducible refine gate_store (t := 36) (p := 6) rfl ?_); refine storeE (t := 36) (p := 6) (sets w5 g6 0 [.int .i64 a0, .int .i64 a1, .slice A_lo (lo.length) c_lo]) ?_; intro w6 hw; replace R_lo := rS hw R_lo B_g6 (by decide); replace B_g2 := fS hw B_g2 (Nat.ne_of_lt l_g2_g6); replace B_g49 := fS hw B_g49 (Nat.ne_of_lt l_g49_g6); replace B_g6 := pS #[.int .i64 a0, .int .i64 a1, .slice A_lo (lo.length) c_lo] hw B_g6; replace HB := hS hw HB z_g6; clear hf_g6 hz_g6; clear hw; have hz_g2 := blk_cell B_g2.out)
        | ((with_reducible refine gate_dst (N := 56) rfl ?_); refine lit_event2 ?hg (N := 56) ?hd (cs := #[.int .i64 rad]) (t := 3) (n := 1) ?hr ?_; (case hd => rfl); (case hg => rfl); (case hr => first | (go_simp; done) | (go_simp; rfl) | kernel_rfl); intro g56 hg w7 hx hb; have l_g2_g56 := lB hg B_g2; have l_g49_g56 := lB hg B_g49; have l_g6_g56 := lB hg B_g6; have z_g56 := zB hg HB; clear hz_g2; replace B_g2 := bb B_g2 hb; replace B_g49 := bb B_g49 hb; replace B_g6 := bb B_g6 hb; replace R_lo := rB R_lo hb; replace HB := hh HB hb; have B_g56 := am hx; clear hx hb hg)
        | ((with_reducible refine gate_dst (N := 57) rfl ?_); refine goesE (N := some 57) Try.func18 #[.agg #[.int .i64 a0, .int .i64 a1, .slice A (l.length) c], .int .i64 4, .slice (some ⟨g56, 0, none⟩) 1 1] ?_; refine (filter_Whole.calls k a0 a1 _ c l 4 _ 1 [rad] a0 a1 md 0 _ (Kd.C_below hr HB.out) hc (C_of_ints [rad] B_g56.out rfl (by simp)) (by simp) e_md).mono ?_; rintro e w8 ⟨v2_, rfl, hR, hb⟩; refine ⟨_, rfl, ?_⟩; replace B_g2 := bb B_g2 hb; replace B_g49 := bb B_g49 hb; replace B_g6 := bb B_g6 hb; replace B_g56 := bb B_g56 hb; replace R_lo := rB R_lo hb; replace HB := hh HB hb; have R_md := am hR; obtain ⟨A_md, c_md, rfl⟩ := Kd.R_slice R_md.out; clear hR; clear hb)
        | ((with_reducible refine gate_dst (N := 8) rfl ?_); refine boxE (N := 8) #[.int .i64 0, .int .i64 0, .slice none 0 0] 36 ?_; intro g8 hg w9 hx hb; have l_g2_g8 := lB hg B_g2; have l_g49_g8 := lB hg B_g49; have l_g6_g8 := lB hg B_g6; have l_g56_g8 := lB hg B_g56; have z_g8 := zB hg HB; replace B_g2 := bb B_g2 hb; replace B_g49 := bb B_g49 hb; replace B_g6 := bb B_g6 hb; replace B_g56 := bb B_g56 hb; replace R_lo := rB R_lo hb; replace R_md := rB R_md hb; replace HB := hh HB hb; have B_g8 := am hx; clear hx hb hg; have hf_g8 := blk_frozen B_g8.out; have hz_g8 := blk_cell B_g8.out)
        | ((with_reducible refine gate_store (t := 36) (p := 8) rfl ?_); refine storeE (t := 36) (p := 8) (sets w9 g8 0 [.int .i64 a0, .int .i64 a1, .slice A_md (md.length) c_md]) ?_; intro w10 hw; replace R_lo := rS hw R_lo B_g8 (by decide); replace R_md := rS hw R_md B_g8 (by decide); replace B_g2 := fS hw B_g2 (Nat.ne_of_lt l_g2_g8); replace B_g49 := fS hw B_g49 (Nat.ne_of_lt l_g49_g8); replace B_g6 := fS hw B_g6 (Nat.ne_of_lt l_g6_g8); replace B_g56 := fS hw B_g56 (Nat.ne_of_lt l_g56_g8); replace B_g8 := pS #[.int .i64 a0, .int .i64 a1, .slice A_md (md.length) c_md] hw B_g8; replace HB := hS hw HB z_g8; clear hf_g8 hz_g8; clear hw; have hz_g2 := blk_cell B_g2.out)
        | ((with_reducible refine gate_dst (N := 63) rfl ?_); refine lit_event2 ?hg (N := 63) ?hd (cs := #[.int .i64 rad]) (t := 3) (n := 1) ?hr ?_; (case hd => rfl); (case hg => rfl); (case hr => first | (go_simp; done) | (go_simp; rfl) | kernel_rfl); intro g63 hg w11 hx hb; have l_g2_g63 := lB hg B_g2; have l_g49_g63 := lB hg B_g49; have l_g6_g63 := lB hg B_g6; have l_g56_g63 := lB hg B_g56; have l_g8_g63 := lB hg B_g8; have z_g63 := zB hg HB; clear hz_g2; replace B_g2 := bb B_g2 hb; replace B_g49 := bb B_g49 hb; replace B_g6 := bb B_g6 hb; replace B_g56 := bb B_g56 hb; replace B_g8 := bb B_g8 hb; replace R_lo := rB R_lo hb; replace R_md := rB R_md hb; replace HB := hh HB hb; have B_g63 := am hx; clear hx hb hg)
        | ((with_reducible refine gate_dst (N := 64) rfl ?_); refine goesE (N := some 64) Try.func18 #[.agg #[.int .i64 a0, .int .i64 a1, .slice A (l.length) c], .int .i64 7, .slice (some ⟨g63, 0, none⟩) 1 1] ?_; refine (filter_Whole.calls k a0 a1 _ c l 7 _ 1 [rad] a0 a1 hi 0 _ (Kd.C_below hr HB.out) hc (C_of_ints [rad] B_g63.out rfl (by simp)) (by simp) e_hi).mono ?_; rintro e w12 ⟨v2_, rfl, hR, hb⟩; refine ⟨_, rfl, ?_⟩; replace B_g2 := bb B_g2 hb; replace B_g49 := bb B_g49 hb; replace B_g6 := bb B_g6 hb; replace B_g56 := bb B_g56 hb; replace B_g8 := bb B_g8 hb; replace B_g63 := bb B_g63 hb; replace R_lo := rB R_lo hb; replace R_md := rB R_md hb; replace HB := hh HB hb; have R_hi := am hR; obtain ⟨A_hi, c_hi, rfl⟩ := Kd.R_slice R_hi.out; clear hR; clear hb)
        | ((with_reducible refine gate_dst (N := 10) rfl ?_); refine boxE (N := 10) #[.int .i64 0, .int .i64 0, .slice none 0 0] 36 ?_; intro g10 hg w13 hx hb; have l_g2_g10 := lB hg B_g2; have l_g49_g10 := lB hg B_g49; have l_g6_g10 := lB hg B_g6; have l_g56_g10 := lB hg B_g56; have l_g8_g10 := lB hg B_g8; have l_g63_g10 := lB hg B_g63; have z_g10 := zB hg HB; replace B_g2 := bb B_g2 hb; replace B_g49 := bb B_g49 hb; replace B_g6 := bb B_g6 hb; replace B_g56 := bb B_g56 hb; replace B_g8 := bb B_g8 hb; replace B_g63 := bb B_g63 hb; replace R_lo := rB R_lo hb; replace R_md := rB R_md hb; replace R_hi := rB R_hi hb; replace HB := hh HB hb; have B_g10 := am hx; clear hx hb hg; have hf_g10 := blk_frozen B_g10.out; have hz_g10 := blk_cell B_g10.out)
        | ((with_reducible refine gate_store (t := 36) (p := 10) rfl ?_); refine storeE (t := 36) (p := 10) (sets w13 g10 0 [.int .i64 a0, .int .i64 a1, .slice A_hi (hi.length) c_hi]) ?_; intro w14 hw; replace R_lo := rS hw R_lo B_g10 (by decide); replace R_md := rS hw R_md B_g10 (by decide); replace R_hi := rS hw R_hi B_g10 (by decide); replace B_g2 := fS hw B_g2 (Nat.ne_of_lt l_g2_g10); replace B_g49 := fS hw B_g49 (Nat.ne_of_lt l_g49_g10); replace B_g6 := fS hw B_g6 (Nat.ne_of_lt l_g6_g10); replace B_g56 := fS hw B_g56 (Nat.ne_of_lt l_g56_g10); replace B_g8 := fS hw B_g8 (Nat.ne_of_lt l_g8_g10); replace B_g63 := fS hw B_g63 (Nat.ne_of_lt l_g63_g10); replace B_g10 := pS #[.int .i64 a0, .int .i64 a1, .slice A_hi (hi.length) c_hi] hw B_g10; replace HB := hS hw HB z_g10; clear hf_g10 hz_g10; clear hw))
      obtain ⟨_, q_lo, K_lo⟩ := Kd.R_reads' R_lo.out
      obtain ⟨_, q_md, K_md⟩ := Kd.R_reads' R_md.out
      obtain ⟨_, q_hi, K_hi⟩ := Kd.R_reads' R_hi.out
      clear R_lo R_md R_hi
      replace hr := Kd.C_below hr HB.out
      have HB0 := HB
      replace HB := Aside0.mk (Below.refl w14.heap.size w14)
      have hz_g10 := blk_cell B_g10.out
      have hz_g2 := blk_cell B_g2.out
      have hz_g6 := blk_cell B_g6.out
      have hz_g8 := blk_cell B_g8.out
      go_wp2
      go_loopg [12] l.length (fun kq v12 w' => ∃ (i : Nat), v12 = .int .i64 (i : Int) ∧ Aside0 (i ≤ l.length ∧ l.length - i ≤ kq) ∧ Aside0 (w'.heap[g2]? = some (.cells #[.int .i64 a0, .int .i64 a1, .slice A (l.length) c] 36 (0, 0))) ∧ Aside0 (w'.heap[g49]? = some (.cells #[.int .i64 rad] 3 (0, 0))) ∧ Aside0 (w'.heap[g6]? = some (.cells #[.int .i64 a0, .int .i64 a1, .slice A_lo (lo.length) c_lo] 36 (0, 0))) ∧ Aside0 (w'.heap[g56]? = some (.cells #[.int .i64 rad] 3 (0, 0))) ∧ Aside0 (w'.heap[g8]? = some (.cells #[.int .i64 a0, .int .i64 a1, .slice A_md (md.length) c_md] 36 (0, 0))) ∧ Aside0 (w'.heap[g63]? = some (.cells #[.int .i64 rad] 3 (0, 0))) ∧ Aside0 (w'.heap[g10]? = some (.cells #[.int .i64 a0, .int .i64 a1, .slice A_hi (hi.length) c_hi] 36 (0, 0))) ∧ Aside0 (Below w14.heap.size w14 w'))
      case atStart => exact ⟨0, rfl, ⟨Nat.zero_le _, Nat.le_refl _⟩, B_g2, B_g49, B_g6, B_g56, B_g8, B_g63, B_g10, HB⟩
      case round =>
        clear hz_g10 hz_g2 hz_g6 hz_g8
        clear HB B_g2 B_g49 B_g6 B_g56 B_g8 B_g63 B_g10
        obtain ⟨j, rfl, HX12, B_g2, B_g49, B_g6, B_g56, B_g8, B_g63, B_g10, HB⟩ := hrel
        obtain ⟨hx12, hk12⟩ := HX12.out
        by_cases hlt12 : j < l.length
        · have c12 : decide ((j : Int) < (l.length : Int)) = true := decide_eq_true (by omega)
          cases gk with
          | zero => omega
          | succ k12 =>
            obtain ⟨b1, b2, b3, b4⟩ := hbe j hlt12
            replace b1 := below_of b1; replace b2 := below_of b2; replace b3 := below_of b3; replace b4 := below_of b4
            have p12 : 0 ≤ (j : Int) := by omega
            have q_l : (j : Int) < (l.length : Int) := by omega
            have q_lo' : (j : Int) < (lo.length : Int) := by have := l_lo.out; omega
            have q_md' : (j : Int) < (md.length : Int) := by have := l_md.out; omega
            have q_hi' : (j : Int) < (hi.length : Int) := by have := l_hi.out; omega
            obtain ⟨ad_l, e9, hx_l0, hx_l1, hx_l2, hx_l3⟩ := at_T51 hr (j : Int) p12 q_l
            subst e9
            simp only [Int.toNat_natCast] at hx_l0 hx_l1 hx_l2 hx_l3
            obtain ⟨ad_lo, e9, hx_lo0, hx_lo1, hx_lo2, hx_lo3⟩ := at_T51 K_lo (j : Int) p12 q_lo'
            subst e9
            simp only [Int.toNat_natCast] at hx_lo0 hx_lo1 hx_lo2 hx_lo3
            obtain ⟨ad_md, e9, hx_md0, hx_md1, hx_md2, hx_md3⟩ := at_T51 K_md (j : Int) p12 q_md'
            subst e9
            simp only [Int.toNat_natCast] at hx_md0 hx_md1 hx_md2 hx_md3
            obtain ⟨ad_hi, e9, hx_hi0, hx_hi1, hx_hi2, hx_hi3⟩ := at_T51 K_hi (j : Int) p12 q_hi'
            subst e9
            simp only [Int.toNat_natCast] at hx_hi0 hx_hi1 hx_hi2 hx_hi3
            replace p12 := eq_true p12
            replace q_l := eq_true q_l
            replace q_lo' := eq_true q_lo'
            replace q_md' := eq_true q_md'
            replace q_hi' := eq_true q_hi'
            have hz_g2 := blk_cell B_g2.out
            go_wp2
            refine region_inv (fun f a w' => a = { tmps := #[.agg #[.int .i64 a0, .int .i64 a1, .slice (some ad_l) (l.length) c], .int .i64 rad, .pointer (some ⟨g2, 0, none⟩), undef, u4, .int .i64 (i : Int), .pointer (some ⟨g6, 0, none⟩), .int .i64 0, .pointer (some ⟨g8, 0, none⟩), .int .i64 0, .pointer (some ⟨g10, 0, none⟩), .int .i64 0, .int .i64 (j : Int), undef, undef, .agg #[.int .i64 a0, .int .i64 a1, .slice (some ad_l) (l.length) c], .int .i64 0, .bool false, .bool false, .int .i64 rad, .bool false, .bool false, .bool false, .int .i64 rad, .bool false, .bool false, .bool false, .pointer (some ⟨g2, 2, none⟩), .slice (some ad_l) (l.length) c, .int .i64 (l.length : Int), .bool false, .bool false, .int .i64 (i : Int), .pointer (some ⟨g2, 2, none⟩), .slice (some ad_l) (l.length) c, .int .i64 (l.length : Int), .bool false, u37, u38, u39, u40, u41, u42, u43, u44, u45, .tuple #[.agg #[.int .i64 a0, .int .i64 a1, .slice (some ad_lo) (lo.length) c_lo], .int .i64 0], .agg #[.int .i64 a0, .int .i64 a1, .slice (some ad_l) (l.length) c], .int .i64 rad, .slice (some ⟨g49, 0, none⟩) 1 1, .tuple #[.agg #[.int .i64 a0, .int .i64 a1, .slice (some ad_lo) (lo.length) c_lo], .int .i64 0], .agg #[.int .i64 a0, .int .i64 a1, .slice (some ad_lo) (lo.length) c_lo], .int .i64 0, .tuple #[.agg #[.int .i64 a0, .int .i64 a1, .slice (some ad_md) (md.length) c_md], .int .i64 0], .agg #[.int .i64 a0, .int .i64 a1, .slice (some ad_l) (l.length) c], .int .i64 rad, .slice (some ⟨g56, 0, none⟩) 1 1, .tuple #[.agg #[.int .i64 a0, .int .i64 a1, .slice (some ad_md) (md.length) c_md], .int .i64 0], .agg #[.int .i64 a0, .int .i64 a1, .slice (some ad_md) (md.length) c_md], .int .i64 0, .tuple #[.agg #[.int .i64 a0, .int .i64 a1, .slice (some ad_hi) (hi.length) c_hi], .int .i64 0], .agg #[.int .i64 a0, .int .i64 a1, .slice (some ad_l) (l.length) c], .int .i64 rad, .slice (some ⟨g63, 0, none⟩) 1 1, .tuple #[.agg #[.int .i64 a0, .int .i64 a1, .slice (some ad_hi) (hi.length) c_hi], .int .i64 0], .agg #[.int .i64 a0, .int .i64 a1, .slice (some ad_hi) (hi.length) c_hi], .int .i64 0, .int .i64 0, .bool false, .bool false, .int .i64 0, .bool false, .bool false, .bool false, .int .i64 0, .bool false, .bool false, .bool false, .pointer (some ⟨g6, 2, none⟩), .slice (some ad_lo) (lo.length) c_lo, .int .i64 (lo.length : Int), .pointer (some ⟨g2, 2, none⟩), .slice (some ad_l) (l.length) c, .int .i64 (l.length : Int), .bool false, .bool false, .bool false, .pointer (some ⟨g8, 2, none⟩), .slice (some ad_md) (md.length) c_md, .int .i64 (md.length : Int), .pointer (some ⟨g2, 2, none⟩), .slice (some ad_l) (l.length) c, .int .i64 (l.length : Int), .bool false, .bool false, .bool false, .pointer (some ⟨g10, 2, none⟩), .slice (some ad_hi) (hi.length) c_hi, .int .i64 (hi.length : Int), .pointer (some ⟨g2, 2, none⟩), .slice (some ad_l) (l.length) c, .int .i64 (l.length : Int), .bool false, .bool false, .int .i64 (j : Int), .pointer (some ⟨g2, 2, none⟩), .slice (some ad_l) (l.length) c, .int .i64 (l.length : Int), .bool true, u109, u110, selO (f 0) (.pointer (some ⟨g6, 2, none⟩)) (u111), selO (f 1) (.slice (some ad_lo) (lo.length) c_lo) (u112), selO (f 2) (.int .i64 (j : Int)) (u113), selO (f 3) (.pointer (some ((ad_lo.add (j * 4))))) (u114), selO (f 4) (.agg #[.int .i64 ((rd_T51 lo (j : Int)).f0), .int .i64 ((rd_T51 lo (j : Int)).f1), .int .i64 ((rd_T51 lo (j : Int)).f2), .int .i64 ((rd_T51 lo (j : Int)).f3)]) (u115), selO (f 5) (.pointer (some ⟨g2, 2, none⟩)) (u116), selO (f 6) (.slice (some ad_l) (l.length) c) (u117), selO (f 7) (.int .i64 (j : Int)) (u118), selO (f 8) (.pointer (some ((ad_l.add (j * 4))))) (u119), selO (f 9) (.agg #[.int .i64 ((rd_T51 l (j : Int)).f0), .int .i64 ((rd_T51 l (j : Int)).f1), .int .i64 ((rd_T51 l (j : Int)).f2), .int .i64 ((rd_T51 l (j : Int)).f3)]) (u120), selO (f 10) (.bool true) (u121), selO (f 11) (.bool false) (u122), selO (f 12) (.bool false) (u123), selO (f 13) (.pointer (some ⟨g2, 2, none⟩)) (u124), selO (f 14) (.slice (some ad_l) (l.length) c) (u125), selO (f 15) (.int .i64 (j : Int)) (u126), selO (f 16) (.pointer (some ((ad_l.add (j * 4))))) (u127), selO (f 17) (.agg #[.int .i64 ((rd_T51 l (j : Int)).f0), .int .i64 ((rd_T51 l (j : Int)).f1), .int .i64 ((rd_T51 l (j : Int)).f2), .int .i64 ((rd_T51 l (j : Int)).f3)]) (u128), selO (f 18) (.pointer (some ⟨g10, 2, none⟩)) (u129), selO (f 19) (.slice (some ad_hi) (hi.length) c_hi) (u130), selO (f 20) (.int .i64 (j : Int)) (u131), selO (f 21) (.pointer (some ((ad_hi.add (j * 4))))) (u132), selO (f 22) (.agg #[.int .i64 ((rd_T51 hi (j : Int)).f0), .int .i64 ((rd_T51 hi (j : Int)).f1), .int .i64 ((rd_T51 hi (j : Int)).f2), .int .i64 ((rd_T51 hi (j : Int)).f3)]) (u133), selO (f 23) (.bool true) (u134), selO (f 24) (.bool false) (u135), selO (f 25) (.bool false) (u136), selO (f 26) (.bool false) (u137), selO (f 27) (.pointer (some ⟨g6, 2, none⟩)) (u138), selO (f 28) (.slice (some ad_lo) (lo.length) c_lo) (u139), selO (f 29) (.int .i64 (j : Int)) (u140), selO (f 30) (.pointer (some ((ad_lo.add (j * 4))))) (u141), selO (f 31) (.agg #[.int .i64 ((rd_T51 lo (j : Int)).f0), .int .i64 ((rd_T51 lo (j : Int)).f1), .int .i64 ((rd_T51 lo (j : Int)).f2), .int .i64 ((rd_T51 lo (j : Int)).f3)]) (u142), selO (f 32) (.pointer (some ⟨g8, 2, none⟩)) (u143), selO (f 33) (.slice (some ad_md) (md.length) c_md) (u144), selO (f 34) (.int .i64 (j : Int)) (u145), selO (f 35) (.pointer (some ((ad_md.add (j * 4))))) (u146), selO (f 36) (.agg #[.int .i64 ((rd_T51 md (j : Int)).f0), .int .i64 ((rd_T51 md (j : Int)).f1), .int .i64 ((rd_T51 md (j : Int)).f2), .int .i64 ((rd_T51 md (j : Int)).f3)]) (u147), selO (f 37) (.bool true) (u148), selO (f 38) (.bool false) (u149), selO (f 39) (.bool false) (u150), selO (f 40) (.bool false) (u151), selO (f 41) (.pointer (some ⟨g8, 2, none⟩)) (u152), selO (f 42) (.slice (some ad_md) (md.length) c_md) (u153), selO (f 43) (.int .i64 (j : Int)) (u154), selO (f 44) (.pointer (some ((ad_md.add (j * 4))))) (u155), selO (f 45) (.agg #[.int .i64 ((rd_T51 md (j : Int)).f0), .int .i64 ((rd_T51 md (j : Int)).f1), .int .i64 ((rd_T51 md (j : Int)).f2), .int .i64 ((rd_T51 md (j : Int)).f3)]) (u156), selO (f 46) (.pointer (some ⟨g10, 2, none⟩)) (u157), selO (f 47) (.slice (some ad_hi) (hi.length) c_hi) (u158), selO (f 48) (.int .i64 (j : Int)) (u159), selO (f 49) (.pointer (some ((ad_hi.add (j * 4))))) (u160), selO (f 50) (.agg #[.int .i64 ((rd_T51 hi (j : Int)).f0), .int .i64 ((rd_T51 hi (j : Int)).f1), .int .i64 ((rd_T51 hi (j : Int)).f2), .int .i64 ((rd_T51 hi (j : Int)).f3)]) (u161), selO (f 51) (.bool true) (u162), selO (f 52) (.bool false) (u163), selO (f 53) (.bool false) (u164), undef, undef, undef, undef, undef, undef, undef, undef, undef, undef, undef, undef, undef, undef, undef, undef, undef, undef, undef, undef, undef, undef, undef, undef, undef, undef, undef, undef, undef, undef, undef, undef, undef, undef], defers := [] } ∧ Below w14.heap.size w14 w' ∧ w'.heap[g2]? = some (.cells #[.int .i64 a0, .int .i64 a1, .slice (some ad_l) (l.length) c] 36 (0, 0)) ∧ w'.heap[g49]? = some (.cells #[.int .i64 rad] 3 (0, 0)) ∧ w'.heap[g6]? = some (.cells #[.int .i64 a0, .int .i64 a1, .slice (some ad_lo) (lo.length) c_lo] 36 (0, 0)) ∧ w'.heap[g56]? = some (.cells #[.int .i64 rad] 3 (0, 0)) ∧ w'.heap[g8]? = some (.cells #[.int .i64 a0, .int .i64 a1, .slice (some ad_md) (md.length) c_md] 36 (0, 0)) ∧ w'.heap[g63]? = some (.cells #[.int .i64 rad] 3 (0, 0)) ∧ w'.heap[g10]? = some (.cells #[.int .i64 a0, .int .i64 a1, .slice (some ad_hi) (hi.length) c_hi] 36 (0, 0))) (by kernel_rfl) (by kernel_rfl) ?start ?fin ?steps
            case start => exact ⟨rfl, HB.out.drew, blk_drew B_g2.out, blk_drew B_g49.out, blk_drew B_g6.out, blk_drew B_g56.out, blk_drew B_g8.out, blk_drew B_g63.out, blk_drew B_g10.out⟩
            case steps =>
              clear HB B_g2 B_g49 B_g6 B_g56 B_g8 B_g63 B_g10
              refine ⟨?o0, ?o1, ?o2, ?o3, ?o4, ?o5, ?o6, ?o7, ?o8, ?o9, ?o10, ?o11, ?o12, ?o13, ?o14, ?o15, ?o16, ?o17, ?o18, ?o19, ?o20, ?o21, ?o22, ?o23, ?o24, ?o25, ?o26, ?o27, ?o28, ?o29, ?o30, ?o31, ?o32, ?o33, ?o34, ?o35, ?o36, ?o37, ?o38, ?o39, ?o40, ?o41, ?o42, ?o43, ?o44, ?o45, ?o46, ?o47, ?o48, ?o49, ?o50, ?o51, ?o52, ?o53, trivial⟩
              case o0 =>
                rintro f a w' ⟨rfl, HB, k_g2, k_g49, k_g6, k_g56, k_g8, k_g63, k_g10⟩ hf hd K hK
                exact valE (N := some 111) (.pointer (some ⟨g6, 2, none⟩)) (hK _ _ ⟨rfl, HB, k_g2, k_g49, k_g6, k_g56, k_g8, k_g63, k_g10⟩)
              case o1 =>
                rintro f a w' ⟨rfl, HB, k_g2, k_g49, k_g6, k_g56, k_g8, k_g63, k_g10⟩ hf hd K hK
                have e0 := hd 0 (by kernel_rfl)
                rw [e0]
                repeat first | rw [sel_true] | rw [selO_true]
                have hz := blk_cell k_g6
                exact valE (N := some 112) (.slice (some ad_lo) (lo.length) c_lo) (hK _ _ ⟨(by simp [Act.put, upd, sel_true, selO_true, e0]), HB, k_g2, k_g49, k_g6, k_g56, k_g8, k_g63, k_g10⟩)
              case o2 =>
                rintro f a w' ⟨rfl, HB, k_g2, k_g49, k_g6, k_g56, k_g8, k_g63, k_g10⟩ hf hd K hK
                exact valE (N := some 113) (.int .i64 (j : Int)) (hK _ _ ⟨rfl, HB, k_g2, k_g49, k_g6, k_g56, k_g8, k_g63, k_g10⟩)
              case o3 =>
                rintro f a w' ⟨rfl, HB, k_g2, k_g49, k_g6, k_g56, k_g8, k_g63, k_g10⟩ hf hd K hK
                have e1 := hd 1 (by kernel_rfl)
                have e2 := hd 2 (by kernel_rfl)
                rw [e1, e2]
                repeat first | rw [sel_true] | rw [selO_true]
                exact valE (N := some 114) (.pointer (some ((ad_lo.add (j * 4))))) (hK _ _ ⟨(by simp [Act.put, upd, sel_true, selO_true, e1, e2]), HB, k_g2, k_g49, k_g6, k_g56, k_g8, k_g63, k_g10⟩)
              case o4 =>
                rintro f a w' ⟨rfl, HB, k_g2, k_g49, k_g6, k_g56, k_g8, k_g63, k_g10⟩ hf hd K hK
                have e3 := hd 3 (by kernel_rfl)
                rw [e3]
                repeat first | rw [sel_true] | rw [selO_true]
                have hz0 := (HB.cell (World.block_lt_of_cell? w14 _ hx_lo0)).trans hx_lo0
                have hz1 := (HB.cell (World.block_lt_of_cell? w14 _ hx_lo1)).trans hx_lo1
                have hz2 := (HB.cell (World.block_lt_of_cell? w14 _ hx_lo2)).trans hx_lo2
                have hz3 := (HB.cell (World.block_lt_of_cell? w14 _ hx_lo3)).trans hx_lo3
                exact valE (N := some 115) (.agg #[.int .i64 ((rd_T51 lo (j : Int)).f0), .int .i64 ((rd_T51 lo (j : Int)).f1), .int .i64 ((rd_T51 lo (j : Int)).f2), .int .i64 ((rd_T51 lo (j : Int)).f3)]) (hK _ _ ⟨(by simp [Act.put, upd, sel_true, selO_true, e3]), HB, k_g2, k_g49, k_g6, k_g56, k_g8, k_g63, k_g10⟩)
              case o5 =>
                rintro f a w' ⟨rfl, HB, k_g2, k_g49, k_g6, k_g56, k_g8, k_g63, k_g10⟩ hf hd K hK
                exact valE (N := some 116) (.pointer (some ⟨g2, 2, none⟩)) (hK _ _ ⟨rfl, HB, k_g2, k_g49, k_g6, k_g56, k_g8, k_g63, k_g10⟩)
              case o6 =>
                rintro f a w' ⟨rfl, HB, k_g2, k_g49, k_g6, k_g56, k_g8, k_g63, k_g10⟩ hf hd K hK
                have e5 := hd 5 (by kernel_rfl)
                rw [e5]
                repeat first | rw [sel_true] | rw [selO_true]
                have hz := blk_cell k_g2
                exact valE (N := some 117) (.slice (some ad_l) (l.length) c) (hK _ _ ⟨(by simp [Act.put, upd, sel_true, selO_true, e5]), HB, k_g2, k_g49, k_g6, k_g56, k_g8, k_g63, k_g10⟩)
              case o7 =>
                rintro f a w' ⟨rfl, HB, k_g2, k_g49, k_g6, k_g56, k_g8, k_g63, k_g10⟩ hf hd K hK
                exact valE (N := some 118) (.int .i64 (j : Int)) (hK _ _ ⟨rfl, HB, k_g2, k_g49, k_g6, k_g56, k_g8, k_g63, k_g10⟩)
              case o8 =>
                rintro f a w' ⟨rfl, HB, k_g2, k_g49, k_g6, k_g56, k_g8, k_g63, k_g10⟩ hf hd K hK
                have e6 := hd 6 (by kernel_rfl)
                have e7 := hd 7 (by kernel_rfl)
                rw [e6, e7]
                repeat first | rw [sel_true] | rw [selO_true]
                exact valE (N := some 119) (.pointer (some ((ad_l.add (j * 4))))) (hK _ _ ⟨(by simp [Act.put, upd, sel_true, selO_true, e6, e7]), HB, k_g2, k_g49, k_g6, k_g56, k_g8, k_g63, k_g10⟩)
              case o9 =>
                rintro f a w' ⟨rfl, HB, k_g2, k_g49, k_g6, k_g56, k_g8, k_g63, k_g10⟩ hf hd K hK
                have e8 := hd 8 (by kernel_rfl)
                rw [e8]
                repeat first | rw [sel_true] | rw [selO_true]
                have hz0 := (HB.cell (World.block_lt_of_cell? w14 _ hx_l0)).trans hx_l0
                have hz1 := (HB.cell (World.block_lt_of_cell? w14 _ hx_l1)).trans hx_l1
                have hz2 := (HB.cell (World.block_lt_of_cell? w14 _ hx_l2)).trans hx_l2
                have hz3 := (HB.cell (World.block_lt_of_cell? w14 _ hx_l3)).trans hx_l3
                exact valE (N := some 120) (.agg #[.int .i64 ((rd_T51 l (j : Int)).f0), .int .i64 ((rd_T51 l (j : Int)).f1), .int .i64 ((rd_T51 l (j : Int)).f2), .int .i64 ((rd_T51 l (j : Int)).f3)]) (hK _ _ ⟨(by simp [Act.put, upd, sel_true, selO_true, e8]), HB, k_g2, k_g49, k_g6, k_g56, k_g8, k_g63, k_g10⟩)
              case o10 =>
                rintro f a w' ⟨rfl, HB, k_g2, k_g49, k_g6, k_g56, k_g8, k_g63, k_g10⟩ hf hd K hK
                have e4 := hd 4 (by kernel_rfl)
                have e9 := hd 9 (by kernel_rfl)
                rw [e4, e9]
                repeat first | rw [sel_true] | rw [selO_true]
                refine goesD (N := some 121) Try.func23 #[.agg #[.int .i64 ((rd_T51 lo (j : Int)).f0), .int .i64 ((rd_T51 lo (j : Int)).f1), .int .i64 ((rd_T51 lo (j : Int)).f2), .int .i64 ((rd_T51 lo (j : Int)).f3)], .agg #[.int .i64 ((rd_T51 l (j : Int)).f0), .int .i64 ((rd_T51 l (j : Int)).f1), .int .i64 ((rd_T51 l (j : Int)).f2), .int .i64 ((rd_T51 l (j : Int)).f3)]] ?_
                refine (imageeditorlaw16_below.calls _ _ _ _ _ _ _ _ true _ b1).mono ?_
                rintro e w1 ⟨rfl, hb⟩
                exact ⟨_, rfl, hK _ _ ⟨(by simp [Act.put, upd, sel_true, selO_true, e4, e9]), below_step HB hb, blk_below k_g2 hb, blk_below k_g49 hb, blk_below k_g6 hb, blk_below k_g56 hb, blk_below k_g8 hb, blk_below k_g63 hb, blk_below k_g10 hb⟩⟩
              case o11 =>
                rintro f a w' ⟨rfl, HB, k_g2, k_g49, k_g6, k_g56, k_g8, k_g63, k_g10⟩ hf hd K hK
                have e10 := hd 10 (by kernel_rfl)
                rw [e10]
                repeat first | rw [sel_true] | rw [selO_true]
                exact valE (N := some 122) (.bool false) (hK _ _ ⟨(by simp [Act.put, upd, sel_true, selO_true, e10]), HB, k_g2, k_g49, k_g6, k_g56, k_g8, k_g63, k_g10⟩)
              case o12 =>
                rintro f a w' ⟨rfl, HB, k_g2, k_g49, k_g6, k_g56, k_g8, k_g63, k_g10⟩ hf hd K hK
                have e11 := hd 11 (by kernel_rfl)
                rw [e11]
                repeat first | rw [sel_true] | rw [selO_true]
                exact valE (N := some 123) (.bool false) (hK _ _ ⟨(by simp [Act.put, upd, sel_true, selO_true, e11]), HB, k_g2, k_g49, k_g6, k_g56, k_g8, k_g63, k_g10⟩)
              case o13 =>
                rintro f a w' ⟨rfl, HB, k_g2, k_g49, k_g6, k_g56, k_g8, k_g63, k_g10⟩ hf hd K hK
                have e12 := hd 12 (by kernel_rfl)
                rw [e12]
                repeat first | rw [sel_true] | rw [selO_true]
                exact valE (N := some 124) (.pointer (some ⟨g2, 2, none⟩)) (hK _ _ ⟨(by simp [Act.put, upd, sel_true, selO_true, e12]), HB, k_g2, k_g49, k_g6, k_g56, k_g8, k_g63, k_g10⟩)
              case o14 =>
                rintro f a w' ⟨rfl, HB, k_g2, k_g49, k_g6, k_g56, k_g8, k_g63, k_g10⟩ hf hd K hK
                have e12 := hd 12 (by kernel_rfl)
                have e13 := hd 13 (by kernel_rfl)
                rw [e12, e13]
                repeat first | rw [sel_true] | rw [selO_true]
                have hz := blk_cell k_g2
                exact valE (N := some 125) (.slice (some ad_l) (l.length) c) (hK _ _ ⟨(by simp [Act.put, upd, sel_true, selO_true, e12, e13]), HB, k_g2, k_g49, k_g6, k_g56, k_g8, k_g63, k_g10⟩)
              case o15 =>
                rintro f a w' ⟨rfl, HB, k_g2, k_g49, k_g6, k_g56, k_g8, k_g63, k_g10⟩ hf hd K hK
                have e12 := hd 12 (by kernel_rfl)
                rw [e12]
                repeat first | rw [sel_true] | rw [selO_true]
                exact valE (N := some 126) (.int .i64 (j : Int)) (hK _ _ ⟨(by simp [Act.put, upd, sel_true, selO_true, e12]), HB, k_g2, k_g49, k_g6, k_g56, k_g8, k_g63, k_g10⟩)
              case o16 =>
                rintro f a w' ⟨rfl, HB, k_g2, k_g49, k_g6, k_g56, k_g8, k_g63, k_g10⟩ hf hd K hK
                have e12 := hd 12 (by kernel_rfl)
                have e14 := hd 14 (by kernel_rfl)
                have e15 := hd 15 (by kernel_rfl)
                rw [e12, e14, e15]
                repeat first | rw [sel_true] | rw [selO_true]
                exact valE (N := some 127) (.pointer (some ((ad_l.add (j * 4))))) (hK _ _ ⟨(by simp [Act.put, upd, sel_true, selO_true, e12, e14, e15]), HB, k_g2, k_g49, k_g6, k_g56, k_g8, k_g63, k_g10⟩)
              case o17 =>
                rintro f a w' ⟨rfl, HB, k_g2, k_g49, k_g6, k_g56, k_g8, k_g63, k_g10⟩ hf hd K hK
                have e12 := hd 12 (by kernel_rfl)
                have e16 := hd 16 (by kernel_rfl)
                rw [e12, e16]
                repeat first | rw [sel_true] | rw [selO_true]
                have hz0 := (HB.cell (World.block_lt_of_cell? w14 _ hx_l0)).trans hx_l0
                have hz1 := (HB.cell (World.block_lt_of_cell? w14 _ hx_l1)).trans hx_l1
                have hz2 := (HB.cell (World.block_lt_of_cell? w14 _ hx_l2)).trans hx_l2
                have hz3 := (HB.cell (World.block_lt_of_cell? w14 _ hx_l3)).trans hx_l3
                exact valE (N := some 128) (.agg #[.int .i64 ((rd_T51 l (j : Int)).f0), .int .i64 ((rd_T51 l (j : Int)).f1), .int .i64 ((rd_T51 l (j : Int)).f2), .int .i64 ((rd_T51 l (j : Int)).f3)]) (hK _ _ ⟨(by simp [Act.put, upd, sel_true, selO_true, e12, e16]), HB, k_g2, k_g49, k_g6, k_g56, k_g8, k_g63, k_g10⟩)
              case o18 =>
                rintro f a w' ⟨rfl, HB, k_g2, k_g49, k_g6, k_g56, k_g8, k_g63, k_g10⟩ hf hd K hK
                have e12 := hd 12 (by kernel_rfl)
                rw [e12]
                repeat first | rw [sel_true] | rw [selO_true]
                exact valE (N := some 129) (.pointer (some ⟨g10, 2, none⟩)) (hK _ _ ⟨(by simp [Act.put, upd, sel_true, selO_true, e12]), HB, k_g2, k_g49, k_g6, k_g56, k_g8, k_g63, k_g10⟩)
              case o19 =>
                rintro f a w' ⟨rfl, HB, k_g2, k_g49, k_g6, k_g56, k_g8, k_g63, k_g10⟩ hf hd K hK
                have e12 := hd 12 (by kernel_rfl)
                have e18 := hd 18 (by kernel_rfl)
                rw [e12, e18]
                repeat first | rw [sel_true] | rw [selO_true]
                have hz := blk_cell k_g10
                exact valE (N := some 130) (.slice (some ad_hi) (hi.length) c_hi) (hK _ _ ⟨(by simp [Act.put, upd, sel_true, selO_true, e12, e18]), HB, k_g2, k_g49, k_g6, k_g56, k_g8, k_g63, k_g10⟩)
              case o20 =>
                rintro f a w' ⟨rfl, HB, k_g2, k_g49, k_g6, k_g56, k_g8, k_g63, k_g10⟩ hf hd K hK
                have e12 := hd 12 (by kernel_rfl)
                rw [e12]
                repeat first | rw [sel_true] | rw [selO_true]
                exact valE (N := some 131) (.int .i64 (j : Int)) (hK _ _ ⟨(by simp [Act.put, upd, sel_true, selO_true, e12]), HB, k_g2, k_g49, k_g6, k_g56, k_g8, k_g63, k_g10⟩)
              case o21 =>
                rintro f a w' ⟨rfl, HB, k_g2, k_g49, k_g6, k_g56, k_g8, k_g63, k_g10⟩ hf hd K hK
                have e12 := hd 12 (by kernel_rfl)
                have e19 := hd 19 (by kernel_rfl)
                have e20 := hd 20 (by kernel_rfl)
                rw [e12, e19, e20]
                repeat first | rw [sel_true] | rw [selO_true]
                exact valE (N := some 132) (.pointer (some ((ad_hi.add (j * 4))))) (hK _ _ ⟨(by simp [Act.put, upd, sel_true, selO_true, e12, e19, e20]), HB, k_g2, k_g49, k_g6, k_g56, k_g8, k_g63, k_g10⟩)
              case o22 =>
                rintro f a w' ⟨rfl, HB, k_g2, k_g49, k_g6, k_g56, k_g8, k_g63, k_g10⟩ hf hd K hK
                have e12 := hd 12 (by kernel_rfl)
                have e21 := hd 21 (by kernel_rfl)
                rw [e12, e21]
                repeat first | rw [sel_true] | rw [selO_true]
                have hz0 := (HB.cell (World.block_lt_of_cell? w14 _ hx_hi0)).trans hx_hi0
                have hz1 := (HB.cell (World.block_lt_of_cell? w14 _ hx_hi1)).trans hx_hi1
                have hz2 := (HB.cell (World.block_lt_of_cell? w14 _ hx_hi2)).trans hx_hi2
                have hz3 := (HB.cell (World.block_lt_of_cell? w14 _ hx_hi3)).trans hx_hi3
                exact valE (N := some 133) (.agg #[.int .i64 ((rd_T51 hi (j : Int)).f0), .int .i64 ((rd_T51 hi (j : Int)).f1), .int .i64 ((rd_T51 hi (j : Int)).f2), .int .i64 ((rd_T51 hi (j : Int)).f3)]) (hK _ _ ⟨(by simp [Act.put, upd, sel_true, selO_true, e12, e21]), HB, k_g2, k_g49, k_g6, k_g56, k_g8, k_g63, k_g10⟩)
              case o23 =>
                rintro f a w' ⟨rfl, HB, k_g2, k_g49, k_g6, k_g56, k_g8, k_g63, k_g10⟩ hf hd K hK
                have e12 := hd 12 (by kernel_rfl)
                have e17 := hd 17 (by kernel_rfl)
                have e22 := hd 22 (by kernel_rfl)
                rw [e12, e17, e22]
                repeat first | rw [sel_true] | rw [selO_true]
                refine goesD (N := some 134) Try.func23 #[.agg #[.int .i64 ((rd_T51 l (j : Int)).f0), .int .i64 ((rd_T51 l (j : Int)).f1), .int .i64 ((rd_T51 l (j : Int)).f2), .int .i64 ((rd_T51 l (j : Int)).f3)], .agg #[.int .i64 ((rd_T51 hi (j : Int)).f0), .int .i64 ((rd_T51 hi (j : Int)).f1), .int .i64 ((rd_T51 hi (j : Int)).f2), .int .i64 ((rd_T51 hi (j : Int)).f3)]] ?_
                refine (imageeditorlaw16_below.calls _ _ _ _ _ _ _ _ true _ b2).mono ?_
                rintro e w1 ⟨rfl, hb⟩
                exact ⟨_, rfl, hK _ _ ⟨(by simp [Act.put, upd, sel_true, selO_true, e12, e17, e22]), below_step HB hb, blk_below k_g2 hb, blk_below k_g49 hb, blk_below k_g6 hb, blk_below k_g56 hb, blk_below k_g8 hb, blk_below k_g63 hb, blk_below k_g10 hb⟩⟩
              case o24 =>
                rintro f a w' ⟨rfl, HB, k_g2, k_g49, k_g6, k_g56, k_g8, k_g63, k_g10⟩ hf hd K hK
                have e12 := hd 12 (by kernel_rfl)
                have e23 := hd 23 (by kernel_rfl)
                rw [e12, e23]
                repeat first | rw [sel_true] | rw [selO_true]
                exact valE (N := some 135) (.bool false) (hK _ _ ⟨(by simp [Act.put, upd, sel_true, selO_true, e12, e23]), HB, k_g2, k_g49, k_g6, k_g56, k_g8, k_g63, k_g10⟩)
              case o25 =>
                rintro f a w' ⟨rfl, HB, k_g2, k_g49, k_g6, k_g56, k_g8, k_g63, k_g10⟩ hf hd K hK
                have e12 := hd 12 (by kernel_rfl)
                have e24 := hd 24 (by kernel_rfl)
                rw [e12, e24]
                repeat first | rw [sel_true] | rw [selO_true]
                exact valE (N := some 136) (.bool false) (hK _ _ ⟨(by simp [Act.put, upd, sel_true, selO_true, e12, e24]), HB, k_g2, k_g49, k_g6, k_g56, k_g8, k_g63, k_g10⟩)
              case o26 =>
                rintro f a w' ⟨rfl, HB, k_g2, k_g49, k_g6, k_g56, k_g8, k_g63, k_g10⟩ hf hd K hK
                have e25 := hd 25 (by kernel_rfl)
                rw [e25]
                repeat first | rw [sel_true] | rw [selO_true]
                exact valE (N := some 137) (.bool false) (hK _ _ ⟨(by simp [Act.put, upd, sel_true, selO_true, e25]), HB, k_g2, k_g49, k_g6, k_g56, k_g8, k_g63, k_g10⟩)
              case o27 =>
                rintro f a w' ⟨rfl, HB, k_g2, k_g49, k_g6, k_g56, k_g8, k_g63, k_g10⟩ hf hd K hK
                have e26 := hd 26 (by kernel_rfl)
                rw [e26]
                repeat first | rw [sel_true] | rw [selO_true]
                exact valE (N := some 138) (.pointer (some ⟨g6, 2, none⟩)) (hK _ _ ⟨(by simp [Act.put, upd, sel_true, selO_true, e26]), HB, k_g2, k_g49, k_g6, k_g56, k_g8, k_g63, k_g10⟩)
              case o28 =>
                rintro f a w' ⟨rfl, HB, k_g2, k_g49, k_g6, k_g56, k_g8, k_g63, k_g10⟩ hf hd K hK
                have e26 := hd 26 (by kernel_rfl)
                have e27 := hd 27 (by kernel_rfl)
                rw [e26, e27]
                repeat first | rw [sel_true] | rw [selO_true]
                have hz := blk_cell k_g6
                exact valE (N := some 139) (.slice (some ad_lo) (lo.length) c_lo) (hK _ _ ⟨(by simp [Act.put, upd, sel_true, selO_true, e26, e27]), HB, k_g2, k_g49, k_g6, k_g56, k_g8, k_g63, k_g10⟩)
              case o29 =>
                rintro f a w' ⟨rfl, HB, k_g2, k_g49, k_g6, k_g56, k_g8, k_g63, k_g10⟩ hf hd K hK
                have e26 := hd 26 (by kernel_rfl)
                rw [e26]
                repeat first | rw [sel_true] | rw [selO_true]
                exact valE (N := some 140) (.int .i64 (j : Int)) (hK _ _ ⟨(by simp [Act.put, upd, sel_true, selO_true, e26]), HB, k_g2, k_g49, k_g6, k_g56, k_g8, k_g63, k_g10⟩)
              case o30 =>
                rintro f a w' ⟨rfl, HB, k_g2, k_g49, k_g6, k_g56, k_g8, k_g63, k_g10⟩ hf hd K hK
                have e26 := hd 26 (by kernel_rfl)
                have e28 := hd 28 (by kernel_rfl)
                have e29 := hd 29 (by kernel_rfl)
                rw [e26, e28, e29]
                repeat first | rw [sel_true] | rw [selO_true]
                exact valE (N := some 141) (.pointer (some ((ad_lo.add (j * 4))))) (hK _ _ ⟨(by simp [Act.put, upd, sel_true, selO_true, e26, e28, e29]), HB, k_g2, k_g49, k_g6, k_g56, k_g8, k_g63, k_g10⟩)
              case o31 =>
                rintro f a w' ⟨rfl, HB, k_g2, k_g49, k_g6, k_g56, k_g8, k_g63, k_g10⟩ hf hd K hK
                have e26 := hd 26 (by kernel_rfl)
                have e30 := hd 30 (by kernel_rfl)
                rw [e26, e30]
                repeat first | rw [sel_true] | rw [selO_true]
                have hz0 := (HB.cell (World.block_lt_of_cell? w14 _ hx_lo0)).trans hx_lo0
                have hz1 := (HB.cell (World.block_lt_of_cell? w14 _ hx_lo1)).trans hx_lo1
                have hz2 := (HB.cell (World.block_lt_of_cell? w14 _ hx_lo2)).trans hx_lo2
                have hz3 := (HB.cell (World.block_lt_of_cell? w14 _ hx_lo3)).trans hx_lo3
                exact valE (N := some 142) (.agg #[.int .i64 ((rd_T51 lo (j : Int)).f0), .int .i64 ((rd_T51 lo (j : Int)).f1), .int .i64 ((rd_T51 lo (j : Int)).f2), .int .i64 ((rd_T51 lo (j : Int)).f3)]) (hK _ _ ⟨(by simp [Act.put, upd, sel_true, selO_true, e26, e30]), HB, k_g2, k_g49, k_g6, k_g56, k_g8, k_g63, k_g10⟩)
              case o32 =>
                rintro f a w' ⟨rfl, HB, k_g2, k_g49, k_g6, k_g56, k_g8, k_g63, k_g10⟩ hf hd K hK
                have e26 := hd 26 (by kernel_rfl)
                rw [e26]
                repeat first | rw [sel_true] | rw [selO_true]
                exact valE (N := some 143) (.pointer (some ⟨g8, 2, none⟩)) (hK _ _ ⟨(by simp [Act.put, upd, sel_true, selO_true, e26]), HB, k_g2, k_g49, k_g6, k_g56, k_g8, k_g63, k_g10⟩)
              case o33 =>
                rintro f a w' ⟨rfl, HB, k_g2, k_g49, k_g6, k_g56, k_g8, k_g63, k_g10⟩ hf hd K hK
                have e26 := hd 26 (by kernel_rfl)
                have e32 := hd 32 (by kernel_rfl)
                rw [e26, e32]
                repeat first | rw [sel_true] | rw [selO_true]
                have hz := blk_cell k_g8
                exact valE (N := some 144) (.slice (some ad_md) (md.length) c_md) (hK _ _ ⟨(by simp [Act.put, upd, sel_true, selO_true, e26, e32]), HB, k_g2, k_g49, k_g6, k_g56, k_g8, k_g63, k_g10⟩)
              case o34 =>
                rintro f a w' ⟨rfl, HB, k_g2, k_g49, k_g6, k_g56, k_g8, k_g63, k_g10⟩ hf hd K hK
                have e26 := hd 26 (by kernel_rfl)
                rw [e26]
                repeat first | rw [sel_true] | rw [selO_true]
                exact valE (N := some 145) (.int .i64 (j : Int)) (hK _ _ ⟨(by simp [Act.put, upd, sel_true, selO_true, e26]), HB, k_g2, k_g49, k_g6, k_g56, k_g8, k_g63, k_g10⟩)
              case o35 =>
                rintro f a w' ⟨rfl, HB, k_g2, k_g49, k_g6, k_g56, k_g8, k_g63, k_g10⟩ hf hd K hK
                have e26 := hd 26 (by kernel_rfl)
                have e33 := hd 33 (by kernel_rfl)
                have e34 := hd 34 (by kernel_rfl)
                rw [e26, e33, e34]
                repeat first | rw [sel_true] | rw [selO_true]
                exact valE (N := some 146) (.pointer (some ((ad_md.add (j * 4))))) (hK _ _ ⟨(by simp [Act.put, upd, sel_true, selO_true, e26, e33, e34]), HB, k_g2, k_g49, k_g6, k_g56, k_g8, k_g63, k_g10⟩)
              case o36 =>
                rintro f a w' ⟨rfl, HB, k_g2, k_g49, k_g6, k_g56, k_g8, k_g63, k_g10⟩ hf hd K hK
                have e26 := hd 26 (by kernel_rfl)
                have e35 := hd 35 (by kernel_rfl)
                rw [e26, e35]
                repeat first | rw [sel_true] | rw [selO_true]
                have hz0 := (HB.cell (World.block_lt_of_cell? w14 _ hx_md0)).trans hx_md0
                have hz1 := (HB.cell (World.block_lt_of_cell? w14 _ hx_md1)).trans hx_md1
                have hz2 := (HB.cell (World.block_lt_of_cell? w14 _ hx_md2)).trans hx_md2
                have hz3 := (HB.cell (World.block_lt_of_cell? w14 _ hx_md3)).trans hx_md3
                exact valE (N := some 147) (.agg #[.int .i64 ((rd_T51 md (j : Int)).f0), .int .i64 ((rd_T51 md (j : Int)).f1), .int .i64 ((rd_T51 md (j : Int)).f2), .int .i64 ((rd_T51 md (j : Int)).f3)]) (hK _ _ ⟨(by simp [Act.put, upd, sel_true, selO_true, e26, e35]), HB, k_g2, k_g49, k_g6, k_g56, k_g8, k_g63, k_g10⟩)
              case o37 =>
                rintro f a w' ⟨rfl, HB, k_g2, k_g49, k_g6, k_g56, k_g8, k_g63, k_g10⟩ hf hd K hK
                have e26 := hd 26 (by kernel_rfl)
                have e31 := hd 31 (by kernel_rfl)
                have e36 := hd 36 (by kernel_rfl)
                rw [e26, e31, e36]
                repeat first | rw [sel_true] | rw [selO_true]
                refine goesD (N := some 148) Try.func23 #[.agg #[.int .i64 ((rd_T51 lo (j : Int)).f0), .int .i64 ((rd_T51 lo (j : Int)).f1), .int .i64 ((rd_T51 lo (j : Int)).f2), .int .i64 ((rd_T51 lo (j : Int)).f3)], .agg #[.int .i64 ((rd_T51 md (j : Int)).f0), .int .i64 ((rd_T51 md (j : Int)).f1), .int .i64 ((rd_T51 md (j : Int)).f2), .int .i64 ((rd_T51 md (j : Int)).f3)]] ?_
                refine (imageeditorlaw16_below.calls _ _ _ _ _ _ _ _ true _ b3).mono ?_
                rintro e w1 ⟨rfl, hb⟩
                exact ⟨_, rfl, hK _ _ ⟨(by simp [Act.put, upd, sel_true, selO_true, e26, e31, e36]), below_step HB hb, blk_below k_g2 hb, blk_below k_g49 hb, blk_below k_g6 hb, blk_below k_g56 hb, blk_below k_g8 hb, blk_below k_g63 hb, blk_below k_g10 hb⟩⟩
              case o38 =>
                rintro f a w' ⟨rfl, HB, k_g2, k_g49, k_g6, k_g56, k_g8, k_g63, k_g10⟩ hf hd K hK
                have e26 := hd 26 (by kernel_rfl)
                have e37 := hd 37 (by kernel_rfl)
                rw [e26, e37]
                repeat first | rw [sel_true] | rw [selO_true]
                exact valE (N := some 149) (.bool false) (hK _ _ ⟨(by simp [Act.put, upd, sel_true, selO_true, e26, e37]), HB, k_g2, k_g49, k_g6, k_g56, k_g8, k_g63, k_g10⟩)
              case o39 =>
                rintro f a w' ⟨rfl, HB, k_g2, k_g49, k_g6, k_g56, k_g8, k_g63, k_g10⟩ hf hd K hK
                have e26 := hd 26 (by kernel_rfl)
                have e38 := hd 38 (by kernel_rfl)
                rw [e26, e38]
                repeat first | rw [sel_true] | rw [selO_true]
                exact valE (N := some 150) (.bool false) (hK _ _ ⟨(by simp [Act.put, upd, sel_true, selO_true, e26, e38]), HB, k_g2, k_g49, k_g6, k_g56, k_g8, k_g63, k_g10⟩)
              case o40 =>
                rintro f a w' ⟨rfl, HB, k_g2, k_g49, k_g6, k_g56, k_g8, k_g63, k_g10⟩ hf hd K hK
                have e39 := hd 39 (by kernel_rfl)
                rw [e39]
                repeat first | rw [sel_true] | rw [selO_true]
                exact valE (N := some 151) (.bool false) (hK _ _ ⟨(by simp [Act.put, upd, sel_true, selO_true, e39]), HB, k_g2, k_g49, k_g6, k_g56, k_g8, k_g63, k_g10⟩)
              case o41 =>
                rintro f a w' ⟨rfl, HB, k_g2, k_g49, k_g6, k_g56, k_g8, k_g63, k_g10⟩ hf hd K hK
                have e40 := hd 40 (by kernel_rfl)
                rw [e40]
                repeat first | rw [sel_true] | rw [selO_true]
                exact valE (N := some 152) (.pointer (some ⟨g8, 2, none⟩)) (hK _ _ ⟨(by simp [Act.put, upd, sel_true, selO_true, e40]), HB, k_g2, k_g49, k_g6, k_g56, k_g8, k_g63, k_g10⟩)
              case o42 =>
                rintro f a w' ⟨rfl, HB, k_g2, k_g49, k_g6, k_g56, k_g8, k_g63, k_g10⟩ hf hd K hK
                have e40 := hd 40 (by kernel_rfl)
                have e41 := hd 41 (by kernel_rfl)
                rw [e40, e41]
                repeat first | rw [sel_true] | rw [selO_true]
                have hz := blk_cell k_g8
                exact valE (N := some 153) (.slice (some ad_md) (md.length) c_md) (hK _ _ ⟨(by simp [Act.put, upd, sel_true, selO_true, e40, e41]), HB, k_g2, k_g49, k_g6, k_g56, k_g8, k_g63, k_g10⟩)
              case o43 =>
                rintro f a w' ⟨rfl, HB, k_g2, k_g49, k_g6, k_g56, k_g8, k_g63, k_g10⟩ hf hd K hK
                have e40 := hd 40 (by kernel_rfl)
                rw [e40]
                repeat first | rw [sel_true] | rw [selO_true]
                exact valE (N := some 154) (.int .i64 (j : Int)) (hK _ _ ⟨(by simp [Act.put, upd, sel_true, selO_true, e40]), HB, k_g2, k_g49, k_g6, k_g56, k_g8, k_g63, k_g10⟩)
              case o44 =>
                rintro f a w' ⟨rfl, HB, k_g2, k_g49, k_g6, k_g56, k_g8, k_g63, k_g10⟩ hf hd K hK
                have e40 := hd 40 (by kernel_rfl)
                have e42 := hd 42 (by kernel_rfl)
                have e43 := hd 43 (by kernel_rfl)
                rw [e40, e42, e43]
                repeat first | rw [sel_true] | rw [selO_true]
                exact valE (N := some 155) (.pointer (some ((ad_md.add (j * 4))))) (hK _ _ ⟨(by simp [Act.put, upd, sel_true, selO_true, e40, e42, e43]), HB, k_g2, k_g49, k_g6, k_g56, k_g8, k_g63, k_g10⟩)
              case o45 =>
                rintro f a w' ⟨rfl, HB, k_g2, k_g49, k_g6, k_g56, k_g8, k_g63, k_g10⟩ hf hd K hK
                have e40 := hd 40 (by kernel_rfl)
                have e44 := hd 44 (by kernel_rfl)
                rw [e40, e44]
                repeat first | rw [sel_true] | rw [selO_true]
                have hz0 := (HB.cell (World.block_lt_of_cell? w14 _ hx_md0)).trans hx_md0
                have hz1 := (HB.cell (World.block_lt_of_cell? w14 _ hx_md1)).trans hx_md1
                have hz2 := (HB.cell (World.block_lt_of_cell? w14 _ hx_md2)).trans hx_md2
                have hz3 := (HB.cell (World.block_lt_of_cell? w14 _ hx_md3)).trans hx_md3
                exact valE (N := some 156) (.agg #[.int .i64 ((rd_T51 md (j : Int)).f0), .int .i64 ((rd_T51 md (j : Int)).f1), .int .i64 ((rd_T51 md (j : Int)).f2), .int .i64 ((rd_T51 md (j : Int)).f3)]) (hK _ _ ⟨(by simp [Act.put, upd, sel_true, selO_true, e40, e44]), HB, k_g2, k_g49, k_g6, k_g56, k_g8, k_g63, k_g10⟩)
              case o46 =>
                rintro f a w' ⟨rfl, HB, k_g2, k_g49, k_g6, k_g56, k_g8, k_g63, k_g10⟩ hf hd K hK
                have e40 := hd 40 (by kernel_rfl)
                rw [e40]
                repeat first | rw [sel_true] | rw [selO_true]
                exact valE (N := some 157) (.pointer (some ⟨g10, 2, none⟩)) (hK _ _ ⟨(by simp [Act.put, upd, sel_true, selO_true, e40]), HB, k_g2, k_g49, k_g6, k_g56, k_g8, k_g63, k_g10⟩)
              case o47 =>
                rintro f a w' ⟨rfl, HB, k_g2, k_g49, k_g6, k_g56, k_g8, k_g63, k_g10⟩ hf hd K hK
                have e40 := hd 40 (by kernel_rfl)
                have e46 := hd 46 (by kernel_rfl)
                rw [e40, e46]
                repeat first | rw [sel_true] | rw [selO_true]
                have hz := blk_cell k_g10
                exact valE (N := some 158) (.slice (some ad_hi) (hi.length) c_hi) (hK _ _ ⟨(by simp [Act.put, upd, sel_true, selO_true, e40, e46]), HB, k_g2, k_g49, k_g6, k_g56, k_g8, k_g63, k_g10⟩)
              case o48 =>
                rintro f a w' ⟨rfl, HB, k_g2, k_g49, k_g6, k_g56, k_g8, k_g63, k_g10⟩ hf hd K hK
                have e40 := hd 40 (by kernel_rfl)
                rw [e40]
                repeat first | rw [sel_true] | rw [selO_true]
                exact valE (N := some 159) (.int .i64 (j : Int)) (hK _ _ ⟨(by simp [Act.put, upd, sel_true, selO_true, e40]), HB, k_g2, k_g49, k_g6, k_g56, k_g8, k_g63, k_g10⟩)
              case o49 =>
                rintro f a w' ⟨rfl, HB, k_g2, k_g49, k_g6, k_g56, k_g8, k_g63, k_g10⟩ hf hd K hK
                have e40 := hd 40 (by kernel_rfl)
                have e47 := hd 47 (by kernel_rfl)
                have e48 := hd 48 (by kernel_rfl)
                rw [e40, e47, e48]
                repeat first | rw [sel_true] | rw [selO_true]
                exact valE (N := some 160) (.pointer (some ((ad_hi.add (j * 4))))) (hK _ _ ⟨(by simp [Act.put, upd, sel_true, selO_true, e40, e47, e48]), HB, k_g2, k_g49, k_g6, k_g56, k_g8, k_g63, k_g10⟩)
              case o50 =>
                rintro f a w' ⟨rfl, HB, k_g2, k_g49, k_g6, k_g56, k_g8, k_g63, k_g10⟩ hf hd K hK
                have e40 := hd 40 (by kernel_rfl)
                have e49 := hd 49 (by kernel_rfl)
                rw [e40, e49]
                repeat first | rw [sel_true] | rw [selO_true]
                have hz0 := (HB.cell (World.block_lt_of_cell? w14 _ hx_hi0)).trans hx_hi0
                have hz1 := (HB.cell (World.block_lt_of_cell? w14 _ hx_hi1)).trans hx_hi1
                have hz2 := (HB.cell (World.block_lt_of_cell? w14 _ hx_hi2)).trans hx_hi2
                have hz3 := (HB.cell (World.block_lt_of_cell? w14 _ hx_hi3)).trans hx_hi3
                exact valE (N := some 161) (.agg #[.int .i64 ((rd_T51 hi (j : Int)).f0), .int .i64 ((rd_T51 hi (j : Int)).f1), .int .i64 ((rd_T51 hi (j : Int)).f2), .int .i64 ((rd_T51 hi (j : Int)).f3)]) (hK _ _ ⟨(by simp [Act.put, upd, sel_true, selO_true, e40, e49]), HB, k_g2, k_g49, k_g6, k_g56, k_g8, k_g63, k_g10⟩)
              case o51 =>
                rintro f a w' ⟨rfl, HB, k_g2, k_g49, k_g6, k_g56, k_g8, k_g63, k_g10⟩ hf hd K hK
                have e40 := hd 40 (by kernel_rfl)
                have e45 := hd 45 (by kernel_rfl)
                have e50 := hd 50 (by kernel_rfl)
                rw [e40, e45, e50]
                repeat first | rw [sel_true] | rw [selO_true]
                refine goesD (N := some 162) Try.func23 #[.agg #[.int .i64 ((rd_T51 md (j : Int)).f0), .int .i64 ((rd_T51 md (j : Int)).f1), .int .i64 ((rd_T51 md (j : Int)).f2), .int .i64 ((rd_T51 md (j : Int)).f3)], .agg #[.int .i64 ((rd_T51 hi (j : Int)).f0), .int .i64 ((rd_T51 hi (j : Int)).f1), .int .i64 ((rd_T51 hi (j : Int)).f2), .int .i64 ((rd_T51 hi (j : Int)).f3)]] ?_
                refine (imageeditorlaw16_below.calls _ _ _ _ _ _ _ _ true _ b4).mono ?_
                rintro e w1 ⟨rfl, hb⟩
                exact ⟨_, rfl, hK _ _ ⟨(by simp [Act.put, upd, sel_true, selO_true, e40, e45, e50]), below_step HB hb, blk_below k_g2 hb, blk_below k_g49 hb, blk_below k_g6 hb, blk_below k_g56 hb, blk_below k_g8 hb, blk_below k_g63 hb, blk_below k_g10 hb⟩⟩
              case o52 =>
                rintro f a w' ⟨rfl, HB, k_g2, k_g49, k_g6, k_g56, k_g8, k_g63, k_g10⟩ hf hd K hK
                have e40 := hd 40 (by kernel_rfl)
                have e51 := hd 51 (by kernel_rfl)
                rw [e40, e51]
                repeat first | rw [sel_true] | rw [selO_true]
                exact valE (N := some 163) (.bool false) (hK _ _ ⟨(by simp [Act.put, upd, sel_true, selO_true, e40, e51]), HB, k_g2, k_g49, k_g6, k_g56, k_g8, k_g63, k_g10⟩)
              case o53 =>
                rintro f a w' ⟨rfl, HB, k_g2, k_g49, k_g6, k_g56, k_g8, k_g63, k_g10⟩ hf hd K hK
                have e40 := hd 40 (by kernel_rfl)
                have e52 := hd 52 (by kernel_rfl)
                rw [e40, e52]
                repeat first | rw [sel_true] | rw [selO_true]
                exact valE (N := some 164) (.bool false) (hK _ _ ⟨(by simp [Act.put, upd, sel_true, selO_true, e40, e52]), HB, k_g2, k_g49, k_g6, k_g56, k_g8, k_g63, k_g10⟩)
            case fin =>
              clear HB B_g2 B_g49 B_g6 B_g56 B_g8 B_g63 B_g10
              rintro f a w' hall ⟨rfl, HB, k_g2, k_g49, k_g6, k_g56, k_g8, k_g63, k_g10⟩
              have h0 := hall 0 (by decide)
              have h1 := hall 1 (by decide)
              have h2 := hall 2 (by decide)
              have h3 := hall 3 (by decide)
              have h4 := hall 4 (by decide)
              have h5 := hall 5 (by decide)
              have h6 := hall 6 (by decide)
              have h7 := hall 7 (by decide)
              have h8 := hall 8 (by decide)
              have h9 := hall 9 (by decide)
              have h10 := hall 10 (by decide)
              have h11 := hall 11 (by decide)
              have h12 := hall 12 (by decide)
              have h13 := hall 13 (by decide)
              have h14 := hall 14 (by decide)
              have h15 := hall 15 (by decide)
              have h16 := hall 16 (by decide)
              have h17 := hall 17 (by decide)
              have h18 := hall 18 (by decide)
              have h19 := hall 19 (by decide)
              have h20 := hall 20 (by decide)
              have h21 := hall 21 (by decide)
              have h22 := hall 22 (by decide)
              have h23 := hall 23 (by decide)
              have h24 := hall 24 (by decide)
              have h25 := hall 25 (by decide)
              have h26 := hall 26 (by decide)
              have h27 := hall 27 (by decide)
              have h28 := hall 28 (by decide)
              have h29 := hall 29 (by decide)
              have h30 := hall 30 (by decide)
              have h31 := hall 31 (by decide)
              have h32 := hall 32 (by decide)
              have h33 := hall 33 (by decide)
              have h34 := hall 34 (by decide)
              have h35 := hall 35 (by decide)
              have h36 := hall 36 (by decide)
              have h37 := hall 37 (by decide)
              have h38 := hall 38 (by decide)
              have h39 := hall 39 (by decide)
              have h40 := hall 40 (by decide)
              have h41 := hall 41 (by decide)
              have h42 := hall 42 (by decide)
              have h43 := hall 43 (by decide)
              have h44 := hall 44 (by decide)
              have h45 := hall 45 (by decide)
              have h46 := hall 46 (by decide)
              have h47 := hall 47 (by decide)
              have h48 := hall 48 (by decide)
              have h49 := hall 49 (by decide)
              have h50 := hall 50 (by decide)
              have h51 := hall 51 (by decide)
              have h52 := hall 52 (by decide)
              have h53 := hall 53 (by decide)
              rw [h0, h1, h2, h3, h4, h5, h6, h7, h8, h9, h10, h11, h12, h13, h14, h15, h16, h17, h18, h19, h20, h21, h22, h23, h24, h25, h26, h27, h28, h29, h30, h31, h32, h33, h34, h35, h36, h37, h38, h39, h40, h41, h42, h43, h44, h45, h46, h47, h48, h49, h50, h51, h52, h53]
              simp only [sel_true, selO_true]
              replace HB := am HB
              have B_g2 := am k_g2
              have B_g49 := am k_g49
              have B_g6 := am k_g6
              have B_g56 := am k_g56
              have B_g8 := am k_g8
              have B_g63 := am k_g63
              have B_g10 := am k_g10
              clear hall h0 h1 h2 h3 h4 h5 h6 h7 h8 h9 h10 h11 h12 h13 h14 h15 h16 h17 h18 h19 h20 h21 h22 h23 h24 h25 h26 h27 h28 h29 h30 h31 h32 h33 h34 h35 h36 h37 h38 h39 h40 h41 h42 h43 h44 h45 h46 h47 h48 h49 h50 h51 h52 h53 k_g2 k_g49 k_g6 k_g56 k_g8 k_g63 k_g10
              (try clear f)
              go_wp2
              go_roundg k12
              case measure => omega
              case rel => exact ⟨j + 1, by simp, ⟨by omega, by omega⟩, B_g2, B_g49, B_g6, B_g56, B_g8, B_g63, B_g10, HB⟩
        · have c12 : decide ((j : Int) < (l.length : Int)) = false := decide_eq_false (by omega)
          have hz_g2 := blk_cell B_g2.out
          go_upto_region 18 with (fail)
          by_cases hz : rad = 0
          · obtain ⟨bx, e_bx, s_lo, s_md, s_hi, s_bx⟩ := hz0 hz
            have t9 : (rad == 0) = true := beq_iff_eq.mpr hz
            go_wp2_with (first
              | ((with_reducible refine gate_dst (N := 169) rfl ?_); refine lit_event2 ?hg (N := 169) ?hd (cs := #[.int .i64 0]) (t := 3) (n := 1) ?hr ?_; (case hd => rfl); (case hg => rfl); (case hr => first | (go_simp; done) | (go_simp; rfl) | kernel_rfl); intro g169 hg w15 hx hb; have l_g2_g169 := lB hg B_g2; have l_g49_g169 := lB hg B_g49; have l_g6_g169 := lB hg B_g6; have l_g56_g169 := lB hg B_g56; have l_g8_g169 := lB hg B_g8; have l_g63_g169 := lB hg B_g63; have l_g10_g169 := lB hg B_g10; have z_g169 := zB hg HB; clear hz_g2; replace B_g2 := bb B_g2 hb; replace B_g49 := bb B_g49 hb; replace B_g6 := bb B_g6 hb; replace B_g56 := bb B_g56 hb; replace B_g8 := bb B_g8 hb; replace B_g63 := bb B_g63 hb; replace B_g10 := bb B_g10 hb; replace HB := hh HB hb; have B_g169 := am hx; clear hx hb hg)
              | ((with_reducible refine gate_dst (N := 170) rfl ?_); refine goesE (N := some 170) Try.func18 #[.agg #[.int .i64 a0, .int .i64 a1, .slice A (l.length) c], .int .i64 1, .slice (some ⟨g169, 0, none⟩) 1 1] ?_; refine (filter_Whole.calls k a0 a1 _ c l 1 _ 1 [0] a0 a1 bx 0 _ (Kd.C_below hr HB.out) hc (C_of_ints [0] B_g169.out rfl (by simp)) (by simp) e_bx).mono ?_; rintro e w16 ⟨v2_, rfl, hR, hb⟩; refine ⟨_, rfl, ?_⟩; replace B_g2 := bb B_g2 hb; replace B_g49 := bb B_g49 hb; replace B_g6 := bb B_g6 hb; replace B_g56 := bb B_g56 hb; replace B_g8 := bb B_g8 hb; replace B_g63 := bb B_g63 hb; replace B_g10 := bb B_g10 hb; replace B_g169 := bb B_g169 hb; replace HB := hh HB hb; have R_bx := am hR; obtain ⟨A_bx, c_bx, rfl⟩ := Kd.R_slice R_bx.out; clear hR; clear hb)
              | ((with_reducible refine gate_dst (N := 13) rfl ?_); refine boxE (N := 13) #[.int .i64 0, .int .i64 0, .slice none 0 0] 36 ?_; intro g13 hg w17 hx hb; have l_g2_g13 := lB hg B_g2; have l_g49_g13 := lB hg B_g49; have l_g6_g13 := lB hg B_g6; have l_g56_g13 := lB hg B_g56; have l_g8_g13 := lB hg B_g8; have l_g63_g13 := lB hg B_g63; have l_g10_g13 := lB hg B_g10; have l_g169_g13 := lB hg B_g169; have z_g13 := zB hg HB; replace B_g2 := bb B_g2 hb; replace B_g49 := bb B_g49 hb; replace B_g6 := bb B_g6 hb; replace B_g56 := bb B_g56 hb; replace B_g8 := bb B_g8 hb; replace B_g63 := bb B_g63 hb; replace B_g10 := bb B_g10 hb; replace B_g169 := bb B_g169 hb; replace R_bx := rB R_bx hb; replace HB := hh HB hb; have B_g13 := am hx; clear hx hb hg; have hf_g13 := blk_frozen B_g13.out; have hz_g13 := blk_cell B_g13.out)
              | ((with_reducible refine gate_store (t := 36) (p := 13) rfl ?_); refine storeE (t := 36) (p := 13) (sets w17 g13 0 [.int .i64 a0, .int .i64 a1, .slice A_bx (bx.length) c_bx]) ?_; intro w18 hw; replace R_bx := rS hw R_bx B_g13 (by decide); replace B_g2 := fS hw B_g2 (Nat.ne_of_lt l_g2_g13); replace B_g49 := fS hw B_g49 (Nat.ne_of_lt l_g49_g13); replace B_g6 := fS hw B_g6 (Nat.ne_of_lt l_g6_g13); replace B_g56 := fS hw B_g56 (Nat.ne_of_lt l_g56_g13); replace B_g8 := fS hw B_g8 (Nat.ne_of_lt l_g8_g13); replace B_g63 := fS hw B_g63 (Nat.ne_of_lt l_g63_g13); replace B_g10 := fS hw B_g10 (Nat.ne_of_lt l_g10_g13); replace B_g169 := fS hw B_g169 (Nat.ne_of_lt l_g169_g13); replace B_g13 := pS #[.int .i64 a0, .int .i64 a1, .slice A_bx (bx.length) c_bx] hw B_g13; replace HB := hS hw HB z_g13; clear hf_g13 hz_g13; clear hw; have hz_g2 := blk_cell B_g2.out; have hz_g6 := blk_cell B_g6.out)
              | ((with_reducible refine gate_dst (N := 178) rfl ?_); refine gate_guard (by rfl) ?_; dsimp only; refine goesE (N := some 178) Try.func21 #[.agg #[.int .i64 a0, .int .i64 a1, .slice A_lo (lo.length) c_lo], .agg #[.int .i64 a0, .int .i64 a1, .slice A (l.length) c]] ?_; refine (imageeditorlaw16_same.calls k _ _ _ _ lo _ _ _ _ l true _ (Kd.C_below K_lo HB.out) q_lo (Kd.C_below hr HB.out) hc s_lo).mono ?_; rintro e w19 ⟨rfl, hb⟩; refine ⟨_, rfl, ?_⟩; clear hz_g2 hz_g6; replace B_g2 := bb B_g2 hb; replace B_g49 := bb B_g49 hb; replace B_g6 := bb B_g6 hb; replace B_g56 := bb B_g56 hb; replace B_g8 := bb B_g8 hb; replace B_g63 := bb B_g63 hb; replace B_g10 := bb B_g10 hb; replace B_g169 := bb B_g169 hb; replace B_g13 := bb B_g13 hb; replace R_bx := rB R_bx hb; replace HB := hh HB hb; clear hb; have hz_g2 := blk_cell B_g2.out; have hz_g8 := blk_cell B_g8.out)
              | ((with_reducible refine gate_dst (N := 183) rfl ?_); refine gate_guard (by rfl) ?_; dsimp only; refine goesE (N := some 183) Try.func21 #[.agg #[.int .i64 a0, .int .i64 a1, .slice A_md (md.length) c_md], .agg #[.int .i64 a0, .int .i64 a1, .slice A (l.length) c]] ?_; refine (imageeditorlaw16_same.calls k _ _ _ _ md _ _ _ _ l true _ (Kd.C_below K_md HB.out) q_md (Kd.C_below hr HB.out) hc s_md).mono ?_; rintro e w20 ⟨rfl, hb⟩; refine ⟨_, rfl, ?_⟩; clear hz_g2 hz_g8; replace B_g2 := bb B_g2 hb; replace B_g49 := bb B_g49 hb; replace B_g6 := bb B_g6 hb; replace B_g56 := bb B_g56 hb; replace B_g8 := bb B_g8 hb; replace B_g63 := bb B_g63 hb; replace B_g10 := bb B_g10 hb; replace B_g169 := bb B_g169 hb; replace B_g13 := bb B_g13 hb; replace R_bx := rB R_bx hb; replace HB := hh HB hb; clear hb; have hz_g10 := blk_cell B_g10.out; have hz_g2 := blk_cell B_g2.out)
              | ((with_reducible refine gate_dst (N := 188) rfl ?_); refine gate_guard (by rfl) ?_; dsimp only; refine goesE (N := some 188) Try.func21 #[.agg #[.int .i64 a0, .int .i64 a1, .slice A_hi (hi.length) c_hi], .agg #[.int .i64 a0, .int .i64 a1, .slice A (l.length) c]] ?_; refine (imageeditorlaw16_same.calls k _ _ _ _ hi _ _ _ _ l true _ (Kd.C_below K_hi HB.out) q_hi (Kd.C_below hr HB.out) hc s_hi).mono ?_; rintro e w21 ⟨rfl, hb⟩; refine ⟨_, rfl, ?_⟩; clear hz_g10 hz_g2; replace B_g2 := bb B_g2 hb; replace B_g49 := bb B_g49 hb; replace B_g6 := bb B_g6 hb; replace B_g56 := bb B_g56 hb; replace B_g8 := bb B_g8 hb; replace B_g63 := bb B_g63 hb; replace B_g10 := bb B_g10 hb; replace B_g169 := bb B_g169 hb; replace B_g13 := bb B_g13 hb; replace R_bx := rB R_bx hb; replace HB := hh HB hb; clear hb; have hz_g13 := blk_cell B_g13.out; have hz_g2 := blk_cell B_g2.out)
              | ((with_reducible refine gate_dst (N := 193) rfl ?_); refine gate_guard (by rfl) ?_; dsimp only; refine goesE (N := some 193) Try.func21 #[.agg #[.int .i64 a0, .int .i64 a1, .slice A_bx (bx.length) c_bx], .agg #[.int .i64 a0, .int .i64 a1, .slice A (l.length) c]] ?_; refine (imageeditorlaw16_same.calls k _ _ _ _ bx _ _ _ _ l true _ (Kd.R_reads' R_bx.out).2.2 (Kd.R_reads' R_bx.out).2.1 (Kd.C_below hr HB.out) hc s_bx).mono ?_; rintro e w22 ⟨rfl, hb⟩; refine ⟨_, rfl, ?_⟩; clear hz_g13 hz_g2; replace B_g2 := bb B_g2 hb; replace B_g49 := bb B_g49 hb; replace B_g6 := bb B_g6 hb; replace B_g56 := bb B_g56 hb; replace B_g8 := bb B_g8 hb; replace B_g63 := bb B_g63 hb; replace B_g10 := bb B_g10 hb; replace B_g169 := bb B_g169 hb; replace B_g13 := bb B_g13 hb; replace R_bx := rB R_bx hb; replace HB := hh HB hb; clear hb)
              | ((with_reducible refine gate_dst (N := 196) rfl ?_); refine gate_guard (by rfl) ?_; dsimp only; refine goesE (N := some 196) Try.func13 #[] ?_; refine (imageeditorlaw16_example.calls true _ rfl).mono ?_; rintro e w23 ⟨rfl, hb⟩; refine ⟨_, rfl, ?_⟩; replace B_g2 := bb B_g2 hb; replace B_g49 := bb B_g49 hb; replace B_g6 := bb B_g6 hb; replace B_g56 := bb B_g56 hb; replace B_g8 := bb B_g8 hb; replace B_g63 := bb B_g63 hb; replace B_g10 := bb B_g10 hb; replace B_g169 := bb B_g169 hb; replace B_g13 := bb B_g13 hb; replace R_bx := rB R_bx hb; replace HB := hh HB hb; clear hb))
            go_ret
            exact ⟨rfl, below_step HB0.out HB.out⟩
          · have t9 : (rad == 0) = false := beq_eq_false_iff_ne.mpr hz
            go_wp2_with (first
              | ((with_reducible refine gate_dst (N := 198) rfl ?_); refine goesE (N := some 198) Try.func13 #[] ?_; refine (imageeditorlaw16_example.calls true _ rfl).mono ?_; rintro e w15 ⟨rfl, hb⟩; refine ⟨_, rfl, ?_⟩; clear hz_g2; replace B_g2 := bb B_g2 hb; replace B_g49 := bb B_g49 hb; replace B_g6 := bb B_g6 hb; replace B_g56 := bb B_g56 hb; replace B_g8 := bb B_g8 hb; replace B_g63 := bb B_g63 hb; replace B_g10 := bb B_g10 hb; replace HB := hh HB hb; clear hb))
            go_ret
            exact ⟨rfl, below_step HB0.out HB.out⟩
end Go.Proofs.Ytocefehnemahhaa.G
