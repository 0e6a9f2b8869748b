-- laid by gprint.py (a program of this proof's writer) out of the translation; Lean checks it.
import Derived.Test.YtocefehnemahhaaG0
import Derived.Test.YtocefehnemahhaaG2
import Derived.Test.YtocefehnemahhaaG4
import Derived.Test.YtocefehnemahhaaG5
import Derived.Test.YtocefehnemahhaaG7
import Derived.Test.YtocefehnemahhaaG9
import Derived.Test.YtocefehnemahhaaG10
namespace Go.Proofs.Ytocefehnemahhaa.G
open Go.RowKit Go.Proofs.YtocefehnemahhaaW.PrintWords Go.Proofs.YtocefehnemahhaaW.PrintLast Go.Proofs.YtocefehnemahhaaW.PrintMore
attribute [local go_sem] max2_int min2_int max_two min_two max_three min_three max_four min_four   -- for this text's walks alone
set_option linter.unusedVariables false
set_option linter.unusedSimpArgs false

/-! ### filter_Apply: function 20: proved by hand -/
/-- The pixels of a line, from x on; and of all lines, from y on. -/
def apRow (g : Int → Option S51) : Nat → Nat → List S51 → Option (List S51)
 | 0, _, acc => some acc
 | n + 1, x, acc => (g x).bind fun p => if acc.length < 4398046511104 then apRow g n (x + 1) (acc ++ [p]) else none
def apRows (g : Int → Int → Option S51) (W : Nat) : Nat → Nat → List S51 → Option (List S51)
 | 0, _, acc => some acc
 | n + 1, y, acc => (apRow (fun x => g x y) W 0 acc).bind fun acc => apRows g W n (y + 1) acc
def apPix (k : Nat) (a0_0 a0_1 : Int) (l0_2 : List (S51)) (a1_0 a1_1 a2_0 a2_1 a2_2 a2_3 a3 : Int) (l4 : List Int) (a5_0 a5_1 a5_2 a5_3 : Int) (x y : Int) : Option S51 :=
 (filter_view_filtered.f k a0_0 a0_1 l0_2 a1_0 a1_1 a2_0 a2_1 a2_2 a2_3 (wrap64 (a5_0 + x)) (wrap64 (a5_1 + y)) a3 l4).bind fun p => some (if p.2.2.2 = 0 then ⟨0, 0, 0, 0⟩ else ⟨p.1, p.2.1, p.2.2.1, p.2.2.2⟩)
def filter_Apply.f (k : Nat) (a0_0 a0_1 : Int) (l0_2 : List (S51)) (a1_0 a1_1 a2_0 a2_1 a2_2 a2_3 a3 : Int) (l4 : List Int) (a5_0 a5_1 a5_2 a5_3 : Int) : Option (Int × Int × (List (S51)) × Int) :=
 (raster_Check.f k a0_0 a0_1 l0_2).bind fun c => if c = 0 then
  (filter_Needs.f k a3 l4 a5_0 a5_1 a5_2 a5_3 a2_0 a2_1 a2_2 a2_3).bind fun n => if n.2.2.2.2 = 0 then
   if n.1 < a1_0 ∨ n.2.1 < a1_1 ∨ wrap64 (a1_0 + a0_0) < wrap64 (n.1 + n.2.2.1) ∨ wrap64 (a1_1 + a0_1) < wrap64 (n.2.1 + n.2.2.2.1) then some (0, 0, [], 15)
   else if 0 ≤ a5_2 ∧ a5_2 ≤ 4611686018427387904 ∧ 0 ≤ a5_3 ∧ a5_3 ≤ 4611686018427387904 then
    (apRows (apPix k a0_0 a0_1 l0_2 a1_0 a1_1 a2_0 a2_1 a2_2 a2_3 a3 l4 a5_0 a5_1 a5_2 a5_3) a5_2.toNat a5_3.toNat 0 []).bind fun l => some (a5_2, a5_3, l, 0)
   else none
  else some (0, 0, [], n.2.2.2.2)
 else some (0, 0, [], c)
theorem apRow_mono {g g' : Int → Option S51} (h : ∀ x, LeO (g x) (g' x)) : ∀ n x acc, LeO (apRow g n x acc) (apRow g' n x acc)
 | 0, _, _ => LeO.refl _
 | n + 1, x, acc => LeO.bind (h _) fun p => LeO.ite (apRow_mono h n _ _) (LeO.refl _)
theorem apRows_mono {g g' : Int → Int → Option S51} (h : ∀ x y, LeO (g x y) (g' x y)) (W : Nat) : ∀ n y acc, LeO (apRows g W n y acc) (apRows g' W n y acc)
 | 0, _, _ => LeO.refl _
 | n + 1, y, acc => LeO.bind (apRow_mono (fun x => h x y) _ _ _) fun acc => apRows_mono h W n _ _
theorem filter_Apply.mono : ∀ a0 a1 a2 a3 a4 a5 a6 a7 a8 a9 a10 a11 a12 a13 a14 k, LeO (filter_Apply.f k a0 a1 a2 a3 a4 a5 a6 a7 a8 a9 a10 a11 a12 a13 a14) (filter_Apply.f (k + 1) a0 a1 a2 a3 a4 a5 a6 a7 a8 a9 a10 a11 a12 a13 a14) := by
 intro a0 a1 a2 a3 a4 a5 a6 a7 a8 a9 a10 a11 a12 a13 a14 k
 unfold filter_Apply.f
 refine LeO.bind (raster_Check.mono _ _ _ _) fun _ => LeO.ite (LeO.bind (filter_Needs.mono _ _ _ _ _ _ _ _ _ _ _ ) fun _ => LeO.ite (LeO.ite (LeO.refl _) (LeO.ite (LeO.bind (apRows_mono (fun x y => ?_) _ _ _ _) fun _ => LeO.refl _) (LeO.refl _))) (LeO.refl _)) (LeO.refl _)
 exact LeO.bind (filter_view_filtered.mono _ _ _ _ _ _ _ _ _ _ _ _ _ _) fun _ => LeO.refl _

set_option maxHeartbeats 8000000 in
set_option maxRecDepth 100000 in
theorem Apply_check (k : Nat) (a0_0 a0_1 : Int) (A0_2 : Option Addr) (c0_2 : Nat) (l0_2 : List (S51)) (a1_0 a1_1 a2_0 a2_1 a2_2 a2_3 a3 : Int) (A4 : Option Addr) (c4 : Nat) (l4 : List Int) (a5_0 a5_1 a5_2 a5_3 : Int) (c : Int) (w : World) (hr0_2 : Kd.C k51 w A0_2 l0_2.length l0_2) (hc0_2 : l0_2.length ≤ c0_2) (hr4 : Kd.C (Kd.int .i64) w A4 l4.length l4) (hc4 : l4.length ≤ c4) (e1 : raster_Check.f k a0_0 a0_1 l0_2 = some c) (hc : c ≠ 0) :
  Calls Try.prog 20 #[.agg #[.int .i64 a0_0, .int .i64 a0_1, .slice A0_2 (l0_2.length) c0_2], .agg #[.int .i64 a1_0, .int .i64 a1_1], .agg #[.int .i64 a2_0, .int .i64 a2_1, .int .i64 a2_2, .int .i64 a2_3], .int .i64 a3, .slice A4 (l4.length) c4, .agg #[.int .i64 a5_0, .int .i64 a5_1, .int .i64 a5_2, .int .i64 a5_3]] w fun e w' => ∃ v2_ : Value, e = .returned (.tuple #[.agg #[.int .i64 0, .int .i64 0, v2_], .int .i64 c]) ∧ Kd.R k51 51 w' w.heap.size (fun _ => True) v2_ [] ∧ Below w.heap.size w w' := by
 have hu36 := Try.underlying36
 have hu47 := Try.underlying47
 have hu24 := Try.underlying24
 have hu71 := Try.underlying71
 have hu51 := Try.underlying51
 have hu34 := Try.underlying34
 have HB := am (Below.refl w.heap.size w)
 have t1 : (c != 0) = true := bne_iff_ne.mpr hc
 go_enter Try.func20, Try.ntmps20
 go_wp2_with (first
  | ((with_reducible refine gate_dst (N := 6) rfl ?_); refine boxE (N := 6) #[.int .i64 a0_0, .int .i64 a0_1, .slice A0_2 (l0_2.length) c0_2] 36 ?_; intro g6 hg w1 hx hb; have z_g6 := zB hg HB; replace HB := hh HB hb; have B_g6 := am hx; clear hx hb hg)
  | ((with_reducible refine gate_dst (N := 7) rfl ?_); refine boxE (N := 7) #[.int .i64 a1_0, .int .i64 a1_1] 47 ?_; intro g7 hg w2 hx hb; have l_g6_g7 := lB hg B_g6; have z_g7 := zB hg HB; replace B_g6 := bb B_g6 hb; replace HB := hh HB hb; have B_g7 := am hx; clear hx hb hg)
  | ((with_reducible refine gate_dst (N := 8) rfl ?_); refine boxE (N := 8) #[.int .i64 a2_0, .int .i64 a2_1, .int .i64 a2_2, .int .i64 a2_3] 24 ?_; intro g8 hg w3 hx hb; have l_g6_g8 := lB hg B_g6; have l_g7_g8 := lB hg B_g7; have z_g8 := zB hg HB; replace B_g6 := bb B_g6 hb; replace B_g7 := bb B_g7 hb; replace HB := hh HB hb; have B_g8 := am hx; clear hx hb hg)
  | ((with_reducible refine gate_dst (N := 11) rfl ?_); refine boxE (N := 11) #[.int .i64 a5_0, .int .i64 a5_1, .int .i64 a5_2, .int .i64 a5_3] 24 ?_; intro g11 hg w4 hx hb; have l_g6_g11 := lB hg B_g6; have l_g7_g11 := lB hg B_g7; have l_g8_g11 := lB hg B_g8; have z_g11 := zB hg HB; replace B_g6 := bb B_g6 hb; replace B_g7 := bb B_g7 hb; replace B_g8 := bb B_g8 hb; replace HB := hh HB hb; have B_g11 := am hx; clear hx hb hg)
  | ((with_reducible refine gate_dst (N := 12) rfl ?_); refine boxE (N := 12) #[.int .i64 0, .int .i64 0, .slice none 0 0] 36 ?_; intro g12 hg w5 hx hb; have l_g6_g12 := lB hg B_g6; have l_g7_g12 := lB hg B_g7; have l_g8_g12 := lB hg B_g8; have l_g11_g12 := lB hg B_g11; have z_g12 := zB hg HB; replace B_g6 := bb B_g6 hb; replace B_g7 := bb B_g7 hb; replace B_g8 := bb B_g8 hb; replace B_g11 := bb B_g11 hb; replace HB := hh HB hb; have B_g12 := am hx; clear hx hb hg; have hz_g6 := blk_cell B_g6.out)
  | ((with_reducible refine gate_dst (N := 23) rfl ?_); refine goesE (N := some 23) Try.func37 #[.agg #[.int .i64 a0_0, .int .i64 a0_1, .slice A0_2 (l0_2.length) c0_2]] ?_; refine (raster_Check.calls k _ _ _ _ _ c _ (Kd.C_below hr0_2 HB.out) hc0_2 e1).mono ?_; rintro e w6 ⟨rfl, hb⟩; refine ⟨_, rfl, ?_⟩; clear hz_g6; replace B_g6 := bb B_g6 hb; replace B_g7 := bb B_g7 hb; replace B_g8 := bb B_g8 hb; replace B_g11 := bb B_g11 hb; replace B_g12 := bb B_g12 hb; replace HB := hh HB hb; clear hb; have hf_g12 := blk_frozen B_g12.out; have hz_g12 := blk_cell B_g12.out)
  | ((with_reducible refine gate_store (t := 36) (p := 12) rfl ?_); refine storeE (t := 36) (p := 12) (sets w6 g12 0 [.int .i64 0, .int .i64 0, .slice none 0 0]) ?_; intro w7 hw; replace B_g6 := fS hw B_g6 (Nat.ne_of_lt l_g6_g12); replace B_g7 := fS hw B_g7 (Nat.ne_of_lt l_g7_g12); replace B_g8 := fS hw B_g8 (Nat.ne_of_lt l_g8_g12); replace B_g11 := fS hw B_g11 (Nat.ne_of_lt l_g11_g12); replace B_g12 := pS #[.int .i64 0, .int .i64 0, .slice none 0 0] hw B_g12; replace HB := hS hw HB z_g12; clear hf_g12 hz_g12; clear hw))
 refine bodyPost_ret (results_ct rfl _ _ g12 36 #[.int .i64 0, .int .i64 0, .slice none 0 0] (0, 0) _ rfl B_g12.out Try.underlying36 rfl (by kernel_rfl)) rfl ?_
 exact ⟨_, rfl, Kd.R_nil _ _ _ _ _, HB.out⟩
set_option maxHeartbeats 8000000 in
set_option maxRecDepth 100000 in
theorem Apply_needs (k : Nat) (a0_0 a0_1 : Int) (A0_2 : Option Addr) (c0_2 : Nat) (l0_2 : List (S51)) (a1_0 a1_1 a2_0 a2_1 a2_2 a2_3 a3 : Int) (A4 : Option Addr) (c4 : Nat) (l4 : List Int) (a5_0 a5_1 a5_2 a5_3 : Int) (n0 n1 n2 n3 er : Int) (w : World) (hr0_2 : Kd.C k51 w A0_2 l0_2.length l0_2) (hc0_2 : l0_2.length ≤ c0_2) (hr4 : Kd.C (Kd.int .i64) w A4 l4.length l4) (hc4 : l4.length ≤ c4) (e1 : raster_Check.f k a0_0 a0_1 l0_2 = some 0) (e2 : filter_Needs.f k a3 l4 a5_0 a5_1 a5_2 a5_3 a2_0 a2_1 a2_2 a2_3 = some (n0, n1, n2, n3, er)) (he : er ≠ 0) :
  Calls Try.prog 20 #[.agg #[.int .i64 a0_0, .int .i64 a0_1, .slice A0_2 (l0_2.length) c0_2], .agg #[.int .i64 a1_0, .int .i64 a1_1], .agg #[.int .i64 a2_0, .int .i64 a2_1, .int .i64 a2_2, .int .i64 a2_3], .int .i64 a3, .slice A4 (l4.length) c4, .agg #[.int .i64 a5_0, .int .i64 a5_1, .int .i64 a5_2, .int .i64 a5_3]] w fun e w' => ∃ v2_ : Value, e = .returned (.tuple #[.agg #[.int .i64 0, .int .i64 0, v2_], .int .i64 er]) ∧ Kd.R k51 51 w' w.heap.size (fun _ => True) v2_ [] ∧ Below w.heap.size w w' := by
 have hu36 := Try.underlying36
 have hu47 := Try.underlying47
 have hu24 := Try.underlying24
 have hu71 := Try.underlying71
 have hu51 := Try.underlying51
 have hu34 := Try.underlying34
 have HB := am (Below.refl w.heap.size w)
 have t1 : (er != 0) = true := bne_iff_ne.mpr he
 go_enter Try.func20, Try.ntmps20
 go_wp2_with (first
  | ((with_reducible refine gate_dst (N := 6) rfl ?_); refine boxE (N := 6) #[.int .i64 a0_0, .int .i64 a0_1, .slice A0_2 (l0_2.length) c0_2] 36 ?_; intro g6 hg w1 hx hb; have z_g6 := zB hg HB; replace HB := hh HB hb; have B_g6 := am hx; clear hx hb hg)
  | ((with_reducible refine gate_dst (N := 7) rfl ?_); refine boxE (N := 7) #[.int .i64 a1_0, .int .i64 a1_1] 47 ?_; intro g7 hg w2 hx hb; have l_g6_g7 := lB hg B_g6; have z_g7 := zB hg HB; replace B_g6 := bb B_g6 hb; replace HB := hh HB hb; have B_g7 := am hx; clear hx hb hg)
  | ((with_reducible refine gate_dst (N := 8) rfl ?_); refine boxE (N := 8) #[.int .i64 a2_0, .int .i64 a2_1, .int .i64 a2_2, .int .i64 a2_3] 24 ?_; intro g8 hg w3 hx hb; have l_g6_g8 := lB hg B_g6; have l_g7_g8 := lB hg B_g7; have z_g8 := zB hg HB; replace B_g6 := bb B_g6 hb; replace B_g7 := bb B_g7 hb; replace HB := hh HB hb; have B_g8 := am hx; clear hx hb hg)
  | ((with_reducible refine gate_dst (N := 11) rfl ?_); refine boxE (N := 11) #[.int .i64 a5_0, .int .i64 a5_1, .int .i64 a5_2, .int .i64 a5_3] 24 ?_; intro g11 hg w4 hx hb; have l_g6_g11 := lB hg B_g6; have l_g7_g11 := lB hg B_g7; have l_g8_g11 := lB hg B_g8; have z_g11 := zB hg HB; replace B_g6 := bb B_g6 hb; replace B_g7 := bb B_g7 hb; replace B_g8 := bb B_g8 hb; replace HB := hh HB hb; have B_g11 := am hx; clear hx hb hg)
  | ((with_reducible refine gate_dst (N := 12) rfl ?_); refine boxE (N := 12) #[.int .i64 0, .int .i64 0, .slice none 0 0] 36 ?_; intro g12 hg w5 hx hb; have l_g6_g12 := lB hg B_g6; have l_g7_g12 := lB hg B_g7; have l_g8_g12 := lB hg B_g8; have l_g11_g12 := lB hg B_g11; have z_g12 := zB hg HB; replace B_g6 := bb B_g6 hb; replace B_g7 := bb B_g7 hb; replace B_g8 := bb B_g8 hb; replace B_g11 := bb B_g11 hb; replace HB := hh HB hb; have B_g12 := am hx; clear hx hb hg; have hz_g6 := blk_cell B_g6.out)
  | ((with_reducible refine gate_dst (N := 23) rfl ?_); refine goesE (N := some 23) Try.func37 #[.agg #[.int .i64 a0_0, .int .i64 a0_1, .slice A0_2 (l0_2.length) c0_2]] ?_; refine (raster_Check.calls k _ _ _ _ _ 0 _ (Kd.C_below hr0_2 HB.out) hc0_2 e1).mono ?_; rintro e w6 ⟨rfl, hb⟩; refine ⟨_, rfl, ?_⟩; clear hz_g6; replace B_g6 := bb B_g6 hb; replace B_g7 := bb B_g7 hb; replace B_g8 := bb B_g8 hb; replace B_g11 := bb B_g11 hb; replace B_g12 := bb B_g12 hb; replace HB := hh HB hb; clear hb; have hz_g11 := blk_cell B_g11.out; have hz_g8 := blk_cell B_g8.out)
  | ((with_reducible refine gate_dst (N := 33) rfl ?_); refine goesE (N := some 33) Try.func7 #[.int .i64 a3, .slice A4 (l4.length) c4, .agg #[.int .i64 a5_0, .int .i64 a5_1, .int .i64 a5_2, .int .i64 a5_3], .agg #[.int .i64 a2_0, .int .i64 a2_1, .int .i64 a2_2, .int .i64 a2_3]] ?_; refine (filter_Needs.calls k _ _ _ _ _ _ _ _ _ _ _ _ n0 n1 n2 n3 er _ (Kd.C_below hr4 HB.out) hc4 e2).mono ?_; rintro e w7 ⟨rfl, hb⟩; refine ⟨_, rfl, ?_⟩; clear hz_g11 hz_g8; replace B_g6 := bb B_g6 hb; replace B_g7 := bb B_g7 hb; replace B_g8 := bb B_g8 hb; replace B_g11 := bb B_g11 hb; replace B_g12 := bb B_g12 hb; replace HB := hh HB hb; clear hb)
  | ((with_reducible refine gate_dst (N := 15) rfl ?_); refine boxE (N := 15) #[.int .i64 0, .int .i64 0, .int .i64 0, .int .i64 0] 24 ?_; intro g15 hg w8 hx hb; have l_g6_g15 := lB hg B_g6; have l_g7_g15 := lB hg B_g7; have l_g8_g15 := lB hg B_g8; have l_g11_g15 := lB hg B_g11; have l_g12_g15 := lB hg B_g12; have z_g15 := zB hg HB; replace B_g6 := bb B_g6 hb; replace B_g7 := bb B_g7 hb; replace B_g8 := bb B_g8 hb; replace B_g11 := bb B_g11 hb; replace B_g12 := bb B_g12 hb; replace HB := hh HB hb; have B_g15 := am hx; clear hx hb hg; have hf_g15 := blk_frozen B_g15.out; have hz_g15 := blk_cell B_g15.out)
  | ((with_reducible refine gate_store (t := 24) (p := 15) rfl ?_); refine storeE (t := 24) (p := 15) (sets w8 g15 0 [.int .i64 n0, .int .i64 n1, .int .i64 n2, .int .i64 n3]) ?_; intro w9 hw; replace B_g6 := fS hw B_g6 (Nat.ne_of_lt l_g6_g15); replace B_g7 := fS hw B_g7 (Nat.ne_of_lt l_g7_g15); replace B_g8 := fS hw B_g8 (Nat.ne_of_lt l_g8_g15); replace B_g11 := fS hw B_g11 (Nat.ne_of_lt l_g11_g15); replace B_g12 := fS hw B_g12 (Nat.ne_of_lt l_g12_g15); replace B_g15 := pS #[.int .i64 n0, .int .i64 n1, .int .i64 n2, .int .i64 n3] hw B_g15; replace HB := hS hw HB z_g15; clear hf_g15 hz_g15; clear hw; have hf_g12 := blk_frozen B_g12.out; have hz_g12 := blk_cell B_g12.out)
  | ((with_reducible refine gate_store (t := 36) (p := 12) rfl ?_); refine storeE (t := 36) (p := 12) (sets w9 g12 0 [.int .i64 0, .int .i64 0, .slice none 0 0]) ?_; intro w10 hw; replace B_g6 := fS hw B_g6 (Nat.ne_of_lt l_g6_g12); replace B_g7 := fS hw B_g7 (Nat.ne_of_lt l_g7_g12); replace B_g8 := fS hw B_g8 (Nat.ne_of_lt l_g8_g12); replace B_g11 := fS hw B_g11 (Nat.ne_of_lt l_g11_g12); replace B_g15 := fS hw B_g15 (Nat.ne_of_gt l_g12_g15); replace B_g12 := pS #[.int .i64 0, .int .i64 0, .slice none 0 0] hw B_g12; replace HB := hS hw HB z_g12; clear hf_g12 hz_g12; clear hw))
 refine bodyPost_ret (results_ct rfl _ _ g12 36 #[.int .i64 0, .int .i64 0, .slice none 0 0] (0, 0) _ rfl B_g12.out Try.underlying36 rfl (by kernel_rfl)) rfl ?_
 exact ⟨_, rfl, Kd.R_nil _ _ _ _ _, HB.out⟩
set_option maxHeartbeats 8000000 in
set_option maxRecDepth 100000 in
theorem Apply_tail (k : Nat) (a0_0 a0_1 : Int) (A0_2 : Option Addr) (c0_2 : Nat) (l0_2 : List (S51)) (a1_0 a1_1 a2_0 a2_1 a2_2 a2_3 a3 : Int) (A4 : Option Addr) (c4 : Nat) (l4 : List Int) (a5_0 a5_1 a5_2 a5_3 : Int) (n0 n1 n2 n3 r1 r2 : Int) (r3 : List S51) (r4 : Int) (w : World) (hr0_2 : Kd.C k51 w A0_2 l0_2.length l0_2) (hc0_2 : l0_2.length ≤ c0_2) (hr4 : Kd.C (Kd.int .i64) w A4 l4.length l4) (hc4 : l4.length ≤ c4) (e1 : raster_Check.f k a0_0 a0_1 l0_2 = some 0) (e2 : filter_Needs.f k a3 l4 a5_0 a5_1 a5_2 a5_3 a2_0 a2_1 a2_2 a2_3 = some (n0, n1, n2, n3, 0))
  (h : (if n0 < a1_0 ∨ n1 < a1_1 ∨ wrap64 (a1_0 + a0_0) < wrap64 (n0 + n2) ∨ wrap64 (a1_1 + a0_1) < wrap64 (n1 + n3) then some ((0 : Int), (0 : Int), ([] : List S51), (15 : Int)) else if 0 ≤ a5_2 ∧ a5_2 ≤ 4611686018427387904 ∧ 0 ≤ a5_3 ∧ a5_3 ≤ 4611686018427387904 then (apRows (apPix k a0_0 a0_1 l0_2 a1_0 a1_1 a2_0 a2_1 a2_2 a2_3 a3 l4 a5_0 a5_1 a5_2 a5_3) a5_2.toNat a5_3.toNat 0 []).bind fun l => some (a5_2, a5_3, l, 0) else none) = some (r1, r2, r3, r4)) :
  Calls Try.prog 20 #[.agg #[.int .i64 a0_0, .int .i64 a0_1, .slice A0_2 (l0_2.length) c0_2], .agg #[.int .i64 a1_0, .int .i64 a1_1], .agg #[.int .i64 a2_0, .int .i64 a2_1, .int .i64 a2_2, .int .i64 a2_3], .int .i64 a3, .slice A4 (l4.length) c4, .agg #[.int .i64 a5_0, .int .i64 a5_1, .int .i64 a5_2, .int .i64 a5_3]] w fun e w' => ∃ v2_ : Value, e = .returned (.tuple #[.agg #[.int .i64 r1, .int .i64 r2, v2_], .int .i64 r4]) ∧ Kd.R k51 51 w' w.heap.size (fun _ => True) v2_ r3 ∧ Below w.heap.size w w' := by
 have hu36 := Try.underlying36
 have hu47 := Try.underlying47
 have hu24 := Try.underlying24
 have hu71 := Try.underlying71
 have hu51 := Try.underlying51
 have hu34 := Try.underlying34
 have HB := am (Below.refl w.heap.size w)
 go_enter Try.func20, Try.ntmps20
 go_upto_region 7 with (first
  | ((with_reducible refine gate_dst (N := 6) rfl ?_); refine boxE (N := 6) #[.int .i64 a0_0, .int .i64 a0_1, .slice A0_2 (l0_2.length) c0_2] 36 ?_; intro g6 hg w1 hx hb; have z_g6 := zB hg HB; replace HB := hh HB hb; have B_g6 := am hx; clear hx hb hg)
  | ((with_reducible refine gate_dst (N := 7) rfl ?_); refine boxE (N := 7) #[.int .i64 a1_0, .int .i64 a1_1] 47 ?_; intro g7 hg w2 hx hb; have l_g6_g7 := lB hg B_g6; have z_g7 := zB hg HB; replace B_g6 := bb B_g6 hb; replace HB := hh HB hb; have B_g7 := am hx; clear hx hb hg)
  | ((with_reducible refine gate_dst (N := 8) rfl ?_); refine boxE (N := 8) #[.int .i64 a2_0, .int .i64 a2_1, .int .i64 a2_2, .int .i64 a2_3] 24 ?_; intro g8 hg w3 hx hb; have l_g6_g8 := lB hg B_g6; have l_g7_g8 := lB hg B_g7; have z_g8 := zB hg HB; replace B_g6 := bb B_g6 hb; replace B_g7 := bb B_g7 hb; replace HB := hh HB hb; have B_g8 := am hx; clear hx hb hg)
  | ((with_reducible refine gate_dst (N := 11) rfl ?_); refine boxE (N := 11) #[.int .i64 a5_0, .int .i64 a5_1, .int .i64 a5_2, .int .i64 a5_3] 24 ?_; intro g11 hg w4 hx hb; have l_g6_g11 := lB hg B_g6; have l_g7_g11 := lB hg B_g7; have l_g8_g11 := lB hg B_g8; have z_g11 := zB hg HB; replace B_g6 := bb B_g6 hb; replace B_g7 := bb B_g7 hb; replace B_g8 := bb B_g8 hb; replace HB := hh HB hb; have B_g11 := am hx; clear hx hb hg)
  | ((with_reducible refine gate_dst (N := 12) rfl ?_); refine boxE (N := 12) #[.int .i64 0, .int .i64 0, .slice none 0 0] 36 ?_; intro g12 hg w5 hx hb; have l_g6_g12 := lB hg B_g6; have l_g7_g12 := lB hg B_g7; have l_g8_g12 := lB hg B_g8; have l_g11_g12 := lB hg B_g11; have z_g12 := zB hg HB; replace B_g6 := bb B_g6 hb; replace B_g7 := bb B_g7 hb; replace B_g8 := bb B_g8 hb; replace B_g11 := bb B_g11 hb; replace HB := hh HB hb; have B_g12 := am hx; clear hx hb hg; have hz_g6 := blk_cell B_g6.out)
  | ((with_reducible refine gate_dst (N := 23) rfl ?_); refine goesE (N := some 23) Try.func37 #[.agg #[.int .i64 a0_0, .int .i64 a0_1, .slice A0_2 (l0_2.length) c0_2]] ?_; refine (raster_Check.calls k _ _ _ _ _ 0 _ (Kd.C_below hr0_2 HB.out) hc0_2 e1).mono ?_; rintro e w6 ⟨rfl, hb⟩; refine ⟨_, rfl, ?_⟩; clear hz_g6; replace B_g6 := bb B_g6 hb; replace B_g7 := bb B_g7 hb; replace B_g8 := bb B_g8 hb; replace B_g11 := bb B_g11 hb; replace B_g12 := bb B_g12 hb; replace HB := hh HB hb; clear hb; have hz_g11 := blk_cell B_g11.out; have hz_g8 := blk_cell B_g8.out)
  | ((with_reducible refine gate_dst (N := 33) rfl ?_); refine goesE (N := some 33) Try.func7 #[.int .i64 a3, .slice A4 (l4.length) c4, .agg #[.int .i64 a5_0, .int .i64 a5_1, .int .i64 a5_2, .int .i64 a5_3], .agg #[.int .i64 a2_0, .int .i64 a2_1, .int .i64 a2_2, .int .i64 a2_3]] ?_; refine (filter_Needs.calls k _ _ _ _ _ _ _ _ _ _ _ _ n0 n1 n2 n3 0 _ (Kd.C_below hr4 HB.out) hc4 e2).mono ?_; rintro e w7 ⟨rfl, hb⟩; refine ⟨_, rfl, ?_⟩; clear hz_g11 hz_g8; replace B_g6 := bb B_g6 hb; replace B_g7 := bb B_g7 hb; replace B_g8 := bb B_g8 hb; replace B_g11 := bb B_g11 hb; replace B_g12 := bb B_g12 hb; replace HB := hh HB hb; clear hb)
  | ((with_reducible refine gate_dst (N := 15) rfl ?_); refine boxE (N := 15) #[.int .i64 0, .int .i64 0, .int .i64 0, .int .i64 0] 24 ?_; intro g15 hg w8 hx hb; have l_g6_g15 := lB hg B_g6; have l_g7_g15 := lB hg B_g7; have l_g8_g15 := lB hg B_g8; have l_g11_g15 := lB hg B_g11; have l_g12_g15 := lB hg B_g12; have z_g15 := zB hg HB; replace B_g6 := bb B_g6 hb; replace B_g7 := bb B_g7 hb; replace B_g8 := bb B_g8 hb; replace B_g11 := bb B_g11 hb; replace B_g12 := bb B_g12 hb; replace HB := hh HB hb; have B_g15 := am hx; clear hx hb hg; have hf_g15 := blk_frozen B_g15.out; have hz_g15 := blk_cell B_g15.out)
  | ((with_reducible refine gate_store (t := 24) (p := 15) rfl ?_); refine storeE (t := 24) (p := 15) (sets w8 g15 0 [.int .i64 n0, .int .i64 n1, .int .i64 n2, .int .i64 n3]) ?_; intro w9 hw; replace B_g6 := fS hw B_g6 (Nat.ne_of_lt l_g6_g15); replace B_g7 := fS hw B_g7 (Nat.ne_of_lt l_g7_g15); replace B_g8 := fS hw B_g8 (Nat.ne_of_lt l_g8_g15); replace B_g11 := fS hw B_g11 (Nat.ne_of_lt l_g11_g15); replace B_g12 := fS hw B_g12 (Nat.ne_of_lt l_g12_g15); replace B_g15 := pS #[.int .i64 n0, .int .i64 n1, .int .i64 n2, .int .i64 n3] hw B_g15; replace HB := hS hw HB z_g15; clear hf_g15 hz_g15; clear hw; have hf_g12 := blk_frozen B_g12.out; have hz_g11 := blk_cell B_g11.out; have hz_g12 := blk_cell B_g12.out; have hz_g15 := blk_cell B_g15.out; have hz_g6 := blk_cell B_g6.out; have hz_g7 := blk_cell B_g7.out))
 by_cases s0 : n0 < a1_0
 ·rw [if_pos (Or.inl s0)] at h
  simp only [Option.some.injEq, Prod.mk.injEq] at h
  obtain ⟨rfl, rfl, rfl, rfl⟩ := h
  replace s0 := decide_eq_true s0
  go_wp2_with (first
   | ((with_reducible refine gate_store (t := 36) (p := 12) rfl ?_); refine storeE (t := 36) (p := 12) (sets w9 g12 0 [.int .i64 0, .int .i64 0, .slice none 0 0]) ?_; intro w10 hw; replace B_g6 := fS hw B_g6 (Nat.ne_of_lt l_g6_g12); replace B_g7 := fS hw B_g7 (Nat.ne_of_lt l_g7_g12); replace B_g8 := fS hw B_g8 (Nat.ne_of_lt l_g8_g12); replace B_g11 := fS hw B_g11 (Nat.ne_of_lt l_g11_g12); replace B_g15 := fS hw B_g15 (Nat.ne_of_gt l_g12_g15); replace B_g12 := pS #[.int .i64 0, .int .i64 0, .slice none 0 0] hw B_g12; replace HB := hS hw HB z_g12; clear hf_g12 hz_g11 hz_g12 hz_g15 hz_g6 hz_g7; clear hw))
  refine bodyPost_ret (results_ct rfl _ _ g12 36 #[.int .i64 0, .int .i64 0, .slice none 0 0] (0, 0) _ rfl B_g12.out Try.underlying36 rfl (by kernel_rfl)) rfl ?_
  exact ⟨_, rfl, Kd.R_nil _ _ _ _ _, HB.out⟩
 have t0 : decide (n0 < a1_0) = false := decide_eq_false s0
 by_cases s1 : n1 < a1_1
 ·rw [if_pos (Or.inr (Or.inl s1))] at h
  simp only [Option.some.injEq, Prod.mk.injEq] at h
  obtain ⟨rfl, rfl, rfl, rfl⟩ := h
  replace s1 := decide_eq_true s1
  go_wp2_with (first
   | ((with_reducible refine gate_store (t := 36) (p := 12) rfl ?_); refine storeE (t := 36) (p := 12) (sets w9 g12 0 [.int .i64 0, .int .i64 0, .slice none 0 0]) ?_; intro w10 hw; replace B_g6 := fS hw B_g6 (Nat.ne_of_lt l_g6_g12); replace B_g7 := fS hw B_g7 (Nat.ne_of_lt l_g7_g12); replace B_g8 := fS hw B_g8 (Nat.ne_of_lt l_g8_g12); replace B_g11 := fS hw B_g11 (Nat.ne_of_lt l_g11_g12); replace B_g15 := fS hw B_g15 (Nat.ne_of_gt l_g12_g15); replace B_g12 := pS #[.int .i64 0, .int .i64 0, .slice none 0 0] hw B_g12; replace HB := hS hw HB z_g12; clear hf_g12 hz_g11 hz_g12 hz_g15 hz_g6 hz_g7; clear hw))
  refine bodyPost_ret (results_ct rfl _ _ g12 36 #[.int .i64 0, .int .i64 0, .slice none 0 0] (0, 0) _ rfl B_g12.out Try.underlying36 rfl (by kernel_rfl)) rfl ?_
  exact ⟨_, rfl, Kd.R_nil _ _ _ _ _, HB.out⟩
 have t1 : decide (n1 < a1_1) = false := decide_eq_false s1
 by_cases s2 : wrap64 (a1_0 + a0_0) < wrap64 (n0 + n2)
 ·rw [if_pos (Or.inr (Or.inr (Or.inl s2)))] at h
  simp only [Option.some.injEq, Prod.mk.injEq] at h
  obtain ⟨rfl, rfl, rfl, rfl⟩ := h
  replace s2 := decide_eq_true s2
  go_wp2_with (first
   | ((with_reducible refine gate_store (t := 36) (p := 12) rfl ?_); refine storeE (t := 36) (p := 12) (sets w9 g12 0 [.int .i64 0, .int .i64 0, .slice none 0 0]) ?_; intro w10 hw; replace B_g6 := fS hw B_g6 (Nat.ne_of_lt l_g6_g12); replace B_g7 := fS hw B_g7 (Nat.ne_of_lt l_g7_g12); replace B_g8 := fS hw B_g8 (Nat.ne_of_lt l_g8_g12); replace B_g11 := fS hw B_g11 (Nat.ne_of_lt l_g11_g12); replace B_g15 := fS hw B_g15 (Nat.ne_of_gt l_g12_g15); replace B_g12 := pS #[.int .i64 0, .int .i64 0, .slice none 0 0] hw B_g12; replace HB := hS hw HB z_g12; clear hf_g12 hz_g11 hz_g12 hz_g15 hz_g6 hz_g7; clear hw))
  refine bodyPost_ret (results_ct rfl _ _ g12 36 #[.int .i64 0, .int .i64 0, .slice none 0 0] (0, 0) _ rfl B_g12.out Try.underlying36 rfl (by kernel_rfl)) rfl ?_
  exact ⟨_, rfl, Kd.R_nil _ _ _ _ _, HB.out⟩
 have t2 : decide (wrap64 (a1_0 + a0_0) < wrap64 (n0 + n2)) = false := decide_eq_false s2
 by_cases s3 : wrap64 (a1_1 + a0_1) < wrap64 (n1 + n3)
 ·rw [if_pos (Or.inr (Or.inr (Or.inr (s3))))] at h
  simp only [Option.some.injEq, Prod.mk.injEq] at h
  obtain ⟨rfl, rfl, rfl, rfl⟩ := h
  replace s3 := decide_eq_true s3
  go_wp2_with (first
   | ((with_reducible refine gate_store (t := 36) (p := 12) rfl ?_); refine storeE (t := 36) (p := 12) (sets w9 g12 0 [.int .i64 0, .int .i64 0, .slice none 0 0]) ?_; intro w10 hw; replace B_g6 := fS hw B_g6 (Nat.ne_of_lt l_g6_g12); replace B_g7 := fS hw B_g7 (Nat.ne_of_lt l_g7_g12); replace B_g8 := fS hw B_g8 (Nat.ne_of_lt l_g8_g12); replace B_g11 := fS hw B_g11 (Nat.ne_of_lt l_g11_g12); replace B_g15 := fS hw B_g15 (Nat.ne_of_gt l_g12_g15); replace B_g12 := pS #[.int .i64 0, .int .i64 0, .slice none 0 0] hw B_g12; replace HB := hS hw HB z_g12; clear hf_g12 hz_g11 hz_g12 hz_g15 hz_g6 hz_g7; clear hw))
  refine bodyPost_ret (results_ct rfl _ _ g12 36 #[.int .i64 0, .int .i64 0, .slice none 0 0] (0, 0) _ rfl B_g12.out Try.underlying36 rfl (by kernel_rfl)) rfl ?_
  exact ⟨_, rfl, Kd.R_nil _ _ _ _ _, HB.out⟩
 have t3 : decide (wrap64 (a1_1 + a0_1) < wrap64 (n1 + n3)) = false := decide_eq_false s3
 rw [if_neg (by rintro (h | h | h | h) <;> contradiction)] at h
 by_cases hb : 0 ≤ a5_2 ∧ a5_2 ≤ 4611686018427387904 ∧ 0 ≤ a5_3 ∧ a5_3 ≤ 4611686018427387904
 case neg => rw [if_neg hb] at h; cases h
 rw [if_pos hb] at h
 obtain ⟨l, e3, h⟩ := Option.bind_eq_some_iff.mp h
 simp only [Option.some.injEq, Prod.mk.injEq] at h
 obtain ⟨rfl, rfl, rfl, rfl⟩ := h
 obtain ⟨q1, q2, q3, q4⟩ := hb
 obtain ⟨Wn, rfl⟩ := Int.eq_ofNat_of_zero_le q1
 obtain ⟨Hn, rfl⟩ := Int.eq_ofNat_of_zero_le q3
 have hW : Wn ≤ 4611686018427387904 := by omega
 have hH : Hn ≤ 4611686018427387904 := by omega
 simp only [Int.toNat_natCast] at e3
 clear q1 q2 q3 q4 s0 s1 s2 s3
 go_wp2_with (first
  | ((with_reducible refine gate_dst (N := 17) rfl ?_); refine boxE (N := 17) #[.int .i64 0, .int .i64 0, .slice none 0 0] 36 ?_; intro g17 hg w10 hx hb; have l_g6_g17 := lB hg B_g6; have l_g7_g17 := lB hg B_g7; have l_g8_g17 := lB hg B_g8; have l_g11_g17 := lB hg B_g11; have l_g12_g17 := lB hg B_g12; have l_g15_g17 := lB hg B_g15; have z_g17 := zB hg HB; clear hf_g12 hz_g11 hz_g12 hz_g15 hz_g6 hz_g7; replace B_g6 := bb B_g6 hb; replace B_g7 := bb B_g7 hb; replace B_g8 := bb B_g8 hb; replace B_g11 := bb B_g11 hb; replace B_g12 := bb B_g12 hb; replace B_g15 := bb B_g15 hb; replace HB := hh HB hb; have B_g17 := am hx; clear hx hb hg; have hf_g17 := blk_frozen B_g17.out; have hz_g17 := blk_cell B_g17.out)
  | ((with_reducible refine gate_store (t := 36) (p := 17) rfl ?_); refine storeE (t := 36) (p := 17) (sets w10 g17 0 [.int .i64 (Wn : Int), .int .i64 (Hn : Int), .slice none 0 0]) ?_; intro w11 hw; replace B_g6 := fS hw B_g6 (Nat.ne_of_lt l_g6_g17); replace B_g7 := fS hw B_g7 (Nat.ne_of_lt l_g7_g17); replace B_g8 := fS hw B_g8 (Nat.ne_of_lt l_g8_g17); replace B_g11 := fS hw B_g11 (Nat.ne_of_lt l_g11_g17); replace B_g12 := fS hw B_g12 (Nat.ne_of_lt l_g12_g17); replace B_g15 := fS hw B_g15 (Nat.ne_of_lt l_g15_g17); replace B_g17 := pS #[.int .i64 (Wn : Int), .int .i64 (Hn : Int), .slice none 0 0] hw B_g17; replace HB := hS hw HB z_g17; clear hf_g17 hz_g17; clear hw; have hz_g11 := blk_cell B_g11.out))
 go_loopg [86] Hn (fun kq v86 w' => ∃ (y : Nat) (v : Value) (acc0 : List S51), v86 = .int .i64 (y : Int) ∧ Aside0 (y ≤ Hn ∧ Hn - y ≤ kq) ∧ Aside0 (apRows (apPix k a0_0 a0_1 l0_2 a1_0 a1_1 a2_0 a2_1 a2_2 a2_3 a3 l4 a5_0 a5_1 Wn Hn) Wn (Hn - y) y acc0 = some l) ∧ Aside0 (w'.heap[g6]? = some (.cells #[.int .i64 a0_0, .int .i64 a0_1, .slice A0_2 (l0_2.length) c0_2] 36 (0, 0))) ∧ Aside0 (w'.heap[g7]? = some (.cells #[.int .i64 a1_0, .int .i64 a1_1] 47 (0, 0))) ∧ Aside0 (w'.heap[g8]? = some (.cells #[.int .i64 a2_0, .int .i64 a2_1, .int .i64 a2_2, .int .i64 a2_3] 24 (0, 0))) ∧ Aside0 (w'.heap[g11]? = some (.cells #[.int .i64 a5_0, .int .i64 a5_1, .int .i64 (Wn : Int), .int .i64 (Hn : Int)] 24 (0, 0))) ∧ Aside0 (w'.heap[g12]? = some (.cells #[.int .i64 0, .int .i64 0, .slice none 0 0] 36 (0, 0))) ∧ Aside0 (w'.heap[g15]? = some (.cells #[.int .i64 n0, .int .i64 n1, .int .i64 n2, .int .i64 n3] 24 (0, 0))) ∧ Aside0 (w'.heap[g17]? = some (.cells #[.int .i64 (Wn : Int), .int .i64 (Hn : Int), v] 36 (0, 0))) ∧ Aside0 (Kd.R k51 51 w' w.heap.size (fun _ => True) v acc0) ∧ Aside0 (Below w.heap.size w w'))
 case atStart => exact ⟨0, .slice none 0 0, [], rfl, ⟨Nat.zero_le _, Nat.le_refl _⟩, ⟨e3⟩, B_g6, B_g7, B_g8, B_g11, B_g12, B_g15, B_g17, ⟨Kd.R_nil _ _ _ _ _⟩, HB⟩
 case round =>
  clear hz_g11
  clear HB B_g6 B_g7 B_g8 B_g11 B_g12 B_g15 B_g17
  obtain ⟨y, v, acc0, rfl, HX86, HE86, B_g6, B_g7, B_g8, B_g11, B_g12, B_g15, B_g17, R_q86, HB⟩ := hrel
  obtain ⟨A_q86, c_q86, rfl⟩ := Kd.R_slice R_q86.out
  obtain ⟨hx86, hk86⟩ := HX86.out
  by_cases hlt86 : y < Hn
  ·have c86 : decide ((y : Int) < (Hn : Int)) = true := decide_eq_true (by omega)
   cases gk with
   | zero => omega
   | succ k86 =>
    obtain ⟨m, hm⟩ : ∃ m, Hn - y = m + 1 := ⟨Hn - y - 1, by omega⟩
    have h := HE86.out
    rw [hm] at h
    simp only [apRows] at h
    have h2 : (apRow (fun x => apPix k a0_0 a0_1 l0_2 a1_0 a1_1 a2_0 a2_1 a2_2 a2_3 a3 l4 a5_0 a5_1 Wn Hn x y) (Wn - 0) 0 acc0).bind (fun acc => apRows (apPix k a0_0 a0_1 l0_2 a1_0 a1_1 a2_0 a2_1 a2_2 a2_3 a3 l4 a5_0 a5_1 Wn Hn) Wn (Hn - (y + 1)) (y + 1) acc) = some l := by
     rw [show Hn - (y + 1) = m by omega]
     exact h
    clear h
    have hz_g11 := blk_cell B_g11.out
    go_wp2
    go_loopg [91] Wn (fun kq v91 w' => ∃ (x : Nat) (v : Value) (acc : List S51), v91 = .int .i64 (x : Int) ∧ Aside0 (x ≤ Wn ∧ Wn - x ≤ kq) ∧ Aside0 ((apRow (fun x => apPix k a0_0 a0_1 l0_2 a1_0 a1_1 a2_0 a2_1 a2_2 a2_3 a3 l4 a5_0 a5_1 Wn Hn x y) (Wn - x) x acc).bind (fun acc => apRows (apPix k a0_0 a0_1 l0_2 a1_0 a1_1 a2_0 a2_1 a2_2 a2_3 a3 l4 a5_0 a5_1 Wn Hn) Wn (Hn - (y + 1)) (y + 1) acc) = some l) ∧ Aside0 (w'.heap[g6]? = some (.cells #[.int .i64 a0_0, .int .i64 a0_1, .slice A0_2 (l0_2.length) c0_2] 36 (0, 0))) ∧ Aside0 (w'.heap[g7]? = some (.cells #[.int .i64 a1_0, .int .i64 a1_1] 47 (0, 0))) ∧ Aside0 (w'.heap[g8]? = some (.cells #[.int .i64 a2_0, .int .i64 a2_1, .int .i64 a2_2, .int .i64 a2_3] 24 (0, 0))) ∧ Aside0 (w'.heap[g11]? = some (.cells #[.int .i64 a5_0, .int .i64 a5_1, .int .i64 (Wn : Int), .int .i64 (Hn : Int)] 24 (0, 0))) ∧ Aside0 (w'.heap[g12]? = some (.cells #[.int .i64 0, .int .i64 0, .slice none 0 0] 36 (0, 0))) ∧ Aside0 (w'.heap[g15]? = some (.cells #[.int .i64 n0, .int .i64 n1, .int .i64 n2, .int .i64 n3] 24 (0, 0))) ∧ Aside0 (w'.heap[g17]? = some (.cells #[.int .i64 (Wn : Int), .int .i64 (Hn : Int), v] 36 (0, 0))) ∧ Aside0 (Kd.R k51 51 w' w.heap.size (fun _ => True) v acc) ∧ Aside0 (Below w.heap.size w w'))
    case atStart => exact ⟨0, _, acc0, rfl, ⟨Nat.zero_le _, Nat.le_refl _⟩, ⟨h2⟩, B_g6, B_g7, B_g8, B_g11, B_g12, B_g15, B_g17, R_q86, HB⟩
    case round =>
     clear hz_g11
     clear HB B_g6 B_g7 B_g8 B_g11 B_g12 B_g15 B_g17 R_q86
     obtain ⟨x, v, acc, rfl, HX91, HE91, B_g6, B_g7, B_g8, B_g11, B_g12, B_g15, B_g17, R_q91, HB⟩ := hrel
     obtain ⟨A_q91, c_q91, rfl⟩ := Kd.R_slice R_q91.out
     obtain ⟨hx91, hk91⟩ := HX91.out
     by_cases hlt91 : x < Wn
     ·have c91 : decide ((x : Int) < (Wn : Int)) = true := decide_eq_true (by omega)
      cases gk with
      | zero => omega
      | succ k91 =>
       obtain ⟨m, hm⟩ : ∃ m, Wn - x = m + 1 := ⟨Wn - x - 1, by omega⟩
       have h := HE91.out
       rw [hm] at h
       simp only [apRow] at h
       obtain ⟨acc', h1, h2⟩ := Option.bind_eq_some_iff.mp h
       obtain ⟨p, h3, h4⟩ := Option.bind_eq_some_iff.mp h1
       by_cases hlen : acc.length < 4398046511104
       ·rw [if_pos hlen] at h4
        obtain ⟨⟨p0, p1, p2, p3⟩, e4, h5⟩ := Option.bind_eq_some_iff.mp h3
        have h6 := Option.some.inj h5
        have h7 : (apRow (fun x => apPix k a0_0 a0_1 l0_2 a1_0 a1_1 a2_0 a2_1 a2_2 a2_3 a3 l4 a5_0 a5_1 Wn Hn x y) (Wn - (x + 1)) (x + 1) (acc ++ [p])).bind (fun acc => apRows (apPix k a0_0 a0_1 l0_2 a1_0 a1_1 a2_0 a2_1 a2_2 a2_3 a3 l4 a5_0 a5_1 Wn Hn) Wn (Hn - (y + 1)) (y + 1) acc) = some l := by
         rw [show Wn - (x + 1) = m by omega]
         exact Option.bind_eq_some_iff.mpr ⟨acc', h4, h2⟩
        clear h h1 h2 h3 h4 h5
        have hz_g11 := blk_cell B_g11.out
        have hz_g6 := blk_cell B_g6.out
        have hz_g7 := blk_cell B_g7.out
        have hz_g8 := blk_cell B_g8.out
        by_cases hp : p3 = 0
        ·rw [if_pos hp] at h6
         subst h6
         have cp : (p3 == 0) = true := beq_iff_eq.mpr hp
         go_wp2_with (first
          | ((with_reducible refine gate_dst (N := 20) rfl ?_); refine boxE (N := 20) #[.int .i64 0, .int .i64 0, .slice none 0 0, .int .i64 0, .int .i64 0, .int .i64 0, .int .i64 0, .int .i64 0, .int .i64 0, .int .i64 0, .int .i64 0] 71 ?_; intro g20 hg w12 hx hb; have l_g6_g20 := lB hg B_g6; have l_g7_g20 := lB hg B_g7; have l_g8_g20 := lB hg B_g8; have l_g11_g20 := lB hg B_g11; have l_g12_g20 := lB hg B_g12; have l_g15_g20 := lB hg B_g15; have l_g17_g20 := lB hg B_g17; have z_g20 := zB hg HB; clear hz_g11 hz_g6 hz_g7 hz_g8; replace B_g6 := bb B_g6 hb; replace B_g7 := bb B_g7 hb; replace B_g8 := bb B_g8 hb; replace B_g11 := bb B_g11 hb; replace B_g12 := bb B_g12 hb; replace B_g15 := bb B_g15 hb; replace B_g17 := bb B_g17 hb; replace R_q91 := rB R_q91 hb; replace HB := hh HB hb; have B_g20 := am hx; clear hx hb hg; have hf_g20 := blk_frozen B_g20.out; have hz_g20 := blk_cell B_g20.out)
          | ((with_reducible refine gate_store (t := 71) (p := 20) rfl ?_); refine storeE (t := 71) (p := 20) (sets w12 g20 0 [.int .i64 a0_0, .int .i64 a0_1, .slice A0_2 (l0_2.length) c0_2, .int .i64 a1_0, .int .i64 a1_1, .int .i64 a2_0, .int .i64 a2_1, .int .i64 a2_2, .int .i64 a2_3, .int .i64 (wrap64 (a5_0 + (x : Int))), .int .i64 (wrap64 (a5_1 + (y : Int)))]) ?_; intro w13 hw; replace R_q91 := rS hw R_q91 B_g20 (by decide); replace B_g6 := fS hw B_g6 (Nat.ne_of_lt l_g6_g20); replace B_g7 := fS hw B_g7 (Nat.ne_of_lt l_g7_g20); replace B_g8 := fS hw B_g8 (Nat.ne_of_lt l_g8_g20); replace B_g11 := fS hw B_g11 (Nat.ne_of_lt l_g11_g20); replace B_g12 := fS hw B_g12 (Nat.ne_of_lt l_g12_g20); replace B_g15 := fS hw B_g15 (Nat.ne_of_lt l_g15_g20); replace B_g17 := fS hw B_g17 (Nat.ne_of_lt l_g17_g20); replace B_g20 := pS #[.int .i64 a0_0, .int .i64 a0_1, .slice A0_2 (l0_2.length) c0_2, .int .i64 a1_0, .int .i64 a1_1, .int .i64 a2_0, .int .i64 a2_1, .int .i64 a2_2, .int .i64 a2_3, .int .i64 (wrap64 (a5_0 + (x : Int))), .int .i64 (wrap64 (a5_1 + (y : Int)))] hw B_g20; replace HB := hS hw HB z_g20; clear hf_g20 hz_g20; clear hw; have hz_g20 := blk_cell B_g20.out)
          | ((with_reducible refine gate_dst (N := 109) rfl ?_); refine goesE (N := some 109) Try.func39 #[.agg #[.int .i64 a0_0, .int .i64 a0_1, .slice A0_2 (l0_2.length) c0_2, .int .i64 a1_0, .int .i64 a1_1, .int .i64 a2_0, .int .i64 a2_1, .int .i64 a2_2, .int .i64 a2_3, .int .i64 (wrap64 (a5_0 + (x : Int))), .int .i64 (wrap64 (a5_1 + (y : Int)))], .int .i64 a3, .slice A4 (l4.length) c4] ?_; refine (filter_view_filtered.calls k _ _ _ _ _ _ _ _ _ _ _ _ _ a3 _ _ l4 p0 p1 p2 p3 _ (Kd.C_below hr0_2 HB.out) hc0_2 (Kd.C_below hr4 HB.out) hc4 e4).mono ?_; rintro e w14 ⟨rfl, hb⟩; refine ⟨_, rfl, ?_⟩; clear hz_g20; replace B_g6 := bb B_g6 hb; replace B_g7 := bb B_g7 hb; replace B_g8 := bb B_g8 hb; replace B_g11 := bb B_g11 hb; replace B_g12 := bb B_g12 hb; replace B_g15 := bb B_g15 hb; replace B_g17 := bb B_g17 hb; replace B_g20 := bb B_g20 hb; replace R_q91 := rB R_q91 hb; replace HB := hh HB hb; clear hb)
          | ((with_reducible refine gate_dst (N := 21) rfl ?_); refine boxE (N := 21) #[.int .i64 0, .int .i64 0, .int .i64 0, .int .i64 0] 51 ?_; intro g21 hg w15 hx hb; have l_g6_g21 := lB hg B_g6; have l_g7_g21 := lB hg B_g7; have l_g8_g21 := lB hg B_g8; have l_g11_g21 := lB hg B_g11; have l_g12_g21 := lB hg B_g12; have l_g15_g21 := lB hg B_g15; have l_g17_g21 := lB hg B_g17; have l_g20_g21 := lB hg B_g20; have z_g21 := zB hg HB; replace R_q91 := am (Kd.R_elderB R_q91.out g21 (Nat.le_of_eq hg.symm)); replace B_g6 := bb B_g6 hb; replace B_g7 := bb B_g7 hb; replace B_g8 := bb B_g8 hb; replace B_g11 := bb B_g11 hb; replace B_g12 := bb B_g12 hb; replace B_g15 := bb B_g15 hb; replace B_g17 := bb B_g17 hb; replace B_g20 := bb B_g20 hb; replace R_q91 := rB R_q91 hb; replace HB := hh HB hb; have B_g21 := am hx; clear hx hb hg; have hf_g21 := blk_frozen B_g21.out; have hz_g21 := blk_cell B_g21.out)
          | ((with_reducible refine gate_store (t := 51) (p := 21) rfl ?_); refine storeE (t := 51) (p := 21) (sets w15 g21 0 [.int .i64 p0, .int .i64 p1, .int .i64 p2, .int .i64 p3]) ?_; intro w16 hw; replace R_q91 := rF hw R_q91; replace B_g6 := fS hw B_g6 (Nat.ne_of_lt l_g6_g21); replace B_g7 := fS hw B_g7 (Nat.ne_of_lt l_g7_g21); replace B_g8 := fS hw B_g8 (Nat.ne_of_lt l_g8_g21); replace B_g11 := fS hw B_g11 (Nat.ne_of_lt l_g11_g21); replace B_g12 := fS hw B_g12 (Nat.ne_of_lt l_g12_g21); replace B_g15 := fS hw B_g15 (Nat.ne_of_lt l_g15_g21); replace B_g17 := fS hw B_g17 (Nat.ne_of_lt l_g17_g21); replace B_g20 := fS hw B_g20 (Nat.ne_of_lt l_g20_g21); replace B_g21 := pS #[.int .i64 p0, .int .i64 p1, .int .i64 p2, .int .i64 p3] hw B_g21; replace HB := hS hw HB z_g21; clear hf_g21 hz_g21; clear hw; have hf_g21 := blk_frozen B_g21.out; have hz_g21 := blk_cell B_g21.out)
          | ((with_reducible refine gate_store (t := 51) (p := 21) rfl ?_); refine storeE (t := 51) (p := 21) (sets w16 g21 0 [.int .i64 0, .int .i64 0, .int .i64 0, .int .i64 0]) ?_; intro w17 hw; replace R_q91 := rF hw R_q91; replace B_g6 := fS hw B_g6 (Nat.ne_of_lt l_g6_g21); replace B_g7 := fS hw B_g7 (Nat.ne_of_lt l_g7_g21); replace B_g8 := fS hw B_g8 (Nat.ne_of_lt l_g8_g21); replace B_g11 := fS hw B_g11 (Nat.ne_of_lt l_g11_g21); replace B_g12 := fS hw B_g12 (Nat.ne_of_lt l_g12_g21); replace B_g15 := fS hw B_g15 (Nat.ne_of_lt l_g15_g21); replace B_g17 := fS hw B_g17 (Nat.ne_of_lt l_g17_g21); replace B_g20 := fS hw B_g20 (Nat.ne_of_lt l_g20_g21); replace B_g21 := pS #[.int .i64 0, .int .i64 0, .int .i64 0, .int .i64 0] hw B_g21; replace HB := hS hw HB z_g21; clear hf_g21 hz_g21; clear hw; have hz_g17 := blk_cell B_g17.out; have hz_g21 := blk_cell B_g21.out)
          | ((with_reducible refine gate_builtin (b := .append) (xs := #[.tmp 115, .tmp 117]) rfl ?_); at_builtin; refine Kd.R_append k51 (w0 := w) w.heap.size rfl (.tmp 115) (.tmp 117) 34 51 (.agg #[.int .i64 0, .int .i64 0, .int .i64 0, .int .i64 0]) 32 rfl Try.underlying34 info51 rfl (by decide) (by omega) (.slice A_q91 (acc.length) c_q91) acc ((⟨0, 0, 0, 0⟩ : S51)) [.int .i64 0, .int .i64 0, .int .i64 0, .int .i64 0] (fun k_ => True ∧ k_ ≠ g21) (fun _ => False) rfl (by first | (go_simp; done) | (go_simp; rfl)) ?aP (fun _ hk => hk.elim) ?aF R_q91.out HB.out (below_size HB.out) ?aL ?_; (case aP => exact k51_mkM _ _ _ ((⟨0, 0, 0, 0⟩ : S51))); (case aF => exact fun k_ hk => ⟨trivial, Kd.freshB B_g21.out k_ hk⟩); (case aL => (have h_ := hlen; omega)); intro v_x19 w18 hR hb hg hat; clear hz_g17 hz_g21; replace B_g6 := am (blk_grown B_g6.out hg (Kd.R_ne R_q91.out B_g6.out (by decide))); replace B_g7 := am (blk_grown B_g7.out hg (Kd.R_ne R_q91.out B_g7.out (by decide))); replace B_g8 := am (blk_grown B_g8.out hg (Kd.R_ne R_q91.out B_g8.out (by decide))); replace B_g11 := am (blk_grown B_g11.out hg (Kd.R_ne R_q91.out B_g11.out (by decide))); replace B_g12 := am (blk_grown B_g12.out hg (Kd.R_ne R_q91.out B_g12.out (by decide))); replace B_g15 := am (blk_grown B_g15.out hg (Kd.R_ne R_q91.out B_g15.out (by decide))); replace B_g17 := am (blk_grown B_g17.out hg (Kd.R_ne R_q91.out B_g17.out (by decide))); replace B_g20 := am (blk_grown B_g20.out hg (Kd.R_ne R_q91.out B_g20.out (by decide))); replace B_g21 := am (blk_grown B_g21.out hg (Kd.R_away R_q91.out (fun _ hk => hk.2))); have HB := am hb; have R_x19 := am hR; clear hb hR hg hat R_q91; obtain ⟨A_x19, c_x19, rfl⟩ := Kd.R_slice R_x19.out; have hf_g17 := blk_frozen B_g17.out; have hz_g17 := blk_cell B_g17.out)
          | ((with_reducible refine gate_store (t := 34) (p := 119) rfl ?_); refine storeE (t := 34) (p := 119) (sets w18 g17 2 [.slice A_x19 ((acc ++ [(⟨0, 0, 0, 0⟩ : S51)]).length) c_x19]) ?_; intro w20 hw; replace R_x19 := rS hw R_x19 B_g17 (by decide); replace B_g6 := fS hw B_g6 (Nat.ne_of_lt l_g6_g17); replace B_g7 := fS hw B_g7 (Nat.ne_of_lt l_g7_g17); replace B_g8 := fS hw B_g8 (Nat.ne_of_lt l_g8_g17); replace B_g11 := fS hw B_g11 (Nat.ne_of_lt l_g11_g17); replace B_g12 := fS hw B_g12 (Nat.ne_of_lt l_g12_g17); replace B_g15 := fS hw B_g15 (Nat.ne_of_lt l_g15_g17); replace B_g20 := fS hw B_g20 (Nat.ne_of_gt l_g17_g20); replace B_g21 := fS hw B_g21 (Nat.ne_of_gt l_g17_g21); replace B_g17 := pS #[.int .i64 (Wn : Int), .int .i64 (Hn : Int), .slice A_x19 ((acc ++ [(⟨0, 0, 0, 0⟩ : S51)]).length) c_x19] hw B_g17; replace HB := hS hw HB z_g17; clear hf_g17 hz_g17; clear hw))
         go_roundg k91
         case measure => omega
         case rel => exact ⟨x + 1, _, acc ++ [(⟨0, 0, 0, 0⟩ : S51)], by simp, ⟨by omega, by omega⟩, ⟨h7⟩, B_g6, B_g7, B_g8, B_g11, B_g12, B_g15, B_g17, ⟨Kd.R_mono R_x19.out (fun _ _ => trivial)⟩, HB⟩
        ·rw [if_neg hp] at h6
         subst h6
         have cp : (p3 == 0) = false := beq_eq_false_iff_ne.mpr hp
         go_wp2_with (first
          | ((with_reducible refine gate_dst (N := 20) rfl ?_); refine boxE (N := 20) #[.int .i64 0, .int .i64 0, .slice none 0 0, .int .i64 0, .int .i64 0, .int .i64 0, .int .i64 0, .int .i64 0, .int .i64 0, .int .i64 0, .int .i64 0] 71 ?_; intro g20 hg w12 hx hb; have l_g6_g20 := lB hg B_g6; have l_g7_g20 := lB hg B_g7; have l_g8_g20 := lB hg B_g8; have l_g11_g20 := lB hg B_g11; have l_g12_g20 := lB hg B_g12; have l_g15_g20 := lB hg B_g15; have l_g17_g20 := lB hg B_g17; have z_g20 := zB hg HB; clear hz_g11 hz_g6 hz_g7 hz_g8; replace B_g6 := bb B_g6 hb; replace B_g7 := bb B_g7 hb; replace B_g8 := bb B_g8 hb; replace B_g11 := bb B_g11 hb; replace B_g12 := bb B_g12 hb; replace B_g15 := bb B_g15 hb; replace B_g17 := bb B_g17 hb; replace R_q91 := rB R_q91 hb; replace HB := hh HB hb; have B_g20 := am hx; clear hx hb hg; have hf_g20 := blk_frozen B_g20.out; have hz_g20 := blk_cell B_g20.out)
          | ((with_reducible refine gate_store (t := 71) (p := 20) rfl ?_); refine storeE (t := 71) (p := 20) (sets w12 g20 0 [.int .i64 a0_0, .int .i64 a0_1, .slice A0_2 (l0_2.length) c0_2, .int .i64 a1_0, .int .i64 a1_1, .int .i64 a2_0, .int .i64 a2_1, .int .i64 a2_2, .int .i64 a2_3, .int .i64 (wrap64 (a5_0 + (x : Int))), .int .i64 (wrap64 (a5_1 + (y : Int)))]) ?_; intro w13 hw; replace R_q91 := rS hw R_q91 B_g20 (by decide); replace B_g6 := fS hw B_g6 (Nat.ne_of_lt l_g6_g20); replace B_g7 := fS hw B_g7 (Nat.ne_of_lt l_g7_g20); replace B_g8 := fS hw B_g8 (Nat.ne_of_lt l_g8_g20); replace B_g11 := fS hw B_g11 (Nat.ne_of_lt l_g11_g20); replace B_g12 := fS hw B_g12 (Nat.ne_of_lt l_g12_g20); replace B_g15 := fS hw B_g15 (Nat.ne_of_lt l_g15_g20); replace B_g17 := fS hw B_g17 (Nat.ne_of_lt l_g17_g20); replace B_g20 := pS #[.int .i64 a0_0, .int .i64 a0_1, .slice A0_2 (l0_2.length) c0_2, .int .i64 a1_0, .int .i64 a1_1, .int .i64 a2_0, .int .i64 a2_1, .int .i64 a2_2, .int .i64 a2_3, .int .i64 (wrap64 (a5_0 + (x : Int))), .int .i64 (wrap64 (a5_1 + (y : Int)))] hw B_g20; replace HB := hS hw HB z_g20; clear hf_g20 hz_g20; clear hw; have hz_g20 := blk_cell B_g20.out)
          | ((with_reducible refine gate_dst (N := 109) rfl ?_); refine goesE (N := some 109) Try.func39 #[.agg #[.int .i64 a0_0, .int .i64 a0_1, .slice A0_2 (l0_2.length) c0_2, .int .i64 a1_0, .int .i64 a1_1, .int .i64 a2_0, .int .i64 a2_1, .int .i64 a2_2, .int .i64 a2_3, .int .i64 (wrap64 (a5_0 + (x : Int))), .int .i64 (wrap64 (a5_1 + (y : Int)))], .int .i64 a3, .slice A4 (l4.length) c4] ?_; refine (filter_view_filtered.calls k _ _ _ _ _ _ _ _ _ _ _ _ _ a3 _ _ l4 p0 p1 p2 p3 _ (Kd.C_below hr0_2 HB.out) hc0_2 (Kd.C_below hr4 HB.out) hc4 e4).mono ?_; rintro e w14 ⟨rfl, hb⟩; refine ⟨_, rfl, ?_⟩; clear hz_g20; replace B_g6 := bb B_g6 hb; replace B_g7 := bb B_g7 hb; replace B_g8 := bb B_g8 hb; replace B_g11 := bb B_g11 hb; replace B_g12 := bb B_g12 hb; replace B_g15 := bb B_g15 hb; replace B_g17 := bb B_g17 hb; replace B_g20 := bb B_g20 hb; replace R_q91 := rB R_q91 hb; replace HB := hh HB hb; clear hb)
          | ((with_reducible refine gate_dst (N := 21) rfl ?_); refine boxE (N := 21) #[.int .i64 0, .int .i64 0, .int .i64 0, .int .i64 0] 51 ?_; intro g21 hg w15 hx hb; have l_g6_g21 := lB hg B_g6; have l_g7_g21 := lB hg B_g7; have l_g8_g21 := lB hg B_g8; have l_g11_g21 := lB hg B_g11; have l_g12_g21 := lB hg B_g12; have l_g15_g21 := lB hg B_g15; have l_g17_g21 := lB hg B_g17; have l_g20_g21 := lB hg B_g20; have z_g21 := zB hg HB; replace R_q91 := am (Kd.R_elderB R_q91.out g21 (Nat.le_of_eq hg.symm)); replace B_g6 := bb B_g6 hb; replace B_g7 := bb B_g7 hb; replace B_g8 := bb B_g8 hb; replace B_g11 := bb B_g11 hb; replace B_g12 := bb B_g12 hb; replace B_g15 := bb B_g15 hb; replace B_g17 := bb B_g17 hb; replace B_g20 := bb B_g20 hb; replace R_q91 := rB R_q91 hb; replace HB := hh HB hb; have B_g21 := am hx; clear hx hb hg; have hf_g21 := blk_frozen B_g21.out; have hz_g21 := blk_cell B_g21.out)
          | ((with_reducible refine gate_store (t := 51) (p := 21) rfl ?_); refine storeE (t := 51) (p := 21) (sets w15 g21 0 [.int .i64 p0, .int .i64 p1, .int .i64 p2, .int .i64 p3]) ?_; intro w16 hw; replace R_q91 := rF hw R_q91; replace B_g6 := fS hw B_g6 (Nat.ne_of_lt l_g6_g21); replace B_g7 := fS hw B_g7 (Nat.ne_of_lt l_g7_g21); replace B_g8 := fS hw B_g8 (Nat.ne_of_lt l_g8_g21); replace B_g11 := fS hw B_g11 (Nat.ne_of_lt l_g11_g21); replace B_g12 := fS hw B_g12 (Nat.ne_of_lt l_g12_g21); replace B_g15 := fS hw B_g15 (Nat.ne_of_lt l_g15_g21); replace B_g17 := fS hw B_g17 (Nat.ne_of_lt l_g17_g21); replace B_g20 := fS hw B_g20 (Nat.ne_of_lt l_g20_g21); replace B_g21 := pS #[.int .i64 p0, .int .i64 p1, .int .i64 p2, .int .i64 p3] hw B_g21; replace HB := hS hw HB z_g21; clear hf_g21 hz_g21; clear hw; have hz_g17 := blk_cell B_g17.out; have hz_g21 := blk_cell B_g21.out)
          | ((with_reducible refine gate_builtin (b := .append) (xs := #[.tmp 115, .tmp 117]) rfl ?_); at_builtin; refine Kd.R_append k51 (w0 := w) w.heap.size rfl (.tmp 115) (.tmp 117) 34 51 (.agg #[.int .i64 0, .int .i64 0, .int .i64 0, .int .i64 0]) 32 rfl Try.underlying34 info51 rfl (by decide) (by omega) (.slice A_q91 (acc.length) c_q91) acc ((⟨p0, p1, p2, p3⟩ : S51)) [.int .i64 p0, .int .i64 p1, .int .i64 p2, .int .i64 p3] (fun k_ => True ∧ k_ ≠ g21) (fun _ => False) rfl (by first | (go_simp; done) | (go_simp; rfl)) ?aP (fun _ hk => hk.elim) ?aF R_q91.out HB.out (below_size HB.out) ?aL ?_; (case aP => exact k51_mkM _ _ _ ((⟨p0, p1, p2, p3⟩ : S51))); (case aF => exact fun k_ hk => ⟨trivial, Kd.freshB B_g21.out k_ hk⟩); (case aL => (have h_ := hlen; omega)); intro v_x18 w17 hR hb hg hat; clear hz_g17 hz_g21; replace B_g6 := am (blk_grown B_g6.out hg (Kd.R_ne R_q91.out B_g6.out (by decide))); replace B_g7 := am (blk_grown B_g7.out hg (Kd.R_ne R_q91.out B_g7.out (by decide))); replace B_g8 := am (blk_grown B_g8.out hg (Kd.R_ne R_q91.out B_g8.out (by decide))); replace B_g11 := am (blk_grown B_g11.out hg (Kd.R_ne R_q91.out B_g11.out (by decide))); replace B_g12 := am (blk_grown B_g12.out hg (Kd.R_ne R_q91.out B_g12.out (by decide))); replace B_g15 := am (blk_grown B_g15.out hg (Kd.R_ne R_q91.out B_g15.out (by decide))); replace B_g17 := am (blk_grown B_g17.out hg (Kd.R_ne R_q91.out B_g17.out (by decide))); replace B_g20 := am (blk_grown B_g20.out hg (Kd.R_ne R_q91.out B_g20.out (by decide))); replace B_g21 := am (blk_grown B_g21.out hg (Kd.R_away R_q91.out (fun _ hk => hk.2))); have HB := am hb; have R_x18 := am hR; clear hb hR hg hat R_q91; obtain ⟨A_x18, c_x18, rfl⟩ := Kd.R_slice R_x18.out; have hf_g17 := blk_frozen B_g17.out; have hz_g17 := blk_cell B_g17.out)
          | ((with_reducible refine gate_store (t := 34) (p := 119) rfl ?_); refine storeE (t := 34) (p := 119) (sets w17 g17 2 [.slice A_x18 ((acc ++ [(⟨p0, p1, p2, p3⟩ : S51)]).length) c_x18]) ?_; intro w19 hw; replace R_x18 := rS hw R_x18 B_g17 (by decide); replace B_g6 := fS hw B_g6 (Nat.ne_of_lt l_g6_g17); replace B_g7 := fS hw B_g7 (Nat.ne_of_lt l_g7_g17); replace B_g8 := fS hw B_g8 (Nat.ne_of_lt l_g8_g17); replace B_g11 := fS hw B_g11 (Nat.ne_of_lt l_g11_g17); replace B_g12 := fS hw B_g12 (Nat.ne_of_lt l_g12_g17); replace B_g15 := fS hw B_g15 (Nat.ne_of_lt l_g15_g17); replace B_g20 := fS hw B_g20 (Nat.ne_of_gt l_g17_g20); replace B_g21 := fS hw B_g21 (Nat.ne_of_gt l_g17_g21); replace B_g17 := pS #[.int .i64 (Wn : Int), .int .i64 (Hn : Int), .slice A_x18 ((acc ++ [(⟨p0, p1, p2, p3⟩ : S51)]).length) c_x18] hw B_g17; replace HB := hS hw HB z_g17; clear hf_g17 hz_g17; clear hw))
         go_roundg k91
         case measure => omega
         case rel => exact ⟨x + 1, _, acc ++ [(⟨p0, p1, p2, p3⟩ : S51)], by simp, ⟨by omega, by omega⟩, ⟨h7⟩, B_g6, B_g7, B_g8, B_g11, B_g12, B_g15, B_g17, ⟨Kd.R_mono R_x18.out (fun _ _ => trivial)⟩, HB⟩
       ·rw [if_neg hlen] at h4
        cases h4
     ·have c91 : decide ((x : Int) < (Wn : Int)) = false := decide_eq_false (by omega)
      have hx9 : x = Wn := by omega
      have h := HE91.out
      rw [show Wn - x = 0 by omega] at h
      simp only [apRow, Option.bind_some] at h
      subst hx9
      go_wp2
      go_roundg k86
      case measure => omega
      case rel => exact ⟨y + 1, _, acc, by simp, ⟨by omega, by omega⟩, ⟨h⟩, B_g6, B_g7, B_g8, B_g11, B_g12, B_g15, B_g17, R_q91, HB⟩
  ·have c86 : decide ((y : Int) < (Hn : Int)) = false := decide_eq_false (by omega)
   have h := HE86.out
   rw [show Hn - y = 0 by omega] at h
   simp only [apRows, Option.some.injEq] at h
   subst h
   have hf_g12 := blk_frozen B_g12.out
   have hz_g12 := blk_cell B_g12.out
   have hz_g17 := blk_cell B_g17.out
   go_wp2_with (first
    | ((with_reducible refine gate_store (t := 36) (p := 12) rfl ?_); refine storeE (t := 36) (p := 12) (sets wr g12 0 [.int .i64 (Wn : Int), .int .i64 (Hn : Int), .slice A_q86 (acc0.length) c_q86]) ?_; intro w12 hw; replace R_q86 := rS hw R_q86 B_g12 (by decide); replace B_g6 := fS hw B_g6 (Nat.ne_of_lt l_g6_g12); replace B_g7 := fS hw B_g7 (Nat.ne_of_lt l_g7_g12); replace B_g8 := fS hw B_g8 (Nat.ne_of_lt l_g8_g12); replace B_g11 := fS hw B_g11 (Nat.ne_of_lt l_g11_g12); replace B_g15 := fS hw B_g15 (Nat.ne_of_gt l_g12_g15); replace B_g17 := fS hw B_g17 (Nat.ne_of_gt l_g12_g17); replace B_g12 := pS #[.int .i64 (Wn : Int), .int .i64 (Hn : Int), .slice A_q86 (acc0.length) c_q86] hw B_g12; replace HB := hS hw HB z_g12; clear hf_g12 hz_g12 hz_g17; clear hw))
   refine bodyPost_ret (results_ct rfl _ _ g12 36 #[.int .i64 (Wn : Int), .int .i64 (Hn : Int), .slice A_q86 (acc0.length) c_q86] (0, 0) _ rfl B_g12.out Try.underlying36 rfl (by kernel_rfl)) rfl ?_
   exact ⟨_, rfl, R_q86.out, HB.out⟩
theorem filter_Apply.calls (k : Nat) (a0_0 a0_1 : Int) (A0_2 : Option Addr) (c0_2 : Nat) (l0_2 : List (S51)) (a1_0 a1_1 a2_0 a2_1 a2_2 a2_3 a3 : Int) (A4 : Option Addr) (c4 : Nat) (l4 : List Int) (a5_0 a5_1 a5_2 a5_3 : Int) (r1 r2 : Int) (r3 : List S51) (r4 : Int) (w : World) (hr0_2 : Kd.C k51 w A0_2 l0_2.length l0_2) (hc0_2 : l0_2.length ≤ c0_2) (hr4 : Kd.C (Kd.int .i64) w A4 l4.length l4) (hc4 : l4.length ≤ c4) (h : filter_Apply.f k a0_0 a0_1 l0_2 a1_0 a1_1 a2_0 a2_1 a2_2 a2_3 a3 l4 a5_0 a5_1 a5_2 a5_3 = some (r1, r2, r3, r4)) :
  Calls Try.prog 20 #[.agg #[.int .i64 a0_0, .int .i64 a0_1, .slice A0_2 (l0_2.length) c0_2], .agg #[.int .i64 a1_0, .int .i64 a1_1], .agg #[.int .i64 a2_0, .int .i64 a2_1, .int .i64 a2_2, .int .i64 a2_3], .int .i64 a3, .slice A4 (l4.length) c4, .agg #[.int .i64 a5_0, .int .i64 a5_1, .int .i64 a5_2, .int .i64 a5_3]] w fun e w' => ∃ v2_ : Value, e = .returned (.tuple #[.agg #[.int .i64 r1, .int .i64 r2, v2_], .int .i64 r4]) ∧ Kd.R k51 51 w' w.heap.size (fun _ => True) v2_ r3 ∧ Below w.heap.size w w' := by
 unfold filter_Apply.f at h
 obtain ⟨c, e1, h⟩ := Option.bind_eq_some_iff.mp h
 by_cases hc : c = 0
 ·rw [if_pos hc] at h
  rw [hc] at e1
  obtain ⟨⟨n0, n1, n2, n3, er⟩, e2, h⟩ := Option.bind_eq_some_iff.mp h
  by_cases he : er = 0
  ·rw [if_pos he] at h
   rw [he] at e2
   exact Apply_tail k a0_0 a0_1 A0_2 c0_2 l0_2 a1_0 a1_1 a2_0 a2_1 a2_2 a2_3 a3 A4 c4 l4 a5_0 a5_1 a5_2 a5_3 n0 n1 n2 n3 r1 r2 r3 r4 w hr0_2 hc0_2 hr4 hc4 e1 e2 h
  ·rw [if_neg he] at h
   simp only [Option.some.injEq, Prod.mk.injEq] at h
   obtain ⟨rfl, rfl, rfl, rfl⟩ := h
   exact Apply_needs k a0_0 a0_1 A0_2 c0_2 l0_2 a1_0 a1_1 a2_0 a2_1 a2_2 a2_3 a3 A4 c4 l4 a5_0 a5_1 a5_2 a5_3 n0 n1 n2 n3 _ w hr0_2 hc0_2 hr4 hc4 e1 e2 he
 ·rw [if_neg hc] at h
  simp only [Option.some.injEq, Prod.mk.injEq] at h
  obtain ⟨rfl, rfl, rfl, rfl⟩ := h
  exact Apply_check k a0_0 a0_1 A0_2 c0_2 l0_2 a1_0 a1_1 a2_0 a2_1 a2_2 a2_3 a3 A4 c4 l4 a5_0 a5_1 a5_2 a5_3 _ w hr0_2 hc0_2 hr4 hc4 e1 hc


/-! ### filter_Whole: function 18: proved by hand -/
def filter_Whole.f (k : Nat) (a0_0 a0_1 : Int) (l0_2 : List (S51)) (a1 : Int) (l2 : List Int) : Option (Int × Int × (List (S51)) × Int) :=
 (raster_Check.f k a0_0 a0_1 l0_2).bind fun c => if c = 0 then (filter_Check.f a1 l2).bind fun t => if t = 0 then (if a0_0 = 0 then some (0, 0, [], 0) else filter_Apply.f k a0_0 a0_1 l0_2 0 0 0 0 a0_0 a0_1 a1 l2 0 0 a0_0 a0_1) else some (0, 0, [], t) else some (0, 0, [], c)
theorem filter_Whole.mono : ∀ a0 a1 a2 a3 a4 k, LeO (filter_Whole.f k a0 a1 a2 a3 a4) (filter_Whole.f (k + 1) a0 a1 a2 a3 a4) := by
 intro a0 a1 a2 a3 a4 k
 unfold filter_Whole.f
 exact LeO.bind (raster_Check.mono _ _ _ _) fun _ => LeO.ite (LeO.bind (LeO.refl _) fun _ => LeO.ite (LeO.ite (LeO.refl _) (filter_Apply.mono _ _ _ _ _ _ _ _ _ _ _ _ _ _ _ _ )) (LeO.refl _)) (LeO.refl _)

set_option maxHeartbeats 8000000 in
set_option maxRecDepth 100000 in
theorem Whole_check (k : Nat) (a0_0 a0_1 : Int) (A0_2 : Option Addr) (c0_2 : Nat) (l0_2 : List (S51)) (a1 : Int) (A2 : Option Addr) (c2 : Nat) (l2 : List Int) (c : Int) (w : World) (hr0_2 : Kd.C k51 w A0_2 l0_2.length l0_2) (hc0_2 : l0_2.length ≤ c0_2) (hr2 : Kd.C (Kd.int .i64) w A2 l2.length l2) (hc2 : l2.length ≤ c2) (e1 : raster_Check.f k a0_0 a0_1 l0_2 = some c) (hc : c ≠ 0) :
  Calls Try.prog 18 #[.agg #[.int .i64 a0_0, .int .i64 a0_1, .slice A0_2 (l0_2.length) c0_2], .int .i64 a1, .slice A2 (l2.length) c2] w fun e w' => ∃ v2_ : Value, e = .returned (.tuple #[.agg #[.int .i64 0, .int .i64 0, v2_], .int .i64 c]) ∧ Kd.R k51 51 w' w.heap.size (fun _ => True) v2_ [] ∧ Below w.heap.size w w' := by
 have hu36 := Try.underlying36
 have hu47 := Try.underlying47
 have hu24 := Try.underlying24
 have hu34 := Try.underlying34
 have HB := am (Below.refl w.heap.size w)
 have t1 : (c != 0) = true := bne_iff_ne.mpr hc
 go_enter Try.func18, Try.ntmps18
 go_wp2_with (first
  | ((with_reducible refine gate_dst (N := 3) rfl ?_); refine boxE (N := 3) #[.int .i64 a0_0, .int .i64 a0_1, .slice A0_2 (l0_2.length) c0_2] 36 ?_; intro g3 hg w1 hx hb; have z_g3 := zB hg HB; replace HB := hh HB hb; have B_g3 := am hx; clear hx hb hg)
  | ((with_reducible refine gate_dst (N := 6) rfl ?_); refine boxE (N := 6) #[.int .i64 0, .int .i64 0, .slice none 0 0] 36 ?_; intro g6 hg w2 hx hb; have l_g3_g6 := lB hg B_g3; have z_g6 := zB hg HB; replace B_g3 := bb B_g3 hb; replace HB := hh HB hb; have B_g6 := am hx; clear hx hb hg; have hz_g3 := blk_cell B_g3.out)
  | ((with_reducible refine gate_dst (N := 12) rfl ?_); refine goesE (N := some 12) Try.func37 #[.agg #[.int .i64 a0_0, .int .i64 a0_1, .slice A0_2 (l0_2.length) c0_2]] ?_; refine (raster_Check.calls k _ _ _ _ _ c _ (Kd.C_below hr0_2 HB.out) hc0_2 e1).mono ?_; rintro e w3 ⟨rfl, hb⟩; refine ⟨_, rfl, ?_⟩; clear hz_g3; replace B_g3 := bb B_g3 hb; replace B_g6 := bb B_g6 hb; replace HB := hh HB hb; clear hb; have hf_g6 := blk_frozen B_g6.out; have hz_g6 := blk_cell B_g6.out)
  | ((with_reducible refine gate_store (t := 36) (p := 6) rfl ?_); refine storeE (t := 36) (p := 6) (sets w3 g6 0 [.int .i64 0, .int .i64 0, .slice none 0 0]) ?_; intro w4 hw; replace B_g3 := fS hw B_g3 (Nat.ne_of_lt l_g3_g6); replace B_g6 := pS #[.int .i64 0, .int .i64 0, .slice none 0 0] hw B_g6; replace HB := hS hw HB z_g6; clear hf_g6 hz_g6; clear hw))
 refine bodyPost_ret (results_ct rfl _ _ g6 36 #[.int .i64 0, .int .i64 0, .slice none 0 0] (0, 0) _ rfl B_g6.out Try.underlying36 rfl (by kernel_rfl)) rfl ?_
 exact ⟨_, rfl, Kd.R_nil _ _ _ _ _, HB.out⟩
set_option maxHeartbeats 8000000 in
set_option maxRecDepth 100000 in
theorem Whole_err (k : Nat) (a0_0 a0_1 : Int) (A0_2 : Option Addr) (c0_2 : Nat) (l0_2 : List (S51)) (a1 : Int) (A2 : Option Addr) (c2 : Nat) (l2 : List Int) (t : Int) (w : World) (hr0_2 : Kd.C k51 w A0_2 l0_2.length l0_2) (hc0_2 : l0_2.length ≤ c0_2) (hr2 : Kd.C (Kd.int .i64) w A2 l2.length l2) (hc2 : l2.length ≤ c2) (e1 : raster_Check.f k a0_0 a0_1 l0_2 = some 0) (e2 : filter_Check.f a1 l2 = some t) (ht : t ≠ 0) :
  Calls Try.prog 18 #[.agg #[.int .i64 a0_0, .int .i64 a0_1, .slice A0_2 (l0_2.length) c0_2], .int .i64 a1, .slice A2 (l2.length) c2] w fun e w' => ∃ v2_ : Value, e = .returned (.tuple #[.agg #[.int .i64 0, .int .i64 0, v2_], .int .i64 t]) ∧ Kd.R k51 51 w' w.heap.size (fun _ => True) v2_ [] ∧ Below w.heap.size w w' := by
 have hu36 := Try.underlying36
 have hu47 := Try.underlying47
 have hu24 := Try.underlying24
 have hu34 := Try.underlying34
 have HB := am (Below.refl w.heap.size w)
 have t1 : (t != 0) = true := bne_iff_ne.mpr ht
 go_enter Try.func18, Try.ntmps18
 go_wp2_with (first
  | ((with_reducible refine gate_dst (N := 3) rfl ?_); refine boxE (N := 3) #[.int .i64 a0_0, .int .i64 a0_1, .slice A0_2 (l0_2.length) c0_2] 36 ?_; intro g3 hg w1 hx hb; have z_g3 := zB hg HB; replace HB := hh HB hb; have B_g3 := am hx; clear hx hb hg)
  | ((with_reducible refine gate_dst (N := 6) rfl ?_); refine boxE (N := 6) #[.int .i64 0, .int .i64 0, .slice none 0 0] 36 ?_; intro g6 hg w2 hx hb; have l_g3_g6 := lB hg B_g3; have z_g6 := zB hg HB; replace B_g3 := bb B_g3 hb; replace HB := hh HB hb; have B_g6 := am hx; clear hx hb hg; have hz_g3 := blk_cell B_g3.out)
  | ((with_reducible refine gate_dst (N := 12) rfl ?_); refine goesE (N := some 12) Try.func37 #[.agg #[.int .i64 a0_0, .int .i64 a0_1, .slice A0_2 (l0_2.length) c0_2]] ?_; refine (raster_Check.calls k _ _ _ _ _ 0 _ (Kd.C_below hr0_2 HB.out) hc0_2 e1).mono ?_; rintro e w3 ⟨rfl, hb⟩; refine ⟨_, rfl, ?_⟩; clear hz_g3; replace B_g3 := bb B_g3 hb; replace B_g6 := bb B_g6 hb; replace HB := hh HB hb; clear hb)
  | ((with_reducible refine gate_dst (N := 19) rfl ?_); refine goesE (N := some 19) Try.func9 #[.int .i64 a1, .slice A2 (l2.length) c2] ?_; refine (filter_Check.calls a1 _ c2 l2 t _ (Kd.C_below hr2 HB.out) hc2 e2).mono ?_; rintro e w4 ⟨rfl, hb⟩; refine ⟨_, rfl, ?_⟩; replace B_g3 := bb B_g3 hb; replace B_g6 := bb B_g6 hb; replace HB := hh HB hb; clear hb; have hf_g6 := blk_frozen B_g6.out; have hz_g6 := blk_cell B_g6.out)
  | ((with_reducible refine gate_store (t := 36) (p := 6) rfl ?_); refine storeE (t := 36) (p := 6) (sets w4 g6 0 [.int .i64 0, .int .i64 0, .slice none 0 0]) ?_; intro w5 hw; replace B_g3 := fS hw B_g3 (Nat.ne_of_lt l_g3_g6); replace B_g6 := pS #[.int .i64 0, .int .i64 0, .slice none 0 0] hw B_g6; replace HB := hS hw HB z_g6; clear hf_g6 hz_g6; clear hw))
 refine bodyPost_ret (results_ct rfl _ _ g6 36 #[.int .i64 0, .int .i64 0, .slice none 0 0] (0, 0) _ rfl B_g6.out Try.underlying36 rfl (by kernel_rfl)) rfl ?_
 exact ⟨_, rfl, Kd.R_nil _ _ _ _ _, HB.out⟩
set_option maxHeartbeats 8000000 in
set_option maxRecDepth 100000 in
theorem Whole_none (k : Nat) (a0_0 a0_1 : Int) (A0_2 : Option Addr) (c0_2 : Nat) (l0_2 : List (S51)) (a1 : Int) (A2 : Option Addr) (c2 : Nat) (l2 : List Int)  (w : World) (hr0_2 : Kd.C k51 w A0_2 l0_2.length l0_2) (hc0_2 : l0_2.length ≤ c0_2) (hr2 : Kd.C (Kd.int .i64) w A2 l2.length l2) (hc2 : l2.length ≤ c2) (e1 : raster_Check.f k a0_0 a0_1 l0_2 = some 0) (e2 : filter_Check.f a1 l2 = some 0) (hw0 : a0_0 = 0) :
  Calls Try.prog 18 #[.agg #[.int .i64 a0_0, .int .i64 a0_1, .slice A0_2 (l0_2.length) c0_2], .int .i64 a1, .slice A2 (l2.length) c2] w fun e w' => ∃ v2_ : Value, e = .returned (.tuple #[.agg #[.int .i64 0, .int .i64 0, v2_], .int .i64 0]) ∧ Kd.R k51 51 w' w.heap.size (fun _ => True) v2_ [] ∧ Below w.heap.size w w' := by
 have hu36 := Try.underlying36
 have hu47 := Try.underlying47
 have hu24 := Try.underlying24
 have hu34 := Try.underlying34
 have HB := am (Below.refl w.heap.size w)
 have t1 : (a0_0 == 0) = true := beq_iff_eq.mpr hw0
 clear hw0
 go_enter Try.func18, Try.ntmps18
 go_wp2_with (first
  | ((with_reducible refine gate_dst (N := 3) rfl ?_); refine boxE (N := 3) #[.int .i64 a0_0, .int .i64 a0_1, .slice A0_2 (l0_2.length) c0_2] 36 ?_; intro g3 hg w1 hx hb; have z_g3 := zB hg HB; replace HB := hh HB hb; have B_g3 := am hx; clear hx hb hg)
  | ((with_reducible refine gate_dst (N := 6) rfl ?_); refine boxE (N := 6) #[.int .i64 0, .int .i64 0, .slice none 0 0] 36 ?_; intro g6 hg w2 hx hb; have l_g3_g6 := lB hg B_g3; have z_g6 := zB hg HB; replace B_g3 := bb B_g3 hb; replace HB := hh HB hb; have B_g6 := am hx; clear hx hb hg; have hz_g3 := blk_cell B_g3.out)
  | ((with_reducible refine gate_dst (N := 12) rfl ?_); refine goesE (N := some 12) Try.func37 #[.agg #[.int .i64 a0_0, .int .i64 a0_1, .slice A0_2 (l0_2.length) c0_2]] ?_; refine (raster_Check.calls k _ _ _ _ _ 0 _ (Kd.C_below hr0_2 HB.out) hc0_2 e1).mono ?_; rintro e w3 ⟨rfl, hb⟩; refine ⟨_, rfl, ?_⟩; clear hz_g3; replace B_g3 := bb B_g3 hb; replace B_g6 := bb B_g6 hb; replace HB := hh HB hb; clear hb)
  | ((with_reducible refine gate_dst (N := 19) rfl ?_); refine goesE (N := some 19) Try.func9 #[.int .i64 a1, .slice A2 (l2.length) c2] ?_; refine (filter_Check.calls a1 _ c2 l2 0 _ (Kd.C_below hr2 HB.out) hc2 e2).mono ?_; rintro e w4 ⟨rfl, hb⟩; refine ⟨_, rfl, ?_⟩; replace B_g3 := bb B_g3 hb; replace B_g6 := bb B_g6 hb; replace HB := hh HB hb; clear hb; have hf_g6 := blk_frozen B_g6.out; have hz_g3 := blk_cell B_g3.out; have hz_g6 := blk_cell B_g6.out)
  | ((with_reducible refine gate_store (t := 36) (p := 6) rfl ?_); refine storeE (t := 36) (p := 6) (sets w4 g6 0 [.int .i64 0, .int .i64 0, .slice none 0 0]) ?_; intro w5 hw; replace B_g3 := fS hw B_g3 (Nat.ne_of_lt l_g3_g6); replace B_g6 := pS #[.int .i64 0, .int .i64 0, .slice none 0 0] hw B_g6; replace HB := hS hw HB z_g6; clear hf_g6 hz_g3 hz_g6; clear hw))
 refine bodyPost_ret (results_ct rfl _ _ g6 36 #[.int .i64 0, .int .i64 0, .slice none 0 0] (0, 0) _ rfl B_g6.out Try.underlying36 rfl (by kernel_rfl)) rfl ?_
 exact ⟨_, rfl, Kd.R_nil _ _ _ _ _, HB.out⟩
set_option maxHeartbeats 8000000 in
set_option maxRecDepth 100000 in
theorem Whole_ok (k : Nat) (a0_0 a0_1 : Int) (A0_2 : Option Addr) (c0_2 : Nat) (l0_2 : List (S51)) (a1 : Int) (A2 : Option Addr) (c2 : Nat) (l2 : List Int) (r1 r2 : Int) (r3 : List S51) (r4 : Int) (w : World) (hr0_2 : Kd.C k51 w A0_2 l0_2.length l0_2) (hc0_2 : l0_2.length ≤ c0_2) (hr2 : Kd.C (Kd.int .i64) w A2 l2.length l2) (hc2 : l2.length ≤ c2) (e1 : raster_Check.f k a0_0 a0_1 l0_2 = some 0) (e2 : filter_Check.f a1 l2 = some 0) (hw0 : ¬ a0_0 = 0) (e3 : filter_Apply.f k a0_0 a0_1 l0_2 0 0 0 0 a0_0 a0_1 a1 l2 0 0 a0_0 a0_1 = some (r1, r2, r3, r4)) :
  Calls Try.prog 18 #[.agg #[.int .i64 a0_0, .int .i64 a0_1, .slice A0_2 (l0_2.length) c0_2], .int .i64 a1, .slice A2 (l2.length) c2] w fun e w' => ∃ v2_ : Value, e = .returned (.tuple #[.agg #[.int .i64 r1, .int .i64 r2, v2_], .int .i64 r4]) ∧ Kd.R k51 51 w' w.heap.size (fun _ => True) v2_ r3 ∧ Below w.heap.size w w' := by
 have hu36 := Try.underlying36
 have hu47 := Try.underlying47
 have hu24 := Try.underlying24
 have hu34 := Try.underlying34
 have HB := am (Below.refl w.heap.size w)
 have t1 : (a0_0 == 0) = false := beq_eq_false_iff_ne.mpr hw0
 go_enter Try.func18, Try.ntmps18
 go_wp2_with (first
  | ((with_reducible refine gate_dst (N := 3) rfl ?_); refine boxE (N := 3) #[.int .i64 a0_0, .int .i64 a0_1, .slice A0_2 (l0_2.length) c0_2] 36 ?_; intro g3 hg w1 hx hb; have z_g3 := zB hg HB; replace HB := hh HB hb; have B_g3 := am hx; clear hx hb hg)
  | ((with_reducible refine gate_dst (N := 6) rfl ?_); refine boxE (N := 6) #[.int .i64 0, .int .i64 0, .slice none 0 0] 36 ?_; intro g6 hg w2 hx hb; have l_g3_g6 := lB hg B_g3; have z_g6 := zB hg HB; replace B_g3 := bb B_g3 hb; replace HB := hh HB hb; have B_g6 := am hx; clear hx hb hg; have hz_g3 := blk_cell B_g3.out)
  | ((with_reducible refine gate_dst (N := 12) rfl ?_); refine goesE (N := some 12) Try.func37 #[.agg #[.int .i64 a0_0, .int .i64 a0_1, .slice A0_2 (l0_2.length) c0_2]] ?_; refine (raster_Check.calls k _ _ _ _ _ 0 _ (Kd.C_below hr0_2 HB.out) hc0_2 e1).mono ?_; rintro e w3 ⟨rfl, hb⟩; refine ⟨_, rfl, ?_⟩; clear hz_g3; replace B_g3 := bb B_g3 hb; replace B_g6 := bb B_g6 hb; replace HB := hh HB hb; clear hb)
  | ((with_reducible refine gate_dst (N := 19) rfl ?_); refine goesE (N := some 19) Try.func9 #[.int .i64 a1, .slice A2 (l2.length) c2] ?_; refine (filter_Check.calls a1 _ c2 l2 0 _ (Kd.C_below hr2 HB.out) hc2 e2).mono ?_; rintro e w4 ⟨rfl, hb⟩; refine ⟨_, rfl, ?_⟩; replace B_g3 := bb B_g3 hb; replace B_g6 := bb B_g6 hb; replace HB := hh HB hb; clear hb; have hz_g3 := blk_cell B_g3.out)
  | ((with_reducible refine gate_dst (N := 10) rfl ?_); refine boxE (N := 10) #[.int .i64 0, .int .i64 0, .int .i64 0, .int .i64 0] 24 ?_; intro g10 hg w5 hx hb; have l_g3_g10 := lB hg B_g3; have l_g6_g10 := lB hg B_g6; have z_g10 := zB hg HB; clear hz_g3; replace B_g3 := bb B_g3 hb; replace B_g6 := bb B_g6 hb; replace HB := hh HB hb; have B_g10 := am hx; clear hx hb hg; have hf_g10 := blk_frozen B_g10.out; have hz_g10 := blk_cell B_g10.out)
  | ((with_reducible refine gate_store (t := 24) (p := 10) rfl ?_); refine storeE (t := 24) (p := 10) (sets w5 g10 0 [.int .i64 0, .int .i64 0, .int .i64 a0_0, .int .i64 a0_1]) ?_; intro w6 hw; replace B_g3 := fS hw B_g3 (Nat.ne_of_lt l_g3_g10); replace B_g6 := fS hw B_g6 (Nat.ne_of_lt l_g6_g10); replace B_g10 := pS #[.int .i64 0, .int .i64 0, .int .i64 a0_0, .int .i64 a0_1] hw B_g10; replace HB := hS hw HB z_g10; clear hf_g10 hz_g10; clear hw; have hz_g10 := blk_cell B_g10.out; have hz_g3 := blk_cell B_g3.out)
  | ((with_reducible refine gate_dst (N := 40) rfl ?_); refine goesE (N := some 40) Try.func20 #[.agg #[.int .i64 a0_0, .int .i64 a0_1, .slice A0_2 (l0_2.length) c0_2], .agg #[.int .i64 0, .int .i64 0], .agg #[.int .i64 0, .int .i64 0, .int .i64 a0_0, .int .i64 a0_1], .int .i64 a1, .slice A2 (l2.length) c2, .agg #[.int .i64 0, .int .i64 0, .int .i64 a0_0, .int .i64 a0_1]] ?_; refine (filter_Apply.calls k a0_0 a0_1 _ c0_2 l0_2 0 0 0 0 a0_0 a0_1 a1 _ c2 l2 0 0 a0_0 a0_1 r1 r2 r3 r4 _ (Kd.C_below hr0_2 HB.out) hc0_2 (Kd.C_below hr2 HB.out) hc2 e3).mono ?_; rintro e w7 ⟨v2_, rfl, hR, hb⟩; refine ⟨_, rfl, ?_⟩; have HBo := HB.out; clear hz_g10 hz_g3; replace B_g3 := bb B_g3 hb; replace B_g6 := bb B_g6 hb; replace B_g10 := bb B_g10 hb; replace HB := hh HB hb; have R_q := am (Kd.R_lower hR (below_size HBo)); clear hR HBo; obtain ⟨A_q, c_q, rfl⟩ := Kd.R_slice R_q.out; clear hb; have hf_g6 := blk_frozen B_g6.out; have hz_g6 := blk_cell B_g6.out)
  | ((with_reducible refine gate_store (t := 36) (p := 6) rfl ?_); refine storeE (t := 36) (p := 6) (sets w7 g6 0 [.int .i64 r1, .int .i64 r2, .slice A_q (r3.length) c_q]) ?_; intro w8 hw; replace R_q := rS hw R_q B_g6 (by decide); replace B_g3 := fS hw B_g3 (Nat.ne_of_lt l_g3_g6); replace B_g10 := fS hw B_g10 (Nat.ne_of_gt l_g6_g10); replace B_g6 := pS #[.int .i64 r1, .int .i64 r2, .slice A_q (r3.length) c_q] hw B_g6; replace HB := hS hw HB z_g6; clear hf_g6 hz_g6; clear hw))
 refine bodyPost_ret (results_ct rfl _ _ g6 36 #[.int .i64 r1, .int .i64 r2, .slice A_q (r3.length) c_q] (0, 0) _ rfl B_g6.out Try.underlying36 rfl (by kernel_rfl)) rfl ?_
 exact ⟨_, rfl, R_q.out, HB.out⟩
theorem filter_Whole.calls (k : Nat) (a0_0 a0_1 : Int) (A0_2 : Option Addr) (c0_2 : Nat) (l0_2 : List (S51)) (a1 : Int) (A2 : Option Addr) (c2 : Nat) (l2 : List Int) (r1 r2 : Int) (r3 : List S51) (r4 : Int) (w : World) (hr0_2 : Kd.C k51 w A0_2 l0_2.length l0_2) (hc0_2 : l0_2.length ≤ c0_2) (hr2 : Kd.C (Kd.int .i64) w A2 l2.length l2) (hc2 : l2.length ≤ c2) (h : filter_Whole.f k a0_0 a0_1 l0_2 a1 l2 = some (r1, r2, r3, r4)) :
  Calls Try.prog 18 #[.agg #[.int .i64 a0_0, .int .i64 a0_1, .slice A0_2 (l0_2.length) c0_2], .int .i64 a1, .slice A2 (l2.length) c2] w fun e w' => ∃ v2_ : Value, e = .returned (.tuple #[.agg #[.int .i64 r1, .int .i64 r2, v2_], .int .i64 r4]) ∧ Kd.R k51 51 w' w.heap.size (fun _ => True) v2_ r3 ∧ Below w.heap.size w w' := by
 unfold filter_Whole.f at h
 obtain ⟨c, e1, h⟩ := Option.bind_eq_some_iff.mp h
 by_cases hc : c = 0
 ·rw [if_pos hc] at h
  rw [hc] at e1
  obtain ⟨t, e2, h⟩ := Option.bind_eq_some_iff.mp h
  by_cases ht : t = 0
  ·rw [if_pos ht] at h
   rw [ht] at e2
   by_cases hw0 : a0_0 = 0
   ·rw [if_pos hw0] at h
    simp only [Option.some.injEq, Prod.mk.injEq] at h
    obtain ⟨rfl, rfl, rfl, rfl⟩ := h
    exact Whole_none k a0_0 a0_1 A0_2 c0_2 l0_2 a1 A2 c2 l2 w hr0_2 hc0_2 hr2 hc2 e1 e2 hw0
   ·rw [if_neg hw0] at h
    exact Whole_ok k a0_0 a0_1 A0_2 c0_2 l0_2 a1 A2 c2 l2 r1 r2 r3 r4 w hr0_2 hc0_2 hr2 hc2 e1 e2 hw0 h
  ·rw [if_neg ht] at h
   simp only [Option.some.injEq, Prod.mk.injEq] at h
   obtain ⟨rfl, rfl, rfl, rfl⟩ := h
   exact Whole_err k a0_0 a0_1 A0_2 c0_2 l0_2 a1 A2 c2 l2 _ w hr0_2 hc0_2 hr2 hc2 e1 e2 ht
 ·rw [if_neg hc] at h
  simp only [Option.some.injEq, Prod.mk.injEq] at h
  obtain ⟨rfl, rfl, rfl, rfl⟩ := h
  exact Whole_check k a0_0 a0_1 A0_2 c0_2 l0_2 a1 A2 c2 l2 _ w hr0_2 hc0_2 hr2 hc2 e1 hc


/-! ### imageeditorlaw16_example: function 13: proved by hand -/
def pxc (x : S51) : List Value := [.int .i64 x.f0, .int .i64 x.f1, .int .i64 x.f2, .int .i64 x.f3]
theorem pxc_at (l : List S51) : ∀ (j : Nat) (p : S51), l[j]? = some p → ∀ i, i < 4 → (l.flatMap pxc)[j * 4 + i]? = (pxc p)[i]? := by
 induction l with
 | nil => intro j p h; simp at h
 | cons x l ih =>
  intro j p h i hi
  cases j with
  | zero =>
   simp only [List.getElem?_cons_zero, Option.some.injEq] at h
   subst h
   rw [List.flatMap_cons, List.getElem?_append_left (by simp [pxc]; omega), Nat.zero_mul, Nat.zero_add]
  | succ j =>
   rw [List.flatMap_cons, List.getElem?_append_right (by simp [pxc]; omega), show (j + 1) * 4 + i - (pxc x).length = j * 4 + i by simp [pxc]; omega]
   exact ih j p (by simpa using h) i hi
theorem C_of_box {w : World} {g : Nat} {cs : Array Value} (l : List S51) (h : w.heap[g]? = some (.cells cs 51 (0, 0))) (e : cs.toList = l.flatMap pxc) (hl : l.length ≤ 9223372036854775807) : Kd.C k51 w (some ⟨g, 0, none⟩) l.length l := by
 refine ⟨rfl, hl, fun _ => ⟨_, rfl, fun j p hj => ⟨pxc p, rfl, k51_mk w p, fun i u hu => ?_⟩⟩⟩
 have hi : i < 4 := by
  rcases Nat.lt_or_ge i 4 with h | h
  ·exact h
  ·rw [List.getElem?_eq_none (by simpa [pxc] using h)] at hu; cases hu
 have h1 := blk_cell h (j * 4 + i)
 rw [← Array.getElem?_toList, e, pxc_at l j p hj i hi, hu] at h1
 show w.cell? ((⟨g, 0, none⟩ : Addr).add (j * 4 + i)) = some u
 rw [add_plain]
 exact h1
theorem C_of_ints {w : World} {g : Nat} {cs : Array Value} (l : List Int) (h : w.heap[g]? = some (.cells cs 3 (0, 0))) (e : cs.toList = l.map (Value.int .i64)) (hl : l.length ≤ 9223372036854775807) : Kd.C (Kd.int .i64) w (some ⟨g, 0, none⟩) l.length l := by
 refine ⟨rfl, hl, fun _ => ⟨_, rfl, fun j p hj => ⟨[.int .i64 p], rfl, rfl, fun i u hu => ?_⟩⟩⟩
 have hi : i = 0 := by
  rcases Nat.lt_or_ge i 1 with h | h
  ·omega
  ·rw [List.getElem?_eq_none (by simpa using h)] at hu; cases hu
 subst hi
 have h1 := blk_cell h j
 rw [← Array.getElem?_toList, e, List.getElem?_map, hj] at h1
 simp only [List.getElem?_cons_zero, Option.some.injEq] at hu
 subst hu
 show w.cell? ((⟨g, 0, none⟩ : Addr).add (j * 1 + 0)) = _
 rw [add_plain, Nat.mul_one]
 exact h1
def exI : List S51 := [⟨0, 0, 0, 0⟩, ⟨0, 0, 0, 0⟩, ⟨0, 0, 0, 0⟩, ⟨0, 0, 0, 0⟩, ⟨65535, 65535, 65535, 65535⟩, ⟨0, 0, 0, 0⟩, ⟨0, 0, 0, 0⟩, ⟨0, 0, 0, 0⟩, ⟨0, 0, 0, 0⟩]
def exP (a : Int) : S51 := ⟨65535, 65535, 65535, a⟩
def exB : List S51 := List.replicate 9 (exP 7282)
def exG : List S51 := [exP 4096, exP 8192, exP 4096, exP 8192, exP 16384, exP 8192, exP 4096, exP 8192, exP 4096]
theorem exB_eq : filter_Whole.f 40 3 3 exI 1 [1] = some (3, 3, exB, 0) := by kernel_rfl
theorem exG_eq : filter_Whole.f 40 3 3 exI 2 [1] = some (3, 3, exG, 0) := by kernel_rfl
theorem exC_eq : filter_Check.f 2 [8] = some 2 := by kernel_rfl
theorem exR_eq : filter_Reach.f 40 9 [2, -3] = some 3 := by kernel_rfl

def selO (b : Bool) (v u : Value) : Value := if b = true then v else u
theorem selO_true (v u : Value) : selO true v u = v := rfl
theorem lit_step {P : Program} {ops : Array Oper} {o : Oper} {a : Act} {Q : Exit → Act → World → Prop} {Kc : Act → World → Prop} {W : World} (hw : Region.wanted o (yielded ops a.tmps) = true) {N : Tmp} (_hd : o.dst = some N) {cs : Array Value} {t : TypeId} {n : Nat}
  (hrun : (execOp a.eval o).run P W = .ok (.value (.slice (some ⟨W.heap.size, 0, none⟩) n n)) (W.alloc (.cells cs t (0, 0))))
  (h : ∀ g, g = W.heap.size → ∀ w1, w1.heap[g]? = some (.cells cs t (0, 0)) → Below W.heap.size W w1 → Kc (a.put o.dst (.slice (some ⟨g, 0, none⟩) n n)) w1) : if Region.wanted o (yielded ops a.tmps) = true then Oper.wp P o a W Kc Q else Kc (a.put o.dst undef) W :=
 event_step hw hrun (h _ rfl _ (blk_new W _) (below_alloc (Below.refl _ _) _))

set_option maxHeartbeats 8000000 in
set_option maxRecDepth 100000 in
theorem example_calls (w : World) : Calls Try.prog 13 #[] w fun e w' => e = .returned (.bool true) ∧ Below w.heap.size w w' := by
 have hu36 := Try.underlying36
 have hu51 := Try.underlying51
 have hu34 := Try.underlying34
 have hu22 := Try.underlying22
 have HB := am (Below.refl w.heap.size w)
 go_enter Try.func13, Try.ntmps13
 go_wp2_with (first
  | ((with_reducible refine gate_dst (N := 1) rfl ?_); refine boxE (N := 1) #[.int .i64 0, .int .i64 0, .int .i64 0, .int .i64 0] 51 ?_; intro g1 hg w1 hx hb; have z_g1 := zB hg HB; replace HB := hh HB hb; have B_g1 := am hx; clear hx hb hg; have hf_g1 := blk_frozen B_g1.out; have hz_g1 := blk_cell B_g1.out)
  | ((with_reducible refine gate_store (t := 51) (p := 1) rfl ?_); refine storeE (t := 51) (p := 1) (sets w1 g1 0 [.int .i64 65535, .int .i64 65535, .int .i64 65535, .int .i64 65535]) ?_; intro w2 hw; replace B_g1 := pS #[.int .i64 65535, .int .i64 65535, .int .i64 65535, .int .i64 65535] hw B_g1; replace HB := hS hw HB z_g1; clear hf_g1 hz_g1; clear hw)
  | ((with_reducible refine gate_dst (N := 10) rfl ?_); refine lit_event2 ?hg (N := 10) ?hd (cs := #[.int .i64 0, .int .i64 0, .int .i64 0, .int .i64 0, .int .i64 0, .int .i64 0, .int .i64 0, .int .i64 0, .int .i64 0, .int .i64 0, .int .i64 0, .int .i64 0, .int .i64 0, .int .i64 0, .int .i64 0, .int .i64 0, .int .i64 0, .int .i64 0, .int .i64 0, .int .i64 0, .int .i64 0, .int .i64 0, .int .i64 0, .int .i64 0, .int .i64 0, .int .i64 0, .int .i64 0, .int .i64 0, .int .i64 0, .int .i64 0, .int .i64 0, .int .i64 0, .int .i64 0, .int .i64 0, .int .i64 0, .int .i64 0]) (t := 51) (n := 9) ?hr ?_; (case hd => rfl); (case hg => rfl); (case hr => first | (go_simp; done) | (go_simp; rfl) | kernel_rfl); intro g10 hg w3 hx hb; have l_g1_g10 := lB hg B_g1; have z_g10 := zB hg HB; replace B_g1 := bb B_g1 hb; replace HB := hh HB hb; have B_g10 := am hx; clear hx hb hg)
  | ((with_reducible refine gate_dst (N := 2) rfl ?_); refine boxE (N := 2) #[.int .i64 0, .int .i64 0, .slice none 0 0] 36 ?_; intro g2 hg w4 hx hb; have l_g1_g2 := lB hg B_g1; have l_g10_g2 := lB hg B_g10; have z_g2 := zB hg HB; replace B_g1 := bb B_g1 hb; replace B_g10 := bb B_g10 hb; replace HB := hh HB hb; have B_g2 := am hx; clear hx hb hg; have hf_g2 := blk_frozen B_g2.out; have hz_g2 := blk_cell B_g2.out)
  | ((with_reducible refine gate_store (t := 36) (p := 2) rfl ?_); refine storeE (t := 36) (p := 2) (sets w4 g2 0 [.int .i64 3, .int .i64 3, .slice (some ⟨g10, 0, none⟩) 9 9]) ?_; intro w5 hw; replace B_g1 := fS hw B_g1 (Nat.ne_of_lt l_g1_g2); replace B_g10 := fS hw B_g10 (Nat.ne_of_lt l_g10_g2); replace B_g2 := pS #[.int .i64 3, .int .i64 3, .slice (some ⟨g10, 0, none⟩) 9 9] hw B_g2; replace HB := hS hw HB z_g2; clear hf_g2 hz_g2; clear hw; have hf_g10 := blk_frozen B_g10.out; have hz_g1 := blk_cell B_g1.out; have hz_g10 := blk_cell B_g10.out; have hz_g2 := blk_cell B_g2.out)
  | ((with_reducible refine gate_store (t := 51) (p := 15) rfl ?_); refine storeE (t := 51) (p := 15) (sets w5 g10 16 [.int .i64 65535, .int .i64 65535, .int .i64 65535, .int .i64 65535]) ?_; intro w6 hw; replace B_g1 := fS hw B_g1 (Nat.ne_of_lt l_g1_g10); replace B_g2 := fS hw B_g2 (Nat.ne_of_gt l_g10_g2); replace B_g10 := pS #[.int .i64 0, .int .i64 0, .int .i64 0, .int .i64 0, .int .i64 0, .int .i64 0, .int .i64 0, .int .i64 0, .int .i64 0, .int .i64 0, .int .i64 0, .int .i64 0, .int .i64 0, .int .i64 0, .int .i64 0, .int .i64 0, .int .i64 65535, .int .i64 65535, .int .i64 65535, .int .i64 65535, .int .i64 0, .int .i64 0, .int .i64 0, .int .i64 0, .int .i64 0, .int .i64 0, .int .i64 0, .int .i64 0, .int .i64 0, .int .i64 0, .int .i64 0, .int .i64 0, .int .i64 0, .int .i64 0, .int .i64 0, .int .i64 0] hw B_g10; replace HB := hS hw HB z_g10; clear hf_g10 hz_g1 hz_g10 hz_g2; clear hw; have hz_g2 := blk_cell B_g2.out)
  | ((with_reducible refine gate_dst (N := 18) rfl ?_); refine lit_event2 ?hg (N := 18) ?hd (cs := #[.int .i64 1]) (t := 3) (n := 1) ?hr ?_; (case hd => rfl); (case hg => rfl); (case hr => first | (go_simp; done) | (go_simp; rfl) | kernel_rfl); intro g18 hg w7 hx hb; have l_g1_g18 := lB hg B_g1; have l_g10_g18 := lB hg B_g10; have l_g2_g18 := lB hg B_g2; have z_g18 := zB hg HB; clear hz_g2; replace B_g1 := bb B_g1 hb; replace B_g10 := bb B_g10 hb; replace B_g2 := bb B_g2 hb; replace HB := hh HB hb; have B_g18 := am hx; clear hx hb hg)
  | ((with_reducible refine gate_dst (N := 19) rfl ?_); refine goesE (N := some 19) Try.func18 #[.agg #[.int .i64 3, .int .i64 3, .slice (some ⟨g10, 0, none⟩) 9 9], .int .i64 1, .slice (some ⟨g18, 0, none⟩) 1 1] ?_; refine (filter_Whole.calls 40 3 3 _ 9 exI 1 _ 1 [1] 3 3 exB 0 _ (C_of_box exI B_g10.out rfl (by decide)) (by decide) (C_of_ints [1] B_g18.out rfl (by decide)) (by decide) exB_eq).mono ?_; rintro e w8 ⟨v2_, rfl, hR, hb⟩; refine ⟨_, rfl, ?_⟩; replace B_g1 := bb B_g1 hb; replace B_g10 := bb B_g10 hb; replace B_g2 := bb B_g2 hb; replace B_g18 := bb B_g18 hb; replace HB := hh HB hb; obtain ⟨A1, c1, rfl⟩ := Kd.R_slice hR; have K1 := (Kd.R_reads' hR).2.2; obtain ⟨ad1, rfl, i10, i11, i12, i13⟩ := at_T51 K1 0 (by decide) (by decide); obtain ⟨ad1', e9, j10, j11, j12, j13⟩ := at_T51 K1 4 (by decide) (by decide); obtain rfl := Option.some.inj e9; clear hR K1 e9; replace i10 := (show w8.cell? ad1 = some (.int .i64 65535) from i10); replace i11 := (show w8.cell? ⟨ad1.block, ad1.off + 1, none⟩ = some (.int .i64 65535) from i11); replace i12 := (show w8.cell? ⟨ad1.block, ad1.off + 2, none⟩ = some (.int .i64 65535) from i12); replace i13 := (show w8.cell? ⟨ad1.block, ad1.off + 3, none⟩ = some (.int .i64 7282) from i13); replace j10 := (show w8.cell? ⟨ad1.block, ad1.off + 16, none⟩ = some (.int .i64 65535) from j10); replace j11 := (show w8.cell? ⟨ad1.block, ad1.off + 16 + 1, none⟩ = some (.int .i64 65535) from j11); replace j12 := (show w8.cell? ⟨ad1.block, ad1.off + 16 + 2, none⟩ = some (.int .i64 65535) from j12); replace j13 := (show w8.cell? ⟨ad1.block, ad1.off + 16 + 3, none⟩ = some (.int .i64 7282) from j13); have HB0 := HB; clear HB; have HB := am (Below.refl w8.heap.size w8); clear hb)
  | ((with_reducible refine gate_dst (N := 3) rfl ?_); refine boxE (N := 3) #[.int .i64 0, .int .i64 0, .slice none 0 0] 36 ?_; intro g3 hg w9 hx hb; have l_g1_g3 := lB hg B_g1; have l_g10_g3 := lB hg B_g10; have l_g2_g3 := lB hg B_g2; have l_g18_g3 := lB hg B_g18; have z_g3 := zB hg HB; replace B_g1 := bb B_g1 hb; replace B_g10 := bb B_g10 hb; replace B_g2 := bb B_g2 hb; replace B_g18 := bb B_g18 hb; replace HB := hh HB hb; have B_g3 := am hx; clear hx hb hg; have hf_g3 := blk_frozen B_g3.out; have hz_g3 := blk_cell B_g3.out)
  | ((with_reducible refine gate_store (t := 36) (p := 3) rfl ?_); refine storeE (t := 36) (p := 3) (sets w9 g3 0 [.int .i64 3, .int .i64 3, .slice (some ad1) 9 c1]) ?_; intro w10 hw; replace B_g1 := fS hw B_g1 (Nat.ne_of_lt l_g1_g3); replace B_g10 := fS hw B_g10 (Nat.ne_of_lt l_g10_g3); replace B_g2 := fS hw B_g2 (Nat.ne_of_lt l_g2_g3); replace B_g18 := fS hw B_g18 (Nat.ne_of_lt l_g18_g3); replace B_g3 := pS #[.int .i64 3, .int .i64 3, .slice (some ad1) 9 c1] hw B_g3; replace HB := hS hw HB z_g3; clear hf_g3 hz_g3; clear hw; have hz_g2 := blk_cell B_g2.out)
  | ((with_reducible refine gate_dst (N := 24) rfl ?_); refine lit_event2 ?hg (N := 24) ?hd (cs := #[.int .i64 1]) (t := 3) (n := 1) ?hr ?_; (case hd => rfl); (case hg => rfl); (case hr => first | (go_simp; done) | (go_simp; rfl) | kernel_rfl); intro g24 hg w11 hx hb; have l_g1_g24 := lB hg B_g1; have l_g10_g24 := lB hg B_g10; have l_g2_g24 := lB hg B_g2; have l_g18_g24 := lB hg B_g18; have l_g3_g24 := lB hg B_g3; have z_g24 := zB hg HB; clear hz_g2; replace B_g1 := bb B_g1 hb; replace B_g10 := bb B_g10 hb; replace B_g2 := bb B_g2 hb; replace B_g18 := bb B_g18 hb; replace B_g3 := bb B_g3 hb; replace HB := hh HB hb; have B_g24 := am hx; clear hx hb hg)
  | ((with_reducible refine gate_dst (N := 25) rfl ?_); refine goesE (N := some 25) Try.func18 #[.agg #[.int .i64 3, .int .i64 3, .slice (some ⟨g10, 0, none⟩) 9 9], .int .i64 2, .slice (some ⟨g24, 0, none⟩) 1 1] ?_; refine (filter_Whole.calls 40 3 3 _ 9 exI 2 _ 1 [1] 3 3 exG 0 _ (C_of_box exI B_g10.out rfl (by decide)) (by decide) (C_of_ints [1] B_g24.out rfl (by decide)) (by decide) exG_eq).mono ?_; rintro e w12 ⟨v2_, rfl, hR, hb⟩; refine ⟨_, rfl, ?_⟩; replace B_g1 := bb B_g1 hb; replace B_g10 := bb B_g10 hb; replace B_g2 := bb B_g2 hb; replace B_g18 := bb B_g18 hb; replace B_g3 := bb B_g3 hb; replace B_g24 := bb B_g24 hb; replace HB := hh HB hb; obtain ⟨A2, c2, rfl⟩ := Kd.R_slice hR; have K2 := (Kd.R_reads' hR).2.2; obtain ⟨ad2, rfl, i20, i21, i22, i23⟩ := at_T51 K2 0 (by decide) (by decide); obtain ⟨ad2', e9, j20, j21, j22, j23⟩ := at_T51 K2 4 (by decide) (by decide); obtain rfl := Option.some.inj e9; clear hR K2 e9; replace i20 := (show w12.cell? ad2 = some (.int .i64 65535) from i20); replace i21 := (show w12.cell? ⟨ad2.block, ad2.off + 1, none⟩ = some (.int .i64 65535) from i21); replace i22 := (show w12.cell? ⟨ad2.block, ad2.off + 2, none⟩ = some (.int .i64 65535) from i22); replace i23 := (show w12.cell? ⟨ad2.block, ad2.off + 3, none⟩ = some (.int .i64 4096) from i23); replace j20 := (show w12.cell? ⟨ad2.block, ad2.off + 16, none⟩ = some (.int .i64 65535) from j20); replace j21 := (show w12.cell? ⟨ad2.block, ad2.off + 16 + 1, none⟩ = some (.int .i64 65535) from j21); replace j22 := (show w12.cell? ⟨ad2.block, ad2.off + 16 + 2, none⟩ = some (.int .i64 65535) from j22); replace j23 := (show w12.cell? ⟨ad2.block, ad2.off + 16 + 3, none⟩ = some (.int .i64 16384) from j23); replace i10 := (HB.out.cell (World.block_lt_of_cell? _ _ i10)).trans i10; replace i11 := (HB.out.cell (World.block_lt_of_cell? _ _ i11)).trans i11; replace i12 := (HB.out.cell (World.block_lt_of_cell? _ _ i12)).trans i12; replace i13 := (HB.out.cell (World.block_lt_of_cell? _ _ i13)).trans i13; replace j10 := (HB.out.cell (World.block_lt_of_cell? _ _ j10)).trans j10; replace j11 := (HB.out.cell (World.block_lt_of_cell? _ _ j11)).trans j11; replace j12 := (HB.out.cell (World.block_lt_of_cell? _ _ j12)).trans j12; replace j13 := (HB.out.cell (World.block_lt_of_cell? _ _ j13)).trans j13; replace HB0 := am (below_step HB0.out HB.out); clear HB; have HB := am (Below.refl w12.heap.size w12); clear hb)
  | ((with_reducible refine gate_dst (N := 5) rfl ?_); refine boxE (N := 5) #[.int .i64 0, .int .i64 0, .slice none 0 0] 36 ?_; intro g5 hg w13 hx hb; have l_g1_g5 := lB hg B_g1; have l_g10_g5 := lB hg B_g10; have l_g2_g5 := lB hg B_g2; have l_g18_g5 := lB hg B_g18; have l_g3_g5 := lB hg B_g3; have l_g24_g5 := lB hg B_g24; have z_g5 := zB hg HB; replace B_g1 := bb B_g1 hb; replace B_g10 := bb B_g10 hb; replace B_g2 := bb B_g2 hb; replace B_g18 := bb B_g18 hb; replace B_g3 := bb B_g3 hb; replace B_g24 := bb B_g24 hb; replace HB := hh HB hb; have B_g5 := am hx; clear hx hb hg; have hf_g5 := blk_frozen B_g5.out; have hz_g5 := blk_cell B_g5.out)
  | ((with_reducible refine gate_store (t := 36) (p := 5) rfl ?_); refine storeE (t := 36) (p := 5) (sets w13 g5 0 [.int .i64 3, .int .i64 3, .slice (some ad2) 9 c2]) ?_; intro w14 hw; replace B_g1 := fS hw B_g1 (Nat.ne_of_lt l_g1_g5); replace B_g10 := fS hw B_g10 (Nat.ne_of_lt l_g10_g5); replace B_g2 := fS hw B_g2 (Nat.ne_of_lt l_g2_g5); replace B_g18 := fS hw B_g18 (Nat.ne_of_lt l_g18_g5); replace B_g3 := fS hw B_g3 (Nat.ne_of_lt l_g3_g5); replace B_g24 := fS hw B_g24 (Nat.ne_of_lt l_g24_g5); replace B_g5 := pS #[.int .i64 3, .int .i64 3, .slice (some ad2) 9 c2] hw B_g5; replace HB := hS hw HB z_g5; clear hf_g5 hz_g5; clear hw; have hz_g3 := blk_cell B_g3.out; have hz_g5 := blk_cell B_g5.out))
 go_wp2
 refine region_inv (fun f a w' => ∃ (g7 : Nat) (g8 : Nat), a = { tmps := #[.bool false, .pointer (some ⟨g1, 0, none⟩), .pointer (some ⟨g2, 0, none⟩), .pointer (some ⟨g3, 0, none⟩), .int .i64 0, .pointer (some ⟨g5, 0, none⟩), .int .i64 0, sel (f 2) (.pointer (some ⟨g7, 0, none⟩)), sel (f 3) (.pointer (some ⟨g8, 0, none⟩)), .agg #[.int .i64 65535, .int .i64 65535, .int .i64 65535, .int .i64 65535], .slice (some ⟨g10, 0, none⟩) 9 9, .agg #[.int .i64 3, .int .i64 3, .slice (some ⟨g10, 0, none⟩) 9 9], .pointer (some ⟨g2, 2, none⟩), .slice (some ⟨g10, 0, none⟩) 9 9, .agg #[.int .i64 65535, .int .i64 65535, .int .i64 65535, .int .i64 65535], .pointer (some ⟨g10, 16, none⟩), .tuple #[.agg #[.int .i64 3, .int .i64 3, .slice (some ad1) 9 c1], .int .i64 0], .agg #[.int .i64 3, .int .i64 3, .slice (some ⟨g10, 0, none⟩) 9 9], .slice (some ⟨g18, 0, none⟩) 1 1, .tuple #[.agg #[.int .i64 3, .int .i64 3, .slice (some ad1) 9 c1], .int .i64 0], .agg #[.int .i64 3, .int .i64 3, .slice (some ad1) 9 c1], .int .i64 0, .tuple #[.agg #[.int .i64 3, .int .i64 3, .slice (some ad2) 9 c2], .int .i64 0], .agg #[.int .i64 3, .int .i64 3, .slice (some ⟨g10, 0, none⟩) 9 9], .slice (some ⟨g24, 0, none⟩) 1 1, .tuple #[.agg #[.int .i64 3, .int .i64 3, .slice (some ad2) 9 c2], .int .i64 0], .agg #[.int .i64 3, .int .i64 3, .slice (some ad2) 9 c2], .int .i64 0, .int .i64 0, .bool false, .bool false, .int .i64 0, .bool false, .bool false, .bool false, .pointer (some ⟨g3, 2, none⟩), .slice (some ad1) 9 c1, .int .i64 9, .bool false, .bool false, .bool false, .pointer (some ⟨g5, 2, none⟩), .slice (some ad2) 9 c2, .int .i64 9, .bool false, .bool false, sel (f 0) (.agg #[.int .i64 65535, .int .i64 65535, .int .i64 65535, .int .i64 65535]), sel (f 1) (.agg #[.int .i64 65535, .int .i64 65535, .int .i64 65535, .int .i64 65535]), undef, undef, undef, undef, undef, undef, undef, undef, undef, undef, undef, undef, undef, undef, undef, undef, undef, undef, undef, undef, undef, undef, undef, undef, undef, undef, undef, undef, undef, undef, undef, undef, undef, undef], defers := [] } ∧ Below w12.heap.size w12 w' ∧ w'.heap[g1]? = some (.cells #[.int .i64 65535, .int .i64 65535, .int .i64 65535, .int .i64 65535] 51 (0, 0)) ∧ w'.heap[g10]? = some (.cells #[.int .i64 0, .int .i64 0, .int .i64 0, .int .i64 0, .int .i64 0, .int .i64 0, .int .i64 0, .int .i64 0, .int .i64 0, .int .i64 0, .int .i64 0, .int .i64 0, .int .i64 0, .int .i64 0, .int .i64 0, .int .i64 0, .int .i64 65535, .int .i64 65535, .int .i64 65535, .int .i64 65535, .int .i64 0, .int .i64 0, .int .i64 0, .int .i64 0, .int .i64 0, .int .i64 0, .int .i64 0, .int .i64 0, .int .i64 0, .int .i64 0, .int .i64 0, .int .i64 0, .int .i64 0, .int .i64 0, .int .i64 0, .int .i64 0] 51 (0, 0)) ∧ w'.heap[g2]? = some (.cells #[.int .i64 3, .int .i64 3, .slice (some ⟨g10, 0, none⟩) 9 9] 36 (0, 0)) ∧ w'.heap[g18]? = some (.cells #[.int .i64 1] 3 (0, 0)) ∧ w'.heap[g3]? = some (.cells #[.int .i64 3, .int .i64 3, .slice (some ad1) 9 c1] 36 (0, 0)) ∧ w'.heap[g24]? = some (.cells #[.int .i64 1] 3 (0, 0)) ∧ w'.heap[g5]? = some (.cells #[.int .i64 3, .int .i64 3, .slice (some ad2) 9 c2] 36 (0, 0)) ∧ (f 2 = true → g1 < g7 ∧ g10 < g7 ∧ g2 < g7 ∧ g18 < g7 ∧ g3 < g7 ∧ g24 < g7 ∧ g5 < g7 ∧ w12.heap.size ≤ g7 ∧ w'.heap[g7]? = some (.cells (if f 4 = true then #[.int .i64 65535, .int .i64 65535, .int .i64 65535, .int .i64 65535] else #[.int .i64 0, .int .i64 0, .int .i64 0, .int .i64 0]) 51 (0, 0))) ∧ (f 3 = true → g1 < g8 ∧ g10 < g8 ∧ g2 < g8 ∧ g18 < g8 ∧ g3 < g8 ∧ g24 < g8 ∧ g5 < g8 ∧ w12.heap.size ≤ g8 ∧ w'.heap[g8]? = some (.cells (if f 5 = true then #[.int .i64 65535, .int .i64 65535, .int .i64 65535, .int .i64 65535] else #[.int .i64 0, .int .i64 0, .int .i64 0, .int .i64 0]) 51 (0, 0))) ∧ (f 2 = true → f 3 = true → g7 ≠ g8) ∧ (f 4 = true → f 2 = true) ∧ (f 5 = true → f 3 = true)) (by kernel_rfl) (by kernel_rfl) ?start ?fin ?steps
 case start => exact ⟨0, 0, rfl, HB.out.drew, blk_drew B_g1.out, blk_drew B_g10.out, blk_drew B_g2.out, blk_drew B_g18.out, blk_drew B_g3.out, blk_drew B_g24.out, blk_drew B_g5.out, by simp, by simp, by simp, by simp, by simp⟩
 case steps =>
  clear HB B_g1 B_g10 B_g2 B_g18 B_g3 B_g24 B_g5
  refine ⟨?o0, ?o1, ?o2, ?o3, ?o4, ?o5, trivial⟩
  case o0 =>
   rintro f a w' ⟨g7, g8, rfl, HB, k_g1, k_g10, k_g2, k_g18, k_g3, k_g24, k_g5, n_g7, n_g8, d_g7_g8, s_4_2, s_5_3⟩ hf hd K hK
   have hz := blk_cell k_g1
   exact valE (N := some 46) (.agg #[.int .i64 65535, .int .i64 65535, .int .i64 65535, .int .i64 65535]) (hK _ _ ⟨g7, g8, rfl, HB, k_g1, k_g10, k_g2, k_g18, k_g3, k_g24, k_g5, n_g7, n_g8, d_g7_g8, s_4_2, s_5_3⟩)
  case o1 =>
   rintro f a w' ⟨g7, g8, rfl, HB, k_g1, k_g10, k_g2, k_g18, k_g3, k_g24, k_g5, n_g7, n_g8, d_g7_g8, s_4_2, s_5_3⟩ hf hd K hK
   have hz := blk_cell k_g1
   exact valE (N := some 47) (.agg #[.int .i64 65535, .int .i64 65535, .int .i64 65535, .int .i64 65535]) (hK _ _ ⟨g7, g8, rfl, HB, k_g1, k_g10, k_g2, k_g18, k_g3, k_g24, k_g5, n_g7, n_g8, d_g7_g8, s_4_2, s_5_3⟩)
  case o2 =>
   rintro f a w' ⟨g7, g8, rfl, HB, k_g1, k_g10, k_g2, k_g18, k_g3, k_g24, k_g5, n_g7, n_g8, d_g7_g8, s_4_2, s_5_3⟩ hf hd K hK
   refine bxE (N := 7) #[.int .i64 0, .int .i64 0, .int .i64 0, .int .i64 0] 51 ?_
   intro g9 hg w1 hx hb
   have h8 : ¬ f 4 = true := fun t => by rw [s_4_2 t] at hf; cases hf
   exact hK _ _ ⟨g9, g8, rfl, below_step HB hb, blk_below k_g1 hb, blk_below k_g10 hb, blk_below k_g2 hb, blk_below k_g18 hb, blk_below k_g3 hb, blk_below k_g24 hb, blk_below k_g5 hb, fun _ => ⟨lB0 hg k_g1, lB0 hg k_g10, lB0 hg k_g2, lB0 hg k_g18, lB0 hg k_g3, lB0 hg k_g24, lB0 hg k_g5, zB0 hg HB, by rw [if_neg (show ¬ upd f 2 4 = true from h8)]; exact hx⟩, fun t => ⟨(n_g8 t).1, (n_g8 t).2.1, (n_g8 t).2.2.1, (n_g8 t).2.2.2.1, (n_g8 t).2.2.2.2.1, (n_g8 t).2.2.2.2.2.1, (n_g8 t).2.2.2.2.2.2.1, (n_g8 t).2.2.2.2.2.2.2.1, blk_below (n_g8 t).2.2.2.2.2.2.2.2 hb⟩, fun _ t => Nat.ne_of_gt (lB0 hg (n_g8 t).2.2.2.2.2.2.2.2), fun _ => rfl, s_5_3⟩
  case o3 =>
   rintro f a w' ⟨g7, g8, rfl, HB, k_g1, k_g10, k_g2, k_g18, k_g3, k_g24, k_g5, n_g7, n_g8, d_g7_g8, s_4_2, s_5_3⟩ hf hd K hK
   refine bxE (N := 8) #[.int .i64 0, .int .i64 0, .int .i64 0, .int .i64 0] 51 ?_
   intro g9 hg w1 hx hb
   have h8 : ¬ f 5 = true := fun t => by rw [s_5_3 t] at hf; cases hf
   exact hK _ _ ⟨g7, g9, rfl, below_step HB hb, blk_below k_g1 hb, blk_below k_g10 hb, blk_below k_g2 hb, blk_below k_g18 hb, blk_below k_g3 hb, blk_below k_g24 hb, blk_below k_g5 hb, fun t => ⟨(n_g7 t).1, (n_g7 t).2.1, (n_g7 t).2.2.1, (n_g7 t).2.2.2.1, (n_g7 t).2.2.2.2.1, (n_g7 t).2.2.2.2.2.1, (n_g7 t).2.2.2.2.2.2.1, (n_g7 t).2.2.2.2.2.2.2.1, blk_below (n_g7 t).2.2.2.2.2.2.2.2 hb⟩, fun _ => ⟨lB0 hg k_g1, lB0 hg k_g10, lB0 hg k_g2, lB0 hg k_g18, lB0 hg k_g3, lB0 hg k_g24, lB0 hg k_g5, zB0 hg HB, by rw [if_neg (show ¬ upd f 3 5 = true from h8)]; exact hx⟩, fun t _ => Nat.ne_of_lt (lB0 hg (n_g7 t).2.2.2.2.2.2.2.2), s_4_2, fun _ => rfl⟩
  case o4 =>
   rintro f a w' ⟨g7, g8, rfl, HB, k_g1, k_g10, k_g2, k_g18, k_g3, k_g24, k_g5, n_g7, n_g8, d_g7_g8, s_4_2, s_5_3⟩ hf hd K hK
   have e0 := hd 0 (by kernel_rfl)
   have e2 := hd 2 (by kernel_rfl)
   rw [e0, e2]
   repeat rw [sel_true]
   have kk := (n_g7 (hd 2 (by kernel_rfl))).2.2.2.2.2.2.2.2
   have l_g1 := (n_g7 (hd 2 (by kernel_rfl))).1
   have l_g10 := (n_g7 (hd 2 (by kernel_rfl))).2.1
   have l_g2 := (n_g7 (hd 2 (by kernel_rfl))).2.2.1
   have l_g18 := (n_g7 (hd 2 (by kernel_rfl))).2.2.2.1
   have l_g3 := (n_g7 (hd 2 (by kernel_rfl))).2.2.2.2.1
   have l_g24 := (n_g7 (hd 2 (by kernel_rfl))).2.2.2.2.2.1
   have l_g5 := (n_g7 (hd 2 (by kernel_rfl))).2.2.2.2.2.2.1
   have zz := (n_g7 (hd 2 (by kernel_rfl))).2.2.2.2.2.2.2.1
   rw [hf, if_neg (by decide)] at kk
   have hz := blk_cell kk
   have hz' := blk_frozen kk
   exact skipE (w1 := (sets w' g7 0 [.int .i64 65535, .int .i64 65535, .int .i64 65535, .int .i64 65535])) (hK _ _ ⟨g7, g8, (by simp [Act.put, upd, sel_true, e0, e2]), hS0 HB zz, fS0 k_g1 (Nat.ne_of_lt l_g1), fS0 k_g10 (Nat.ne_of_lt l_g10), fS0 k_g2 (Nat.ne_of_lt l_g2), fS0 k_g18 (Nat.ne_of_lt l_g18), fS0 k_g3 (Nat.ne_of_lt l_g3), fS0 k_g24 (Nat.ne_of_lt l_g24), fS0 k_g5 (Nat.ne_of_lt l_g5), fun _ => ⟨l_g1, l_g10, l_g2, l_g18, l_g3, l_g24, l_g5, zz, pS0 #[.int .i64 65535, .int .i64 65535, .int .i64 65535, .int .i64 65535] kk⟩, fun t => ⟨(n_g8 t).1, (n_g8 t).2.1, (n_g8 t).2.2.1, (n_g8 t).2.2.2.1, (n_g8 t).2.2.2.2.1, (n_g8 t).2.2.2.2.2.1, (n_g8 t).2.2.2.2.2.2.1, (n_g8 t).2.2.2.2.2.2.2.1, fS0 (n_g8 t).2.2.2.2.2.2.2.2 (d_g7_g8 (hd 2 (by kernel_rfl)) t).symm⟩, d_g7_g8, fun _ => hd 2 (by kernel_rfl), s_5_3⟩)
  case o5 =>
   rintro f a w' ⟨g7, g8, rfl, HB, k_g1, k_g10, k_g2, k_g18, k_g3, k_g24, k_g5, n_g7, n_g8, d_g7_g8, s_4_2, s_5_3⟩ hf hd K hK
   have e1 := hd 1 (by kernel_rfl)
   have e3 := hd 3 (by kernel_rfl)
   rw [e1, e3]
   repeat rw [sel_true]
   have kk := (n_g8 (hd 3 (by kernel_rfl))).2.2.2.2.2.2.2.2
   have l_g1 := (n_g8 (hd 3 (by kernel_rfl))).1
   have l_g10 := (n_g8 (hd 3 (by kernel_rfl))).2.1
   have l_g2 := (n_g8 (hd 3 (by kernel_rfl))).2.2.1
   have l_g18 := (n_g8 (hd 3 (by kernel_rfl))).2.2.2.1
   have l_g3 := (n_g8 (hd 3 (by kernel_rfl))).2.2.2.2.1
   have l_g24 := (n_g8 (hd 3 (by kernel_rfl))).2.2.2.2.2.1
   have l_g5 := (n_g8 (hd 3 (by kernel_rfl))).2.2.2.2.2.2.1
   have zz := (n_g8 (hd 3 (by kernel_rfl))).2.2.2.2.2.2.2.1
   rw [hf, if_neg (by decide)] at kk
   have hz := blk_cell kk
   have hz' := blk_frozen kk
   exact skipE (w1 := (sets w' g8 0 [.int .i64 65535, .int .i64 65535, .int .i64 65535, .int .i64 65535])) (hK _ _ ⟨g7, g8, (by simp [Act.put, upd, sel_true, e1, e3]), hS0 HB zz, fS0 k_g1 (Nat.ne_of_lt l_g1), fS0 k_g10 (Nat.ne_of_lt l_g10), fS0 k_g2 (Nat.ne_of_lt l_g2), fS0 k_g18 (Nat.ne_of_lt l_g18), fS0 k_g3 (Nat.ne_of_lt l_g3), fS0 k_g24 (Nat.ne_of_lt l_g24), fS0 k_g5 (Nat.ne_of_lt l_g5), fun t => ⟨(n_g7 t).1, (n_g7 t).2.1, (n_g7 t).2.2.1, (n_g7 t).2.2.2.1, (n_g7 t).2.2.2.2.1, (n_g7 t).2.2.2.2.2.1, (n_g7 t).2.2.2.2.2.2.1, (n_g7 t).2.2.2.2.2.2.2.1, fS0 (n_g7 t).2.2.2.2.2.2.2.2 (d_g7_g8 t (hd 3 (by kernel_rfl)))⟩, fun _ => ⟨l_g1, l_g10, l_g2, l_g18, l_g3, l_g24, l_g5, zz, pS0 #[.int .i64 65535, .int .i64 65535, .int .i64 65535, .int .i64 65535] kk⟩, d_g7_g8, s_4_2, fun _ => hd 3 (by kernel_rfl)⟩)
 case fin =>
  clear HB B_g1 B_g10 B_g2 B_g18 B_g3 B_g24 B_g5
  rintro f a w' hall ⟨g7, g8, rfl, HB, k_g1, k_g10, k_g2, k_g18, k_g3, k_g24, k_g5, n_g7, n_g8, d_g7_g8, s_4_2, s_5_3⟩
  have h0 := hall 0 (by decide)
  have h1 := hall 1 (by decide)
  have h2 := hall 2 (by decide)
  have h3 := hall 3 (by decide)
  have h4 := hall 4 (by decide)
  have h5 := hall 5 (by decide)
  obtain ⟨l_g1_g7, l_g10_g7, l_g2_g7, l_g18_g7, l_g3_g7, l_g24_g7, l_g5_g7, z_g7, k_g7⟩ := n_g7 h2
  obtain ⟨l_g1_g8, l_g10_g8, l_g2_g8, l_g18_g8, l_g3_g8, l_g24_g8, l_g5_g8, z_g8, k_g8⟩ := n_g8 h3
  have l_g7_g8 := d_g7_g8 h2 h3
  rw [if_pos h4] at k_g7
  rw [if_pos h5] at k_g8
  rw [h0, h1, h2, h3]
  simp only [sel_true]
  replace HB := am HB
  have B_g1 := am k_g1
  have B_g10 := am k_g10
  have B_g2 := am k_g2
  have B_g18 := am k_g18
  have B_g3 := am k_g3
  have B_g24 := am k_g24
  have B_g5 := am k_g5
  have B_g7 := am k_g7
  have B_g8 := am k_g8
  clear hall h0 h1 h2 h3 h4 h5 k_g1 k_g10 k_g2 k_g18 k_g3 k_g24 k_g5 k_g7 k_g8
  (try clear s_4_2 s_5_3 n_g7 n_g8 d_g7_g8 f)
  have hf_g7 := blk_frozen B_g7.out
  have hz_g7 := blk_cell B_g7.out
  go_wp2_with (first
   | ((with_reducible refine gate_store (t := 3) (p := 48) rfl ?_); refine storeE (t := 3) (p := 48) (sets w' g7 3 [.int .i64 7282]) ?_; intro w15 hw; replace B_g1 := fS hw B_g1 (Nat.ne_of_lt l_g1_g7); replace B_g10 := fS hw B_g10 (Nat.ne_of_lt l_g10_g7); replace B_g2 := fS hw B_g2 (Nat.ne_of_lt l_g2_g7); replace B_g18 := fS hw B_g18 (Nat.ne_of_lt l_g18_g7); replace B_g3 := fS hw B_g3 (Nat.ne_of_lt l_g3_g7); replace B_g24 := fS hw B_g24 (Nat.ne_of_lt l_g24_g7); replace B_g5 := fS hw B_g5 (Nat.ne_of_lt l_g5_g7); replace B_g8 := fS hw B_g8 l_g7_g8.symm; replace B_g7 := pS #[.int .i64 65535, .int .i64 65535, .int .i64 65535, .int .i64 7282] hw B_g7; replace HB := hS hw HB z_g7; clear hf_g7 hz_g7; clear hw; have hf_g8 := blk_frozen B_g8.out; have hz_g8 := blk_cell B_g8.out)
   | ((with_reducible refine gate_store (t := 3) (p := 49) rfl ?_); refine storeE (t := 3) (p := 49) (sets w15 g8 3 [.int .i64 16384]) ?_; intro w16 hw; replace B_g1 := fS hw B_g1 (Nat.ne_of_lt l_g1_g8); replace B_g10 := fS hw B_g10 (Nat.ne_of_lt l_g10_g8); replace B_g2 := fS hw B_g2 (Nat.ne_of_lt l_g2_g8); replace B_g18 := fS hw B_g18 (Nat.ne_of_lt l_g18_g8); replace B_g3 := fS hw B_g3 (Nat.ne_of_lt l_g3_g8); replace B_g24 := fS hw B_g24 (Nat.ne_of_lt l_g24_g8); replace B_g5 := fS hw B_g5 (Nat.ne_of_lt l_g5_g8); replace B_g7 := fS hw B_g7 l_g7_g8; replace B_g8 := pS #[.int .i64 65535, .int .i64 65535, .int .i64 65535, .int .i64 16384] hw B_g8; replace HB := hS hw HB z_g8; clear hf_g8 hz_g8; clear hw))
  refine region_inv (fun f a w' => ∃ (g73 : Nat) (g78 : Nat), a = { tmps := #[selO (f 32) (.bool true) (.bool false), .pointer (some ⟨g1, 0, none⟩), .pointer (some ⟨g2, 0, none⟩), .pointer (some ⟨g3, 0, none⟩), .int .i64 0, .pointer (some ⟨g5, 0, none⟩), .int .i64 0, .pointer (some ⟨g7, 0, none⟩), .pointer (some ⟨g8, 0, none⟩), .agg #[.int .i64 65535, .int .i64 65535, .int .i64 65535, .int .i64 65535], .slice (some ⟨g10, 0, none⟩) 9 9, .agg #[.int .i64 3, .int .i64 3, .slice (some ⟨g10, 0, none⟩) 9 9], .pointer (some ⟨g2, 2, none⟩), .slice (some ⟨g10, 0, none⟩) 9 9, .agg #[.int .i64 65535, .int .i64 65535, .int .i64 65535, .int .i64 65535], .pointer (some ⟨g10, 16, none⟩), .tuple #[.agg #[.int .i64 3, .int .i64 3, .slice (some ad1) 9 c1], .int .i64 0], .agg #[.int .i64 3, .int .i64 3, .slice (some ⟨g10, 0, none⟩) 9 9], .slice (some ⟨g18, 0, none⟩) 1 1, .tuple #[.agg #[.int .i64 3, .int .i64 3, .slice (some ad1) 9 c1], .int .i64 0], .agg #[.int .i64 3, .int .i64 3, .slice (some ad1) 9 c1], .int .i64 0, .tuple #[.agg #[.int .i64 3, .int .i64 3, .slice (some ad2) 9 c2], .int .i64 0], .agg #[.int .i64 3, .int .i64 3, .slice (some ⟨g10, 0, none⟩) 9 9], .slice (some ⟨g24, 0, none⟩) 1 1, .tuple #[.agg #[.int .i64 3, .int .i64 3, .slice (some ad2) 9 c2], .int .i64 0], .agg #[.int .i64 3, .int .i64 3, .slice (some ad2) 9 c2], .int .i64 0, .int .i64 0, .bool false, .bool false, .int .i64 0, .bool false, .bool false, .bool false, .pointer (some ⟨g3, 2, none⟩), .slice (some ad1) 9 c1, .int .i64 9, .bool false, .bool false, .bool false, .pointer (some ⟨g5, 2, none⟩), .slice (some ad2) 9 c2, .int .i64 9, .bool false, .bool false, .agg #[.int .i64 65535, .int .i64 65535, .int .i64 65535, .int .i64 65535], .agg #[.int .i64 65535, .int .i64 65535, .int .i64 65535, .int .i64 65535], .pointer (some ⟨g7, 3, none⟩), .pointer (some ⟨g8, 3, none⟩), sel (f 0) (.pointer (some ⟨g3, 2, none⟩)), sel (f 1) (.slice (some ad1) 9 c1), sel (f 2) (.pointer (some ad1)), sel (f 3) (.agg #[.int .i64 65535, .int .i64 65535, .int .i64 65535, .int .i64 7282]), sel (f 4) (.agg #[.int .i64 65535, .int .i64 65535, .int .i64 65535, .int .i64 7282]), sel (f 5) (.bool true), sel (f 6) (.bool true), sel (f 7) (.pointer (some ⟨g3, 2, none⟩)), sel (f 8) (.slice (some ad1) 9 c1), sel (f 9) (.pointer (some (⟨ad1.block, ad1.off + 16, none⟩))), sel (f 10) (.agg #[.int .i64 65535, .int .i64 65535, .int .i64 65535, .int .i64 7282]), sel (f 11) (.agg #[.int .i64 65535, .int .i64 65535, .int .i64 65535, .int .i64 7282]), sel (f 12) (.bool true), sel (f 13) (.bool true), sel (f 14) (.bool true), sel (f 15) (.pointer (some ⟨g5, 2, none⟩)), sel (f 16) (.slice (some ad2) 9 c2), sel (f 17) (.pointer (some (⟨ad2.block, ad2.off + 16, none⟩))), sel (f 18) (.agg #[.int .i64 65535, .int .i64 65535, .int .i64 65535, .int .i64 16384]), sel (f 19) (.agg #[.int .i64 65535, .int .i64 65535, .int .i64 65535, .int .i64 16384]), sel (f 20) (.bool true), sel (f 21) (.bool true), sel (f 22) (.bool true), sel (f 23) (.slice (some ⟨g73, 0, none⟩) 1 1), sel (f 24) (.int .i64 2), sel (f 25) (.bool true), sel (f 26) (.bool true), sel (f 27) (.bool true), sel (f 28) (.slice (some ⟨g78, 0, none⟩) 2 2), sel (f 29) (.int .i64 3), sel (f 30) (.bool true), sel (f 31) (.bool true)], defers := [] } ∧ Below w12.heap.size w12 w' ∧ w'.heap[g1]? = some (.cells #[.int .i64 65535, .int .i64 65535, .int .i64 65535, .int .i64 65535] 51 (0, 0)) ∧ w'.heap[g10]? = some (.cells #[.int .i64 0, .int .i64 0, .int .i64 0, .int .i64 0, .int .i64 0, .int .i64 0, .int .i64 0, .int .i64 0, .int .i64 0, .int .i64 0, .int .i64 0, .int .i64 0, .int .i64 0, .int .i64 0, .int .i64 0, .int .i64 0, .int .i64 65535, .int .i64 65535, .int .i64 65535, .int .i64 65535, .int .i64 0, .int .i64 0, .int .i64 0, .int .i64 0, .int .i64 0, .int .i64 0, .int .i64 0, .int .i64 0, .int .i64 0, .int .i64 0, .int .i64 0, .int .i64 0, .int .i64 0, .int .i64 0, .int .i64 0, .int .i64 0] 51 (0, 0)) ∧ w'.heap[g2]? = some (.cells #[.int .i64 3, .int .i64 3, .slice (some ⟨g10, 0, none⟩) 9 9] 36 (0, 0)) ∧ w'.heap[g18]? = some (.cells #[.int .i64 1] 3 (0, 0)) ∧ w'.heap[g3]? = some (.cells #[.int .i64 3, .int .i64 3, .slice (some ad1) 9 c1] 36 (0, 0)) ∧ w'.heap[g24]? = some (.cells #[.int .i64 1] 3 (0, 0)) ∧ w'.heap[g5]? = some (.cells #[.int .i64 3, .int .i64 3, .slice (some ad2) 9 c2] 36 (0, 0)) ∧ w'.heap[g7]? = some (.cells #[.int .i64 65535, .int .i64 65535, .int .i64 65535, .int .i64 7282] 51 (0, 0)) ∧ w'.heap[g8]? = some (.cells #[.int .i64 65535, .int .i64 65535, .int .i64 65535, .int .i64 16384] 51 (0, 0)) ∧ (f 23 = true → g1 < g73 ∧ g10 < g73 ∧ g2 < g73 ∧ g18 < g73 ∧ g3 < g73 ∧ g24 < g73 ∧ g5 < g73 ∧ g7 < g73 ∧ g8 < g73 ∧ w12.heap.size ≤ g73 ∧ w'.heap[g73]? = some (.cells #[.int .i64 8] 3 (0, 0))) ∧ (f 28 = true → g1 < g78 ∧ g10 < g78 ∧ g2 < g78 ∧ g18 < g78 ∧ g3 < g78 ∧ g24 < g78 ∧ g5 < g78 ∧ g7 < g78 ∧ g8 < g78 ∧ w12.heap.size ≤ g78 ∧ w'.heap[g78]? = some (.cells #[.int .i64 2, .int .i64 (-3)] 3 (0, 0))) ∧ (f 23 = true → f 28 = true → g73 ≠ g78)) (by kernel_rfl) (by kernel_rfl) ?start ?fin ?steps
  case start => exact ⟨0, 0, rfl, HB.out.drew, blk_drew B_g1.out, blk_drew B_g10.out, blk_drew B_g2.out, blk_drew B_g18.out, blk_drew B_g3.out, blk_drew B_g24.out, blk_drew B_g5.out, blk_drew B_g7.out, blk_drew B_g8.out, by simp, by simp, by simp⟩
  case steps =>
   clear HB B_g1 B_g10 B_g2 B_g18 B_g3 B_g24 B_g5 B_g7 B_g8
   refine ⟨?o0, ?o1, ?o2, ?o3, ?o4, ?o5, ?o6, ?o7, ?o8, ?o9, ?o10, ?o11, ?o12, ?o13, ?o14, ?o15, ?o16, ?o17, ?o18, ?o19, ?o20, ?o21, ?o22, ?o23, ?o24, ?o25, ?o26, ?o27, ?o28, ?o29, ?o30, ?o31, ?o32, trivial⟩
   case o0 =>
    rintro f a w' ⟨g73, g78, rfl, HB, k_g1, k_g10, k_g2, k_g18, k_g3, k_g24, k_g5, k_g7, k_g8, n_g73, n_g78, d_g73_g78⟩ hf hd K hK
    exact valE (N := some 50) (.pointer (some ⟨g3, 2, none⟩)) (hK _ _ ⟨g73, g78, rfl, HB, k_g1, k_g10, k_g2, k_g18, k_g3, k_g24, k_g5, k_g7, k_g8, n_g73, n_g78, d_g73_g78⟩)
   case o1 =>
    rintro f a w' ⟨g73, g78, rfl, HB, k_g1, k_g10, k_g2, k_g18, k_g3, k_g24, k_g5, k_g7, k_g8, n_g73, n_g78, d_g73_g78⟩ hf hd K hK
    have e0 := hd 0 (by kernel_rfl)
    rw [e0]
    repeat rw [sel_true]
    have hz := blk_cell k_g3
    exact valE (N := some 51) (.slice (some ad1) 9 c1) (hK _ _ ⟨g73, g78, (by simp [Act.put, upd, sel_true, selO_true, e0]), HB, k_g1, k_g10, k_g2, k_g18, k_g3, k_g24, k_g5, k_g7, k_g8, n_g73, n_g78, d_g73_g78⟩)
   case o2 =>
    rintro f a w' ⟨g73, g78, rfl, HB, k_g1, k_g10, k_g2, k_g18, k_g3, k_g24, k_g5, k_g7, k_g8, n_g73, n_g78, d_g73_g78⟩ hf hd K hK
    have e1 := hd 1 (by kernel_rfl)
    rw [e1]
    repeat rw [sel_true]
    exact valE (N := some 52) (.pointer (some ad1)) (hK _ _ ⟨g73, g78, (by simp [Act.put, upd, sel_true, selO_true, e1]), HB, k_g1, k_g10, k_g2, k_g18, k_g3, k_g24, k_g5, k_g7, k_g8, n_g73, n_g78, d_g73_g78⟩)
   case o3 =>
    rintro f a w' ⟨g73, g78, rfl, HB, k_g1, k_g10, k_g2, k_g18, k_g3, k_g24, k_g5, k_g7, k_g8, n_g73, n_g78, d_g73_g78⟩ hf hd K hK
    have e2 := hd 2 (by kernel_rfl)
    rw [e2]
    repeat rw [sel_true]
    have hz0 := (HB.cell (World.block_lt_of_cell? w12 _ i10)).trans i10
    have hz1 := (HB.cell (World.block_lt_of_cell? w12 _ i11)).trans i11
    have hz2 := (HB.cell (World.block_lt_of_cell? w12 _ i12)).trans i12
    have hz3 := (HB.cell (World.block_lt_of_cell? w12 _ i13)).trans i13
    exact valE (N := some 53) (.agg #[.int .i64 65535, .int .i64 65535, .int .i64 65535, .int .i64 7282]) (hK _ _ ⟨g73, g78, (by simp [Act.put, upd, sel_true, selO_true, e2]), HB, k_g1, k_g10, k_g2, k_g18, k_g3, k_g24, k_g5, k_g7, k_g8, n_g73, n_g78, d_g73_g78⟩)
   case o4 =>
    rintro f a w' ⟨g73, g78, rfl, HB, k_g1, k_g10, k_g2, k_g18, k_g3, k_g24, k_g5, k_g7, k_g8, n_g73, n_g78, d_g73_g78⟩ hf hd K hK
    have hz := blk_cell k_g7
    exact valE (N := some 54) (.agg #[.int .i64 65535, .int .i64 65535, .int .i64 65535, .int .i64 7282]) (hK _ _ ⟨g73, g78, rfl, HB, k_g1, k_g10, k_g2, k_g18, k_g3, k_g24, k_g5, k_g7, k_g8, n_g73, n_g78, d_g73_g78⟩)
   case o5 =>
    rintro f a w' ⟨g73, g78, rfl, HB, k_g1, k_g10, k_g2, k_g18, k_g3, k_g24, k_g5, k_g7, k_g8, n_g73, n_g78, d_g73_g78⟩ hf hd K hK
    have e3 := hd 3 (by kernel_rfl)
    have e4 := hd 4 (by kernel_rfl)
    rw [e3, e4]
    repeat rw [sel_true]
    exact valE (N := some 55) (.bool true) (hK _ _ ⟨g73, g78, (by simp [Act.put, upd, sel_true, selO_true, e3, e4]), HB, k_g1, k_g10, k_g2, k_g18, k_g3, k_g24, k_g5, k_g7, k_g8, n_g73, n_g78, d_g73_g78⟩)
   case o6 =>
    rintro f a w' ⟨g73, g78, rfl, HB, k_g1, k_g10, k_g2, k_g18, k_g3, k_g24, k_g5, k_g7, k_g8, n_g73, n_g78, d_g73_g78⟩ hf hd K hK
    have e5 := hd 5 (by kernel_rfl)
    rw [e5]
    repeat rw [sel_true]
    exact valE (N := some 56) (.bool true) (hK _ _ ⟨g73, g78, (by simp [Act.put, upd, sel_true, selO_true, e5]), HB, k_g1, k_g10, k_g2, k_g18, k_g3, k_g24, k_g5, k_g7, k_g8, n_g73, n_g78, d_g73_g78⟩)
   case o7 =>
    rintro f a w' ⟨g73, g78, rfl, HB, k_g1, k_g10, k_g2, k_g18, k_g3, k_g24, k_g5, k_g7, k_g8, n_g73, n_g78, d_g73_g78⟩ hf hd K hK
    have e6 := hd 6 (by kernel_rfl)
    rw [e6]
    repeat rw [sel_true]
    exact valE (N := some 57) (.pointer (some ⟨g3, 2, none⟩)) (hK _ _ ⟨g73, g78, (by simp [Act.put, upd, sel_true, selO_true, e6]), HB, k_g1, k_g10, k_g2, k_g18, k_g3, k_g24, k_g5, k_g7, k_g8, n_g73, n_g78, d_g73_g78⟩)
   case o8 =>
    rintro f a w' ⟨g73, g78, rfl, HB, k_g1, k_g10, k_g2, k_g18, k_g3, k_g24, k_g5, k_g7, k_g8, n_g73, n_g78, d_g73_g78⟩ hf hd K hK
    have e6 := hd 6 (by kernel_rfl)
    have e7 := hd 7 (by kernel_rfl)
    rw [e6, e7]
    repeat rw [sel_true]
    have hz := blk_cell k_g3
    exact valE (N := some 58) (.slice (some ad1) 9 c1) (hK _ _ ⟨g73, g78, (by simp [Act.put, upd, sel_true, selO_true, e6, e7]), HB, k_g1, k_g10, k_g2, k_g18, k_g3, k_g24, k_g5, k_g7, k_g8, n_g73, n_g78, d_g73_g78⟩)
   case o9 =>
    rintro f a w' ⟨g73, g78, rfl, HB, k_g1, k_g10, k_g2, k_g18, k_g3, k_g24, k_g5, k_g7, k_g8, n_g73, n_g78, d_g73_g78⟩ hf hd K hK
    have e6 := hd 6 (by kernel_rfl)
    have e8 := hd 8 (by kernel_rfl)
    rw [e6, e8]
    repeat rw [sel_true]
    exact valE (N := some 59) (.pointer (some (⟨ad1.block, ad1.off + 16, none⟩))) (hK _ _ ⟨g73, g78, (by simp [Act.put, upd, sel_true, selO_true, e6, e8]), HB, k_g1, k_g10, k_g2, k_g18, k_g3, k_g24, k_g5, k_g7, k_g8, n_g73, n_g78, d_g73_g78⟩)
   case o10 =>
    rintro f a w' ⟨g73, g78, rfl, HB, k_g1, k_g10, k_g2, k_g18, k_g3, k_g24, k_g5, k_g7, k_g8, n_g73, n_g78, d_g73_g78⟩ hf hd K hK
    have e6 := hd 6 (by kernel_rfl)
    have e9 := hd 9 (by kernel_rfl)
    rw [e6, e9]
    repeat rw [sel_true]
    have hz0 := (HB.cell (World.block_lt_of_cell? w12 _ j10)).trans j10
    have hz1 := (HB.cell (World.block_lt_of_cell? w12 _ j11)).trans j11
    have hz2 := (HB.cell (World.block_lt_of_cell? w12 _ j12)).trans j12
    have hz3 := (HB.cell (World.block_lt_of_cell? w12 _ j13)).trans j13
    exact valE (N := some 60) (.agg #[.int .i64 65535, .int .i64 65535, .int .i64 65535, .int .i64 7282]) (hK _ _ ⟨g73, g78, (by simp [Act.put, upd, sel_true, selO_true, e6, e9]), HB, k_g1, k_g10, k_g2, k_g18, k_g3, k_g24, k_g5, k_g7, k_g8, n_g73, n_g78, d_g73_g78⟩)
   case o11 =>
    rintro f a w' ⟨g73, g78, rfl, HB, k_g1, k_g10, k_g2, k_g18, k_g3, k_g24, k_g5, k_g7, k_g8, n_g73, n_g78, d_g73_g78⟩ hf hd K hK
    have e6 := hd 6 (by kernel_rfl)
    rw [e6]
    repeat rw [sel_true]
    have hz := blk_cell k_g7
    exact valE (N := some 61) (.agg #[.int .i64 65535, .int .i64 65535, .int .i64 65535, .int .i64 7282]) (hK _ _ ⟨g73, g78, (by simp [Act.put, upd, sel_true, selO_true, e6]), HB, k_g1, k_g10, k_g2, k_g18, k_g3, k_g24, k_g5, k_g7, k_g8, n_g73, n_g78, d_g73_g78⟩)
   case o12 =>
    rintro f a w' ⟨g73, g78, rfl, HB, k_g1, k_g10, k_g2, k_g18, k_g3, k_g24, k_g5, k_g7, k_g8, n_g73, n_g78, d_g73_g78⟩ hf hd K hK
    have e6 := hd 6 (by kernel_rfl)
    have e10 := hd 10 (by kernel_rfl)
    have e11 := hd 11 (by kernel_rfl)
    rw [e6, e10, e11]
    repeat rw [sel_true]
    exact valE (N := some 62) (.bool true) (hK _ _ ⟨g73, g78, (by simp [Act.put, upd, sel_true, selO_true, e6, e10, e11]), HB, k_g1, k_g10, k_g2, k_g18, k_g3, k_g24, k_g5, k_g7, k_g8, n_g73, n_g78, d_g73_g78⟩)
   case o13 =>
    rintro f a w' ⟨g73, g78, rfl, HB, k_g1, k_g10, k_g2, k_g18, k_g3, k_g24, k_g5, k_g7, k_g8, n_g73, n_g78, d_g73_g78⟩ hf hd K hK
    have e6 := hd 6 (by kernel_rfl)
    have e12 := hd 12 (by kernel_rfl)
    rw [e6, e12]
    repeat rw [sel_true]
    exact valE (N := some 63) (.bool true) (hK _ _ ⟨g73, g78, (by simp [Act.put, upd, sel_true, selO_true, e6, e12]), HB, k_g1, k_g10, k_g2, k_g18, k_g3, k_g24, k_g5, k_g7, k_g8, n_g73, n_g78, d_g73_g78⟩)
   case o14 =>
    rintro f a w' ⟨g73, g78, rfl, HB, k_g1, k_g10, k_g2, k_g18, k_g3, k_g24, k_g5, k_g7, k_g8, n_g73, n_g78, d_g73_g78⟩ hf hd K hK
    have e13 := hd 13 (by kernel_rfl)
    rw [e13]
    repeat rw [sel_true]
    exact valE (N := some 64) (.bool true) (hK _ _ ⟨g73, g78, (by simp [Act.put, upd, sel_true, selO_true, e13]), HB, k_g1, k_g10, k_g2, k_g18, k_g3, k_g24, k_g5, k_g7, k_g8, n_g73, n_g78, d_g73_g78⟩)
   case o15 =>
    rintro f a w' ⟨g73, g78, rfl, HB, k_g1, k_g10, k_g2, k_g18, k_g3, k_g24, k_g5, k_g7, k_g8, n_g73, n_g78, d_g73_g78⟩ hf hd K hK
    have e14 := hd 14 (by kernel_rfl)
    rw [e14]
    repeat rw [sel_true]
    exact valE (N := some 65) (.pointer (some ⟨g5, 2, none⟩)) (hK _ _ ⟨g73, g78, (by simp [Act.put, upd, sel_true, selO_true, e14]), HB, k_g1, k_g10, k_g2, k_g18, k_g3, k_g24, k_g5, k_g7, k_g8, n_g73, n_g78, d_g73_g78⟩)
   case o16 =>
    rintro f a w' ⟨g73, g78, rfl, HB, k_g1, k_g10, k_g2, k_g18, k_g3, k_g24, k_g5, k_g7, k_g8, n_g73, n_g78, d_g73_g78⟩ hf hd K hK
    have e14 := hd 14 (by kernel_rfl)
    have e15 := hd 15 (by kernel_rfl)
    rw [e14, e15]
    repeat rw [sel_true]
    have hz := blk_cell k_g5
    exact valE (N := some 66) (.slice (some ad2) 9 c2) (hK _ _ ⟨g73, g78, (by simp [Act.put, upd, sel_true, selO_true, e14, e15]), HB, k_g1, k_g10, k_g2, k_g18, k_g3, k_g24, k_g5, k_g7, k_g8, n_g73, n_g78, d_g73_g78⟩)
   case o17 =>
    rintro f a w' ⟨g73, g78, rfl, HB, k_g1, k_g10, k_g2, k_g18, k_g3, k_g24, k_g5, k_g7, k_g8, n_g73, n_g78, d_g73_g78⟩ hf hd K hK
    have e14 := hd 14 (by kernel_rfl)
    have e16 := hd 16 (by kernel_rfl)
    rw [e14, e16]
    repeat rw [sel_true]
    exact valE (N := some 67) (.pointer (some (⟨ad2.block, ad2.off + 16, none⟩))) (hK _ _ ⟨g73, g78, (by simp [Act.put, upd, sel_true, selO_true, e14, e16]), HB, k_g1, k_g10, k_g2, k_g18, k_g3, k_g24, k_g5, k_g7, k_g8, n_g73, n_g78, d_g73_g78⟩)
   case o18 =>
    rintro f a w' ⟨g73, g78, rfl, HB, k_g1, k_g10, k_g2, k_g18, k_g3, k_g24, k_g5, k_g7, k_g8, n_g73, n_g78, d_g73_g78⟩ hf hd K hK
    have e14 := hd 14 (by kernel_rfl)
    have e17 := hd 17 (by kernel_rfl)
    rw [e14, e17]
    repeat rw [sel_true]
    have hz0 := (HB.cell (World.block_lt_of_cell? w12 _ j20)).trans j20
    have hz1 := (HB.cell (World.block_lt_of_cell? w12 _ j21)).trans j21
    have hz2 := (HB.cell (World.block_lt_of_cell? w12 _ j22)).trans j22
    have hz3 := (HB.cell (World.block_lt_of_cell? w12 _ j23)).trans j23
    exact valE (N := some 68) (.agg #[.int .i64 65535, .int .i64 65535, .int .i64 65535, .int .i64 16384]) (hK _ _ ⟨g73, g78, (by simp [Act.put, upd, sel_true, selO_true, e14, e17]), HB, k_g1, k_g10, k_g2, k_g18, k_g3, k_g24, k_g5, k_g7, k_g8, n_g73, n_g78, d_g73_g78⟩)
   case o19 =>
    rintro f a w' ⟨g73, g78, rfl, HB, k_g1, k_g10, k_g2, k_g18, k_g3, k_g24, k_g5, k_g7, k_g8, n_g73, n_g78, d_g73_g78⟩ hf hd K hK
    have e14 := hd 14 (by kernel_rfl)
    rw [e14]
    repeat rw [sel_true]
    have hz := blk_cell k_g8
    exact valE (N := some 69) (.agg #[.int .i64 65535, .int .i64 65535, .int .i64 65535, .int .i64 16384]) (hK _ _ ⟨g73, g78, (by simp [Act.put, upd, sel_true, selO_true, e14]), HB, k_g1, k_g10, k_g2, k_g18, k_g3, k_g24, k_g5, k_g7, k_g8, n_g73, n_g78, d_g73_g78⟩)
   case o20 =>
    rintro f a w' ⟨g73, g78, rfl, HB, k_g1, k_g10, k_g2, k_g18, k_g3, k_g24, k_g5, k_g7, k_g8, n_g73, n_g78, d_g73_g78⟩ hf hd K hK
    have e14 := hd 14 (by kernel_rfl)
    have e18 := hd 18 (by kernel_rfl)
    have e19 := hd 19 (by kernel_rfl)
    rw [e14, e18, e19]
    repeat rw [sel_true]
    exact valE (N := some 70) (.bool true) (hK _ _ ⟨g73, g78, (by simp [Act.put, upd, sel_true, selO_true, e14, e18, e19]), HB, k_g1, k_g10, k_g2, k_g18, k_g3, k_g24, k_g5, k_g7, k_g8, n_g73, n_g78, d_g73_g78⟩)
   case o21 =>
    rintro f a w' ⟨g73, g78, rfl, HB, k_g1, k_g10, k_g2, k_g18, k_g3, k_g24, k_g5, k_g7, k_g8, n_g73, n_g78, d_g73_g78⟩ hf hd K hK
    have e14 := hd 14 (by kernel_rfl)
    have e20 := hd 20 (by kernel_rfl)
    rw [e14, e20]
    repeat rw [sel_true]
    exact valE (N := some 71) (.bool true) (hK _ _ ⟨g73, g78, (by simp [Act.put, upd, sel_true, selO_true, e14, e20]), HB, k_g1, k_g10, k_g2, k_g18, k_g3, k_g24, k_g5, k_g7, k_g8, n_g73, n_g78, d_g73_g78⟩)
   case o22 =>
    rintro f a w' ⟨g73, g78, rfl, HB, k_g1, k_g10, k_g2, k_g18, k_g3, k_g24, k_g5, k_g7, k_g8, n_g73, n_g78, d_g73_g78⟩ hf hd K hK
    have e21 := hd 21 (by kernel_rfl)
    rw [e21]
    repeat rw [sel_true]
    exact valE (N := some 72) (.bool true) (hK _ _ ⟨g73, g78, (by simp [Act.put, upd, sel_true, selO_true, e21]), HB, k_g1, k_g10, k_g2, k_g18, k_g3, k_g24, k_g5, k_g7, k_g8, n_g73, n_g78, d_g73_g78⟩)
   case o23 =>
    rintro f a w' ⟨g73, g78, rfl, HB, k_g1, k_g10, k_g2, k_g18, k_g3, k_g24, k_g5, k_g7, k_g8, n_g73, n_g78, d_g73_g78⟩ hf hd K hK
    have e22 := hd 22 (by kernel_rfl)
    rw [e22]
    repeat rw [sel_true]
    refine lit_step (N := 73) rfl rfl (cs := #[.int .i64 8]) (t := 3) (n := 1) (by first | (go_simp; done) | (go_simp; rfl)) ?_
    intro g9 hg w1 hx hb
    exact hK _ _ ⟨g9, g78, (by simp [Act.put, upd, sel_true, selO_true, e22]), below_step HB hb, blk_below k_g1 hb, blk_below k_g10 hb, blk_below k_g2 hb, blk_below k_g18 hb, blk_below k_g3 hb, blk_below k_g24 hb, blk_below k_g5 hb, blk_below k_g7 hb, blk_below k_g8 hb, fun _ => ⟨lB0 hg k_g1, lB0 hg k_g10, lB0 hg k_g2, lB0 hg k_g18, lB0 hg k_g3, lB0 hg k_g24, lB0 hg k_g5, lB0 hg k_g7, lB0 hg k_g8, zB0 hg HB, hx⟩, fun t => ⟨(n_g78 t).1, (n_g78 t).2.1, (n_g78 t).2.2.1, (n_g78 t).2.2.2.1, (n_g78 t).2.2.2.2.1, (n_g78 t).2.2.2.2.2.1, (n_g78 t).2.2.2.2.2.2.1, (n_g78 t).2.2.2.2.2.2.2.1, (n_g78 t).2.2.2.2.2.2.2.2.1, (n_g78 t).2.2.2.2.2.2.2.2.2.1, blk_below (n_g78 t).2.2.2.2.2.2.2.2.2.2 hb⟩, fun _ t => Nat.ne_of_gt (lB0 hg (n_g78 t).2.2.2.2.2.2.2.2.2.2)⟩
   case o24 =>
    rintro f a w' ⟨g73, g78, rfl, HB, k_g1, k_g10, k_g2, k_g18, k_g3, k_g24, k_g5, k_g7, k_g8, n_g73, n_g78, d_g73_g78⟩ hf hd K hK
    have e22 := hd 22 (by kernel_rfl)
    have e23 := hd 23 (by kernel_rfl)
    rw [e22, e23]
    repeat rw [sel_true]
    refine goesD (N := some 74) Try.func9 #[.int .i64 2, .slice (some ⟨g73, 0, none⟩) 1 1] ?_
    refine (filter_Check.calls 2 _ 1 [8] 2 _ (C_of_ints [8] ((n_g73 (hd 23 (by kernel_rfl))).2.2.2.2.2.2.2.2.2.2) rfl (by decide)) (by decide) exC_eq).mono ?_
    rintro e w1 ⟨rfl, hb⟩
    exact ⟨_, rfl, hK _ _ ⟨g73, g78, (by simp [Act.put, upd, sel_true, selO_true, e22, e23]), below_step HB hb, blk_below k_g1 hb, blk_below k_g10 hb, blk_below k_g2 hb, blk_below k_g18 hb, blk_below k_g3 hb, blk_below k_g24 hb, blk_below k_g5 hb, blk_below k_g7 hb, blk_below k_g8 hb, fun t => ⟨(n_g73 t).1, (n_g73 t).2.1, (n_g73 t).2.2.1, (n_g73 t).2.2.2.1, (n_g73 t).2.2.2.2.1, (n_g73 t).2.2.2.2.2.1, (n_g73 t).2.2.2.2.2.2.1, (n_g73 t).2.2.2.2.2.2.2.1, (n_g73 t).2.2.2.2.2.2.2.2.1, (n_g73 t).2.2.2.2.2.2.2.2.2.1, blk_below (n_g73 t).2.2.2.2.2.2.2.2.2.2 hb⟩, fun t => ⟨(n_g78 t).1, (n_g78 t).2.1, (n_g78 t).2.2.1, (n_g78 t).2.2.2.1, (n_g78 t).2.2.2.2.1, (n_g78 t).2.2.2.2.2.1, (n_g78 t).2.2.2.2.2.2.1, (n_g78 t).2.2.2.2.2.2.2.1, (n_g78 t).2.2.2.2.2.2.2.2.1, (n_g78 t).2.2.2.2.2.2.2.2.2.1, blk_below (n_g78 t).2.2.2.2.2.2.2.2.2.2 hb⟩, d_g73_g78⟩⟩
   case o25 =>
    rintro f a w' ⟨g73, g78, rfl, HB, k_g1, k_g10, k_g2, k_g18, k_g3, k_g24, k_g5, k_g7, k_g8, n_g73, n_g78, d_g73_g78⟩ hf hd K hK
    have e22 := hd 22 (by kernel_rfl)
    have e24 := hd 24 (by kernel_rfl)
    rw [e22, e24]
    repeat rw [sel_true]
    exact valE (N := some 75) (.bool true) (hK _ _ ⟨g73, g78, (by simp [Act.put, upd, sel_true, selO_true, e22, e24]), HB, k_g1, k_g10, k_g2, k_g18, k_g3, k_g24, k_g5, k_g7, k_g8, n_g73, n_g78, d_g73_g78⟩)
   case o26 =>
    rintro f a w' ⟨g73, g78, rfl, HB, k_g1, k_g10, k_g2, k_g18, k_g3, k_g24, k_g5, k_g7, k_g8, n_g73, n_g78, d_g73_g78⟩ hf hd K hK
    have e22 := hd 22 (by kernel_rfl)
    have e25 := hd 25 (by kernel_rfl)
    rw [e22, e25]
    repeat rw [sel_true]
    exact valE (N := some 76) (.bool true) (hK _ _ ⟨g73, g78, (by simp [Act.put, upd, sel_true, selO_true, e22, e25]), HB, k_g1, k_g10, k_g2, k_g18, k_g3, k_g24, k_g5, k_g7, k_g8, n_g73, n_g78, d_g73_g78⟩)
   case o27 =>
    rintro f a w' ⟨g73, g78, rfl, HB, k_g1, k_g10, k_g2, k_g18, k_g3, k_g24, k_g5, k_g7, k_g8, n_g73, n_g78, d_g73_g78⟩ hf hd K hK
    have e26 := hd 26 (by kernel_rfl)
    rw [e26]
    repeat rw [sel_true]
    exact valE (N := some 77) (.bool true) (hK _ _ ⟨g73, g78, (by simp [Act.put, upd, sel_true, selO_true, e26]), HB, k_g1, k_g10, k_g2, k_g18, k_g3, k_g24, k_g5, k_g7, k_g8, n_g73, n_g78, d_g73_g78⟩)
   case o28 =>
    rintro f a w' ⟨g73, g78, rfl, HB, k_g1, k_g10, k_g2, k_g18, k_g3, k_g24, k_g5, k_g7, k_g8, n_g73, n_g78, d_g73_g78⟩ hf hd K hK
    have e27 := hd 27 (by kernel_rfl)
    rw [e27]
    repeat rw [sel_true]
    refine lit_step (N := 78) rfl rfl (cs := #[.int .i64 2, .int .i64 (-3)]) (t := 3) (n := 2) (by first | (go_simp; done) | (go_simp; rfl)) ?_
    intro g9 hg w1 hx hb
    exact hK _ _ ⟨g73, g9, (by simp [Act.put, upd, sel_true, selO_true, e27]), below_step HB hb, blk_below k_g1 hb, blk_below k_g10 hb, blk_below k_g2 hb, blk_below k_g18 hb, blk_below k_g3 hb, blk_below k_g24 hb, blk_below k_g5 hb, blk_below k_g7 hb, blk_below k_g8 hb, fun t => ⟨(n_g73 t).1, (n_g73 t).2.1, (n_g73 t).2.2.1, (n_g73 t).2.2.2.1, (n_g73 t).2.2.2.2.1, (n_g73 t).2.2.2.2.2.1, (n_g73 t).2.2.2.2.2.2.1, (n_g73 t).2.2.2.2.2.2.2.1, (n_g73 t).2.2.2.2.2.2.2.2.1, (n_g73 t).2.2.2.2.2.2.2.2.2.1, blk_below (n_g73 t).2.2.2.2.2.2.2.2.2.2 hb⟩, fun _ => ⟨lB0 hg k_g1, lB0 hg k_g10, lB0 hg k_g2, lB0 hg k_g18, lB0 hg k_g3, lB0 hg k_g24, lB0 hg k_g5, lB0 hg k_g7, lB0 hg k_g8, zB0 hg HB, hx⟩, fun t _ => Nat.ne_of_lt (lB0 hg (n_g73 t).2.2.2.2.2.2.2.2.2.2)⟩
   case o29 =>
    rintro f a w' ⟨g73, g78, rfl, HB, k_g1, k_g10, k_g2, k_g18, k_g3, k_g24, k_g5, k_g7, k_g8, n_g73, n_g78, d_g73_g78⟩ hf hd K hK
    have e27 := hd 27 (by kernel_rfl)
    have e28 := hd 28 (by kernel_rfl)
    rw [e27, e28]
    repeat rw [sel_true]
    refine goesD (N := some 79) Try.func11 #[.int .i64 9, .slice (some ⟨g78, 0, none⟩) 2 2] ?_
    refine (filter_Reach.calls 40 9 _ 2 [2, -3] 3 _ (C_of_ints [2, -3] ((n_g78 (hd 28 (by kernel_rfl))).2.2.2.2.2.2.2.2.2.2) rfl (by decide)) (by decide) exR_eq).mono ?_
    rintro e w1 ⟨rfl, hb⟩
    exact ⟨_, rfl, hK _ _ ⟨g73, g78, (by simp [Act.put, upd, sel_true, selO_true, e27, e28]), below_step HB hb, blk_below k_g1 hb, blk_below k_g10 hb, blk_below k_g2 hb, blk_below k_g18 hb, blk_below k_g3 hb, blk_below k_g24 hb, blk_below k_g5 hb, blk_below k_g7 hb, blk_below k_g8 hb, fun t => ⟨(n_g73 t).1, (n_g73 t).2.1, (n_g73 t).2.2.1, (n_g73 t).2.2.2.1, (n_g73 t).2.2.2.2.1, (n_g73 t).2.2.2.2.2.1, (n_g73 t).2.2.2.2.2.2.1, (n_g73 t).2.2.2.2.2.2.2.1, (n_g73 t).2.2.2.2.2.2.2.2.1, (n_g73 t).2.2.2.2.2.2.2.2.2.1, blk_below (n_g73 t).2.2.2.2.2.2.2.2.2.2 hb⟩, fun t => ⟨(n_g78 t).1, (n_g78 t).2.1, (n_g78 t).2.2.1, (n_g78 t).2.2.2.1, (n_g78 t).2.2.2.2.1, (n_g78 t).2.2.2.2.2.1, (n_g78 t).2.2.2.2.2.2.1, (n_g78 t).2.2.2.2.2.2.2.1, (n_g78 t).2.2.2.2.2.2.2.2.1, (n_g78 t).2.2.2.2.2.2.2.2.2.1, blk_below (n_g78 t).2.2.2.2.2.2.2.2.2.2 hb⟩, d_g73_g78⟩⟩
   case o30 =>
    rintro f a w' ⟨g73, g78, rfl, HB, k_g1, k_g10, k_g2, k_g18, k_g3, k_g24, k_g5, k_g7, k_g8, n_g73, n_g78, d_g73_g78⟩ hf hd K hK
    have e27 := hd 27 (by kernel_rfl)
    have e29 := hd 29 (by kernel_rfl)
    rw [e27, e29]
    repeat rw [sel_true]
    exact valE (N := some 80) (.bool true) (hK _ _ ⟨g73, g78, (by simp [Act.put, upd, sel_true, selO_true, e27, e29]), HB, k_g1, k_g10, k_g2, k_g18, k_g3, k_g24, k_g5, k_g7, k_g8, n_g73, n_g78, d_g73_g78⟩)
   case o31 =>
    rintro f a w' ⟨g73, g78, rfl, HB, k_g1, k_g10, k_g2, k_g18, k_g3, k_g24, k_g5, k_g7, k_g8, n_g73, n_g78, d_g73_g78⟩ hf hd K hK
    have e27 := hd 27 (by kernel_rfl)
    have e30 := hd 30 (by kernel_rfl)
    rw [e27, e30]
    repeat rw [sel_true]
    exact valE (N := some 81) (.bool true) (hK _ _ ⟨g73, g78, (by simp [Act.put, upd, sel_true, selO_true, e27, e30]), HB, k_g1, k_g10, k_g2, k_g18, k_g3, k_g24, k_g5, k_g7, k_g8, n_g73, n_g78, d_g73_g78⟩)
   case o32 =>
    rintro f a w' ⟨g73, g78, rfl, HB, k_g1, k_g10, k_g2, k_g18, k_g3, k_g24, k_g5, k_g7, k_g8, n_g73, n_g78, d_g73_g78⟩ hf hd K hK
    have e31 := hd 31 (by kernel_rfl)
    rw [e31]
    repeat rw [sel_true]
    exact valE (N := some 0) (.bool true) (hK _ _ ⟨g73, g78, (by simp [Act.put, upd, sel_true, selO_true, e31]), HB, k_g1, k_g10, k_g2, k_g18, k_g3, k_g24, k_g5, k_g7, k_g8, n_g73, n_g78, d_g73_g78⟩)
  case fin =>
   clear HB B_g1 B_g10 B_g2 B_g18 B_g3 B_g24 B_g5 B_g7 B_g8
   rintro f a w' hall ⟨g73, g78, rfl, HB, k_g1, k_g10, k_g2, k_g18, k_g3, k_g24, k_g5, k_g7, k_g8, n_g73, n_g78, d_g73_g78⟩
   have h0 := hall 0 (by decide)
   have h1 := hall 1 (by decide)
   have h2 := hall 2 (by decide)
   have h3 := hall 3 (by decide)
   have h4 := hall 4 (by decide)
   have h5 := hall 5 (by decide)
   have h6 := hall 6 (by decide)
   have h7 := hall 7 (by decide)
   have h8 := hall 8 (by decide)
   have h9 := hall 9 (by decide)
   have h10 := hall 10 (by decide)
   have h11 := hall 11 (by decide)
   have h12 := hall 12 (by decide)
   have h13 := hall 13 (by decide)
   have h14 := hall 14 (by decide)
   have h15 := hall 15 (by decide)
   have h16 := hall 16 (by decide)
   have h17 := hall 17 (by decide)
   have h18 := hall 18 (by decide)
   have h19 := hall 19 (by decide)
   have h20 := hall 20 (by decide)
   have h21 := hall 21 (by decide)
   have h22 := hall 22 (by decide)
   have h23 := hall 23 (by decide)
   have h24 := hall 24 (by decide)
   have h25 := hall 25 (by decide)
   have h26 := hall 26 (by decide)
   have h27 := hall 27 (by decide)
   have h28 := hall 28 (by decide)
   have h29 := hall 29 (by decide)
   have h30 := hall 30 (by decide)
   have h31 := hall 31 (by decide)
   have h32 := hall 32 (by decide)
   obtain ⟨l_g1_g73, l_g10_g73, l_g2_g73, l_g18_g73, l_g3_g73, l_g24_g73, l_g5_g73, l_g7_g73, l_g8_g73, z_g73, k_g73⟩ := n_g73 h23
   obtain ⟨l_g1_g78, l_g10_g78, l_g2_g78, l_g18_g78, l_g3_g78, l_g24_g78, l_g5_g78, l_g7_g78, l_g8_g78, z_g78, k_g78⟩ := n_g78 h28
   have l_g73_g78 := d_g73_g78 h23 h28
   rw [h0, h1, h2, h3, h4, h5, h6, h7, h8, h9, h10, h11, h12, h13, h14, h15, h16, h17, h18, h19, h20, h21, h22, h23, h24, h25, h26, h27, h28, h29, h30, h31, h32]
   simp only [sel_true, selO_true]
   replace HB := am HB
   have B_g1 := am k_g1
   have B_g10 := am k_g10
   have B_g2 := am k_g2
   have B_g18 := am k_g18
   have B_g3 := am k_g3
   have B_g24 := am k_g24
   have B_g5 := am k_g5
   have B_g7 := am k_g7
   have B_g8 := am k_g8
   have B_g73 := am k_g73
   have B_g78 := am k_g78
   clear hall h0 h1 h2 h3 h4 h5 h6 h7 h8 h9 h10 h11 h12 h13 h14 h15 h16 h17 h18 h19 h20 h21 h22 h23 h24 h25 h26 h27 h28 h29 h30 h31 h32 k_g1 k_g10 k_g2 k_g18 k_g3 k_g24 k_g5 k_g7 k_g8 k_g73 k_g78
   (try clear n_g73 n_g78 d_g73_g78 f)
   go_wp2
   go_ret
   exact ⟨rfl, below_step HB0.out HB.out⟩
def imageeditorlaw16_example.f : Option Bool := some true
theorem imageeditorlaw16_example.calls (r : Bool) (w : World) (h : imageeditorlaw16_example.f = some r) : Calls Try.prog 13 #[] w fun e w' => e = .returned (.bool r) ∧ Below w.heap.size w w' := by
 obtain rfl := Option.some.inj h
 exact example_calls w


end Go.Proofs.Ytocefehnemahhaa.G
