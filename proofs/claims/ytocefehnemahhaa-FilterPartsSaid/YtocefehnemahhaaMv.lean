import Derived.Test.YtocefehnemahhaaMo
namespace Go.Proofs.Ytocefehnemahhaa.G
open Go.RowKit Go.Proofs.YtocefehnemahhaaW.PrintWords Go.Proofs.YtocefehnemahhaaW.PrintLast Go.Proofs.YtocefehnemahhaaW.PrintMore
set_option linter.unusedVariables false
set_option linter.unusedSimpArgs false
/-! Each filter's pixels are pixels. -/
theorem dv_range {a b : Int} (hb : 0 < b) (h0 : 0 ≤ a) (h1 : a ≤ 65535 * b) (h2 : b ≤ 70368744177664) : 0 ≤ dv a b ∧ dv a b ≤ 65535 := by
  rw [dv_pos a b hb (by omega) (by omega) (by omega)]
  refine ⟨Int.ediv_nonneg (by omega) (by omega), ?_⟩
  have : (2 * a + b) / (2 * b) < 65536 := Int.ediv_lt_of_lt_mul (by omega) (by omega)
  omega
theorem sums_range : ∀ {L : List (S51 × Int)}, (∀ q ∈ L, pv q.1 ∧ 0 ≤ q.2) → 0 ≤ sW L ∧ 0 ≤ sA L ∧ sA L ≤ 65535 * sW L ∧ ∀ c : S51 → Int, (∀ q ∈ L, 0 ≤ c q.1 ∧ c q.1 ≤ 65535) → 0 ≤ sC c L ∧ sC c L ≤ 65535 * sA L
  | [], _ => by simp [sA, sW, sC]
  | q :: L, h => by
    obtain ⟨h1, h2, h3, h4⟩ := sums_range fun z hz => h z (List.mem_cons_of_mem _ hz)
    obtain ⟨⟨p0, p1, p2, p3, p4, p5, p6, p7⟩, hw⟩ := h q List.mem_cons_self
    have e1 : sA (q :: L) = q.2 * q.1.f3 + sA L := by simp [sA]
    have e2 : sW (q :: L) = q.2 + sW L := by simp [sW]
    have m1 := Int.mul_nonneg hw p6
    have m2 := Int.mul_le_mul_of_nonneg_left p7 hw
    refine ⟨by omega, by omega, by omega, fun c hc => ?_⟩
    obtain ⟨g1, g2⟩ := h4 c fun z hz => hc z (List.mem_cons_of_mem _ hz)
    have e3 : sC c (q :: L) = q.2 * q.1.f3 * c q.1 + sC c L := by simp [sC]
    obtain ⟨c0, c1⟩ := hc q List.mem_cons_self
    have m3 := Int.mul_nonneg m1 c0
    have m4 := Int.mul_le_mul_of_nonneg_left c1 m1
    omega
theorem tm_pv {L : List (S51 × Int)} (h : ∀ q ∈ L, pv q.1 ∧ 0 ≤ q.2) (h2 : sW L ≤ 268435456) : pv (tm (TL L)) := by
  obtain ⟨h0, h1, h3, h4⟩ := sums_range h
  have k0 := h4 S51.f0 fun q hq => ⟨(h q hq).1.1, (h q hq).1.2.1⟩
  have k1 := h4 S51.f1 fun q hq => ⟨(h q hq).1.2.2.1, (h q hq).1.2.2.2.1⟩
  have k2 := h4 S51.f2 fun q hq => ⟨(h q hq).1.2.2.2.2.1, (h q hq).1.2.2.2.2.2.1⟩
  unfold tm TL
  simp only []
  rw [wrap_id (sW L) (by omega) (by omega), wrap_id (sA L) (by omega) (by omega), wrap_id _ (by omega) (by omega), wrap_id _ (by omega) (by omega), wrap_id _ (by omega) (by omega)]
  by_cases hz : sA L = 0
  · rw [if_pos hz]; exact ⟨by decide, by decide, by decide, by decide, by decide, by decide, by decide, by decide⟩
  · rw [if_neg hz]
    have d0 := dv_range (show 0 < sA L by omega) k0.1 k0.2 (by omega)
    have d1 := dv_range (show 0 < sA L by omega) k1.1 k1.2 (by omega)
    have d2 := dv_range (show 0 < sA L by omega) k2.1 k2.2 (by omega)
    have d3 := dv_range (show 0 < sW L by omega) h1 h3 (by omega)
    exact ⟨d0.1, d0.2, d1.1, d1.2, d2.1, d2.2, d3.1, d3.2⟩
theorem mean_pv {l : List S51} (h : ∀ q ∈ l, pv q) (h2 : l.length ≤ 2000) : pv (tm (TL (one l))) := by
  refine tm_pv (fun q hq => ?_) (by rw [sW_one]; omega)
  obtain ⟨z, hz, rfl⟩ := List.mem_map.1 hq
  exact ⟨h z hz, (by show (0 : Int) ≤ 1; decide)⟩
section
variable {g : Int → Int → S51} (hg : ∀ i j, pv (g i j))
include hg
theorem box_pv {r : Int} (h1 : r ≤ 16) : pv (boxS g r) := by
  have := squareS_small (g := g) h1
  refine mean_pv (fun q hq => ?_) (by omega)
  obtain ⟨i, j, _, _, _, _, rfl⟩ := square_mem hq
  exact hg i j
theorem gRow_pv (c : List Int) (r j : Int) : ∀ n i, ∀ q ∈ gRow g c r j n i, pv q.1
  | 0, _, q, h => by simp [gRow] at h
  | n + 1, i, q, h => by
    rcases List.mem_cons.1 h with rfl | h
    · exact hg _ _
    · exact gRow_pv c r j n _ q h
theorem gSq_pv (c : List Int) (r : Int) (m : Nat) : ∀ n j, ∀ q ∈ gSq g c r m n j, pv q.1
  | 0, _, q, h => by simp [gSq] at h
  | n + 1, j, q, h => by
    rcases List.mem_append.1 h with h | h
    · exact gRow_pv hg c r j m _ q h
    · exact gSq_pv c r m n _ q h
omit hg in
theorem gRow_snd (c : List Int) (r j : Int) : ∀ n i, (gRow g c r j n i).map Prod.snd = (gRow (fun _ _ => z51) c r j n i).map Prod.snd
  | 0, _ => rfl
  | n + 1, i => by rw [gRow, gRow, List.map_cons, List.map_cons, gRow_snd c r j n]
omit hg in
theorem gSq_snd (c : List Int) (r : Int) (m : Nat) : ∀ n j, (gSq g c r m n j).map Prod.snd = (gSq (fun _ _ => z51) c r m n j).map Prod.snd
  | 0, _ => rfl
  | n + 1, j => by rw [gSq, gSq, List.map_append, List.map_append, gRow_snd, gSq_snd c r m n]
omit hg in
theorem gauss_pos {r : Int} (h0 : 0 ≤ r) (h1 : r ≤ 7) : (((gaussL (fun _ _ => z51) r).map Prod.snd).all fun z => decide (0 ≤ z)) = true := by
  obtain rfl | rfl | rfl | rfl | rfl | rfl | rfl | rfl : r = 0 ∨ r = 1 ∨ r = 2 ∨ r = 3 ∨ r = 4 ∨ r = 5 ∨ r = 6 ∨ r = 7 := by omega
  all_goals kernel_rfl
theorem gauss_pv {r : Int} (h0 : 0 ≤ r) (h1 : r ≤ 7) : pv (gaussS g r) := by
  have hs : (gaussL g r).map Prod.snd = (gaussL (fun _ _ => z51) r).map Prod.snd := gSq_snd _ _ _ _ _
  refine tm_pv (fun q hq => ⟨gSq_pv hg _ _ _ _ _ q hq, ?_⟩) ?_
  · have h2 := List.all_eq_true.1 (gauss_pos h0 h1) q.2 (by rw [← hs]; exact List.mem_map.2 ⟨q, hq, rfl⟩)
    exact of_decide_eq_true h2
  · have e : sW (gaussL g r) = sW (gaussL (fun _ _ => z51) r) := congrArg List.sum hs
    rw [e]
    exact (gauss_weight z51 h0 h1).2
omit hg in
theorem cl_range (x : Int) : 0 ≤ cl x ∧ cl x ≤ 65535 := by unfold cl; rw [mx_eq, mn_eq]; omega
theorem sharp_pv (r a : Int) : pv (sharpS g r a) := by
  have h := hg 0 0
  exact ⟨(cl_range _).1, (cl_range _).2, (cl_range _).1, (cl_range _).2, (cl_range _).1, (cl_range _).2, h.2.2.2.2.2.2.1, h.2.2.2.2.2.2.2⟩
theorem gray_pv (n : Int) : pv (grayS g n) := by
  have h := hg 0 0
  exact ⟨(cl_range _).1, (cl_range _).2, (cl_range _).1, (cl_range _).2, (cl_range _).1, (cl_range _).2, h.2.2.2.2.2.2.1, h.2.2.2.2.2.2.2⟩
theorem ml_pv (dx dy n : Int) : ∀ m i, ∀ q ∈ ml g dx dy n m i, pv q
  | 0, _, q, h => by simp [ml] at h
  | m + 1, i, q, h => by
    rcases List.mem_cons.1 h with rfl | h
    · exact hg _ _
    · exact ml_pv dx dy n m _ q h
omit hg in
theorem ml_len (dx dy n : Int) : ∀ m i, (ml g dx dy n m i).length = m
  | 0, _ => rfl
  | m + 1, i => by rw [ml, List.length_cons, ml_len dx dy n m]
theorem motion_pv {dx dy : Int} (h0 : far4 dx dy ≤ 16) : pv (motionS g dx dy) := by
  refine mean_pv (ml_pv hg _ _ _ _ _) ?_
  unfold motionL
  rw [ml_len]
  omega
theorem bRow_pv (u v bw bh j : Int) : ∀ n i, ∀ q ∈ bRow g u v bw bh j n i, pv q
  | 0, _, q, h => by simp [bRow] at h
  | n + 1, i, q, h => by
    rw [bRow] at h
    split at h
    · rcases List.mem_cons.1 h with rfl | h
      · exact hg _ _
      · exact bRow_pv u v bw bh j n _ q h
    · exact bRow_pv u v bw bh j n _ q h
theorem bSq_pv (u v bw bh : Int) (m : Nat) (i0 : Int) : ∀ n j, ∀ q ∈ bSq g u v bw bh m i0 n j, pv q
  | 0, _, q, h => by simp [bSq] at h
  | n + 1, j, q, h => by
    rcases List.mem_append.1 h with h | h
    · exact bRow_pv hg u v bw bh j m _ q h
    · exact bSq_pv u v bw bh m i0 n _ q h
theorem block_pv (u v bw bh : Int) {s : Int} (h1 : s ≤ 16) : pv (blockS g u v bw bh s) := by
  refine mean_pv (bSq_pv hg u v bw bh _ _ _ _) ?_
  have := bSq_le g u v bw bh s.toNat (-(u % s)) s.toNat (-(v % s))
  have := Nat.mul_le_mul (show s.toNat ≤ 16 by omega) (show s.toNat ≤ 16 by omega)
  unfold blockL
  omega
theorem rank_pv {r n : Int} (h0 : 0 ≤ r) (hr : r ≤ 16) (hn : 0 ≤ n) (h1 : n < (2 * r + 1) * (2 * r + 1)) : pv (rankS g r n) := by
  have k0 := rank_mem h0 hr hn h1 (Q := fun z => 0 ≤ z ∧ z ≤ 65535) S51.f0 fun i j => ⟨(hg i j).1, (hg i j).2.1⟩
  have k1 := rank_mem h0 hr hn h1 (Q := fun z => 0 ≤ z ∧ z ≤ 65535) S51.f1 fun i j => ⟨(hg i j).2.2.1, (hg i j).2.2.2.1⟩
  have k2 := rank_mem h0 hr hn h1 (Q := fun z => 0 ≤ z ∧ z ≤ 65535) S51.f2 fun i j => ⟨(hg i j).2.2.2.2.1, (hg i j).2.2.2.2.2.1⟩
  have k3 := rank_mem h0 hr hn h1 (Q := fun z => 0 ≤ z ∧ z ≤ 65535) S51.f3 fun i j => ⟨(hg i j).2.2.2.2.2.2.1, (hg i j).2.2.2.2.2.2.2⟩
  exact ⟨k0.1, k0.2, k1.1, k1.2, k2.1, k2.2, k3.1, k3.2⟩
theorem fil_pv {a : Int} {p : List Int} (h : filter_Check.f a p = some 0) (u v bw bh : Int) : pv (filS g u v bw bh a p) := by
  rcases check_range h with ⟨ha, rfl⟩ | ⟨rfl, x, y, rfl, h1, h2, h3, h4⟩ | ⟨rfl, x, rfl, h1, h2⟩ | ⟨rfl, x, y, rfl, h1, h2, h3, h4⟩ | ⟨hk, x, rfl, h1, h2, h3, h4⟩
  · rcases ha with rfl | rfl
    · exact gray_pv hg _
    · exact gray_pv hg _
  · exact motion_pv hg (dx := x) (dy := y) (by unfold far4; omega)
  · exact block_pv hg u v bw bh h2
  · exact sharp_pv hg _ _
  · obtain ⟨s1, s2, s3, s4⟩ := side_sq h1 h2
    rcases hk with rfl | rfl | rfl | rfl | rfl
    · exact box_pv hg h2
    · exact gauss_pv hg h1 (h3 rfl)
    · exact rank_pv hg (r := x) (n := (2 * x + 1) * (2 * x + 1) / 2) h1 h2 (by omega) (by omega)
    · exact rank_pv hg (r := x) (n := (2 * x + 1) * (2 * x + 1) - 1) h1 h2 (by omega) (by omega)
    · exact rank_pv hg (r := x) (n := 0) h1 h2 (by omega) (by omega)
end
theorem clean_pv {p : S51} (h : pv p) : pv (clean p) := by
  unfold clean
  split
  · exact ⟨by decide, by decide, by decide, by decide, by decide, by decide, by decide, by decide⟩
  · exact h
theorem imS_all {Q : S51 → Prop} {q : Int → Int → S51} {m n : Nat} (h : ∀ u v : Nat, u < m → v < n → Q (q u v)) : ∀ p ∈ imS q m n 0, Q p := by
  intro p hp
  obtain ⟨k, hk, rfl⟩ := List.getElem_of_mem hp
  exact imS_rel (q' := q) (Q := fun a _ => Q a) (fun u v hu hv => h u v hu hv) k hk hk
/-- What a filter's pixel depends on. -/
theorem fil_agree {W H ax ay bx by_ bw bh x y : Int} {l : List S51} {g g' : Int → Int → S51} {a : Int} {p : List Int} (h : filter_Check.f a p = some 0) (hg : GetIs W H l ax ay bx by_ bw bh x y (reS a p) g) (hV : V bx by_ bw bh) (hx : bx ≤ x ∧ x < bx + bw) (hy_ : by_ ≤ y ∧ y < by_ + bh)
    (e : ∀ i j, -reS a p ≤ i → i ≤ reS a p → -reS a p ≤ j → j ≤ reS a p → g' i j = g i j) : filS g' (x - bx) (y - by_) bw bh a p = filS g (x - bx) (y - by_) bw bh a p := by
  have hg' : GetIs W H l ax ay bx by_ bw bh x y (reS a p) g' := fun i j h1 h2 h3 h4 => by rw [e i j h1 h2 h3 h4]; exact hg i j h1 h2 h3 h4
  obtain ⟨K, h1⟩ := filtered_ev h hg hV hx hy_
  obtain ⟨K', h2⟩ := filtered_ev h hg' hV hx hy_
  have h3 := (h2 (K + K') (by omega)).symm.trans (h1 (K + K') (by omega))
  unfold tup at h3
  simp only [Option.some.injEq, Prod.mk.injEq] at h3
  obtain ⟨e0, e1, e2, e3⟩ := h3
  generalize filS g' (x - bx) (y - by_) bw bh a p = P at *
  generalize filS g (x - bx) (y - by_) bw bh a p = P' at *
  cases P; cases P'
  simp only [S51.mk.injEq]
  exact ⟨e0, e1, e2, e3⟩
end Go.Proofs.Ytocefehnemahhaa.G
