import Derived.Test.YtocefehnemahhaaMe
namespace Go.Proofs.Ytocefehnemahhaa.G
open Go.RowKit Go.Proofs.YtocefehnemahhaaW.PrintWords Go.Proofs.YtocefehnemahhaaW.PrintLast Go.Proofs.YtocefehnemahhaaW.PrintMore
set_option linter.unusedVariables false
set_option linter.unusedSimpArgs false
/-! Images with equal pixels. -/
theorem dv_mul {m c : Int} (hm : 0 < m) (hc : 0 ≤ c) (hb : m * c ≤ 4611686018427387904) (hm2 : m ≤ 4611686018427387904) : dv (m * c) m = c := by
  have h0 := Int.mul_nonneg (show 0 ≤ m by omega) hc
  rw [dv_pos _ _ hm (by omega) hb hm2, show 2 * (m * c) + m = m + 2 * m * c by rw [Int.mul_assoc]; omega, Int.add_mul_ediv_left _ _ (by omega), Int.ediv_eq_zero_of_lt (by omega) (by omega), Int.zero_add]
theorem sums_const {p : S51} : ∀ {L : List (S51 × Int)}, (∀ q ∈ L, q.1 = p) → sA L = sW L * p.f3 ∧ ∀ c : S51 → Int, sC c L = sW L * p.f3 * c p
  | [], _ => by simp [sA, sW, sC]
  | q :: L, h => by
    obtain ⟨h1, h2⟩ := sums_const (fun z hz => h z (List.mem_cons_of_mem _ hz))
    have hq := h q List.mem_cons_self
    refine ⟨?_, fun c => ?_⟩
    · have e : sA (q :: L) = q.2 * q.1.f3 + sA L := by simp [sA]
      have e2 : sW (q :: L) = q.2 + sW L := by simp [sW]
      rw [e, e2, h1, hq, Int.add_mul]
    · have e : sC c (q :: L) = q.2 * q.1.f3 * c q.1 + sC c L := by simp [sC]
      have e2 : sW (q :: L) = q.2 + sW L := by simp [sW]
      rw [e, e2, h2, hq, Int.add_mul, Int.add_mul]
theorem tm_const {p : S51} (hp : pv p) (ha : p.f3 ≠ 0) {L : List (S51 × Int)} (h : ∀ q ∈ L, q.1 = p) (h1 : 1 ≤ sW L) (h2 : sW L ≤ 268435456) : tm (TL L) = p := by
  obtain ⟨e1, e2⟩ := sums_const h
  obtain ⟨p0, p1, p2, p3, p4, p5, p6, p7⟩ := hp
  have hS : 0 < sW L * p.f3 ∧ sW L * p.f3 ≤ 17592186044416 := by
    have f1 := Int.mul_le_mul_of_nonneg_left p7 (show 0 ≤ sW L by omega)
    have f2 := Int.mul_le_mul_of_nonneg_left (show 1 ≤ p.f3 by omega) (show 0 ≤ sW L by omega)
    omega
  have hC : ∀ x : Int, 0 ≤ x → x ≤ 65535 → 0 ≤ sW L * p.f3 * x ∧ sW L * p.f3 * x ≤ 4611686018427387904 := fun x g1 g2 => by
    have f1 := Int.mul_le_mul_of_nonneg_left g2 (show 0 ≤ sW L * p.f3 by omega)
    have f2 := Int.mul_nonneg (show 0 ≤ sW L * p.f3 by omega) g1
    omega
  have c0 := hC _ p0 p1
  have c1 := hC _ p2 p3
  have c2 := hC _ p4 p5
  have d0 := dv_mul hS.1 p0 c0.2 (by omega)
  have d1 := dv_mul hS.1 p2 c1.2 (by omega)
  have d2 := dv_mul hS.1 p4 c2.2 (by omega)
  have d3 := dv_mul (show 0 < sW L by omega) p6 (by omega) (by omega)
  unfold tm TL
  simp only [e1, e2]
  rw [wrap_id _ (by omega) (by omega), wrap_id _ (by omega) (by omega), wrap_id _ (by omega) (by omega), wrap_id _ (by omega) (by omega), wrap_id _ (by omega) (by omega), if_neg (by omega), d0, d1, d2, d3]
theorem row_const (p : S51) (j : Int) : ∀ n i, row (fun _ _ => p) j n i = List.replicate n p
  | 0, _ => rfl
  | n + 1, i => by rw [row, row_const p j n, List.replicate_succ]
theorem sq_const (p : S51) (m : Nat) (i : Int) : ∀ n j, sq (fun _ _ => p) m i n j = List.replicate (n * m) p
  | 0, _ => by simp [sq]
  | n + 1, j => by rw [sq, row_const, sq_const p m i n, List.replicate_append_replicate, Nat.succ_mul, Nat.add_comm]
theorem sW_one (l : List S51) : sW (one l) = l.length := by
  unfold sW one
  induction l with
  | nil => rfl
  | cons a l ih => simp only [List.map_cons, List.sum_cons, List.length_cons, ih]; omega
theorem one_const {p : S51} {l : List S51} (h : ∀ q ∈ l, q = p) : ∀ q ∈ one l, q.1 = p := by
  intro q hq
  obtain ⟨z, hz, rfl⟩ := List.mem_map.1 hq
  exact h z hz
theorem mean_const {p : S51} (hp : pv p) (ha : p.f3 ≠ 0) {l : List S51} (h : ∀ q ∈ l, q = p) (h1 : 1 ≤ l.length) (h2 : l.length ≤ 2000) : tm (TL (one l)) = p :=
  tm_const hp ha (one_const h) (by rw [sW_one]; omega) (by rw [sW_one]; omega)
theorem box_const {p : S51} (hp : pv p) (ha : p.f3 ≠ 0) {r : Int} (h0 : 0 ≤ r) (h1 : r ≤ 16) : boxS (fun _ _ => p) r = p := by
  have hl := squareS_len (g := fun _ _ => p) r
  obtain ⟨s1, s2, s3, s4⟩ := side_sq h0 h1
  refine mean_const hp ha (fun q hq => ?_) (by rw [hl]; omega) (by rw [hl]; omega)
  rw [squareS, sq_const] at hq
  exact List.eq_of_mem_replicate hq
theorem gRow_const (p : S51) (c : List Int) (r j : Int) : ∀ n i, ∀ q ∈ gRow (fun _ _ => p) c r j n i, q.1 = p
  | 0, _, q, h => by simp [gRow] at h
  | n + 1, i, q, h => by
    rcases List.mem_cons.1 h with rfl | h
    · rfl
    · exact gRow_const p c r j n _ q h
theorem gSq_const (p : S51) (c : List Int) (r : Int) (m : Nat) : ∀ n j, ∀ q ∈ gSq (fun _ _ => p) c r m n j, q.1 = p
  | 0, _, q, h => by simp [gSq] at h
  | n + 1, j, q, h => by
    rcases List.mem_append.1 h with h | h
    · exact gRow_const p c r j m _ q h
    · exact gSq_const p c r m n _ q h
theorem gauss_weight (p : S51) {r : Int} (h0 : 0 ≤ r) (h1 : r ≤ 7) : 1 ≤ sW (gaussL (fun _ _ => p) r) ∧ sW (gaussL (fun _ _ => p) r) ≤ 268435456 := by
  have e : sW (gaussL (fun _ _ => p) r) = 1 ∨ sW (gaussL (fun _ _ => p) r) = 16 ∨ sW (gaussL (fun _ _ => p) r) = 256 ∨ sW (gaussL (fun _ _ => p) r) = 4096 ∨ sW (gaussL (fun _ _ => p) r) = 65536 ∨ sW (gaussL (fun _ _ => p) r) = 1048576 ∨ sW (gaussL (fun _ _ => p) r) = 16777216 ∨ sW (gaussL (fun _ _ => p) r) = 268435456 := by
    obtain rfl | rfl | rfl | rfl | rfl | rfl | rfl | rfl : r = 0 ∨ r = 1 ∨ r = 2 ∨ r = 3 ∨ r = 4 ∨ r = 5 ∨ r = 6 ∨ r = 7 := by omega
    · exact .inl (by kernel_rfl)
    · exact .inr (.inl (by kernel_rfl))
    · exact .inr (.inr (.inl (by kernel_rfl)))
    · exact .inr (.inr (.inr (.inl (by kernel_rfl))))
    · exact .inr (.inr (.inr (.inr (.inl (by kernel_rfl)))))
    · exact .inr (.inr (.inr (.inr (.inr (.inl (by kernel_rfl))))))
    · exact .inr (.inr (.inr (.inr (.inr (.inr (.inl (by kernel_rfl)))))))
    · exact .inr (.inr (.inr (.inr (.inr (.inr (.inr (by kernel_rfl)))))))
  omega
theorem gauss_const {p : S51} (hp : pv p) (ha : p.f3 ≠ 0) {r : Int} (h0 : 0 ≤ r) (h1 : r ≤ 7) : gaussS (fun _ _ => p) r = p :=
  tm_const hp ha (gSq_const p _ _ _ _ _) (gauss_weight p h0 h1).1 (gauss_weight p h0 h1).2
theorem cl_of {x : Int} (h0 : 0 ≤ x) (h1 : x ≤ 65535) : cl x = x := by unfold cl; rw [mx_eq, mn_eq]; omega
theorem wrap0 : wrap64 0 = 0 := wrap_id 0 (by omega) (by omega)
theorem dv0 : dv 0 65535 = 0 := by kernel_rfl
theorem sh_const {a c : Int} (h0 : 0 ≤ c) (h1 : c ≤ 65535) : shS a c c = c := by
  unfold shS
  rw [Int.sub_self, wrap0, Int.mul_zero, wrap0, dv0, Int.add_zero, wrap_id c (by omega) (by omega), cl_of h0 h1]
theorem sharp_const {p : S51} (hp : pv p) (ha : p.f3 ≠ 0) {r a : Int} (h0 : 0 ≤ r) (h1 : r ≤ 16) : sharpS (fun _ _ => p) r a = p := by
  obtain ⟨p0, p1, p2, p3, p4, p5, p6, p7⟩ := hp
  unfold sharpS
  rw [box_const ⟨p0, p1, p2, p3, p4, p5, p6, p7⟩ ha h0 h1]
  simp only [sh_const p0 p1, sh_const p2 p3, sh_const p4 p5]
theorem edge_const (p : S51) : edgeS (fun _ _ => p) = ⟨0, 0, 0, p.f3⟩ := by
  have e : ∀ k s : Int, stX (fun _ _ => p) k s = wrap64 s := fun k s => by unfold stX; rw [Int.sub_self, wrap0, Int.mul_zero, wrap0, Int.add_zero]
  have e2 : ∀ k s : Int, stY (fun _ _ => p) k s = wrap64 s := fun k s => by unfold stY; rw [Int.sub_self, wrap0, Int.mul_zero, wrap0, Int.add_zero]
  unfold edgeS
  rw [e, e, e, e2, e2, e2, wrap0, wrap0, wrap0, show hy 0 0 = 0 by kernel_rfl]
  rfl
theorem emboss_const (p : S51) : embossS (fun _ _ => p) = ⟨32768, 32768, 32768, p.f3⟩ := by
  have e : ∀ z : Int, wrap64 (wrap64 (32768 + z) - z) = 32768 := fun z => by rw [Int.sub_eq_add_neg, wrap_addl, Int.add_assoc, Int.add_right_neg, Int.add_zero]; exact wrap_id _ (by omega) (by omega)
  unfold embossS
  rw [e]
  rfl
theorem ml_const (p : S51) (dx dy n : Int) : ∀ m i, ml (fun _ _ => p) dx dy n m i = List.replicate m p
  | 0, _ => rfl
  | m + 1, i => by rw [ml, ml_const p dx dy n m, List.replicate_succ]
theorem motion_const {p : S51} (hp : pv p) (ha : p.f3 ≠ 0) {dx dy : Int} (h0 : far4 dx dy ≤ 16) : motionS (fun _ _ => p) dx dy = p := by
  have hn : 0 ≤ far4 dx dy := by unfold far4; omega
  unfold motionS motionL
  rw [ml_const]
  exact mean_const hp ha (fun q hq => List.eq_of_mem_replicate hq) (by rw [List.length_replicate]; omega) (by rw [List.length_replicate]; omega)
theorem bRow_const (p : S51) (u v bw bh j : Int) : ∀ n i, ∀ q ∈ bRow (fun _ _ => p) u v bw bh j n i, q = p
  | 0, _, q, h => by simp [bRow] at h
  | n + 1, i, q, h => by
    rw [bRow] at h
    split at h
    · rcases List.mem_cons.1 h with rfl | h
      · rfl
      · exact bRow_const p u v bw bh j n _ q h
    · exact bRow_const p u v bw bh j n _ q h
theorem bSq_const (p : S51) (u v bw bh : Int) (m : Nat) (i0 : Int) : ∀ n j, ∀ q ∈ bSq (fun _ _ => p) u v bw bh m i0 n j, q = p
  | 0, _, q, h => by simp [bSq] at h
  | n + 1, j, q, h => by
    rcases List.mem_append.1 h with h | h
    · exact bRow_const p u v bw bh j m _ q h
    · exact bSq_const p u v bw bh m i0 n _ q h
theorem bRow_le (g : Int → Int → S51) (u v bw bh j : Int) : ∀ n i, (bRow g u v bw bh j n i).length ≤ n
  | 0, _ => Nat.le_refl _
  | n + 1, i => by
    have := bRow_le g u v bw bh j n (i + 1)
    rw [bRow]
    split
    · rw [List.length_cons]; omega
    · omega
theorem bSq_le (g : Int → Int → S51) (u v bw bh : Int) (m : Nat) (i0 : Int) : ∀ n j, (bSq g u v bw bh m i0 n j).length ≤ n * m
  | 0, _ => by simp [bSq]
  | n + 1, j => by
    have := bSq_le g u v bw bh m i0 n (j + 1)
    have := bRow_le g u v bw bh j m i0
    rw [bSq, List.length_append, Nat.succ_mul]; omega
theorem bRow_pos (g : Int → Int → S51) {u v bw bh : Int} (hu : 0 ≤ u ∧ u < bw) (hv : 0 ≤ v ∧ v < bh) : ∀ (n : Nat) (i : Int), i ≤ 0 → 0 < i + n → 1 ≤ (bRow g u v bw bh 0 n i).length
  | 0, i, h0, h1 => by omega
  | n + 1, i, h0, h1 => by
    rw [bRow]
    by_cases hi : i = 0
    · rw [if_pos (by omega), List.length_cons]; omega
    · have := bRow_pos g hu hv n (i + 1) (by omega) (by omega)
      split
      · rw [List.length_cons]; omega
      · exact this
theorem bSq_pos (g : Int → Int → S51) {u v bw bh : Int} (hu : 0 ≤ u ∧ u < bw) (hv : 0 ≤ v ∧ v < bh) (m : Nat) (i0 : Int) (hi : i0 ≤ 0) (hm : 0 < i0 + m) : ∀ (n : Nat) (j : Int), j ≤ 0 → 0 < j + n → 1 ≤ (bSq g u v bw bh m i0 n j).length
  | 0, j, h0, h1 => by omega
  | n + 1, j, h0, h1 => by
    rw [bSq, List.length_append]
    by_cases hj : j = 0
    · subst hj
      have := bRow_pos g hu hv m i0 hi hm
      omega
    · have := bSq_pos g hu hv m i0 hi hm n (j + 1) (by omega) (by omega)
      omega
theorem block_const {p : S51} (hp : pv p) (ha : p.f3 ≠ 0) {u v bw bh s : Int} (hu : 0 ≤ u ∧ u < bw) (hv : 0 ≤ v ∧ v < bh) (h0 : 1 ≤ s) (h1 : s ≤ 16) : blockS (fun _ _ => p) u v bw bh s = p := by
  have k1 := Int.emod_lt_of_pos u (show 0 < s by omega)
  have k2 := Int.emod_nonneg u (show s ≠ 0 by omega)
  have k3 := Int.emod_lt_of_pos v (show 0 < s by omega)
  have k4 := Int.emod_nonneg v (show s ≠ 0 by omega)
  have h3 := bSq_pos (fun _ _ => p) hu hv s.toNat (-(u % s)) (by omega) (by omega) s.toNat (-(v % s)) (by omega) (by omega)
  refine mean_const hp ha (bSq_const p u v bw bh _ _ _ _) h3 ?_
  have := bSq_le (fun _ _ => p) u v bw bh s.toNat (-(u % s)) s.toNat (-(v % s))
  have := Nat.mul_le_mul (show s.toNat ≤ 16 by omega) (show s.toNat ≤ 16 by omega)
  unfold blockL
  omega
theorem sorted_const {l : List Int} {c n : Int} (h : ∀ q ∈ l, q = c) (h0 : 0 ≤ n) (h1 : n < l.length) : rd (sorted l) n = c := by
  have hl : (sorted l).length = l.length := by unfold sorted; exact List.length_mergeSort _
  have hn : n.toNat < (sorted l).length := by rw [hl]; omega
  have hm : (sorted l)[n.toNat] ∈ sorted l := List.getElem_mem _
  have : rd (sorted l) n = (sorted l)[n.toNat] := by unfold rd; simp [hn]
  rw [this]
  exact h _ (by unfold sorted at hm ⊢; exact List.mem_mergeSort.1 hm)
theorem rank_const {p : S51} {r n : Int} (h0 : 0 ≤ r) (hr : r ≤ 16) (hn : 0 ≤ n) (h1 : n < (2 * r + 1) * (2 * r + 1)) : rankS (fun _ _ => p) r n = p := by
  obtain ⟨s1, s2, s3, s4⟩ := side_sq h0 hr
  have e : squareS (fun _ _ => p) r = List.replicate ((2 * r + 1).toNat * (2 * r + 1).toNat) p := by rw [squareS, sq_const]
  have hk : ∀ f : S51 → Int, rd (sorted ((squareS (fun _ _ => p) r).map f)) n = f p := fun f => by
    rw [e, List.map_replicate]
    refine sorted_const (fun q hq => List.eq_of_mem_replicate hq) hn (by rw [List.length_replicate, s1]; exact h1)
  unfold rankS
  rw [hk, hk, hk, hk]
def uniS (a : Int) (p : S51) : S51 := if a = 5 then ⟨0, 0, 0, p.f3⟩ else if a = 6 then ⟨32768, 32768, 32768, p.f3⟩ else p
theorem fil_const {q : S51} (hp : pv q) (ha : q.f3 ≠ 0) {a : Int} {p : List Int} (h : filter_Check.f a p = some 0) {u v bw bh : Int} (hu : 0 ≤ u ∧ u < bw) (hv : 0 ≤ v ∧ v < bh) : clean (filS (fun _ _ => q) u v bw bh a p) = uniS a q := by
  have key : filS (fun _ _ => q) u v bw bh a p = uniS a q := by
    have hM := (reach_is 0 h).2
    rcases check_range h with ⟨ha, rfl⟩ | ⟨rfl, x, y, rfl, h1, h2, h3, h4⟩ | ⟨rfl, x, rfl, h1, h2⟩ | ⟨rfl, x, y, rfl, h1, h2, h3, h4⟩ | ⟨hk, x, rfl, h1, h2, h3, h4⟩
    · rcases ha with rfl | rfl
      · exact edge_const q
      · exact emboss_const q
    · exact motion_const (dx := x) (dy := y) hp ha (by unfold far4; omega)
    · exact block_const hp ha hu hv h1 h2
    · exact sharp_const hp ha h1 h2
    · obtain ⟨s1, s2, s3, s4⟩ := side_sq h1 h2
      rcases hk with rfl | rfl | rfl | rfl | rfl
      · exact box_const hp ha h1 h2
      · exact gauss_const hp ha h1 (h3 rfl)
      · exact rank_const (r := x) (n := (2 * x + 1) * (2 * x + 1) / 2) h1 h2 (by omega) (by omega)
      · exact rank_const (r := x) (n := (2 * x + 1) * (2 * x + 1) - 1) h1 h2 (by omega) (by omega)
      · exact rank_const (r := x) (n := 0) h1 h2 (by omega) (by omega)
  rw [key]
  have h0 : (uniS a q).f3 = q.f3 := by
    unfold uniS
    split
    · rfl
    · split <;> rfl
  unfold clean
  rw [h0, if_neg ha]
theorem whole_const {W H : Int} {q : S51} (hp : pv q) (ha : q.f3 ≠ 0) {a : Int} {p : List Int} (h : filter_Check.f a p = some 0) (hI : iv W H (List.replicate (W * H).toNat q)) (hW : W ≠ 0) :
    ∀ z ∈ whole W H (List.replicate (W * H).toNat q) a p, z = uniS a q := by
  obtain ⟨q0, q1, q2, q3, q4, q5, q6⟩ := hI
  have hH : H ≠ 0 := fun e => hW (q4.2 e)
  unfold whole
  rw [imS_at]
  intro u v hu hv
  rw [Int.zero_add, apP, show getS W (List.replicate (W * H).toNat q) 0 0 0 0 W H u v = fun _ _ => q by
    funext i j
    have hi := index_in (W := W) (H := H) (u := cx 0 W u i - 0) (v := cx 0 H v j - 0) (by unfold cx; omega) (by unfold cx; omega)
    have hn : ((cx 0 H v j - 0) * W + (cx 0 W u i - 0)).toNat < (W * H).toNat := by omega
    unfold getS rd_T51
    rw [List.getD_eq_getElem?_getD, List.getElem?_replicate, if_pos hn]
    rfl]
  exact fil_const hp ha h (by omega) (by omega)
end Go.Proofs.Ytocefehnemahhaa.G
