import Derived.Test.YtocefehnemahhaaMb
namespace Go.Proofs.Ytocefehnemahhaa.G
open Go.RowKit Go.Proofs.YtocefehnemahhaaW.PrintWords Go.Proofs.YtocefehnemahhaaW.PrintLast Go.Proofs.YtocefehnemahhaaW.PrintMore
set_option linter.unusedVariables false
set_option linter.unusedSimpArgs false
def gRow (g : Int → Int → S51) (c : List Int) (r j : Int) : Nat → Int → List (S51 × Int)
  | 0, _ => []
  | n + 1, i => (g (i - r) (j - r), wrap64 (rd c i * rd c j)) :: gRow g c r j n (i + 1)
def gSq (g : Int → Int → S51) (c : List Int) (r : Int) (m : Nat) : Nat → Int → List (S51 × Int)
  | 0, _ => []
  | n + 1, j => gRow g c r j m 0 ++ gSq g c r m n (j + 1)
def bin (r : Int) : List Int := (filter_binomial.f 20 (2 * r)).getD []
theorem bin_at {r : Int} (h0 : 0 ≤ r) (h1 : r ≤ 7) : filter_binomial.f 20 (2 * r) = some (bin r) ∧ ((bin r).length : Int) = 2 * r + 1 := by
  obtain rfl | rfl | rfl | rfl | rfl | rfl | rfl | rfl : r = 0 ∨ r = 1 ∨ r = 2 ∨ r = 3 ∨ r = 4 ∨ r = 5 ∨ r = 6 ∨ r = 7 := by omega
  all_goals (refine ⟨?_, ?_⟩ <;> kernel_rfl)
theorem bin_ev {r : Int} (h0 : 0 ≤ r) (h1 : r ≤ 7) : Ev (fun k => filter_binomial.f k (2 * r)) (bin r) := Ev.of (fun k => filter_binomial.mono _ k) (bin_at h0 h1).1
def gaussL (g : Int → Int → S51) (r : Int) : List (S51 × Int) := gSq g (bin r) r (bin r).length (bin r).length 0
def gaussS (g : Int → Int → S51) (r : Int) : S51 := tm (TL (gaussL g r))
def lum (p : S51) : Int := (pixel_Luma.f 1 p.f0 p.f1 p.f2 p.f3).getD 0
theorem lum_at (p : S51) (k : Nat) : pixel_Luma.f (k + 1) p.f0 p.f1 p.f2 p.f3 = some (lum p) := by
  have h : ∃ v, ∀ k, pixel_Luma.f (k + 1) p.f0 p.f1 p.f2 p.f3 = some v := by
    simp only [pixel_Luma.f, pixel_Limit.f, pixel_unit.f, num_Clamp.f, Option.bind_some, div_at]
    exact ⟨_, fun _ => rfl⟩
  obtain ⟨u, hu⟩ := h
  rw [hu k, lum, hu 0]
  rfl
/-! The root. -/
theorem root_some (a b : Int) : ∀ (n : Nat) (p q : Int), 0 ≤ q → q < 2 ^ n → ∃ v, num_root.l0 (n + 1) a b p q = some v
  | 0, p, q, h0, h1 => by
    rw [num_root.l0, if_neg (by simp at h1; omega)]
    exact ⟨_, rfl⟩
  | n + 1, p, q, h0, h1 => by
    have h2 : q / 2 < 2 ^ n := by rw [Int.pow_succ] at h1; omega
    rw [num_root.l0]
    split
    · simp only [num_times.f, Option.bind_some]
      split
      · exact root_some a b n _ _ (by omega) h2
      · split
        · split
          · exact root_some a b n _ _ (by omega) h2
          · exact root_some a b n _ _ (by omega) h2
        · exact root_some a b n _ _ (by omega) h2
    · exact ⟨_, rfl⟩
def hy (a b : Int) : Int := (num_Hypot.f 64 a b).getD 0
theorem hy_at (a b : Int) : num_Hypot.f 64 a b = some (hy a b) := by
  have h : ∃ v, num_Hypot.f 64 a b = some v := by
    have hs : ∀ z, ∃ v, num_size.f z = some v := fun z => by unfold num_size.f; split <;> exact ⟨_, rfl⟩
    obtain ⟨u, hu⟩ := hs a
    obtain ⟨t, ht⟩ := hs b
    simp only [num_Hypot.f, hu, ht, num_times.f, Option.bind_some, num_root.f]
    split
    · obtain ⟨v, hv⟩ := root_some _ _ 63 0 4611686018427387904 (by omega) (by decide)
      exact ⟨v, by rw [hv]; rfl⟩
    · obtain ⟨v, hv⟩ := root_some _ _ 63 0 4611686018427387904 (by omega) (by decide)
      exact ⟨v, by rw [hv]; rfl⟩
  obtain ⟨v, hv⟩ := h
  rw [hy, hv]; rfl
theorem hy_ev (a b : Int) : Ev (fun k => num_Hypot.f k a b) (hy a b) := Ev.of (fun k => num_Hypot.mono _ _ k) (hy_at a b)
def wt (k : Int) : Int := wrap64 (2 - mx k (wrap64 (-k)))
def stX (g : Int → Int → S51) (k s : Int) : Int := wrap64 (s + wrap64 (wt k * wrap64 (lum (g 1 k) - lum (g (-1) k))))
def stY (g : Int → Int → S51) (k s : Int) : Int := wrap64 (s + wrap64 (wt k * wrap64 (lum (g k 1) - lum (g k (-1)))))
def cl (n : Int) : Int := mn 65535 (mx n 0)
def grayS (g : Int → Int → S51) (n : Int) : S51 := ⟨cl n, cl n, cl n, (g 0 0).f3⟩
def edgeS (g : Int → Int → S51) : S51 := grayS g (hy (stX g 1 (stX g 0 (stX g (-1) 0))) (stY g 1 (stY g 0 (stY g (-1) 0))))
def embossS (g : Int → Int → S51) : S51 := grayS g (wrap64 (wrap64 (32768 + lum (g 1 1)) - lum (g (-1) (-1))))
def shS (a c d : Int) : Int := cl (wrap64 (c + dv (wrap64 (a * wrap64 (c - d))) 65535))
def sharpS (g : Int → Int → S51) (r a : Int) : S51 :=
  ⟨shS a (g 0 0).f0 (boxS g r).f0, shS a (g 0 0).f1 (boxS g r).f1, shS a (g 0 0).f2 (boxS g r).f2, (g 0 0).f3⟩
def ml (g : Int → Int → S51) (dx dy n : Int) : Nat → Int → List S51
  | 0, _ => []
  | m + 1, i => g (dv (i * dx) n) (dv (i * dy) n) :: ml g dx dy n m (i + 1)
def far4 (dx dy : Int) : Int := max (max (max dx (-dx)) dy) (-dy)
def motionL (g : Int → Int → S51) (dx dy : Int) : List S51 := ml g dx dy (far4 dx dy) (far4 dx dy + 1).toNat 0
def motionS (g : Int → Int → S51) (dx dy : Int) : S51 := tm (TL (one (motionL g dx dy)))
theorem dv_zero (a : Int) : dv a 0 = 0 := by rfl
theorem dv_near {i d n : Int} (h0 : 0 ≤ i) (h1 : i ≤ n) (hn : n ≤ 16) (hd : -n ≤ d ∧ d ≤ n) : -n ≤ dv (i * d) n ∧ dv (i * d) n ≤ n := by
  by_cases hz : n = 0
  · subst hz
    rw [dv_zero]; omega
  · have ha : -(n * n) ≤ i * d ∧ i * d ≤ n * n := by
      have e1 := Int.mul_le_mul_of_nonneg_left hd.2 h0
      have e2 := Int.mul_le_mul_of_nonneg_left hd.1 h0
      have e3 := Int.mul_le_mul_of_nonneg_right h1 (show 0 ≤ n by omega)
      rw [Int.mul_neg] at e2
      omega
    have hnn : n * n ≤ 256 := by
      have e1 := Int.mul_le_mul_of_nonneg_left hn (show 0 ≤ n by omega)
      omega
    rw [dv_pos _ _ (by omega) (by omega) (by omega) (by omega)]
    constructor
    · refine (Int.le_ediv_iff_mul_le (by omega)).2 ?_
      rw [Int.neg_mul, show n * (2 * n) = 2 * (n * n) by rw [Int.mul_left_comm]]
      omega
    · refine Int.lt_add_one_iff.1 (Int.ediv_lt_of_lt_mul (by omega) ?_)
      rw [Int.add_mul, show n * (2 * n) = 2 * (n * n) by rw [Int.mul_left_comm]]
      omega
theorem step2 {α : Type} {g f : Nat → Option α} {r : α} (h : ∀ k, g (k + 2) = f (k + 1)) (k : Ev f r) : Ev g r := by
  obtain ⟨K, k⟩ := k
  refine ⟨K + 2, fun n hn => ?_⟩
  obtain ⟨m, rfl⟩ : ∃ m, n = m + 2 := ⟨n - 2, by omega⟩
  rw [h]
  exact k _ (by omega)
section
variable {W H ax ay bx by_ bw bh x y : Int} {l : List S51} {g : Int → Int → S51} {R : Int}
theorem gauss1 (hg : GetIs W H l ax ay bx by_ bw bh x y R g) {r : Int} (hr : 0 ≤ r) (hR : r ≤ R) (hM : R ≤ 1000) {c : List Int} (hc : (c.length : Int) = 2 * r + 1) {j : Int} (h1 : 0 ≤ j) (h2 : j < c.length) (v : Int × Int × Int × Int) : ∀ (n : Nat) (i : Int) (L : List (S51 × Int)), i + n = c.length → 0 ≤ i →
    Ev (fun k => filter_view_gauss.l0 k r c c.length (j + 1) W H l ax ay bx by_ bw bh x y (TL (L ++ gRow g c r j n i)).1 (TL (L ++ gRow g c r j n i)).2.1 (TL (L ++ gRow g c r j n i)).2.2.1 (TL (L ++ gRow g c r j n i)).2.2.2.1 (TL (L ++ gRow g c r j n i)).2.2.2.2) v → Ev (fun k => filter_view_gauss.l1 k r c j c.length j c.length i W H l ax ay bx by_ bw bh x y (TL (L)).1 (TL (L)).2.1 (TL (L)).2.2.1 (TL (L)).2.2.2.1 (TL (L)).2.2.2.2) v
  | 0, i, L, e, hi, h => by
    refine Ev.step (fun k => ?_) h
    rw [filter_view_gauss.l1, if_neg (by omega), wrap_id (j + 1) (by omega) (by omega), gRow, List.append_nil]
  | n + 1, i, L, e, hi, h => by
    refine Ev.step (f := fun k => filter_view_gauss.l1 k r c j c.length j c.length (i + 1) W H l ax ay bx by_ bw bh x y (TL (L ++ [(g (i - r) (j - r), wrap64 (rd c i * rd c j))])).1 (TL (L ++ [(g (i - r) (j - r), wrap64 (rd c i * rd c j))])).2.1 (TL (L ++ [(g (i - r) (j - r), wrap64 (rd c i * rd c j))])).2.2.1 (TL (L ++ [(g (i - r) (j - r), wrap64 (rd c i * rd c j))])).2.2.2.1 (TL (L ++ [(g (i - r) (j - r), wrap64 (rd c i * rd c j))])).2.2.2.2) (fun k => ?_) (gauss1 hg hr hR hM hc h1 h2 v n (i + 1) _ (by omega) (by omega) ?_)
    · rw [filter_view_gauss.l1, if_pos (by omega), wrap_id (i - r) (by omega) (by omega), wrap_id (j - r) (by omega) (by omega), hg (i - r) (j - r) (by omega) (by omega) (by omega) (by omega), Option.bind_some, if_pos (by omega), if_pos (by omega), if_pos (by omega), if_pos (by omega)]
      simp only [tup]
      rw [add_TL, Option.bind_some, wrap_id (i + 1) (by omega) (by omega)]
    · rw [List.append_assoc]
      exact h
theorem gauss0 (hg : GetIs W H l ax ay bx by_ bw bh x y R g) {r : Int} (hr : 0 ≤ r) (hR : r ≤ R) (hM : R ≤ 1000) {c : List Int} (hc : (c.length : Int) = 2 * r + 1) : ∀ (n : Nat) (j : Int) (L : List (S51 × Int)), j + n = c.length → 0 ≤ j →
    Ev (fun k => filter_view_gauss.l0 k r c c.length j W H l ax ay bx by_ bw bh x y (TL (L)).1 (TL (L)).2.1 (TL (L)).2.2.1 (TL (L)).2.2.2.1 (TL (L)).2.2.2.2) (tup (tm (TL (L ++ gSq g c r c.length n j))))
  | 0, j, L, e, hj => by
    rw [gSq, List.append_nil]
    refine Ev.step (fun k => ?_) (mean_ev _)
    rw [filter_view_gauss.l0, if_neg (by omega)]
  | n + 1, j, L, e, hj => by
    refine Ev.step (f := fun k => filter_view_gauss.l1 k r c j c.length j c.length 0 W H l ax ay bx by_ bw bh x y (TL (L)).1 (TL (L)).2.1 (TL (L)).2.2.1 (TL (L)).2.2.2.1 (TL (L)).2.2.2.2) (fun k => ?_) (gauss1 hg hr hR hM hc hj (by omega) _ c.length 0 L (by omega) (by omega) ?_)
    · rw [filter_view_gauss.l0, if_pos (by omega)]
    · rw [gSq, ← List.append_assoc]
      exact gauss0 hg hr hR hM hc n (j + 1) _ (by omega) (by omega)
theorem gauss_ev (hg : GetIs W H l ax ay bx by_ bw bh x y R g) {r : Int} (hr : 0 ≤ r) (h7 : r ≤ 7) (hR : r ≤ R) (hM : R ≤ 1000) : Ev (fun k => filter_view_gauss.f k W H l ax ay bx by_ bw bh x y r) (tup (gaussS g r)) := by
  refine Ev.congr (fun k => by rw [filter_view_gauss.f, wrap_id (2 * r) (by omega) (by omega)]) (Ev.bind (bin_ev hr h7) ?_)
  have := gauss0 hg hr hR hM (bin_at hr h7).2 (bin r).length 0 [] (by omega) (by omega)
  rw [show TL [] = (0, 0, 0, 0, 0) from TL_nil, List.nil_append] at this
  exact this
theorem sharp1_ev (a c d : Int) : Ev (fun k => sharp1 k a c d) (shS a c d) :=
  Ev.congr (fun k => by rw [sharp1]) (Ev.bind (div_ev _ _) (Ev.congr (fun k => by rw [num_Clamp.f]; rfl) (Ev.now _)))
theorem sharpen_ev (hg : GetIs W H l ax ay bx by_ bw bh x y R g) {r a : Int} (hr : 0 ≤ r) (hR : r ≤ R) (hM : R ≤ 16) : Ev (fun k => filter_view_sharpen.f k W H l ax ay bx by_ bw bh x y r a) (tup (sharpS g r a)) := by
  refine Ev.congr (fun k => by rw [filter_view_sharpen.f, hg 0 0 (by omega) (by omega) (by omega) (by omega), Option.bind_some]) ?_
  refine Ev.bind (square_ev hg hr hR (by omega)) (Ev.bind (mean_all _ (by have := squareS_small (g := g) (r := r) (by omega); omega)) ?_)
  exact Ev.bind (sharp1_ev _ _ _) (Ev.bind (sharp1_ev _ _ _) (Ev.bind (sharp1_ev _ _ _) (Ev.now _)))
theorem luma_at (hg : GetIs W H l ax ay bx by_ bw bh x y R g) {i j : Int} (h1 : -R ≤ i) (h2 : i ≤ R) (h3 : -R ≤ j) (h4 : j ≤ R) (k : Nat) : filter_view_luma.f (k + 1) W H l ax ay bx by_ bw bh x y i j = some (lum (g i j)) := by
  rw [filter_view_luma.f, hg i j h1 h2 h3 h4, Option.bind_some]
  simp only [tup]
  rw [lum_at, Option.bind_some]
theorem gray_at (hg : GetIs W H l ax ay bx by_ bw bh x y R g) (hR : 0 ≤ R) (n : Int) : filter_view_gray.f W H l ax ay bx by_ bw bh x y n = some (tup (grayS g n)) := by
  rw [filter_view_gray.f, num_Clamp.f, Option.bind_some, hg 0 0 (by omega) (by omega) (by omega) (by omega), Option.bind_some]
  rfl
theorem emboss_ev (hg : GetIs W H l ax ay bx by_ bw bh x y R g) (hR : 1 ≤ R) : Ev (fun k => (filter_view_luma.f k W H l ax ay bx by_ bw bh x y 1 1).bind fun t1 => (filter_view_luma.f k W H l ax ay bx by_ bw bh x y (-1) (-1)).bind fun t2 => filter_view_gray.f W H l ax ay bx by_ bw bh x y (wrap64 (wrap64 (32768 + t1) - t2))) (tup (embossS g)) := by
  refine Ev.step (fun k => ?_) (Ev.now _)
  rw [luma_at hg (by omega) (by omega) (by omega) (by omega), luma_at hg (by omega) (by omega) (by omega) (by omega), Option.bind_some, Option.bind_some, gray_at hg (by omega)]
  rfl
theorem edge1 (hg : GetIs W H l ax ay bx by_ bw bh x y R g) (hR : 1 ≤ R) {s t j : Int} (h1 : -1 ≤ j) (h2 : j ≤ 1) (k : Nat) : filter_view_edge.l0 (k + 2) s t j W H l ax ay bx by_ bw bh x y = filter_view_edge.l0 (k + 1) (stX g j s) (stY g j t) (j + 1) W H l ax ay bx by_ bw bh x y := by
  conv => lhs; rw [filter_view_edge.l0, if_pos h2, luma_at hg (by omega) (by omega) (by omega) (by omega), luma_at hg (by omega) (by omega) (by omega) (by omega), luma_at hg (by omega) (by omega) (by omega) (by omega), luma_at hg (by omega) (by omega) (by omega) (by omega)]
  simp only [Option.bind_some]
  rw [wrap_id (j + 1) (by omega) (by omega)]
  rfl
theorem edge_ev (hg : GetIs W H l ax ay bx by_ bw bh x y R g) (hR : 1 ≤ R) : Ev (fun k => filter_view_edge.f k W H l ax ay bx by_ bw bh x y) (tup (edgeS g)) := by
  refine Ev.step (g := fun k => filter_view_edge.f k W H l ax ay bx by_ bw bh x y) (f := fun k => filter_view_edge.l0 (k + 1) 0 0 (-1) W H l ax ay bx by_ bw bh x y) (fun k => rfl) ?_
  refine Ev.step (fun k => edge1 hg hR (by omega) (by omega) k) ?_
  refine Ev.step (fun k => edge1 hg hR (by omega) (by omega) k) ?_
  refine Ev.step (fun k => edge1 hg hR (by omega) (by omega) k) ?_
  refine Ev.congr (fun k => by rw [filter_view_edge.l0, if_neg (by omega)]) ?_
  refine Ev.bind (hy_ev _ _) (Ev.congr (fun k => by rw [gray_at hg (by omega)]; rfl) (Ev.now _))
theorem motion0 (hg : GetIs W H l ax ay bx by_ bw bh x y R g) {dx dy n : Int} (hn : 0 ≤ n) (hR : n ≤ R) (hM : R ≤ 16) (hx : -n ≤ dx ∧ dx ≤ n) (hy_ : -n ≤ dy ∧ dy ≤ n) : ∀ (m : Nat) (i : Int) (L : List (S51 × Int)), i + m = n + 1 → 0 ≤ i →
    Ev (fun k => filter_view_motion.l0 k dx dy n (n + 1) i W H l ax ay bx by_ bw bh x y (TL (L)).1 (TL (L)).2.1 (TL (L)).2.2.1 (TL (L)).2.2.2.1 (TL (L)).2.2.2.2) (tup (tm (TL (L ++ one (ml g dx dy n m i)))))
  | 0, i, L, e, hi => by
    rw [ml, one, List.map_nil, List.append_nil]
    refine Ev.step (fun k => ?_) (mean_ev _)
    rw [filter_view_motion.l0, if_neg (by omega)]
  | m + 1, i, L, e, hi => by
    have b1 := dv_near (i := i) (d := dx) hi (by omega) (by omega) hx
    have b2 := dv_near (i := i) (d := dy) hi (by omega) (by omega) hy_
    have w1 : ∀ d : Int, -n ≤ d → d ≤ n → wrap64 (i * d) = i * d := fun d e1 e2 => by
      have f1 := Int.mul_le_mul_of_nonneg_left e2 hi
      have f2 := Int.mul_le_mul_of_nonneg_left e1 hi
      have f3 := Int.mul_le_mul_of_nonneg_right (show i ≤ 16 by omega) hn
      rw [Int.mul_neg] at f2
      exact wrap_id _ (by omega) (by omega)
    have := motion0 hg hn hR hM hx hy_ m (i + 1) (L ++ [(g (dv (i * dx) n) (dv (i * dy) n), 1)]) (by omega) (by omega)
    rw [ml, one, List.map_cons, ← List.singleton_append, ← List.append_assoc]
    refine step2 (fun k => ?_) this
    rw [filter_view_motion.l0, if_pos (by omega), w1 dx hx.1 hx.2, w1 dy hy_.1 hy_.2, div_at, div_at, Option.bind_some, Option.bind_some, hg _ _ (by omega) (by omega) (by omega) (by omega), Option.bind_some]
    simp only [tup]
    rw [add_TL, Option.bind_some, wrap_id (i + 1) (by omega) (by omega)]
theorem motion_ev (hg : GetIs W H l ax ay bx by_ bw bh x y R g) {dx dy : Int} (hR : far4 dx dy ≤ R) (hM : R ≤ 16) : Ev (fun k => filter_view_motion.f k W H l ax ay bx by_ bw bh x y dx dy) (tup (motionS g dx dy)) := by
  have hn : 0 ≤ far4 dx dy := by unfold far4; omega
  have hx : -far4 dx dy ≤ dx ∧ dx ≤ far4 dx dy := by unfold far4; omega
  have hy_ : -far4 dx dy ≤ dy ∧ dy ≤ far4 dx dy := by unfold far4; omega
  have := motion0 hg hn hR hM hx hy_ (far4 dx dy + 1).toNat 0 [] (by omega) (by omega)
  rw [show TL [] = (0, 0, 0, 0, 0) from TL_nil, List.nil_append] at this
  refine Ev.congr (fun k => ?_) this
  have e : mx (mx (mx dx (wrap64 (-dx))) dy) (wrap64 (-dy)) = far4 dx dy := by
    rw [wrap_id (-dx) (by omega) (by omega), wrap_id (-dy) (by omega) (by omega)]
    unfold far4 mx; omega
  rw [filter_view_motion.f, e, wrap_id (far4 dx dy + 1) (by omega) (by omega)]
end
end Go.Proofs.Ytocefehnemahhaa.G
