import Derived.Test.YtocefehnemahhaaPa
import Derived.Test.YtocefehnemahhaaG11
namespace Go.Proofs.Ytocefehnemahhaa.G
open Go.RowKit Go.Proofs.YtocefehnemahhaaW.PrintWords Go.Proofs.YtocefehnemahhaaW.PrintLast Go.Proofs.YtocefehnemahhaaW.PrintMore
set_option linter.unusedVariables false
set_option linter.unusedSimpArgs false
def bRow (g : Int → Int → S51) (u v bw bh j : Int) : Nat → Int → List S51
  | 0, _ => []
  | n + 1, i => if 0 ≤ u + i ∧ u + i < bw ∧ 0 ≤ v + j ∧ v + j < bh then g i j :: bRow g u v bw bh j n (i + 1) else bRow g u v bw bh j n (i + 1)
def bSq (g : Int → Int → S51) (u v bw bh : Int) (m : Nat) (i0 : Int) : Nat → Int → List S51
  | 0, _ => []
  | n + 1, j => bRow g u v bw bh j m i0 ++ bSq g u v bw bh m i0 n (j + 1)
def blockL (g : Int → Int → S51) (u v bw bh s : Int) : List S51 := bSq g u v bw bh s.toNat (-(u % s)) s.toNat (-(v % s))
def blockS (g : Int → Int → S51) (u v bw bh s : Int) : S51 := tm (TL (one (blockL g u v bw bh s)))
theorem has1 {bx by_ bw bh px py : Int} (hV : V bx by_ bw bh) : rect_Has.f bx by_ bw bh px py = some (decide (bx ≤ px ∧ px < bx + bw ∧ by_ ≤ py ∧ py < by_ + bh)) := by
  have hv := hV; unfold V at hv
  unfold rect_Has.f rect_known.f
  rw [valid1]
  simp only [Option.bind_some, decide_eq_true_eq]
  rw [if_pos hV]
  simp only [Option.bind_some]
  rw [wrap_id (bx + bw) (by omega) (by omega), wrap_id (by_ + bh) (by omega) (by omega)]
  by_cases h1 : px ≥ bx
  · rw [if_pos h1]
    by_cases h2 : px < bx + bw
    · rw [if_pos h2]
      by_cases h3 : py ≥ by_
      · rw [if_pos h3]
        congr 1
        rw [decide_eq_decide]
        omega
      · rw [if_neg h3]; congr 1; symm; rw [decide_eq_false_iff_not]; omega
    · rw [if_neg h2]; congr 1; symm; rw [decide_eq_false_iff_not]; omega
  · rw [if_neg h1]; congr 1; symm; rw [decide_eq_false_iff_not]; omega
section
variable {W H ax ay bx by_ bw bh x y : Int} {l : List S51} {g : Int → Int → S51} {R : Int}
theorem block1 (hg : GetIs W H l ax ay bx by_ bw bh x y R g) (hM : R ≤ 16) (hV : V bx by_ bw bh) (hx : bx ≤ x ∧ x < bx + bw) (hy_ : by_ ≤ y ∧ y < by_ + bh) {s X Y : Int} (hs : 1 ≤ s) (hR : s - 1 ≤ R) (hX : 0 ≤ X ∧ X < s) (hY : 0 ≤ Y ∧ Y < s) {j : Int} (h1 : -Y ≤ j) (h2 : j < s - Y) (v : Int × Int × Int × Int) : ∀ (n : Nat) (i : Int) (L : List (S51 × Int)), i + n = s - X → -X ≤ i →
    Ev (fun k => filter_view_block.l0 k s X Y (j + 1) W H l ax ay bx by_ bw bh x y (TL (L ++ one (bRow g (x - bx) (y - by_) bw bh j n i))).1 (TL (L ++ one (bRow g (x - bx) (y - by_) bw bh j n i))).2.1 (TL (L ++ one (bRow g (x - bx) (y - by_) bw bh j n i))).2.2.1 (TL (L ++ one (bRow g (x - bx) (y - by_) bw bh j n i))).2.2.2.1 (TL (L ++ one (bRow g (x - bx) (y - by_) bw bh j n i))).2.2.2.2) v → Ev (fun k => filter_view_block.l1 k s X Y j i W H l ax ay bx by_ bw bh x y (TL (L)).1 (TL (L)).2.1 (TL (L)).2.2.1 (TL (L)).2.2.2.1 (TL (L)).2.2.2.2) v
  | 0, i, L, e, hi, h => by
    have hv := hV; unfold V at hv
    refine Ev.step (fun k => ?_) h
    rw [filter_view_block.l1, wrap_id (s - X) (by omega) (by omega), if_neg (by omega), wrap_id (j + 1) (by omega) (by omega), bRow, one, List.map_nil, List.append_nil]
  | n + 1, i, L, e, hi, h => by
    have hv := hV; unfold V at hv
    have hd : decide (bx ≤ x + i ∧ x + i < bx + bw ∧ by_ ≤ y + j ∧ y + j < by_ + bh) = decide (0 ≤ x - bx + i ∧ x - bx + i < bw ∧ 0 ≤ y - by_ + j ∧ y - by_ + j < bh) := by rw [decide_eq_decide]; omega
    rw [bRow] at h
    by_cases hb : 0 ≤ x - bx + i ∧ x - bx + i < bw ∧ 0 ≤ y - by_ + j ∧ y - by_ + j < bh
    · rw [if_pos hb] at h
      refine Ev.step (f := fun k => filter_view_block.l1 k s X Y j (i + 1) W H l ax ay bx by_ bw bh x y (TL (L ++ [(g i j, 1)])).1 (TL (L ++ [(g i j, 1)])).2.1 (TL (L ++ [(g i j, 1)])).2.2.1 (TL (L ++ [(g i j, 1)])).2.2.2.1 (TL (L ++ [(g i j, 1)])).2.2.2.2) (fun k => ?_) (block1 hg hM hV hx hy_ hs hR hX hY h1 h2 v n (i + 1) _ (by omega) (by omega) ?_)
      · rw [filter_view_block.l1, wrap_id (s - X) (by omega) (by omega), if_pos (by omega), wrap_id (x + i) (by omega) (by omega), wrap_id (y + j) (by omega) (by omega), has1 hV, Option.bind_some, hd, decide_eq_true hb, if_pos rfl, hg i j (by omega) (by omega) (by omega) (by omega), Option.bind_some]
        simp only [tup]
        rw [add_TL, Option.bind_some, wrap_id (i + 1) (by omega) (by omega)]
      · rw [one, List.map_cons, ← List.singleton_append, ← List.append_assoc] at h
        exact h
    · rw [if_neg hb] at h
      refine Ev.step (f := fun k => filter_view_block.l1 k s X Y j (i + 1) W H l ax ay bx by_ bw bh x y (TL (L)).1 (TL (L)).2.1 (TL (L)).2.2.1 (TL (L)).2.2.2.1 (TL (L)).2.2.2.2) (fun k => ?_) (block1 hg hM hV hx hy_ hs hR hX hY h1 h2 v n (i + 1) _ (by omega) (by omega) h)
      rw [filter_view_block.l1, wrap_id (s - X) (by omega) (by omega), if_pos (by omega), wrap_id (x + i) (by omega) (by omega), wrap_id (y + j) (by omega) (by omega), has1 hV, Option.bind_some, hd, decide_eq_false hb, if_neg (by decide), wrap_id (i + 1) (by omega) (by omega)]
theorem block0 (hg : GetIs W H l ax ay bx by_ bw bh x y R g) (hM : R ≤ 16) (hV : V bx by_ bw bh) (hx : bx ≤ x ∧ x < bx + bw) (hy_ : by_ ≤ y ∧ y < by_ + bh) {s X Y : Int} (hs : 1 ≤ s) (hR : s - 1 ≤ R) (hX : 0 ≤ X ∧ X < s) (hY : 0 ≤ Y ∧ Y < s) : ∀ (n : Nat) (j : Int) (L : List (S51 × Int)), j + n = s - Y → -Y ≤ j →
    Ev (fun k => filter_view_block.l0 k s X Y j W H l ax ay bx by_ bw bh x y (TL (L)).1 (TL (L)).2.1 (TL (L)).2.2.1 (TL (L)).2.2.2.1 (TL (L)).2.2.2.2) (tup (tm (TL (L ++ one (bSq g (x - bx) (y - by_) bw bh s.toNat (-X) n j)))))
  | 0, j, L, e, hj => by
    rw [bSq, one, List.map_nil, List.append_nil]
    refine Ev.step (fun k => ?_) (mean_ev _)
    rw [filter_view_block.l0, wrap_id (s - Y) (by omega) (by omega), if_neg (by omega)]
  | n + 1, j, L, e, hj => by
    refine Ev.step (f := fun k => filter_view_block.l1 k s X Y j (-X) W H l ax ay bx by_ bw bh x y (TL (L)).1 (TL (L)).2.1 (TL (L)).2.2.1 (TL (L)).2.2.2.1 (TL (L)).2.2.2.2) (fun k => ?_) (block1 hg hM hV hx hy_ hs hR hX hY hj (by omega) _ s.toNat (-X) L (by omega) (by omega) ?_)
    · rw [filter_view_block.l0, wrap_id (s - Y) (by omega) (by omega), if_pos (by omega), wrap_id (-X) (by omega) (by omega)]
    · rw [bSq, one_app, ← List.append_assoc]
      exact block0 hg hM hV hx hy_ hs hR hX hY n (j + 1) _ (by omega) (by omega)
theorem block_ev (hg : GetIs W H l ax ay bx by_ bw bh x y R g) (hM : R ≤ 16) (hV : V bx by_ bw bh) (hx : bx ≤ x ∧ x < bx + bw) (hy_ : by_ ≤ y ∧ y < by_ + bh) {s : Int} (hs : 1 ≤ s) (hR : s - 1 ≤ R) : Ev (fun k => filter_view_block.f k W H l ax ay bx by_ bw bh x y s) (tup (blockS g (x - bx) (y - by_) bw bh s)) := by
  have hv := hV; unfold V at hv
  have h1 := Int.emod_lt_of_pos (x - bx) (show 0 < s by omega)
  have h2 := Int.emod_nonneg (x - bx) (show s ≠ 0 by omega)
  have h3 := Int.emod_lt_of_pos (y - by_) (show 0 < s by omega)
  have h4 := Int.emod_nonneg (y - by_) (show s ≠ 0 by omega)
  have := block0 hg hM hV hx hy_ hs hR ⟨h2, h1⟩ ⟨h4, h3⟩ s.toNat (-((y - by_) % s)) [] (by omega) (by omega)
  rw [show TL [] = (0, 0, 0, 0, 0) from TL_nil, List.nil_append] at this
  refine Ev.congr (fun k => ?_) this
  rw [filter_view_block.f, if_neg (by omega), wrap_id (x - bx) (by omega) (by omega), wrap_id (y - by_) (by omega) (by omega), Int.tmod_eq_emod_of_nonneg (by omega), Int.tmod_eq_emod_of_nonneg (by omega), wrap_id (-((y - by_) % s)) (by omega) (by omega)]
end
def filS (g : Int → Int → S51) (u v bw bh a : Int) (p : List Int) : S51 :=
  if a = 1 then boxS g (rd p 0) else if a = 2 then gaussS g (rd p 0) else if a = 3 then sharpS g (rd p 0) (rd p 1) else if a = 5 then edgeS g else if a = 6 then embossS g
  else if a = 9 then motionS g (rd p 0) (rd p 1) else if a = 10 then blockS g u v bw bh (rd p 0) else if a = 8 then rankS g (rd p 0) 0
  else if a = 4 then rankS g (rd p 0) ((2 * rd p 0 + 1) * (2 * rd p 0 + 1) / 2) else rankS g (rd p 0) ((2 * rd p 0 + 1) * (2 * rd p 0 + 1) - 1)
def reS (a : Int) (p : List Int) : Int := if a = 5 ∨ a = 6 then 1 else if a = 9 then far4 (rd p 0) (rd p 1) else if a = 10 then rd p 0 - 1 else rd p 0
theorem rd0 (a : Int) (l : List Int) : rd (a :: l) 0 = a := rfl
theorem rd1 (a b : Int) (l : List Int) : rd (a :: b :: l) 1 = b := rfl
theorem side_sq {r : Int} (h0 : 0 ≤ r) (h1 : r ≤ 16) : (((2 * r + 1).toNat * (2 * r + 1).toNat : Nat) : Int) = (2 * r + 1) * (2 * r + 1) ∧ 1 ≤ (2 * r + 1) * (2 * r + 1) ∧ (2 * r + 1) * (2 * r + 1) ≤ 1089 ∧ wrap64 (wrap64 (wrap64 (2 * r) + 1) * wrap64 (wrap64 (2 * r) + 1)) = (2 * r + 1) * (2 * r + 1) := by
  have e : ((2 * r + 1).toNat : Int) = 2 * r + 1 := by omega
  have h2 := Int.mul_le_mul_of_nonneg_left (show 2 * r + 1 ≤ 33 by omega) (show 0 ≤ 2 * r + 1 by omega)
  have h3 := Int.mul_le_mul_of_nonneg_left (show 1 ≤ 2 * r + 1 by omega) (show 0 ≤ 2 * r + 1 by omega)
  refine ⟨by rw [Int.natCast_mul, e], by omega, by omega, ?_⟩
  rw [wrap_id (2 * r) (by omega) (by omega), wrap_id (2 * r + 1) (by omega) (by omega), wrap_id _ (by omega) (by omega)]
theorem reach_is (k : Nat) {a : Int} {p : List Int} (h : filter_Check.f a p = some 0) : filter_Reach.f (k + 1) a p = some (reS a p) ∧ 0 ≤ reS a p ∧ reS a p ≤ 16 := by
  have e : filter_Reach.f (k + 1) a p = some (reS a p) := by
    rcases check_range h with ⟨ha, rfl⟩ | ⟨rfl, u, v, rfl, h1, h2, h3, h4⟩ | ⟨rfl, u, rfl, h1, h2⟩ | ⟨rfl, u, v, rfl, h1, h2, h3, h4⟩ | ⟨ha, u, rfl, h1, h2, h3, h4⟩
    · unfold filter_Reach.f reS
      rw [h, if_pos ha, Option.bind_some, if_pos rfl]
      rcases ha with rfl | rfl <;> rfl
    · unfold filter_Reach.f reS
      rw [h, Option.bind_some, if_pos rfl, if_neg (by omega), if_neg (by omega), if_pos rfl, rd0, rd1]
      simp [filter_Reach.j0, rd0, rd1, far4, mx_eq, w64, wrap_id (-u) (by omega) (by omega), wrap_id (-v) (by omega) (by omega)]
    · unfold filter_Reach.f reS
      rw [h, Option.bind_some, if_pos rfl, if_neg (by omega), if_neg (by omega), if_neg (by omega), if_pos rfl, rd0]
      simp [filter_Reach.j0, rd0, wrap_id (u - 1) (by omega) (by omega)]
    · unfold filter_Reach.f reS
      rw [h, Option.bind_some, if_pos rfl, if_neg (by omega), if_neg (by omega), if_neg (by omega), if_neg (by omega), rd0]
      simp [filter_Reach.j0, rd0]
    · unfold filter_Reach.f reS
      rw [h, Option.bind_some, if_pos rfl, if_neg (by omega), if_neg (by omega), if_neg (by omega), if_neg (by omega), rd0]
      rcases ha with rfl | rfl | rfl | rfl | rfl <;> simp [filter_Reach.j0, rd0]
  obtain ⟨r, hr, h0, h1⟩ := reach_val k h
  rw [e] at hr
  obtain rfl := Option.some.inj hr
  exact ⟨e, h0, h1⟩
section
variable {W H ax ay bx by_ bw bh x y : Int} {l : List S51} {g : Int → Int → S51}
theorem filtered_ev {a : Int} {p : List Int} (h : filter_Check.f a p = some 0) (hg : GetIs W H l ax ay bx by_ bw bh x y (reS a p) g) (hV : V bx by_ bw bh) (hx : bx ≤ x ∧ x < bx + bw) (hy_ : by_ ≤ y ∧ y < by_ + bh) :
    Ev (fun k => filter_view_filtered.f k W H l ax ay bx by_ bw bh x y a p) (tup (filS g (x - bx) (y - by_) bw bh a p)) := by
  have hM := (reach_is 0 h).2
  rcases check_range h with ⟨ha, rfl⟩ | ⟨rfl, u, v, rfl, h1, h2, h3, h4⟩ | ⟨rfl, u, rfl, h1, h2⟩ | ⟨rfl, u, v, rfl, h1, h2, h3, h4⟩ | ⟨ha, u, rfl, h1, h2, h3, h4⟩
  · rcases ha with rfl | rfl
    · exact edge_ev hg (by decide)
    · exact emboss_ev hg (by decide)
  · exact motion_ev hg (Int.le_refl _) (by omega)
  · exact block_ev hg (by omega) hV hx hy_ h1 (Int.le_refl _)
  · exact sharpen_ev hg h1 (Int.le_refl _) (by omega)
  · obtain ⟨s1, s2, s3, s4⟩ := side_sq h1 h2
    rcases ha with rfl | rfl | rfl | rfl | rfl
    · exact box_ev hg h1 (Int.le_refl _) (by omega)
    · exact gauss_ev hg h1 (h3 rfl) (Int.le_refl _) (by omega)
    · have := rank_ev hg h1 (Int.le_refl _) (by omega) (n := (2 * u + 1) * (2 * u + 1) / 2) (by omega) (by rw [s1]; omega)
      refine Ev.congr (fun k => ?_) this
      show (if 0 < (([u] : List Int).length : Int) then filter_view_rank.f k W H l ax ay bx by_ bw bh x y u (wrap64 (Int.tdiv (wrap64 (wrap64 (wrap64 (2 * u) + 1) * wrap64 (wrap64 (2 * u) + 1))) 2)) else none) = _
      rw [if_pos (by simp), s4, Int.tdiv_eq_ediv_of_nonneg (by omega), wrap_id _ (by omega) (by omega)]
    · have := rank_ev hg h1 (Int.le_refl _) (by omega) (n := (2 * u + 1) * (2 * u + 1) - 1) (by omega) (by rw [s1]; omega)
      refine Ev.congr (fun k => ?_) this
      show (if 0 < (([u] : List Int).length : Int) then filter_view_rank.f k W H l ax ay bx by_ bw bh x y u (wrap64 (wrap64 (wrap64 (wrap64 (2 * u) + 1) * wrap64 (wrap64 (2 * u) + 1)) - 1)) else none) = _
      rw [if_pos (by simp), s4, wrap_id _ (by omega) (by omega)]
    · exact rank_ev hg h1 (Int.le_refl _) (by omega) (n := 0) (by omega) (by rw [s1]; omega)
end
end Go.Proofs.Ytocefehnemahhaa.G
