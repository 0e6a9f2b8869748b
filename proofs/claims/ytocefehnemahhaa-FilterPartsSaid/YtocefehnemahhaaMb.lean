import Derived.Test.YtocefehnemahhaaMa
namespace Go.Proofs.Ytocefehnemahhaa.G
open Go.RowKit Go.Proofs.YtocefehnemahhaaW.PrintWords Go.Proofs.YtocefehnemahhaaW.PrintLast Go.Proofs.YtocefehnemahhaaW.PrintMore
set_option linter.unusedVariables false
set_option linter.unusedSimpArgs false
/-! What each filter computes, of the pixels about a place: g i j is the pixel at a distance. -/
def row (g : Int → Int → S51) (j : Int) : Nat → Int → List S51
  | 0, _ => []
  | n + 1, i => g i j :: row g j n (i + 1)
def sq (g : Int → Int → S51) (m : Nat) (i0 : Int) : Nat → Int → List S51
  | 0, _ => []
  | n + 1, j => row g j m i0 ++ sq g m i0 n (j + 1)
def squareS (g : Int → Int → S51) (r : Int) : List S51 := sq g (2 * r + 1).toNat (-r) (2 * r + 1).toNat (-r)
theorem row_len (g : Int → Int → S51) (j : Int) : ∀ n i, (row g j n i).length = n
  | 0, _ => rfl
  | n + 1, i => by rw [row, List.length_cons, row_len g j n]
theorem sq_len (g : Int → Int → S51) (m : Nat) (i0 : Int) : ∀ n j, (sq g m i0 n j).length = n * m
  | 0, _ => by simp [sq]
  | n + 1, j => by rw [sq, List.length_append, row_len, sq_len g m i0 n, Nat.succ_mul, Nat.add_comm]
def one (l : List S51) : List (S51 × Int) := l.map fun p => (p, 1)
theorem one_app (a b : List S51) : one (a ++ b) = one a ++ one b := List.map_append

section
variable {W H ax ay bx by_ bw bh x y : Int} {l : List S51} {g : Int → Int → S51} {R : Int}
def GetIs (W H : Int) (l : List S51) (ax ay bx by_ bw bh x y : Int) (R : Int) (g : Int → Int → S51) : Prop :=
  ∀ i j, -R ≤ i → i ≤ R → -R ≤ j → j ≤ R → filter_view_get.f W H l ax ay bx by_ bw bh x y i j = some (tup (g i j))
theorem GetIs.le {R' : Int} (h : GetIs W H l ax ay bx by_ bw bh x y R g) (hr : R' ≤ R) : GetIs W H l ax ay bx by_ bw bh x y R' g := fun i j h1 h2 h3 h4 => h i j (by omega) (by omega) (by omega) (by omega)
theorem square1 (hg : GetIs W H l ax ay bx by_ bw bh x y R g) {r : Int} (hr : 0 ≤ r) (hR : r ≤ R) (hM : R ≤ 1000) {j : Int} (h1 : -r ≤ j) (h2 : j ≤ r) (v : List S51) : ∀ (n : Nat) (i : Int) (acc : List S51), i + n = r + 1 → -r ≤ i → acc.length + n ≤ 10000000 →
    Ev (fun k => filter_view_square.l0 k r (acc ++ row g j n i) (j + 1) W H l ax ay bx by_ bw bh x y) v → Ev (fun k => filter_view_square.l1 k r acc j i W H l ax ay bx by_ bw bh x y) v
  | 0, i, acc, e, hi, hl, h => by
    refine Ev.step (fun k => ?_) h
    rw [filter_view_square.l1, if_neg (by omega), wrap_id (j + 1) (by omega) (by omega), row, List.append_nil]
  | n + 1, i, acc, e, hi, hl, h => by
    refine Ev.step (f := fun k => filter_view_square.l1 k r (acc ++ [g i j]) j (i + 1) W H l ax ay bx by_ bw bh x y) (fun k => ?_) (square1 hg hr hR hM h1 h2 v n (i + 1) _ (by omega) (by omega) (by simp; omega) ?_)
    · rw [filter_view_square.l1, if_pos (by omega), hg i j (by omega) (by omega) (by omega) (by omega), Option.bind_some, if_pos (by omega), wrap_id (i + 1) (by omega) (by omega)]
      rfl
    · rw [List.append_assoc]
      exact h
theorem square0 (hg : GetIs W H l ax ay bx by_ bw bh x y R g) {r : Int} (hr : 0 ≤ r) (hR : r ≤ R) (hM : R ≤ 1000) : ∀ (n : Nat) (j : Int) (acc : List S51), j + n = r + 1 → -r ≤ j → acc.length + n * (2 * r + 1).toNat ≤ 10000000 →
    Ev (fun k => filter_view_square.l0 k r acc j W H l ax ay bx by_ bw bh x y) (acc ++ sq g (2 * r + 1).toNat (-r) n j)
  | 0, j, acc, e, hj, hl => by
    refine Ev.step (fun k => ?_) (Ev.now _)
    rw [filter_view_square.l0, if_neg (by omega), sq, List.append_nil]
  | n + 1, j, acc, e, hj, hl => by
    rw [Nat.succ_mul] at hl
    refine Ev.step (f := fun k => filter_view_square.l1 k r acc j (-r) W H l ax ay bx by_ bw bh x y) (fun k => ?_) (square1 hg hr hR hM hj (by omega) _ (2 * r + 1).toNat (-r) acc (by omega) (by omega) (by omega) ?_)
    · rw [filter_view_square.l0, if_pos (by omega), wrap_id (-r) (by omega) (by omega)]
    · rw [sq, ← List.append_assoc]
      exact square0 hg hr hR hM n (j + 1) _ (by omega) (by omega) (by rw [List.length_append, row_len]; omega)
theorem square_ev (hg : GetIs W H l ax ay bx by_ bw bh x y R g) {r : Int} (hr : 0 ≤ r) (hR : r ≤ R) (hM : R ≤ 1000) : Ev (fun k => filter_view_square.f k W H l ax ay bx by_ bw bh x y r) (squareS g r) := by
  have := square0 hg hr hR hM (2 * r + 1).toNat (-r) [] (by omega) (by omega) (by
    have : (2 * r + 1).toNat ≤ 2001 := by omega
    have := Nat.mul_le_mul this this
    simp only [List.length_nil]
    omega)
  rw [List.nil_append] at this
  refine Ev.congr (fun k => ?_) this
  rw [filter_view_square.f, wrap_id (-r) (by omega) (by omega)]
theorem rd_T51_at (m : List S51) (i : Nat) (h : i < m.length) : rd_T51 m (i : Int) = m[i] := by
  unfold rd_T51
  simp [h]
theorem mean0 (m : List S51) (hl : m.length ≤ 10000000) : ∀ (n : Nat) (i : Nat), i + n = m.length →
    Ev (fun k => filter_mean.l0 k m (m.length : Int) i (TL (one (m.take i))).1 (TL (one (m.take i))).2.1 (TL (one (m.take i))).2.2.1 (TL (one (m.take i))).2.2.2.1 (TL (one (m.take i))).2.2.2.2) (tup (tm (TL (one m))))
  | 0, i, e => by
    rw [show m.take i = m from List.take_of_length_le (by omega)]
    refine Ev.step (fun k => ?_) (mean_ev _)
    rw [filter_mean.l0, if_neg (by omega)]
  | n + 1, i, e => by
    refine Ev.step (fun k => ?_) (mean0 m hl n (i + 1) (by omega))
    rw [filter_mean.l0, if_pos (by omega), if_pos (by omega), if_pos (by omega), rd_T51_at m i (by omega), add_TL, Option.bind_some, wrap_id _ (by omega) (by omega)]
    have : TL (one (m.take i) ++ [(m[i], 1)]) = TL (one (m.take (i + 1))) := by
      rw [List.take_succ_eq_append_getElem (by omega), one_app]; rfl
    rw [this, Int.natCast_succ]
theorem mean_all (m : List S51) (hl : m.length ≤ 10000000) : Ev (fun k => filter_mean.f k m) (tup (tm (TL (one m)))) := by
  have := mean0 m hl m.length 0 (by omega)
  simp only [List.take_zero] at this
  rw [show TL (one []) = (0, 0, 0, 0, 0) from TL_nil] at this
  exact Ev.congr (fun k => by rw [filter_mean.f]; rfl) this
theorem squareS_len (r : Int) : (squareS g r).length = (2 * r + 1).toNat * (2 * r + 1).toNat := sq_len _ _ _ _ _
theorem squareS_small {r : Int} (h : r ≤ 16) : (squareS g r).length ≤ 1089 := by
  have : (2 * r + 1).toNat ≤ 33 := by omega
  have := Nat.mul_le_mul this this
  rw [squareS_len]; omega
/-- The mean of the square. -/
def boxS (g : Int → Int → S51) (r : Int) : S51 := tm (TL (one (squareS g r)))
theorem box_ev (hg : GetIs W H l ax ay bx by_ bw bh x y R g) {r : Int} (hr : 0 ≤ r) (hR : r ≤ R) (hM : R ≤ 16) : Ev (fun k => (filter_view_square.f k W H l ax ay bx by_ bw bh x y r).bind fun l => filter_mean.f k l) (tup (boxS g r)) :=
  Ev.bind (square_ev hg hr hR (by omega)) (mean_all _ (by have := squareS_small (g := g) (r := r) (by omega); omega))
/-- The value of a rank. -/
def rankS (g : Int → Int → S51) (r n : Int) : S51 :=
  ⟨rd (sorted ((squareS g r).map S51.f0)) n, rd (sorted ((squareS g r).map S51.f1)) n, rd (sorted ((squareS g r).map S51.f2)) n, rd (sorted ((squareS g r).map S51.f3)) n⟩
theorem rank_ev (hg : GetIs W H l ax ay bx by_ bw bh x y R g) {r : Int} (hr : 0 ≤ r) (hR : r ≤ R) (hM : R ≤ 16) {n : Int} (h0 : 0 ≤ n) (hn : n < ((2 * r + 1).toNat * (2 * r + 1).toNat : Nat)) : Ev (fun k => filter_view_rank.f k W H l ax ay bx by_ bw bh x y r n) (tup (rankS g r n)) := by
  refine Ev.congr (fun k => by rw [filter_view_rank.f]) (Ev.bind (square_ev hg hr hR (by omega)) ?_)
  have := squareS_small (g := g) (r := r) (by omega)
  have hl := squareS_len (g := g) r
  refine Ev.congr (fun k => ?_) (Ev.now _)
  rw [if_pos ⟨h0, by rw [hl]; exact hn, by omega⟩]
  rfl
end
end Go.Proofs.Ytocefehnemahhaa.G
