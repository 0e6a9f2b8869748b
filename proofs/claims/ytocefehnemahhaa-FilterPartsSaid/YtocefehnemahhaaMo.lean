import Derived.Test.YtocefehnemahhaaMu
namespace Go.Proofs.Ytocefehnemahhaa.G
open Go.RowKit Go.Proofs.YtocefehnemahhaaW.PrintWords Go.Proofs.YtocefehnemahhaaW.PrintLast Go.Proofs.YtocefehnemahhaaW.PrintMore
set_option linter.unusedVariables false
set_option linter.unusedSimpArgs false
/-! Least, middle and greatest values. -/
theorem sorted_len (l : List Int) : (sorted l).length = l.length := by unfold sorted; exact List.length_mergeSort _
theorem sorted_pair (l : List Int) : (sorted l).Pairwise (fun a b => a ≤ b) := by
  have := List.pairwise_mergeSort (le := fun x y : Int => decide (x ≤ y)) (fun a b c h1 h2 => by simp only [decide_eq_true_eq] at *; omega) (fun a b => by simp only [Bool.or_eq_true, decide_eq_true_eq]; omega) l
  exact this.imp (fun h => of_decide_eq_true h)
theorem rd_at {l : List Int} {i : Nat} (h : i < l.length) : rd l (i : Int) = l[i] := by unfold rd; simp [h]
theorem sorted_le {l : List Int} {i j : Int} (h0 : 0 ≤ i) (hij : i ≤ j) (hj : j < l.length) : rd (sorted l) i ≤ rd (sorted l) j := by
  have hl := sorted_len l
  obtain ⟨a, rfl⟩ := Int.eq_ofNat_of_zero_le h0
  obtain ⟨b, rfl⟩ := Int.eq_ofNat_of_zero_le (show 0 ≤ j by omega)
  have ha : a < (sorted l).length := by omega
  have hb : b < (sorted l).length := by omega
  rw [rd_at ha, rd_at hb]
  by_cases e : a = b
  · subst e; exact Int.le_refl _
  · exact List.pairwise_iff_getElem.1 (sorted_pair l) a b ha hb (by omega)
theorem sorted_mem {l : List Int} {i : Int} (h0 : 0 ≤ i) (h1 : i < l.length) : rd (sorted l) i ∈ l := by
  have hl := sorted_len l
  obtain ⟨a, rfl⟩ := Int.eq_ofNat_of_zero_le h0
  have ha : a < (sorted l).length := by omega
  rw [rd_at ha]
  exact List.mem_mergeSort.1 (show (sorted l)[a] ∈ l.mergeSort (fun x y => decide (x ≤ y)) from List.getElem_mem _)
theorem sorted_has {l : List Int} {v : Int} (h : v ∈ l) : ∃ k : Nat, k < l.length ∧ rd (sorted l) k = v := by
  have hm : v ∈ sorted l := List.mem_mergeSort.2 h
  obtain ⟨k, hk, e⟩ := List.getElem_of_mem hm
  exact ⟨k, by rw [← sorted_len l]; exact hk, by rw [rd_at hk, e]⟩
theorem sorted_first {l : List Int} {v : Int} (h : v ∈ l) : rd (sorted l) 0 ≤ v := by
  obtain ⟨k, hk, e⟩ := sorted_has h
  rw [← e]
  exact sorted_le (by omega) (by omega) (by omega)
theorem sorted_last {l : List Int} {v : Int} {n : Int} (h : v ∈ l) (hn : n = (l.length : Int) - 1) : v ≤ rd (sorted l) n := by
  obtain ⟨k, hk, e⟩ := sorted_has h
  rw [← e]
  exact sorted_le (by omega) (by omega) (by omega)
def belowS (p q : S51) : Prop := p.f0 ≤ q.f0 ∧ p.f1 ≤ q.f1 ∧ p.f2 ≤ q.f2 ∧ p.f3 ≤ q.f3
theorem row_has (g : Int → Int → S51) (j : Int) : ∀ (n : Nat) (i : Int), i ≤ 0 → 0 < i + n → g 0 j ∈ row g j n i
  | 0, i, h0, h1 => by omega
  | n + 1, i, h0, h1 => by
    rw [row]
    by_cases hi : i = 0
    · subst hi; exact List.mem_cons_self
    · exact List.mem_cons_of_mem _ (row_has g j n (i + 1) (by omega) (by omega))
theorem sq_has (g : Int → Int → S51) (m : Nat) (i0 : Int) (hi : i0 ≤ 0) (hm : 0 < i0 + m) : ∀ (n : Nat) (j : Int), j ≤ 0 → 0 < j + n → g 0 0 ∈ sq g m i0 n j
  | 0, j, h0, h1 => by omega
  | n + 1, j, h0, h1 => by
    rw [sq]
    by_cases hj : j = 0
    · subst hj; exact List.mem_append_left _ (row_has g 0 m i0 hi hm)
    · exact List.mem_append_right _ (sq_has g m i0 hi hm n (j + 1) (by omega) (by omega))
theorem square_has (g : Int → Int → S51) {r : Int} (h0 : 0 ≤ r) : g 0 0 ∈ squareS g r := sq_has g _ _ (by omega) (by omega) _ _ (by omega) (by omega)
theorem row_mem (g : Int → Int → S51) (j : Int) : ∀ (n : Nat) (i : Int) (q : S51), q ∈ row g j n i → ∃ i' : Int, i ≤ i' ∧ i' < i + n ∧ q = g i' j
  | 0, i, q, h => by simp [row] at h
  | n + 1, i, q, h => by
    rcases List.mem_cons.1 h with rfl | h
    · exact ⟨i, by omega, by omega, rfl⟩
    · obtain ⟨i', h1, h2, h3⟩ := row_mem g j n _ q h
      exact ⟨i', by omega, by omega, h3⟩
theorem sq_mem (g : Int → Int → S51) (m : Nat) (i0 : Int) : ∀ (n : Nat) (j : Int) (q : S51), q ∈ sq g m i0 n j → ∃ i' j' : Int, i0 ≤ i' ∧ i' < i0 + m ∧ j ≤ j' ∧ j' < j + n ∧ q = g i' j'
  | 0, j, q, h => by simp [sq] at h
  | n + 1, j, q, h => by
    rcases List.mem_append.1 h with h | h
    · obtain ⟨i', h1, h2, h3⟩ := row_mem g j m i0 q h
      exact ⟨i', j, h1, h2, by omega, by omega, h3⟩
    · obtain ⟨i', j', h1, h2, h3, h4, h5⟩ := sq_mem g m i0 n _ q h
      exact ⟨i', j', h1, h2, by omega, by omega, h5⟩
theorem square_mem {g : Int → Int → S51} {r : Int} {q : S51} (h : q ∈ squareS g r) : ∃ i j : Int, -r ≤ i ∧ i ≤ r ∧ -r ≤ j ∧ j ≤ r ∧ q = g i j := by
  by_cases h0 : 0 ≤ r
  · obtain ⟨i, j, h1, h2, h3, h4, h5⟩ := sq_mem _ _ _ _ _ _ h
    exact ⟨i, j, h1, by omega, h3, by omega, h5⟩
  · rw [squareS, show (2 * r + 1).toNat = 0 by omega] at h
    simp [sq] at h
/-- What holds of each pixel's value holds of each rank's. -/
theorem rank_mem {g : Int → Int → S51} {r n : Int} (h0 : 0 ≤ r) (hr : r ≤ 16) (hn : 0 ≤ n) (h1 : n < (2 * r + 1) * (2 * r + 1)) {Q : Int → Prop} (c : S51 → Int) (h : ∀ i j, Q (c (g i j))) : Q (rd (sorted ((squareS g r).map c)) n) := by
  obtain ⟨s1, s2, s3, s4⟩ := side_sq h0 hr
  have hl := squareS_len (g := g) r
  obtain ⟨q, hq, e⟩ := List.mem_map.1 (sorted_mem (l := (squareS g r).map c) hn (by rw [List.length_map, hl, s1]; exact h1))
  obtain ⟨i, j, _, _, _, _, rfl⟩ := square_mem hq
  rw [← e]
  exact h i j
theorem ranks_below {g : Int → Int → S51} {r a b : Int} (h0 : 0 ≤ r) (hr : r ≤ 16) (ha : 0 ≤ a) (hab : a ≤ b) (hb : b < (2 * r + 1) * (2 * r + 1)) : belowS (rankS g r a) (rankS g r b) := by
  obtain ⟨s1, s2, s3, s4⟩ := side_sq h0 hr
  have hl := squareS_len (g := g) r
  have k : ∀ c : S51 → Int, rd (sorted ((squareS g r).map c)) a ≤ rd (sorted ((squareS g r).map c)) b := fun c => sorted_le ha hab (by rw [List.length_map, hl, s1]; exact hb)
  exact ⟨k _, k _, k _, k _⟩
theorem rank_first (g : Int → Int → S51) {r : Int} (h0 : 0 ≤ r) : belowS (rankS g r 0) (g 0 0) := by
  have k : ∀ c : S51 → Int, rd (sorted ((squareS g r).map c)) 0 ≤ c (g 0 0) := fun c => sorted_first (List.mem_map.2 ⟨_, square_has g h0, rfl⟩)
  exact ⟨k _, k _, k _, k _⟩
theorem rank_last (g : Int → Int → S51) {r : Int} (h0 : 0 ≤ r) (hr : r ≤ 16) : belowS (g 0 0) (rankS g r ((2 * r + 1) * (2 * r + 1) - 1)) := by
  obtain ⟨s1, s2, s3, s4⟩ := side_sq h0 hr
  have hl := squareS_len (g := g) r
  have k : ∀ c : S51 → Int, c (g 0 0) ≤ rd (sorted ((squareS g r).map c)) ((2 * r + 1) * (2 * r + 1) - 1) := fun c => sorted_last (List.mem_map.2 ⟨_, square_has g h0, rfl⟩) (by rw [List.length_map, hl, s1])
  exact ⟨k _, k _, k _, k _⟩
theorem square_one (g : Int → Int → S51) : squareS g 0 = [g 0 0] := rfl
theorem sorted_one (x : Int) : sorted [x] = [x] := by unfold sorted; exact List.mergeSort_singleton x
theorem rank_zero (g : Int → Int → S51) : rankS g 0 0 = g 0 0 := by
  unfold rankS
  rw [square_one]
  simp only [List.map_cons, List.map_nil, sorted_one]
  rfl
theorem box_zero {g : Int → Int → S51} (hp : pv (g 0 0)) (ha : (g 0 0).f3 ≠ 0) : boxS g 0 = g 0 0 := by
  unfold boxS
  rw [square_one]
  exact mean_const hp ha (fun q hq => by simpa using hq) (Nat.le_refl 1) (show 1 ≤ 2000 by omega)
theorem clean_id {p : S51} (h : p.f3 ≠ 0) : clean p = p := by unfold clean; rw [if_neg h]
/-! Images by their places. -/
theorem imR_get (q : Int → S51) : ∀ (n : Nat) (x : Int) (k : Nat), k < n → (imR q n x)[k]? = some (q (x + k))
  | 0, x, k, h => by omega
  | n + 1, x, k, h => by
    rw [imR]
    cases k with
    | zero => simp
    | succ k =>
      rw [List.getElem?_cons_succ, imR_get q n (x + 1) k (by omega), Int.natCast_succ]
      rw [show x + 1 + (k : Int) = x + ((k : Int) + 1) by omega]
theorem imS_get (q : Int → Int → S51) (m : Nat) (u : Nat) (hu : u < m) : ∀ (n : Nat) (y : Int) (v : Nat), v < n → (imS q m n y)[v * m + u]? = some (q u (y + v))
  | 0, y, v, h => by omega
  | n + 1, y, v, h => by
    rw [imS]
    cases v with
    | zero =>
      rw [List.getElem?_append_left (by rw [imR_len]; omega), Nat.zero_mul, Nat.zero_add, imR_get _ m 0 u hu]
      simp
    | succ v =>
      rw [Nat.succ_mul, List.getElem?_append_right (by rw [imR_len]; omega), imR_len, show v * m + m + u - m = v * m + u by omega, imS_get q m u hu n (y + 1) v (by omega), Int.natCast_succ]
      rw [show y + 1 + (v : Int) = y + ((v : Int) + 1) by omega]
theorem split_at {m n k : Nat} (h : k < n * m) : ∃ u v, u < m ∧ v < n ∧ k = v * m + u := by
  have hm : 0 < m := by
    rcases Nat.eq_zero_or_pos m with e | e
    · subst e; rw [Nat.mul_zero] at h; omega
    · exact e
  refine ⟨k % m, k / m, Nat.mod_lt _ hm, Nat.div_lt_of_lt_mul (by rw [Nat.mul_comm]; exact h), ?_⟩
  have := Nat.div_add_mod k m
  rw [Nat.mul_comm] at this
  omega
/-- A list of the right length is the image of its places. -/
theorem imS_self {l : List S51} {m n : Nat} (h : l.length = n * m) : imS (fun x y => rd_T51 l (y * m + x)) m n 0 = l := by
  apply List.ext_getElem?
  intro k
  by_cases hk : k < n * m
  · obtain ⟨u, v, hu, hv, rfl⟩ := split_at hk
    rw [imS_get _ m u hu n 0 v hv, Int.zero_add, ← Int.natCast_mul, ← Int.natCast_add, rd_T51_at l _ (by omega), List.getElem?_eq_getElem (by omega)]
  · rw [List.getElem?_eq_none (by rw [imS_len]; omega), List.getElem?_eq_none (by omega)]
/-- Two images, place by place. -/
theorem imS_rel {Q : S51 → S51 → Prop} {q q' : Int → Int → S51} {m n : Nat} (h : ∀ u v : Nat, u < m → v < n → Q (q u v) (q' u v)) (k : Nat) (h1 : k < (imS q m n 0).length) (h2 : k < (imS q' m n 0).length) : Q (imS q m n 0)[k] (imS q' m n 0)[k] := by
  rw [imS_len] at h1
  obtain ⟨u, v, hu, hv, rfl⟩ := split_at h1
  have e1 := imS_get q m u hu n 0 v hv
  have e2 := imS_get q' m u hu n 0 v hv
  rw [List.getElem?_eq_getElem (by rw [imS_len]; exact h1), Int.zero_add] at e1
  rw [List.getElem?_eq_getElem (by rw [imS_len]; exact h1), Int.zero_add] at e2
  rw [Option.some.inj e1, Option.some.inj e2]
  exact h u v hu hv
theorem imS_congr {q q' : Int → Int → S51} {m n : Nat} (h : ∀ u v : Nat, u < m → v < n → q u v = q' u v) : imS q m n 0 = imS q' m n 0 := by
  apply List.ext_getElem (by rw [imS_len, imS_len])
  intro k h1 h2
  exact imS_rel (Q := fun a b => a = b) h k h1 h2
end Go.Proofs.Ytocefehnemahhaa.G
