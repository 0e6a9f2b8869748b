import Derived.Test.YtocefehnemahhaaMv
import Derived.Test.YtocefehnemahhaaPc
import Derived.Test.YtocefehnemahhaaG14
import Derived.Test.YtocefehnemahhaaG15
import Derived.Test.YtocefehnemahhaaG16
namespace Go.Proofs.Ytocefehnemahhaa.G
open Go.RowKit Go.Proofs.YtocefehnemahhaaW.PrintWords Go.Proofs.YtocefehnemahhaaW.PrintLast Go.Proofs.YtocefehnemahhaaW.PrintMore
set_option linter.unusedVariables false
set_option linter.unusedSimpArgs false
/-! The law of parts, in plain lists. -/
theorem wi (a lo hi : Int) : imageeditorref16_within.f a lo hi = some (decide (lo ≤ a ∧ a ≤ hi)) := by
  unfold imageeditorref16_within.f
  by_cases h : a ≥ lo
  · rw [if_pos h]; congr 1; rw [decide_eq_decide]; omega
  · rw [if_neg h]; congr 1; symm; rw [decide_eq_false_iff_not]; omega
theorem count_eq (k : Nat) (a : Int) : imageeditorref16_count.f (k + 1) a = some (if a = 5 ∨ a = 6 then 0 else if a = 3 ∨ a = 9 then 2 else 1) := by
  unfold imageeditorref16_count.f
  simp only [imageeditorref16_count.j0]
  by_cases h5 : a = 5
  · subst h5; rfl
  by_cases h6 : a = 6
  · subst h6; rfl
  have e : (a == 6) = false := beq_eq_false_iff_ne.mpr h6
  rw [if_neg h5, e, if_neg (by simp)]
  by_cases h3 : a = 3
  · subst h3; rfl
  by_cases h9 : a = 9
  · subst h9; rfl
  rw [if_neg h3, if_neg h9, if_neg (by omega), if_neg (by omega)]
theorem check_eq (k : Nat) (a : Int) (l : List Int) : imageeditorref16_Check.f (k + 2) a l = filter_Check.f a l := by
  unfold imageeditorref16_Check.f filter_Check.f
  rw [wi]
  simp only [Option.bind_some, decide_eq_true_eq]
  by_cases ho : a < 1 ∨ 10 < a
  · rw [if_neg (by omega), if_pos ho]
  rw [if_pos (by omega), if_neg ho, count_eq]
  have hk : a = 1 ∨ a = 2 ∨ a = 3 ∨ a = 4 ∨ a = 5 ∨ a = 6 ∨ a = 7 ∨ a = 8 ∨ a = 9 ∨ a = 10 := by omega
  clear ho
  have e1 : ∀ (x lo hi : Int), (if decide (lo ≤ x ∧ x ≤ hi) = true then some (0 : Int) else some 2) = some (if x < lo ∨ hi < x then 2 else 0) := by
    intro x lo hi
    by_cases h : lo ≤ x ∧ x ≤ hi
    · rw [if_pos (by simpa using h), if_neg (by omega)]
    · rw [if_neg (by simpa using h), if_pos (by omega)]
  rcases hk with rfl | rfl | rfl | rfl | rfl | rfl | rfl | rfl | rfl | rfl
  all_goals simp only [Option.bind_some]
  case inr.inr.inr.inr.inl =>
    cases l with
    | nil => rfl
    | cons x t => rw [if_neg (by simp; omega), if_pos (by simp [rngs])]
  case inr.inr.inr.inr.inr.inl =>
    cases l with
    | nil => rfl
    | cons x t => rw [if_neg (by simp; omega), if_pos (by simp [rngs])]
  case inr.inr.inl =>
    match l with
    | [] => rfl
    | [x] => rfl
    | [x, y] =>
      simp [imageeditorref16_Check.j0, wi, rngs, rd]
      by_cases h1 : 0 ≤ x ∧ x ≤ 16
      · rw [if_pos h1]
        by_cases h2 : 0 ≤ y ∧ y ≤ 262140
        · rw [if_pos h2, if_neg (by omega)]
        · rw [if_neg h2, if_pos (by omega)]
      · rw [if_neg h1, if_pos (by omega)]
    | x :: y :: z :: t => rw [if_neg (by simp; omega), if_pos (by simp [rngs])]
  case inr.inr.inr.inr.inr.inr.inr.inr.inl =>
    match l with
    | [] => rfl
    | [x] => rfl
    | [x, y] =>
      simp [imageeditorref16_Check.j0, wi, rngs, rd]
      by_cases h1 : -16 ≤ x ∧ x ≤ 16
      · rw [if_pos h1]
        by_cases h2 : -16 ≤ y ∧ y ≤ 16
        · rw [if_pos h2, if_neg (by omega)]
        · rw [if_neg h2, if_pos (by omega)]
      · rw [if_neg h1, if_pos (by omega)]
    | x :: y :: z :: t => rw [if_neg (by simp; omega), if_pos (by simp [rngs])]
  all_goals
    match l with
    | [] => rfl
    | [x] =>
      simp [imageeditorref16_Check.j0, wi, rngs, rd]
      split <;> split <;> first | rfl | omega
    | x :: y :: t => rw [if_neg (by simp; omega), if_pos (by simp [rngs])]
theorem c11_ok (W H : Int) (l : List S51) (hl : l.length ≤ 65536) (hp : ∀ p ∈ l, pv p) : ∀ (n i : Nat), i + n = l.length → Ev (fun k => imageeditorref11_Check.l0 k (i : Int) W H l) 0
  | 0, i, e => Ev.step (fun k => by rw [imageeditorref11_Check.l0, if_neg (by omega)]) (Ev.now _)
  | n + 1, i, e => by
    have h := c11_ok W H l hl hp n (i + 1) (by omega)
    rw [Int.natCast_succ] at h
    refine Ev.step (fun k => ?_) h
    rw [imageeditorref11_Check.l0, if_pos (by omega), if_pos (by omega), rd_T51_at l i (by omega), valid06, Option.bind_some, decide_eq_true (hp _ (List.getElem_mem _)), if_pos rfl, wrap_id _ (by omega) (by omega)]
theorem check11_ok {W H : Int} {l : List S51} (hI : iv W H l) : Ev (fun k => imageeditorref11_Check.f k W H l) 0 := by
  obtain ⟨q0, q1, q2, q3, q4, q5, q6⟩ := hI
  have ha := area q0 q1 q2 q3
  refine Ev.step (f := fun k => imageeditorref11_Check.j1 k ((l.length : Int) != wrap64 (W * H)) W H l) (fun k => ?_) (Ev.step (fun k => ?_) (c11_ok W H l (by omega) q6 l.length 0 (by omega)))
  · rw [imageeditorref11_Check.f, if_neg (by omega), if_neg (by omega), if_neg (by omega), imageeditorref11_Check.j0, if_neg (by rw [decide_eq_true_iff]; omega), if_neg (fun e => xor_sides.1 e q4)]
  · rw [wrap_id (W * H) (by omega) (by omega), imageeditorref11_Check.j1, if_neg (by simp [q5])]; rfl
theorem whole_iv {W H a : Int} {l : List S51} {p : List Int} (hI : iv W H l) (h : filter_Check.f a p = some 0) : iv W H (whole W H l a p) := by
  have hq := hI
  obtain ⟨q0, q1, q2, q3, q4, q5, q6⟩ := hI
  refine ⟨q0, q1, q2, q3, q4, ?_, ?_⟩
  · unfold whole
    rw [imS_len, Int.natCast_mul, Int.toNat_of_nonneg q0, Int.toNat_of_nonneg q2, Int.mul_comm]
  · unfold whole
    refine imS_all fun u v hu hv => ?_
    unfold apP
    refine clean_pv (fil_pv (fun i j => ?_) h _ _ _ _)
    obtain ⟨m, hm, e⟩ := getS_in hq hu hv i j
    rw [e, rd_T51_at l m hm]
    exact q6 _ (List.getElem_mem _)
/-! The reference's rectangles. -/
theorem valid02 (x y w h : Int) : imageeditorref02_Valid.f x y w h = some (decide (V x y w h)) := by
  unfold imageeditorref02_Valid.f
  have no : ¬ V x y w h → some false = some (decide (V x y w h)) := fun hn => by rw [decide_eq_false hn]
  by_cases h0 : x < -1048576
  · rw [if_pos h0]; exact no (by unfold V; omega)
  by_cases h1 : x > 1048576
  · rw [if_neg h0, if_pos h1]; exact no (by unfold V; omega)
  by_cases h2 : y < -1048576
  · rw [if_neg h0, if_neg h1, if_pos h2]; exact no (by unfold V; omega)
  by_cases h3 : y > 1048576
  · rw [if_neg h0, if_neg h1, if_neg h2, if_pos h3]; exact no (by unfold V; omega)
  rw [if_neg h0, if_neg h1, if_neg h2, if_neg h3, wrap_id (1048576 - x) (by omega) (by omega), wrap_id (1048576 - y) (by omega) (by omega)]
  by_cases h4 : w ≥ 0
  case neg => rw [if_neg h4]; exact no (by unfold V; omega)
  by_cases h5 : h ≥ 0
  case neg => rw [if_pos h4, if_neg h5]; exact no (by unfold V; omega)
  by_cases h6 : w ≤ 1048576 - x
  case neg => rw [if_pos h4, if_pos h5, if_neg h6]; exact no (by unfold V; omega)
  rw [if_pos h4, if_pos h5, if_pos h6]
  congr 1
  rw [decide_eq_decide]
  unfold V
  omega
theorem empty02 (x y w h : Int) : imageeditorref02_Empty.f x y w h = some (decide (¬ F x y w h)) := by
  unfold imageeditorref02_Empty.f
  rw [valid02, Option.bind_some]
  by_cases hv : V x y w h
  case neg => rw [decide_eq_false hv, if_neg (by decide), decide_eq_true (show ¬ F x y w h from fun e => hv e.1)]
  rw [decide_eq_true hv, if_pos rfl]
  by_cases h0 : w = 0
  · rw [if_pos h0, decide_eq_true (show ¬ F x y w h from fun e => by have := e.2; omega)]
  · rw [if_neg h0]
    congr 1
    rw [Bool.eq_iff_iff, beq_iff_eq, decide_eq_true_iff]
    unfold F
    have := hv
    unfold V at this
    constructor
    · intro e1 e2; omega
    · intro e1
      by_cases hh : h = 0
      · exact hh
      · exact absurd ⟨hv, by omega, by omega⟩ e1
theorem span02 (x y w h a : Int) : ∃ s : Int × Int, (∀ k, imageeditorref02_span.f (k + 1) x y w h a = some s) ∧ (F x y w h → a = 0 → s = (x, x + w - 1)) ∧ (F x y w h → a = 1 → s = (y, y + h - 1)) ∧ (¬ F x y w h → s = (0, -1)) := by
  by_cases hF : F x y w h
  · obtain ⟨hv, h0, h1⟩ := hF
    have hv' := hv
    unfold V at hv'
    refine ⟨if a = 0 then (x, x + w - 1) else (y, y + h - 1), fun k => ?_, fun _ e => by rw [if_pos e], fun _ e => by rw [if_neg (by omega)], fun e => absurd ⟨hv, h0, h1⟩ e⟩
    rw [imageeditorref02_span.f, valid02, Option.bind_some, decide_eq_true hv, if_pos rfl, if_neg (by omega), imageeditorref02_span.j0, if_neg (by rw [beq_iff_eq]; omega)]
    rw [wrap_id (x + w) (by omega) (by omega), wrap_id (x + w - 1) (by omega) (by omega), wrap_id (y + h) (by omega) (by omega), wrap_id (y + h - 1) (by omega) (by omega)]
    split <;> rfl
  · refine ⟨(0, -1), fun k => ?_, fun e => absurd e hF, fun e => absurd e hF, fun _ => rfl⟩
    have j : ∀ b : Bool, b = true → imageeditorref02_span.j0 (k + 1) a b x y w h = some (0, -1) := fun b hb => by rw [imageeditorref02_span.j0, if_pos hb]
    rw [imageeditorref02_span.f, valid02, Option.bind_some]
    by_cases hv : V x y w h
    case neg => rw [decide_eq_false hv, if_neg (by decide)]; exact j _ rfl
    rw [decide_eq_true hv, if_pos rfl]
    by_cases h0 : w = 0
    · rw [if_pos h0]; exact j _ rfl
    · rw [if_neg h0]
      refine j _ ?_
      rw [beq_iff_eq]
      have hv' := hv
      unfold V at hv'
      by_cases hh : h = 0
      · exact hh
      · exact absurd ⟨hv, by omega, by omega⟩ hF
theorem has02 (x y w h u v : Int) : ∃ b : Bool, (∀ k, imageeditorref02_Has.f (k + 1) x y w h u v = some b) ∧ (b = true → F x y w h ∧ x ≤ u ∧ u ≤ x + w - 1 ∧ y ≤ v ∧ v ≤ y + h - 1) := by
  obtain ⟨s, hs, s0, _, sn⟩ := span02 x y w h 0
  obtain ⟨t, ht, _, t1, tn⟩ := span02 x y w h 1
  refine ⟨decide (s.1 ≤ u ∧ u ≤ s.2 ∧ t.1 ≤ v ∧ v ≤ t.2), fun k => ?_, fun e => ?_⟩
  · rw [imageeditorref02_Has.f, hs, ht, Option.bind_some, Option.bind_some]
    by_cases h1 : u ≥ s.1
    case neg => rw [if_neg h1]; congr 1; symm; rw [decide_eq_false_iff_not]; omega
    by_cases h2 : u ≤ s.2
    case neg => rw [if_pos h1, if_neg h2]; congr 1; symm; rw [decide_eq_false_iff_not]; omega
    by_cases h3 : v ≥ t.1
    case neg => rw [if_pos h1, if_pos h2, if_neg h3]; congr 1; symm; rw [decide_eq_false_iff_not]; omega
    rw [if_pos h1, if_pos h2, if_pos h3]
    congr 1
    rw [decide_eq_decide]
    omega
  · have e := of_decide_eq_true e
    by_cases hF : F x y w h
    · rw [s0 hF rfl, t1 hF rfl] at e
      exact ⟨hF, e⟩
    · rw [sn hF, tn hF] at e
      simp only [] at e
      omega
theorem within02 (x y w h W H : Int) : ∃ b : Bool, Ev (fun k => imageeditorref02_Within.f k x y w h 0 0 W H) b ∧ (b = true → F x y w h → 0 ≤ x ∧ 0 ≤ y ∧ x + w ≤ W ∧ y + h ≤ H) := by
  by_cases hF : F x y w h
  case neg =>
    exact ⟨true, Ev.congr (fun k => by rw [imageeditorref02_Within.f, empty02, Option.bind_some, decide_eq_true hF, if_pos rfl]) (Ev.now _), fun _ e => absurd e hF⟩
  obtain ⟨s, hs, s0, _, _⟩ := span02 x y w h 0
  obtain ⟨t, ht, _, t1, _⟩ := span02 x y w h 1
  obtain rfl := s0 hF rfl
  obtain rfl := t1 hF rfl
  obtain ⟨b1, hb1, k1⟩ := has02 0 0 W H x y
  obtain ⟨b2, hb2, k2⟩ := has02 0 0 W H (x + w - 1) (y + h - 1)
  have e : ∀ k, imageeditorref02_Within.f (k + 1) x y w h 0 0 W H = some (b1 && b2) := fun k => by
    rw [imageeditorref02_Within.f, empty02, Option.bind_some, decide_eq_false (fun n => n hF), if_neg (by decide), hs, ht, Option.bind_some, Option.bind_some, hb1, Option.bind_some, hb2]
    cases b1
    · rw [if_neg (by decide)]; rfl
    · rw [if_pos rfl]; rfl
  refine ⟨b1 && b2, Ev.step (f := fun _ => some (b1 && b2)) e (Ev.now _), fun hb _ => ?_⟩
  rw [Bool.and_eq_true] at hb
  have h1 := k1 hb.1
  have h2 := k2 hb.2
  omega
/-! The reference's crop. -/
section
variable {W H x y w h : Int} {l : List S51}
def cropS (W : Int) (l : List S51) (x y u v : Int) : S51 := rd_T51 l ((y + v) * W + (x + u))
theorem pick1 (hI : iv W H l) {u v : Int} (hu : 0 ≤ u ∧ u < W) (hv : 0 ≤ v ∧ v < H) : imageeditorref11_Pick.f W H l u v = some (tup (rd_T51 l (v * W + u))) := by
  obtain ⟨q0, q1, q2, q3, q4, q5, q6⟩ := hI
  have ha := area q0 q1 q2 q3
  have hi := index_in hu hv
  have hm := Int.mul_nonneg hv.1 q0
  rw [imageeditorref11_Pick.f, if_neg (by omega), if_neg (by omega), if_neg (by omega), if_neg (by omega), wrap_id (v * W) (by omega) (by omega), wrap_id (v * W + u) (by omega) (by omega), if_pos (by omega), if_pos (by omega)]
  rfl
theorem crop_l1 (hI : iv W H l) (hx : 0 ≤ x) (hxw : x + w ≤ W) {v : Int} (hv : 0 ≤ y + v ∧ y + v < H) (h0 : 0 ≤ v ∧ v ≤ 256) {r : Int × Int × List S51 × Int} : ∀ (n : Nat) (i : Int) (acc : List S51), i + n = w → 0 ≤ i → acc.length + n ≤ 4398046511104 →
    Ev (fun k => imageeditorref11_Crop.l0 k (v + 1) W H l x y w h w h (acc ++ imR (fun u => cropS W l x y u v) n i)) r → Ev (fun k => imageeditorref11_Crop.l1 k v i W H l x y w h w h acc) r
  | 0, i, acc, e, hi, hl, hr => by
    rw [imR, List.append_nil] at hr
    refine Ev.step (fun k => ?_) hr
    rw [imageeditorref11_Crop.l1, if_neg (by omega), wrap_id (v + 1) (by omega) (by omega)]
  | n + 1, i, acc, e, hi, hl, hr => by
    have hW := hI.2.1
    have hH := hI.2.2.2.1
    have ih := crop_l1 hI hx hxw hv h0 n (i + 1) (acc ++ [cropS W l x y i v]) (by omega) (by omega) (by rw [List.length_append, List.length_singleton]; omega) (r := r) (by
      rw [List.append_assoc, List.singleton_append]; exact hr)
    refine Ev.step (fun k => ?_) ih
    rw [imageeditorref11_Crop.l1, if_pos (by omega), wrap_id (x + i) (by omega) (by omega), wrap_id (y + v) (by omega) (by omega), pick1 hI (by omega) hv, Option.bind_some, if_pos (by omega), wrap_id (i + 1) (by omega) (by omega)]
    rfl
theorem crop_l0 (hI : iv W H l) (hx : 0 ≤ x) (hy : 0 ≤ y) (hxw : x + w ≤ W) (hyh : y + h ≤ H) (hw : 0 < w) (hh : 0 < h) : ∀ (n : Nat) (j : Int) (acc : List S51), j + n = h → 0 ≤ j → acc.length + n * w.toNat ≤ 4398046511104 →
    Ev (fun k => imageeditorref11_Crop.l0 k j W H l x y w h w h acc) (w, h, acc ++ imS (cropS W l x y) w.toNat n j, 0)
  | 0, j, acc, e, hj, hl => by
    refine Ev.step (fun k => ?_) (Ev.now _)
    rw [imageeditorref11_Crop.l0, if_neg (by omega), imS, List.append_nil]
  | n + 1, j, acc, e, hj, hl => by
    have hW := hI.2.1
    have hH := hI.2.2.2.1
    rw [Nat.succ_mul] at hl
    have ih := crop_l0 hI hx hy hxw hyh hw hh n (j + 1) (acc ++ imR (fun u => cropS W l x y u j) w.toNat 0) (by omega) (by omega) (by rw [List.length_append, imR_len]; omega)
    rw [List.append_assoc] at ih
    refine Ev.step (fun k => ?_) (crop_l1 hI hx hxw (v := j) (by omega) (by omega) w.toNat 0 acc (by omega) (by omega) (by omega) ih)
    rw [imageeditorref11_Crop.l0, if_pos (by omega)]
theorem crop_ev (hI : iv W H l) (hV : V x y w h) (hx : 0 ≤ x) (hy : 0 ≤ y) (hxw : x + w ≤ W) (hyh : y + h ≤ H) (hw : 0 < w) (hh : 0 < h) : Ev (fun k => imageeditorref11_Crop.f k W H l x y w h) (w, h, imS (cropS W l x y) w.toNat h.toNat 0, 0) := by
  have hW := hI.2.1
  have hH := hI.2.2.2.1
  have hbig : h.toNat * w.toNat ≤ 65536 := by
    have := Nat.mul_le_mul (show h.toNat ≤ 256 by omega) (show w.toNat ≤ 256 by omega)
    omega
  refine Ev.congr (fun k => by rw [imageeditorref11_Crop.f]) (Ev.bind (check11_ok hI) ?_)
  refine Ev.congr (fun k => by rw [if_pos rfl, valid02, Option.bind_some, decide_eq_true hV, if_pos rfl, if_neg (by omega)]) ?_
  have hl := crop_l0 hI hx hy hxw hyh hw hh h.toNat 0 [] (by omega) (by omega) (by rw [List.length_nil]; omega)
  rw [List.nil_append] at hl
  refine Ev.step (fun k => ?_) hl
  rw [imageeditorref11_Crop.j0, if_neg (by rw [decide_eq_true_iff]; omega), empty02, Option.bind_some, decide_eq_false (fun n => n ⟨hV, hw, hh⟩), if_neg (by decide)]
theorem crop_iv (hI : iv W H l) (hx : 0 ≤ x) (hy : 0 ≤ y) (hxw : x + w ≤ W) (hyh : y + h ≤ H) (hw : 0 < w) (hh : 0 < h) : iv w h (imS (cropS W l x y) w.toNat h.toNat 0) := by
  obtain ⟨q0, q1, q2, q3, q4, q5, q6⟩ := hI
  refine ⟨by omega, by omega, by omega, by omega, by omega, ?_, ?_⟩
  · rw [imS_len, Int.natCast_mul, Int.toNat_of_nonneg (by omega), Int.toNat_of_nonneg (by omega), Int.mul_comm]
  · refine imS_all fun u v hu hv => ?_
    have hi := index_in (W := W) (H := H) (u := x + u) (v := y + v) (by omega) (by omega)
    obtain ⟨n, hn⟩ := Int.eq_ofNat_of_zero_le hi.1
    unfold cropS
    rw [hn, rd_T51_at l n (by omega)]
    exact q6 _ (List.getElem_mem _)
/-- A cropped image's pixel. -/
theorem crop_at {u v : Int} (hu : 0 ≤ u ∧ u < w) (hv : 0 ≤ v ∧ v < h) : rd_T51 (imS (cropS W l x y) w.toNat h.toNat 0) (v * w + u) = cropS W l x y u v := by
  have e : v * w + u = ((v.toNat * w.toNat + u.toNat : Nat) : Int) := by
    rw [Int.natCast_add, Int.natCast_mul, Int.toNat_of_nonneg hu.1, Int.toNat_of_nonneg hv.1, Int.toNat_of_nonneg (by omega)]
  rw [e, rd_of (imS_get _ _ u.toNat (by omega) _ 0 v.toNat (by omega)), Int.zero_add, Int.toNat_of_nonneg hu.1, Int.toNat_of_nonneg hv.1]
end
theorem parts_same {W H a o0 o1 o2 o3 : Int} {l : List S51} {p : List Int} (hI : iv W H l) (h : filter_Check.f a p = some 0) (hO : F o0 o1 o2 o3) (b0 : 0 ≤ o0) (b1 : 0 ≤ o1) (b2 : o0 + o2 ≤ W) (b3 : o1 + o3 ≤ H) {n0 n1 n2 n3 : Int}
    (e0 : n0 = lo o0 0 (reS a p)) (e1 : n1 = lo o1 0 (reS a p)) (e2 : n2 = hi o0 o2 0 W (reS a p) - n0) (e3 : n3 = hi o1 o3 0 H (reS a p) - n1) :
    imS (fun x y => apP n2 (imS (cropS W l n0 n1) n2.toNat n3.toNat 0) n0 n1 0 0 W H a p (o0 + x) (o1 + y)) o2.toNat o3.toNat 0 = imS (cropS W (whole W H l a p) o0 o1) o2.toNat o3.toNat 0 := by
  have hr := (reach_is 0 h).2
  have hV : V 0 0 W H := by
    obtain ⟨q0, q1, q2, q3, q4, q5, q6⟩ := hI
    unfold V; omega
  refine imS_congr fun u v hu hv => ?_
  have hx : (0 : Int) ≤ o0 + u ∧ o0 + u < 0 + W := by omega
  have hy : (0 : Int) ≤ o1 + v ∧ o1 + v < 0 + H := by omega
  have hW := hI.2.1
  have hH := hI.2.2.2.1
  unfold lo gx0 at e0 e1
  unfold hi gx1 at e2 e3
  have e : cropS W (whole W H l a p) o0 o1 u v = apP W l 0 0 0 0 W H a p (o0 + u) (o1 + v) := by
    unfold cropS
    have ee : (o1 + (v : Int)) * W + (o0 + u) = (((o1 + (v : Int)).toNat * W.toNat + (o0 + (u : Int)).toNat : Nat) : Int) := by
      rw [Int.natCast_add, Int.natCast_mul, Int.toNat_of_nonneg (by omega), Int.toNat_of_nonneg (by omega), Int.toNat_of_nonneg (by omega)]
    rw [ee, whole_at a p (by omega) (by omega), Int.toNat_of_nonneg (by omega), Int.toNat_of_nonneg (by omega)]
  rw [e]
  unfold apP
  refine congrArg clean ?_
  have hg := getIs (x := o0 + u) (y := o1 + v) (ax := 0) (ay := 0) hI hV hr hx hy (by omega) (by omega) (by omega) (by omega)
  refine fil_agree h hg hV hx hy fun i j i1 i2 j1 j2 => ?_
  unfold getS
  rw [crop_at (by unfold cx; omega) (by unfold cx; omega)]
  unfold cropS
  rw [show n1 + (cx 0 H (o1 + v) j - n1) = cx 0 H (o1 + v) j - 0 by omega, show n0 + (cx 0 W (o0 + u) i - n0) = cx 0 W (o0 + u) i - 0 by omega]
theorem parts_pure (W H kd o0 o1 o2 o3 : Int) (l : List S51) (ps : List Int) : ∃ (k : Nat) (cc pc : Int) (vb eb wb : Bool), imageeditorref11_Check.f k W H l = some cc ∧ imageeditorref16_Check.f k kd ps = some pc ∧ imageeditorref02_Valid.f o0 o1 o2 o3 = some vb ∧ imageeditorref02_Empty.f o0 o1 o2 o3 = some eb ∧ imageeditorref02_Within.f k o0 o1 o2 o3 0 0 W H = some wb ∧
    ((l.length : Int) ≤ 1024 → cc = 0 → pc = 0 → vb = true → eb = false → wb = true → ∃ (wl pl al : List S51) (n0 n1 n2 n3 : Int), filter_Whole.f k W H l kd ps = some (W, H, wl, 0) ∧ imageeditorref11_Check.f k W H wl = some 0 ∧ filter_Needs.f k kd ps o0 o1 o2 o3 0 0 W H = some (n0, n1, n2, n3, 0) ∧ imageeditorref11_Crop.f k W H l n0 n1 n2 n3 = some (n2, n3, pl, 0)
      ∧ filter_Apply.f k n2 n3 pl n0 n1 0 0 W H kd ps o0 o1 o2 o3 = some (o2, o3, al, 0) ∧ imageeditorref11_Crop.f k W H wl o0 o1 o2 o3 = some (o2, o3, al, 0) ∧ imageeditorlaw16_same.f k o2 o3 al o2 o3 al = some true) := by
  obtain ⟨cc, ⟨K0, hc⟩, hi_⟩ := check11 W H l
  obtain ⟨pc, hpc⟩ : ∃ pc, filter_Check.f kd ps = some pc := ⟨_, rfl⟩
  have h16 : ∀ k, 2 ≤ k → imageeditorref16_Check.f k kd ps = some pc := fun k hk => by
    obtain ⟨m, rfl⟩ : ∃ m, k = m + 2 := ⟨k - 2, by omega⟩
    rw [check_eq, hpc]
  obtain ⟨wb, ⟨K1, hw⟩, hin⟩ := within02 o0 o1 o2 o3 W H
  by_cases all : cc = 0 ∧ pc = 0 ∧ decide (V o0 o1 o2 o3) = true ∧ decide (¬ F o0 o1 o2 o3) = false ∧ wb = true
  case neg => exact ⟨K0 + K1 + 2, cc, pc, _, _, wb, hc _ (by omega), h16 _ (by omega), valid02 _ _ _ _, empty02 _ _ _ _, hw _ (by omega), fun _ a1 a2 a3 a4 a5 => absurd ⟨a1, a2, a3, a4, a5⟩ all⟩
  obtain ⟨rfl, rfl, _, hf, rfl⟩ := all
  have hI := hi_ rfl
  have hO : F o0 o1 o2 o3 := by
    have := of_decide_eq_false hf
    exact Decidable.not_not.mp this
  obtain ⟨b0, b1, b2, b3⟩ := hin rfl hO
  have hq := hI
  obtain ⟨q0, q1, q2, q3, q4, q5, q6⟩ := hq
  have hO' := hO
  unfold F V at hO'
  have hB : V 0 0 W H := by unfold V; omega
  obtain ⟨K2, h2⟩ := whole_ev hI hpc (by omega)
  have hWI := whole_iv hI hpc
  obtain ⟨K3, h3⟩ := check11_ok hWI
  have hr := (reach_is 0 hpc).2
  have hN := fun k => needs_is k hpc hO hB (by omega)
  generalize e0 : lo o0 0 (reS kd ps) = n0 at hN
  generalize e1 : lo o1 0 (reS kd ps) = n1 at hN
  generalize e2 : hi o0 o2 0 W (reS kd ps) - n0 = n2 at hN
  generalize e3 : hi o1 o3 0 H (reS kd ps) - n1 = n3 at hN
  have f0 := e0; have f1 := e1; have f2 := e2; have f3 := e3
  unfold lo gx0 at f0 f1
  unfold hi gx1 at f2 f3
  have hnV : V n0 n1 n2 n3 := by unfold V; omega
  obtain ⟨K4, h4⟩ := crop_ev hI hnV (by omega) (by omega) (by omega) (by omega) (by omega) (by omega)
  have hPI := crop_iv (x := n0) (y := n1) (w := n2) (h := n3) hI (by omega) (by omega) (by omega) (by omega) (by omega) (by omega)
  obtain ⟨K5, h5⟩ := apply_ev (ax := n0) (ay := n1) hPI hpc hO hB (by omega) (by omega) (by omega) (by omega) (by omega)
  rw [parts_same hI hpc hO b0 b1 b2 b3 e0.symm e1.symm e2.symm e3.symm] at h5
  obtain ⟨K6, h6⟩ := crop_ev hWI hO.1 b0 b1 b2 b3 hO.2.1 hO.2.2
  have hAI := crop_iv hWI b0 b1 b2 b3 hO.2.1 hO.2.2
  have hs := area (W := o2) (H := o3) (by omega) (by omega) (by omega) (by omega)
  obtain ⟨K7, h7⟩ := same_ev o2 o3 (imS (cropS W (whole W H l kd ps) o0 o1) o2.toNat o3.toNat 0) (by have := hAI.2.2.2.2.2.1; omega)
  refine ⟨K0 + K1 + K2 + K3 + K4 + K5 + K6 + K7 + 2, 0, 0, _, _, true, hc _ (by omega), h16 _ (by omega), valid02 _ _ _ _, empty02 _ _ _ _, hw _ (by omega), fun _ _ _ _ _ _ => ⟨_, _, _, n0, n1, n2, n3, h2 _ (by omega), h3 _ (by omega), hN _, h4 _ (by omega), h5 _ (by omega), h6 _ (by omega), h7 _ (by omega)⟩⟩
end Go.Proofs.Ytocefehnemahhaa.G
