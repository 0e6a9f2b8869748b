import Derived.Test.YtocefehnemahhaaMd
namespace Go.Proofs.Ytocefehnemahhaa.G
open Go.RowKit Go.Proofs.YtocefehnemahhaaW.PrintWords Go.Proofs.YtocefehnemahhaaW.PrintLast Go.Proofs.YtocefehnemahhaaW.PrintMore
set_option linter.unusedVariables false
set_option linter.unusedSimpArgs false
/-! The image's check. -/
def pv (p : S51) : Prop := 0 ≤ p.f0 ∧ p.f0 ≤ 65535 ∧ 0 ≤ p.f1 ∧ p.f1 ≤ 65535 ∧ 0 ≤ p.f2 ∧ p.f2 ≤ 65535 ∧ 0 ≤ p.f3 ∧ p.f3 ≤ 65535
instance (p : S51) : Decidable (pv p) := by unfold pv; infer_instance
theorem cl_id (x : Int) : (x == mn 65535 (mx x 0)) = decide (0 ≤ x ∧ x ≤ 65535) := by
  rw [Bool.eq_iff_iff, beq_iff_eq, decide_eq_true_iff, mx_eq, mn_eq]
  omega
theorem valid_at (p : S51) : pixel_Valid.f p.f0 p.f1 p.f2 p.f3 = some (decide (pv p)) := by
  simp only [pixel_Valid.f, pixel_Limit.f, pixel_unit.f, num_Clamp.f, Option.bind_some, cl_id]
  congr 1
  rw [Bool.eq_iff_iff, decide_eq_true_iff (p := pv p)]
  simp only [Bool.and_eq_true, decide_eq_true_iff]
  unfold pv
  omega
def iv (W H : Int) (l : List S51) : Prop := 0 ≤ W ∧ W ≤ 256 ∧ 0 ≤ H ∧ H ≤ 256 ∧ (W = 0 ↔ H = 0) ∧ (l.length : Int) = W * H ∧ ∀ p ∈ l, pv p
theorem area {W H : Int} (h0 : 0 ≤ W) (h1 : W ≤ 256) (h2 : 0 ≤ H) (h3 : H ≤ 256) : 0 ≤ W * H ∧ W * H ≤ 65536 := by
  have e1 := Int.mul_le_mul_of_nonneg_left h3 h0
  have e2 := Int.mul_nonneg h0 h2
  omega
theorem check0 (l : List S51) (hp : ∀ p ∈ l, pv p) (hl : l.length ≤ 65536) : ∀ (n i : Nat), i + n = l.length → Ev (fun k => raster_Check.l0 k l (l.length : Int) i) 0
  | 0, i, e => by
    refine Ev.step (fun k => ?_) (Ev.now _)
    rw [raster_Check.l0, if_neg (by omega)]
  | n + 1, i, e => by
    refine Ev.step (fun k => ?_) (check0 l hp hl n (i + 1) (by omega))
    rw [raster_Check.l0, if_pos (by omega), if_pos (by omega), if_pos (by omega), rd_T51_at l i (by omega), valid_at, decide_eq_true (hp _ (List.getElem_mem _)), Option.bind_some, if_pos rfl, wrap_id _ (by omega) (by omega), Int.natCast_succ]
theorem check_ev {W H : Int} {l : List S51} (h : iv W H l) : Ev (fun k => raster_Check.f k W H l) 0 := by
  obtain ⟨h0, h1, h2, h3, h4, h5, h6⟩ := h
  have ha := area h0 h1 h2 h3
  have hs : raster_sides.f W H = some 0 := by
    unfold raster_sides.f
    rw [if_neg (by omega), if_neg (by omega), if_neg (by omega), if_neg (by omega), if_neg]
    by_cases hw : W = 0
    · simp [hw, h4.1 hw]
    · have : H ≠ 0 := fun e => hw (h4.2 e)
      rw [show (W == 0) = false from beq_eq_false_iff_ne.2 hw, show (H == 0) = false from beq_eq_false_iff_ne.2 this]
      decide
  refine Ev.step (fun k => ?_) (check0 l h6 (by omega) l.length 0 (by omega))
  rw [raster_Check.f, hs, Option.bind_some, if_pos rfl, raster_Check.j0, wrap_id _ (by omega) (by omega), if_neg (by simp [h5])]
  rfl
/-! The pixels that are needed. -/
theorem meet1 {ax ay aw ah bx by_ bw bh : Int} (hA : F ax ay aw ah) (hB : F bx by_ bw bh) (hx : max ax bx < min (ax + aw) (bx + bw)) (hy : max ay by_ < min (ay + ah) (by_ + bh)) :
    rect_Meet.f ax ay aw ah bx by_ bw bh = some (max ax bx, max ay by_, min (ax + aw) (bx + bw) - max ax bx, min (ay + ah) (by_ + bh) - max ay by_) := by
  have ha := hA; unfold F V at ha
  have hb := hB; unfold F V at hb
  unfold rect_Meet.f rect_known.f rect_meet.f rect_between.f
  rw [valid1, valid1]
  simp only [Option.bind_some, decide_eq_true_eq]
  rw [if_pos hA.1, if_pos hB.1]
  simp only [Option.bind_some]
  rw [w64 (ax + aw) (by omega) (by omega), w64 (bx + bw) (by omega) (by omega), w64 (ay + ah) (by omega) (by omega), w64 (by_ + bh) (by omega) (by omega)]
  simp only [mx_eq, mn_eq]
  rw [if_neg (by omega), if_neg (by omega)]
  simp only [Option.bind_some]
  rw [w64 (min (ax + aw) (bx + bw) - max ax bx) (by omega) (by omega), w64 (min (ay + ah) (by_ + bh) - max ay by_) (by omega) (by omega)]
def lo (o b r : Int) : Int := max (gx0 o r) b
def hi (o w b v r : Int) : Int := min (gx1 o w r) (b + v)
theorem needs_is (k : Nat) {a : Int} {p : List Int} (h : filter_Check.f a p = some 0) {o0 o1 o2 o3 b0 b1 b2 b3 : Int} (hO : F o0 o1 o2 o3) (hB : V b0 b1 b2 b3) (hi_ : b0 ≤ o0 ∧ b1 ≤ o1 ∧ o0 + o2 ≤ b0 + b2 ∧ o1 + o3 ≤ b1 + b3) :
    filter_Needs.f (k + 2) a p o0 o1 o2 o3 b0 b1 b2 b3 = some (lo o0 b0 (reS a p), lo o1 b1 (reS a p), hi o0 o2 b0 b2 (reS a p) - lo o0 b0 (reS a p), hi o1 o3 b1 b3 (reS a p) - lo o1 b1 (reS a p), 0) := by
  obtain ⟨e, h0, h1⟩ := reach_is k h
  generalize reS a p = r at *
  have hf := hO; unfold F V at hf
  have hb := hB; unfold V at hb
  have hBF : F b0 b1 b2 b3 := ⟨hB, by omega, by omega⟩
  unfold filter_Needs.f
  rw [h, Option.bind_some, if_pos rfl, valid1, decide_eq_true hO.1, Option.bind_some, if_pos rfl, valid1, decide_eq_true hB, Option.bind_some, if_pos rfl, empty1, decide_eq_false (by simpa using hO), Option.bind_some, if_neg (by decide), within1 hO hB, decide_eq_true hi_, Option.bind_some]
  simp only [Bool.not_true, filter_Needs.j0]
  rw [if_neg (by decide), e, Option.bind_some, grow1 k hO h0 h1, Option.bind_some]
  simp only []
  rw [meet1 (growF hO h0 h1) hBF (by unfold gx0 gx1; omega) (by unfold gx0 gx1; omega), Option.bind_some]
  have e1 : gx0 o0 r + (gx1 o0 o2 r - gx0 o0 r) = gx1 o0 o2 r := by omega
  have e2 : gx0 o1 r + (gx1 o1 o3 r - gx0 o1 r) = gx1 o1 o3 r := by omega
  rw [e1, e2]
  rfl
/-! The view's pixels. -/
def cx (b w x i : Int) : Int := min (b + w - 1) (max (x + i) b)
def getS (W : Int) (l : List S51) (ax ay b0 b1 b2 b3 x y i j : Int) : S51 := rd_T51 l ((cx b1 b3 y j - ay) * W + (cx b0 b2 x i - ax))
theorem index_in {W H u v : Int} (hu : 0 ≤ u ∧ u < W) (hv : 0 ≤ v ∧ v < H) : 0 ≤ v * W + u ∧ v * W + u < W * H := by
  have e1 := Int.mul_le_mul_of_nonneg_right (show v ≤ H - 1 by omega) (show 0 ≤ W by omega)
  have e2 := Int.mul_nonneg hv.1 (show 0 ≤ W by omega)
  rw [Int.sub_mul, Int.one_mul, Int.mul_comm H W] at e1
  omega
theorem getIs {W H ax ay b0 b1 b2 b3 x y R : Int} {l : List S51} (hI : iv W H l) (hB : V b0 b1 b2 b3) (hR : 0 ≤ R ∧ R ≤ 16) (hx : b0 ≤ x ∧ x < b0 + b2) (hy : b1 ≤ y ∧ y < b1 + b3)
    (h1 : ax ≤ max (x - R) b0) (h2 : min (x + R + 1) (b0 + b2) ≤ ax + W) (h3 : ay ≤ max (y - R) b1) (h4 : min (y + R + 1) (b1 + b3) ≤ ay + H) :
    GetIs W H l ax ay b0 b1 b2 b3 x y R (getS W l ax ay b0 b1 b2 b3 x y) := by
  intro i j i1 i2 j1 j2
  obtain ⟨q0, q1, q2, q3, q4, q5, q6⟩ := hI
  have hb := hB; unfold V at hb
  have ha := area q0 q1 q2 q3
  have hcx : mn (wrap64 (wrap64 (b0 + b2) - 1)) (mx (wrap64 (x + i)) b0) = cx b0 b2 x i := by
    rw [wrap_id (b0 + b2) (by omega) (by omega), wrap_id (b0 + b2 - 1) (by omega) (by omega), wrap_id (x + i) (by omega) (by omega), mx_eq, mn_eq, cx]
  have hcy : mn (wrap64 (wrap64 (b1 + b3) - 1)) (mx (wrap64 (y + j)) b1) = cx b1 b3 y j := by
    rw [wrap_id (b1 + b3) (by omega) (by omega), wrap_id (b1 + b3 - 1) (by omega) (by omega), wrap_id (y + j) (by omega) (by omega), mx_eq, mn_eq, cx]
  have hu : 0 ≤ cx b0 b2 x i - ax ∧ cx b0 b2 x i - ax < W := by unfold cx; omega
  have hv : 0 ≤ cx b1 b3 y j - ay ∧ cx b1 b3 y j - ay < H := by unfold cx; omega
  have hX : b0 ≤ cx b0 b2 x i ∧ cx b0 b2 x i ≤ b0 + b2 := by unfold cx; omega
  have hi := index_in hu hv
  rw [filter_view_get.f, num_Clamp.f, hcx, Option.bind_some, num_Clamp.f, hcy, Option.bind_some]
  unfold getS
  generalize cx b0 b2 x i = X at *
  generalize cx b1 b3 y j = Y at *
  have hm : 0 ≤ (Y - ay) * W ∧ (Y - ay) * W ≤ 65536 := by
    have e2 := Int.mul_nonneg hv.1 q0
    omega
  rw [wrap_id (Y - ay) (by omega) (by omega), wrap_id ((Y - ay) * W) (by omega) (by omega), wrap_id ((Y - ay) * W + X) (by omega) (by omega), wrap_id ((Y - ay) * W + X - ax) (by omega) (by omega),
    show (Y - ay) * W + X - ax = (Y - ay) * W + (X - ax) by omega, if_pos (by omega), if_pos (by omega)]
  rfl
/-! The result's pixels. -/
def clean (p : S51) : S51 := if p.f3 = 0 then ⟨0, 0, 0, 0⟩ else p
def apP (W : Int) (l : List S51) (ax ay b0 b1 b2 b3 a : Int) (p : List Int) (x y : Int) : S51 :=
  clean (filS (getS W l ax ay b0 b1 b2 b3 x y) (x - b0) (y - b1) b2 b3 a p)
def imR (q : Int → S51) : Nat → Int → List S51
  | 0, _ => []
  | n + 1, x => q x :: imR q n (x + 1)
def imS (q : Int → Int → S51) (m : Nat) : Nat → Int → List S51
  | 0, _ => []
  | n + 1, y => imR (fun x => q x y) m 0 ++ imS q m n (y + 1)
theorem imR_len (q : Int → S51) : ∀ n x, (imR q n x).length = n
  | 0, _ => rfl
  | n + 1, x => by rw [imR, List.length_cons, imR_len q n]
theorem imS_len (q : Int → Int → S51) (m : Nat) : ∀ n y, (imS q m n y).length = n * m
  | 0, _ => by simp [imS]
  | n + 1, y => by rw [imS, List.length_append, imR_len, imS_len q m n, Nat.succ_mul, Nat.add_comm]
theorem apRow_ev {G : Nat → Int → Option S51} {q : Int → S51} : ∀ (n x : Nat) (acc : List S51), (∀ z : Nat, x ≤ z → z < x + n → Ev (fun k => G k z) (q z)) → acc.length + n ≤ 4398046511104 →
    Ev (fun k => apRow (G k) n x acc) (acc ++ imR q n x)
  | 0, x, acc, h, hl => by rw [imR, List.append_nil]; exact Ev.now _
  | n + 1, x, acc, h, hl => by
    refine Ev.congr (fun k => by rw [apRow]) (Ev.bind (h x (by omega) (by omega)) ?_)
    rw [imR, show acc ++ q x :: imR q n ((x : Int) + 1) = acc ++ [q x] ++ imR q n ((x : Int) + 1) by simp]
    have := apRow_ev n (x + 1) (acc ++ [q x]) (fun z h1 h2 => h z (by omega) (by omega)) (by simp; omega)
    rw [Int.natCast_succ] at this
    exact Ev.congr (fun k => if_pos (by omega)) this
theorem apRows_ev {G : Nat → Int → Int → Option S51} {q : Int → Int → S51} (m : Nat) (hm : m ≤ 3000000) : ∀ (n y : Nat) (acc : List S51), (∀ z u : Nat, u < m → y ≤ z → z < y + n → Ev (fun k => G k u z) (q u z)) → acc.length + n * m ≤ 4398046511104 →
    Ev (fun k => apRows (G k) m n y acc) (acc ++ imS q m n y)
  | 0, y, acc, h, hl => by rw [imS, List.append_nil]; exact Ev.now _
  | n + 1, y, acc, h, hl => by
    rw [Nat.succ_mul] at hl
    refine Ev.congr (fun k => by rw [apRows]) (Ev.bind (apRow_ev (q := fun x => q x y) m 0 acc (fun z h1 h2 => h y z (by omega) (by omega) (by omega)) (by omega)) ?_)
    have := apRows_ev m hm n (y + 1) (acc ++ imR (fun x => q x y) m 0) (fun z u h0 h1 h2 => h z u h0 (by omega) (by omega)) (by rw [List.length_append, imR_len]; omega)
    rw [Int.natCast_succ, List.append_assoc] at this
    rw [imS]
    exact this
theorem clean_tup (p : S51) : (some (tup p)).bind (fun p => some (if p.2.2.2 = 0 then (⟨0, 0, 0, 0⟩ : S51) else ⟨p.1, p.2.1, p.2.2.1, p.2.2.2⟩)) = some (clean p) := by
  simp only [Option.bind_some, tup, clean]
theorem apply_ev {W H ax ay b0 b1 b2 b3 a o0 o1 o2 o3 : Int} {l : List S51} {p : List Int} (hI : iv W H l) (h : filter_Check.f a p = some 0) (hO : F o0 o1 o2 o3) (hB : V b0 b1 b2 b3) (hi_ : b0 ≤ o0 ∧ b1 ≤ o1 ∧ o0 + o2 ≤ b0 + b2 ∧ o1 + o3 ≤ b1 + b3)
    (h1 : ax ≤ lo o0 b0 (reS a p)) (h2 : ay ≤ lo o1 b1 (reS a p)) (h3 : hi o0 o2 b0 b2 (reS a p) ≤ ax + W) (h4 : hi o1 o3 b1 b3 (reS a p) ≤ ay + H) :
    Ev (fun k => filter_Apply.f k W H l ax ay b0 b1 b2 b3 a p o0 o1 o2 o3) (o2, o3, imS (fun x y => apP W l ax ay b0 b1 b2 b3 a p (o0 + x) (o1 + y)) o2.toNat o3.toNat 0, 0) := by
  have hr := (reach_is 0 h).2
  have hf := hO; unfold F V at hf
  have hb := hB; unfold V at hb
  have hq := hI; obtain ⟨q0, q1, q2, q3, q4, q5, q6⟩ := hq
  refine Ev.congr (fun k => by rw [filter_Apply.f]) (Ev.bind (check_ev hI) ?_)
  refine Ev.congr (fun k => if_pos rfl) (Ev.bind (Ev.step (fun k => rfl) (Ev.step (fun k => needs_is k h hO hB hi_) (Ev.now _))) ?_)
  refine Ev.congr (fun k => if_pos rfl) ?_
  have hlo : -1048576 ≤ lo o0 b0 (reS a p) ∧ lo o0 b0 (reS a p) ≤ 1048576 ∧ -1048576 ≤ lo o1 b1 (reS a p) ∧ lo o1 b1 (reS a p) ≤ 1048576 := by unfold lo gx0; omega
  have hhi : -1048576 ≤ hi o0 o2 b0 b2 (reS a p) ∧ hi o0 o2 b0 b2 (reS a p) ≤ 1048576 ∧ -1048576 ≤ hi o1 o3 b1 b3 (reS a p) ∧ hi o1 o3 b1 b3 (reS a p) ≤ 1048576 := by unfold hi gx1; omega
  have hwide : o0 < hi o0 o2 b0 b2 (reS a p) ∧ o1 < hi o1 o3 b1 b3 (reS a p) := by unfold hi gx1; omega
  refine Ev.congr (fun k => if_neg (by
    simp only []
    rw [wrap_id (ax + W) (by omega) (by omega), wrap_id (ay + H) (by omega) (by omega), wrap_id _ (by omega) (by omega), wrap_id _ (by omega) (by omega)]
    omega)) ?_
  refine Ev.congr (fun k => if_pos (by omega)) ?_
  have hbig : o3.toNat * o2.toNat ≤ 4398046511104 := by
    have := Nat.mul_le_mul (show o3.toNat ≤ 2097152 by omega) (show o2.toNat ≤ 2097152 by omega)
    omega
  refine Ev.bind (f := fun k l => some (o2, o3, l, (0 : Int))) (apRows_ev (q := fun x y => apP W l ax ay b0 b1 b2 b3 a p (o0 + x) (o1 + y)) o2.toNat (by omega) o3.toNat 0 [] ?_ ?_) (Ev.now _)
  · intro z u hu hz1 hz2
    have hx : b0 ≤ o0 + u ∧ o0 + u < b0 + b2 := by omega
    have hy : b1 ≤ o1 + z ∧ o1 + z < b1 + b3 := by omega
    have hg := getIs (x := o0 + u) (y := o1 + z) (ax := ax) (ay := ay) hI hB hr hx hy (by unfold lo gx0 at h1; omega) (by unfold hi gx1 at h3; omega) (by unfold lo gx0 at h2; omega) (by unfold hi gx1 at h4; omega)
    refine Ev.congr (fun k => by rw [apPix, wrap_id (o0 + (u : Int)) (by omega) (by omega), wrap_id (o1 + (z : Int)) (by omega) (by omega)]) ?_
    refine Ev.bind (filtered_ev h hg hB hx hy) ?_
    exact Ev.congr (fun k => (clean_tup _)) (Ev.now _)
  · rw [List.length_nil]; omega
def whole (W H : Int) (l : List S51) (a : Int) (p : List Int) : List S51 := imS (fun x y => apP W l 0 0 0 0 W H a p x y) W.toNat H.toNat 0
theorem whole_ev {W H a : Int} {l : List S51} {p : List Int} (hI : iv W H l) (h : filter_Check.f a p = some 0) (hW : W ≠ 0) : Ev (fun k => filter_Whole.f k W H l a p) (W, H, whole W H l a p, 0) := by
  obtain ⟨q0, q1, q2, q3, q4, q5, q6⟩ := hI
  have hH : H ≠ 0 := fun e => hW (q4.2 e)
  have hr := (reach_is 0 h).2
  have hF : F 0 0 W H := by unfold F V; omega
  refine Ev.congr (fun k => by rw [filter_Whole.f]) (Ev.bind (check_ev ⟨q0, q1, q2, q3, q4, q5, q6⟩) ?_)
  refine Ev.congr (fun k => by rw [if_pos rfl, h, Option.bind_some, if_pos rfl, if_neg hW]) ?_
  have := apply_ev (ax := 0) (ay := 0) (b0 := 0) (b1 := 0) (b2 := W) (b3 := H) ⟨q0, q1, q2, q3, q4, q5, q6⟩ h hF hF.1 (by omega) (by unfold lo gx0; omega) (by unfold lo gx0; omega) (by unfold hi gx1; omega) (by unfold hi gx1; omega)
  rw [show (fun x y => apP W l 0 0 0 0 W H a p (0 + x) (0 + y)) = fun x y => apP W l 0 0 0 0 W H a p x y by funext x y; rw [Int.zero_add, Int.zero_add]] at this
  exact this
theorem whole_none {H a : Int} {l : List S51} {p : List Int} (hI : iv 0 H l) (h : filter_Check.f a p = some 0) : Ev (fun k => filter_Whole.f k 0 H l a p) (0, 0, [], 0) := by
  refine Ev.congr (fun k => by rw [filter_Whole.f]) (Ev.bind (check_ev hI) ?_)
  exact Ev.congr (fun k => by rw [if_pos rfl, h, Option.bind_some, if_pos rfl, if_pos rfl]) (Ev.now _)
theorem imS_at (q : Int → Int → S51) (m : Nat) (z : S51) : ∀ (n : Nat) (y : Int), (∀ p ∈ imS q m n y, p = z) ↔ ∀ u v : Nat, u < m → v < n → q u (y + v) = z := by
  have row : ∀ (q : Int → S51) (n : Nat) (x : Int), (∀ p ∈ imR q n x, p = z) ↔ ∀ u : Nat, u < n → q (x + u) = z := by
    intro q n
    induction n with
    | zero => intro x; simp [imR]
    | succ n ih =>
      intro x
      rw [imR, List.forall_mem_cons, ih]
      constructor
      · rintro ⟨h1, h2⟩ u hu
        cases u with
        | zero => simpa using h1
        | succ u => have := h2 u (by omega); rw [Int.natCast_succ]; rw [show x + 1 + (u : Int) = x + ((u : Int) + 1) by omega] at this; exact this
      · intro h
        refine ⟨by simpa using h 0 (by omega), fun u hu => ?_⟩
        have := h (u + 1) (by omega)
        rw [Int.natCast_succ] at this
        rw [show x + 1 + (u : Int) = x + ((u : Int) + 1) by omega]
        exact this
  intro n
  induction n with
  | zero => intro y; simp [imS]
  | succ n ih =>
    intro y
    rw [imS, List.forall_mem_append, ih, row]
    constructor
    · rintro ⟨h1, h2⟩ u v hu hv
      cases v with
      | zero => simpa using h1 u hu
      | succ v => have := h2 u v hu (by omega); rw [Int.natCast_succ]; rw [show y + 1 + (v : Int) = y + ((v : Int) + 1) by omega] at this; exact this
    · intro h
      refine ⟨fun u hu => by simpa using h u 0 hu (by omega), fun u v hu hv => ?_⟩
      have := h u (v + 1) hu (by omega)
      rw [Int.natCast_succ] at this
      rw [show y + 1 + (v : Int) = y + ((v : Int) + 1) by omega]
      exact this
end Go.Proofs.Ytocefehnemahhaa.G
