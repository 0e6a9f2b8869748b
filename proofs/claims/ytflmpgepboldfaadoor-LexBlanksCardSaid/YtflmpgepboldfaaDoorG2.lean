-- laid by gprint.py (a program of this proof's writer) out of the translation; Lean checks it.
import Derived.Test.YtflmpgepboldfaaDoorG0
namespace Go.Proofs.YtflmpgepboldfaaDoor.G
open Go.RowKit Go.Proofs.YtflmpgepboldfaaDoorW.PrintWords Go.Proofs.YtflmpgepboldfaaDoorW.PrintLast Go.Proofs.YtflmpgepboldfaaDoorW.PrintMore
attribute [local go_sem] max2_int min2_int max_two min_two max_three min_three max_four min_four   -- for this text's walks alone
set_option linter.unusedVariables false
set_option linter.unusedSimpArgs false

/-! ### strings_IndexByte: function 21: proved by hand -/
def strings_IndexByte.f (a0 : ByteArray) (a1 : Int) : Option Int := some (Lib.indexByte a0.data.toList a1.toNat.toUInt8)
theorem strings_IndexByte.calls (a0 : ByteArray) (a1 : Int) (r : Int) (w : World) (h : strings_IndexByte.f a0 a1 = some r) :
    Calls Tryd.prog 21 #[.string a0, .int .u8 a1] w fun e w' => e = .returned (.int .i64 r) ∧ Drawn0 w w' := by
  obtain rfl := Option.some.inj h
  refine (Tryd.strings_IndexByte a0 a1 w).mono ?_
  rintro e w' ⟨rfl, rfl⟩
  exact ⟨rfl, Drawn0.refl _⟩


/-- A state of type 35 at block g of W; what its slices lead to came in by w0. -/
def IsS35 (w0 W : World) (g : Nat) (f0 : ByteArray) (f1 : Int) : Prop := W.heap[g]? = some (.cells #[.string f0, .int .i64 f1] 35 (0, 0)) ∧ w0.heap.size ≤ g
theorem IsS35.grown {w0 W : World} {g : Nat} {f0 : ByteArray} {f1 : Int} {W1 : World} {row : Option Nat} (h : IsS35 w0 W g f0 f1) (hw : W.grownBy W1 row) (hne : some g ≠ row) : IsS35 w0 W1 g f0 f1 := by
  obtain ⟨hb, hg⟩ := h
  exact ⟨blk_grown hb hw hne, hg⟩
theorem IsS35.own_neN {w0 W : World} {g : Nat} {f0 : ByteArray} {f1 : Int} {α : Type} {d : Kd α} {e : Nat} {base : Nat} {ok : Nat → Prop} {v : Value} {xs : List α} (h : IsS35 w0 W g f0 f1) (ho : Kd.N d e W base ok v xs) (ht : e ≠ 35) : some g ≠ v.ownBlock := by
  obtain ⟨hb, hg⟩ := h
  exact Kd.N_ne ho hb ht
theorem IsS35.fresh {w0 W : World} {g : Nat} {f0 : ByteArray} {f1 : Int} (h : IsS35 w0 W g f0 f1) : ∀ k, W.heap.size ≤ k → k ≠ g := by
  obtain ⟨hb, hg⟩ := h
  exact Kd.freshB hb
theorem IsS35.kept {w0 W : World} {g : Nat} {f0 : ByteArray} {f1 : Int} {W1 : World} {S : Nat → Prop} (h : IsS35 w0 W g f0 f1) (hk : Kept W W1 S) (hne : ¬ S g) : IsS35 w0 W1 g f0 f1 := by
  obtain ⟨hb, hg⟩ := h
  exact ⟨blk_kept hb hk hne, hg⟩
theorem IsS35.below {w0 W : World} {g : Nat} {f0 : ByteArray} {f1 : Int} {W1 : World} (h : IsS35 w0 W g f0 f1) (hw : Below W.heap.size W W1) : IsS35 w0 W1 g f0 f1 := h.grown (grown_of_below hw none) (by simp)
theorem IsS35.alloc {w0 W : World} {g : Nat} {f0 : ByteArray} {f1 : Int} (h : IsS35 w0 W g f0 f1) (o : Obj) : IsS35 w0 (W.alloc o) g f0 f1 := h.below (below_alloc (Below.refl _ _) o)
theorem IsS35.drewN {w0 W : World} {g : Nat} {f0 : ByteArray} {f1 : Int} (h : IsS35 w0 W g f0 f1) (m : Nat) : IsS35 w0 (W.drewN m) g f0 f1 := h
theorem IsS35.drew {w0 W : World} {g : Nat} {f0 : ByteArray} {f1 : Int} (h : IsS35 w0 W g f0 f1) : IsS35 w0 W.drew g f0 f1 := h
theorem IsS35.at_ {w0 W : World} {g : Nat} {f0 : ByteArray} {f1 : Int} {w' : World} {m : Nat} (hq : W.drewN m = w') (h : IsS35 w0 W g f0 f1) : IsS35 w0 w' g f0 f1 := by subst hq; exact IsS35.drewN h m
theorem IsS35.apart {w0 W : World} {g : Nat} {f0 : ByteArray} {f1 : Int} {α : Type} {d : Kd α} {e : Nat} {base : Nat} {ok : Nat → Prop} {v : Value} {xs : List α} (h : IsS35 w0 W g f0 f1) (ho : d.R e W base ok v xs) (ht : ∀ q, q ∈ e :: d.E → q ≠ 35) : d.R e W base (fun k => ok k ∧ k ≠ g) v xs := by
  obtain ⟨hb, hg⟩ := h
  exact Kd.R_types ho hb ht
theorem IsS35.own_ne {w0 W : World} {g : Nat} {f0 : ByteArray} {f1 : Int} {α : Type} {d : Kd α} {e : Nat} {base : Nat} {ok : Nat → Prop} {v : Value} {xs : List α} (h : IsS35 w0 W g f0 f1) (ho : d.R e W base ok v xs) (ht : e ≠ 35) : some g ≠ v.ownBlock := by
  obtain ⟨hb, hg⟩ := h
  exact Kd.R_ne ho hb ht
theorem IsS35.apartQ {w0 W : World} {g : Nat} {f0 : ByteArray} {f1 : Int} {α : Type} {d : Kd α} {e : Nat} {base : Nat} {ok : Nat → Prop} {v : Value} {xs : List α} (h : IsS35 w0 W g f0 f1) (ho : d.Q e W base ok v xs) (ht : ∀ q, q ∈ e :: d.E → q ≠ 35) : d.Q e W base (fun k => ok k ∧ k ≠ g) v xs := by
  obtain ⟨hb, hg⟩ := h
  exact Kd.Q_types ho hb ht
theorem IsS35.own_neQ {w0 W : World} {g : Nat} {f0 : ByteArray} {f1 : Int} {α : Type} {d : Kd α} {e : Nat} {base : Nat} {ok : Nat → Prop} {v : Value} {xs : List α} (h : IsS35 w0 W g f0 f1) (ho : d.Q e W base ok v xs) (ht : e ≠ 35) : some g ≠ v.ownBlock := by
  obtain ⟨hb, hg⟩ := h
  exact Kd.Q_ne ho hb ht
theorem IsS35.apartS {w0 W : World} {g : Nat} {f0 : ByteArray} {f1 : Int} {α : Type} {d : Kd α} {e : Nat} {base : Nat} {ok : Nat → Prop} {v : Value} {xs : List α} (h : IsS35 w0 W g f0 f1) (ho : d.S e W base ok v xs) (ht : ∀ q, q ∈ e :: d.E → q ≠ 35) : d.S e W base (fun k => ok k ∧ k ≠ g) v xs := by
  obtain ⟨hb, hg⟩ := h
  exact Kd.S_types ho hb ht
theorem IsS35.own_neS {w0 W : World} {g : Nat} {f0 : ByteArray} {f1 : Int} {α : Type} {d : Kd α} {e : Nat} {base : Nat} {ok : Nat → Prop} {v : Value} {xs : List α} (h : IsS35 w0 W g f0 f1) (ho : d.S e W base ok v xs) (ht : e ≠ 35) : some g ≠ v.ownBlock := by
  obtain ⟨hb, hg⟩ := h
  exact Kd.S_ne ho hb ht
theorem IsS35.lt {w0 W : World} {g : Nat} {f0 : ByteArray} {f1 : Int} (h : IsS35 w0 W g f0 f1) : g < W.heap.size := by
  obtain ⟨hb, hg⟩ := h
  exact blk_lt hb
theorem IsS35.ge {w0 W : World} {g : Nat} {f0 : ByteArray} {f1 : Int} (h : IsS35 w0 W g f0 f1) : w0.heap.size ≤ g := by
  obtain ⟨hb, hg⟩ := h
  exact hg
theorem IsS35.ne_blk {w0 W : World} {g : Nat} {f0 : ByteArray} {f1 : Int} {a : Nat} {cs : Array Value} {t : TypeId} {fr : Nat × Nat} (h : IsS35 w0 W g f0 f1) (hb2 : W.heap[a]? = some (.cells cs t fr)) (ht : t ≠ 35) : g ≠ a := by
  obtain ⟨hb, hg⟩ := h
  rintro rfl
  rw [hb] at hb2
  injection hb2 with hb2
  injection hb2 with _ ht2
  exact ht ht2.symm
theorem IsS35.far {w0 W : World} {g : Nat} {f0 : ByteArray} {f1 : Int} {p : Addr} (h : IsS35 w0 W g f0 f1) (hne : g ≠ p.block) (u : Value) : IsS35 w0 (W.setCell p u) g f0 f1 := by
  obtain ⟨hb, hg⟩ := h
  exact ⟨blk_far hb hne u, hg⟩
theorem cellS35_0 {W : World} {g : Nat} {f0 : ByteArray} {f1 : Int} (h : W.heap[g]? = some (.cells #[.string f0, .int .i64 f1] 35 (0, 0))) : W.cell? ⟨g, 0, none⟩ = some (.string f0) := (blk_cell h 0).trans rfl
theorem IsS35.set_0 {w0 W : World} {g : Nat} {f0 : ByteArray} {f1 : Int} (h : IsS35 w0 W g f0 f1) (x : ByteArray) : IsS35 w0 (W.setCell ⟨g, 0, none⟩ (.string x)) g x f1 := by
  obtain ⟨hb, hg⟩ := h
  exact ⟨by simpa using blk_set hb 0 (.string x), hg⟩
theorem cellS35_1 {W : World} {g : Nat} {f0 : ByteArray} {f1 : Int} (h : W.heap[g]? = some (.cells #[.string f0, .int .i64 f1] 35 (0, 0))) : W.cell? ⟨g, 1, none⟩ = some (.int .i64 f1) := (blk_cell h 1).trans rfl
theorem IsS35.set_1 {w0 W : World} {g : Nat} {f0 : ByteArray} {f1 : Int} (h : IsS35 w0 W g f0 f1) (x : Int) : IsS35 w0 (W.setCell ⟨g, 1, none⟩ (.int .i64 x)) g f0 x := by
  obtain ⟨hb, hg⟩ := h
  exact ⟨by simpa using blk_set hb 1 (.int .i64 x), hg⟩
theorem IsS35.new (w0 W : World) (f0 : ByteArray) (f1 : Int) (hB : Below w0.heap.size w0 W) : IsS35 w0 (W.alloc (.cells #[.string f0, .int .i64 f1] 35)) W.heap.size f0 f1 := ⟨by simpa using heap_alloc_new W _, hB.size⟩

/-! ### lex_lexer_skip: function 17 -/
mutual
def lex_lexer_skip.l0 : Nat → ByteArray → Int → Option (ByteArray × Int)
  | 0, _, _ => none
  | k + 1, x1000, x1001 => if x1001 < (x1000.size : Int) then (if 0 ≤ x1001 then (if (bt x1000 x1001) = 32 then (lex_lexer_skip.j1 k (bt x1000 x1001) ((bt x1000 x1001) == 32) x1000 x1001) else (if (bt x1000 x1001) = 9 then (lex_lexer_skip.j1 k (bt x1000 x1001) ((bt x1000 x1001) == 9) x1000 x1001) else (lex_lexer_skip.j1 k (bt x1000 x1001) ((bt x1000 x1001) == 10) x1000 x1001))) else (none)) else (some (x1000, x1001))
def lex_lexer_skip.j1 : Nat → Int → Bool → ByteArray → Int → Option (ByteArray × Int)
  | 0, _, _, _, _ => none
  | k + 1, x21, x22, x1000, x1001 => if x22 = true then (lex_lexer_skip.l0 k x1000 (wrap64 (x1001 + 1))) else (if x21 = 35 then (if 0 ≤ x1001 then (if x1001 ≤ (x1000.size : Int) then ((strings_IndexByte.f (x1000.extract (x1001 : Int).toNat x1000.size) 10).bind fun t101 => (if t101 < 0 then (lex_lexer_skip.l0 k x1000 (wrap64 (x1001 + (wrap64 ((x1000.size : Int) - x1001))))) else (lex_lexer_skip.l0 k x1000 (wrap64 (x1001 + t101))))) else (none)) else (none)) else (some (x1000, x1001)))
end
def lex_lexer_skip.f (k : Nat) (s0_0 : ByteArray) (s0_1 : Int) : Option (ByteArray × Int) := lex_lexer_skip.l0 k s0_0 s0_1
theorem lex_lexer_skip.mono_l : ∀ k, (∀ y0 y1, LeO (lex_lexer_skip.l0 k y0 y1) (lex_lexer_skip.l0 (k + 1) y0 y1)) ∧ (∀ y0 y1 y2 y3, LeO (lex_lexer_skip.j1 k y0 y1 y2 y3) (lex_lexer_skip.j1 (k + 1) y0 y1 y2 y3))
  | 0 => ⟨fun _ _ r h => by simp [lex_lexer_skip.l0] at h, fun _ _ _ _ r h => by simp [lex_lexer_skip.j1] at h⟩
  | k + 1 => by
    obtain ⟨ih0, ih1⟩ := lex_lexer_skip.mono_l k
    refine ⟨?_, ?_⟩
    · intro y0 y1
      unfold lex_lexer_skip.l0
      repeat' first
      | (with_reducible exact ih0 _ _)
      | (with_reducible exact ih1 _ _ _ _)
      | (with_reducible exact LeO.refl _)
      | (with_reducible exact LeO.none _)
      | (with_reducible refine LeO.ite ?_ ?_)
      | (with_reducible refine LeO.bind ?_ (fun _ => ?_))
      | exact ih0 _ _
      | exact ih1 _ _ _ _
      | exact LeO.none _
      | refine LeO.ite ?_ ?_
      | refine LeO.bind ?_ (fun _ => ?_)
    · intro y0 y1 y2 y3
      unfold lex_lexer_skip.j1
      repeat' first
      | (with_reducible exact ih0 _ _)
      | (with_reducible exact ih1 _ _ _ _)
      | (with_reducible exact LeO.refl _)
      | (with_reducible exact LeO.none _)
      | (with_reducible refine LeO.ite ?_ ?_)
      | (with_reducible refine LeO.bind ?_ (fun _ => ?_))
      | exact ih0 _ _
      | exact ih1 _ _ _ _
      | exact LeO.none _
      | refine LeO.ite ?_ ?_
      | refine LeO.bind ?_ (fun _ => ?_)
theorem lex_lexer_skip.mono : ∀ a0 a1 k, LeO (lex_lexer_skip.f k a0 a1) (lex_lexer_skip.f (k + 1) a0 a1) := by
  intro a0 a1 k
  obtain ⟨ih0, ih1⟩ := lex_lexer_skip.mono_l k
  unfold lex_lexer_skip.f
  repeat' first
      | (with_reducible exact ih0 _ _)
      | (with_reducible exact ih1 _ _ _ _)
      | (with_reducible exact LeO.refl _)
      | (with_reducible exact LeO.none _)
      | (with_reducible refine LeO.ite ?_ ?_)
      | (with_reducible refine LeO.bind ?_ (fun _ => ?_))
      | exact ih0 _ _
      | exact ih1 _ _ _ _
      | exact LeO.none _
      | refine LeO.ite ?_ ?_
      | refine LeO.bind ?_ (fun _ => ?_)
set_option maxHeartbeats 8000000 in
set_option maxRecDepth 100000 in
theorem lex_lexer_skip.calls (k : Nat) (g : Nat) (s0_0 : ByteArray) (s0_1 : Int) (r1 : ByteArray) (r2 : Int) (w0 w : World) (hI : IsS35 w0 w g s0_0 s0_1) (hB : Below w0.heap.size w0 w) (h : lex_lexer_skip.f k s0_0 s0_1 = some (r1, r2)) :
    Calls Tryd.prog 17 #[.pointer (some ⟨g, 0, none⟩)] w fun e w' => e = .returned (.tuple #[]) ∧ IsS35 w0 w' g r1 r2 ∧ Below w0.heap.size w0 w' ∧ KeepBut w w' g none := by
  have HI0 := Aside0.mk hI
  have HK := Aside0.mk (KeepBut.refl w g none)
  have HL := Aside0.mk hB.size
  clear hI
  have HW0 := Aside0.mk hB.size
  have HB := Aside0.mk hB
  clear hB
  have H : (lex_lexer_skip.l0 k s0_0 s0_1) = some (r1, r2) := h
  clear h
  have H' := Aside0.mk H
  clear H
  go_enter Tryd.func17, Tryd.ntmps17
  go_wp2
  repeat (go_quiet (fail); try go_wp2)
  go_loopg [] k (fun kq w' => ∃ (x1001_1 : Int), Aside0 (lex_lexer_skip.l0 kq s0_0 x1001_1 = some (r1, r2)) ∧ Aside0 (kq ≤ k) ∧ Aside0 (IsS35 w0 w' g s0_0 x1001_1) ∧ Aside0 (KeepBut w w' g none) ∧ Aside0 (Below w0.heap.size w0 w'))
  case atStart => exact ⟨(s0_1), H', ⟨Nat.le_refl _⟩, ⟨by repeat (first | (with_reducible first | exact HI0.out | apply IsS35.alloc | apply IsS35.drewN | apply IsS35.drew | apply IsS35.set_0 | apply IsS35.set_1) | exact HI0.out)⟩, ⟨by repeat (first | (with_reducible first | exact HK.out | apply KeepBut.set_ | apply keep_drewN | apply keep_drew | apply keep_alloc) | exact HK.out)⟩, ⟨by repeat (first | (with_reducible first | exact HB.out | apply below_alloc | apply pw_below_drewN | apply below_drew1 | refine below_set ?_ (IsS35.ge HI0.out)) | exact HB.out)⟩⟩
  case round =>
    clear H'
    try clear c1
    obtain ⟨x1001_1, HA, HK1, HI0, HK, HB⟩ := hrel
    cases gk with
    | zero => exact absurd HA.out (by simp [lex_lexer_skip.l0])
    | succ k1 =>
      have H := HA.out
      clear HA
      simp only [lex_lexer_skip.l0] at H
      by_cases c2 : x1001_1 < (s0_0.size : Int)
      · rw [if_pos c2] at H
        have c2b0 : decide (x1001_1 < (s0_0.size : Int)) = true := decide_eq_true c2
        clear c2
        by_cases c3 : 0 ≤ x1001_1
        · rw [if_pos c3] at H
          have c3b0 : decide (0 ≤ x1001_1) = true := decide_eq_true c3
          clear c3
          have HC5 := Aside0.mk H
          clear H
          obtain ⟨HGz6, hgz6⟩ := HI0.out
          have hcz6_0 := cellS35_0 HGz6
          have hcz6_1 := cellS35_1 HGz6
          have hfz6_0 := blk_frozen HGz6 0
          have hfz6_1 := blk_frozen HGz6 1
          clear HGz6 hgz6
          have p4 : 0 ≤ (x1001_1 : Int) := of_decide_eq_true (by first | (with_reducible assumption) | assumption)
          have q4 : x1001_1 < (s0_0.size : Int) := of_decide_eq_true (by first | (with_reducible assumption) | assumption)
          have hx4 := bt_at s0_0 x1001_1
          replace p4 := eq_true p4
          replace q4 := eq_true q4
          go_upto_if 22 with (fail)
          repeat (go_quiet (fail); go_upto_if 22 with (fail))
          go_cut [22] (fun v22 wc => ∃ (kq : Nat) (x22_4 : Bool), v22 = .bool x22_4 ∧ Aside0 (lex_lexer_skip.j1 kq (bt s0_0 x1001_1) x22_4 s0_0 x1001_1 = some (r1, r2)) ∧ Aside0 (kq ≤ k1) ∧ Aside0 (IsS35 w0 wc g s0_0 x1001_1) ∧ Aside0 (KeepBut w wc g none) ∧ Aside0 (Below w0.heap.size w0 wc))
          case first =>
            have H := HC5.out
            clear HC5
            by_cases c7 : (bt s0_0 x1001_1) = 32
            · rw [if_pos c7] at H
              have c7b0 : ((bt s0_0 x1001_1) == 32) = true := beq_iff_eq.mpr c7
              have c7b1 : ((bt s0_0 x1001_1) != 32) = false := bne_eq_false_iff_eq.mpr c7
              clear c7
              (first | rw [c7b0] | (simp only [i64_w, i32_w]; rw [c7b0]) | skip)
              have H' := Aside0.mk H
              clear H
              go_wp2
              repeat (go_quiet (fail); try go_wp2)
              go_meet
              case rel => exact ⟨_, (((bt s0_0 x1001_1) == 32)), (by first | rfl | (simp; done) | (simp [*]; done)), H', ⟨by have := HK1.out; first | omega | exact Nat.le_refl _⟩, ⟨by repeat (first | (with_reducible first | exact HI0.out | apply IsS35.alloc | apply IsS35.drewN | apply IsS35.drew | apply IsS35.set_0 | apply IsS35.set_1) | exact HI0.out)⟩, ⟨by repeat (first | (with_reducible first | exact HK.out | apply KeepBut.set_ | apply keep_drewN | apply keep_drew | apply keep_alloc) | exact HK.out)⟩, ⟨by repeat (first | (with_reducible first | exact HB.out | apply below_alloc | apply pw_below_drewN | apply below_drew1 | refine below_set ?_ (IsS35.ge HI0.out)) | exact HB.out)⟩⟩
            · rw [if_neg c7] at H
              have c7b0 : ((bt s0_0 x1001_1) == 32) = false := beq_eq_false_iff_ne.mpr c7
              have c7b1 : ((bt s0_0 x1001_1) != 32) = true := bne_iff_ne.mpr c7
              (first | rw [c7b0] | (simp only [i64_w, i32_w]; rw [c7b0]) | skip)
              by_cases c8 : (bt s0_0 x1001_1) = 9
              · rw [if_pos c8] at H
                have c8b0 : ((bt s0_0 x1001_1) == 9) = true := beq_iff_eq.mpr c8
                have c8b1 : ((bt s0_0 x1001_1) != 9) = false := bne_eq_false_iff_eq.mpr c8
                clear c8
                have H' := Aside0.mk H
                clear H
                go_wp2
                repeat (go_quiet (fail); try go_wp2)
                go_meet
                case rel => exact ⟨_, (((bt s0_0 x1001_1) == 9)), (by first | rfl | (simp; done) | (simp [*]; done)), H', ⟨by have := HK1.out; first | omega | exact Nat.le_refl _⟩, ⟨by repeat (first | (with_reducible first | exact HI0.out | apply IsS35.alloc | apply IsS35.drewN | apply IsS35.drew | apply IsS35.set_0 | apply IsS35.set_1) | exact HI0.out)⟩, ⟨by repeat (first | (with_reducible first | exact HK.out | apply KeepBut.set_ | apply keep_drewN | apply keep_drew | apply keep_alloc) | exact HK.out)⟩, ⟨by repeat (first | (with_reducible first | exact HB.out | apply below_alloc | apply pw_below_drewN | apply below_drew1 | refine below_set ?_ (IsS35.ge HI0.out)) | exact HB.out)⟩⟩
              · rw [if_neg c8] at H
                have c8b0 : ((bt s0_0 x1001_1) == 9) = false := beq_eq_false_iff_ne.mpr c8
                have c8b1 : ((bt s0_0 x1001_1) != 9) = true := bne_iff_ne.mpr c8
                have H' := Aside0.mk H
                clear H
                go_wp2
                repeat (go_quiet (fail); try go_wp2)
                go_meet
                case rel => exact ⟨_, (((bt s0_0 x1001_1) == 10)), (by first | rfl | (simp; done) | (simp [*]; done)), H', ⟨by have := HK1.out; first | omega | exact Nat.le_refl _⟩, ⟨by repeat (first | (with_reducible first | exact HI0.out | apply IsS35.alloc | apply IsS35.drewN | apply IsS35.drew | apply IsS35.set_0 | apply IsS35.set_1) | exact HI0.out)⟩, ⟨by repeat (first | (with_reducible first | exact HK.out | apply KeepBut.set_ | apply keep_drewN | apply keep_drew | apply keep_alloc) | exact HK.out)⟩, ⟨by repeat (first | (with_reducible first | exact HB.out | apply below_alloc | apply pw_below_drewN | apply below_drew1 | refine below_set ?_ (IsS35.ge HI0.out)) | exact HB.out)⟩⟩
          case rest =>
            clear HC5
            try clear c1
            try clear c2
            try clear c2b0
            try clear p2
            try clear c3
            try clear c3b0
            try clear p4
            try clear q4
            try clear hx4
            try clear c7
            try clear c7b0
            try clear c7b1
            try clear c8
            try clear c8b0
            try clear c8b1
            try clear hcz6_0
            try clear hcz6_1
            try clear hfz6_0
            try clear hfz6_1
            try clear p4
            try clear q4
            obtain ⟨kq, x22_4, rfl, HA, HJ4, HI0, HK, HB⟩ := hcut
            cases kq with
            | zero => exact absurd HA.out (by simp [lex_lexer_skip.j1])
            | succ kj4 =>
              have H := HA.out
              clear HA
              simp only [lex_lexer_skip.j1] at H
              by_cases c9 : x22_4 = true
              · subst c9
                have H1 : (lex_lexer_skip.l0 kj4 s0_0 (wrap64 (x1001_1 + 1))) = some (r1, r2) := by rw [if_pos rfl] at H; exact H
                clear H
                have H := H1
                clear H1
                have H' := Aside0.mk H
                clear H
                obtain ⟨HGz10, hgz10⟩ := HI0.out
                have hcz10_0 := cellS35_0 HGz10
                have hcz10_1 := cellS35_1 HGz10
                have hfz10_0 := blk_frozen HGz10 0
                have hfz10_1 := blk_frozen HGz10 1
                clear HGz10 hgz10
                go_wp2
                repeat (go_quiet (fail); try go_wp2)
                go_roundg kj4
                case measure => have := HK1.out; have := HJ4.out; omega
                case rel => exact ⟨(wrap64 (x1001_1 + 1)), H', ⟨by have := HK1.out; have := HJ4.out; omega⟩, ⟨by repeat (first | (with_reducible first | exact HI0.out | apply IsS35.alloc | apply IsS35.drewN | apply IsS35.drew | apply IsS35.set_0 | apply IsS35.set_1) | exact HI0.out)⟩, ⟨by repeat (first | (with_reducible first | exact HK.out | apply KeepBut.set_ | apply keep_drewN | apply keep_drew | apply keep_alloc) | exact HK.out)⟩, ⟨by repeat (first | (with_reducible first | exact HB.out | apply below_alloc | apply pw_below_drewN | apply below_drew1 | refine below_set ?_ (IsS35.ge HI0.out)) | exact HB.out)⟩⟩
              · replace c9 := Bool.eq_false_iff.mpr c9
                subst c9
                have H1 : (if (bt s0_0 x1001_1) = 35 then (if 0 ≤ x1001_1 then (if x1001_1 ≤ (s0_0.size : Int) then ((strings_IndexByte.f (s0_0.extract (x1001_1 : Int).toNat s0_0.size) 10).bind fun t101 => (if t101 < 0 then (lex_lexer_skip.l0 kj4 s0_0 (wrap64 (x1001_1 + (wrap64 ((s0_0.size : Int) - x1001_1))))) else (lex_lexer_skip.l0 kj4 s0_0 (wrap64 (x1001_1 + t101))))) else (none)) else (none)) else (some (s0_0, x1001_1))) = some (r1, r2) := by rw [if_neg (show ¬ (false = true) by decide)] at H; exact H
                clear H
                have H := H1
                clear H1
                by_cases c11 : (bt s0_0 x1001_1) = 35
                · rw [if_pos c11] at H
                  have c11b0 : ((bt s0_0 x1001_1) == 35) = true := beq_iff_eq.mpr c11
                  have c11b1 : ((bt s0_0 x1001_1) != 35) = false := bne_eq_false_iff_eq.mpr c11
                  clear c11
                  by_cases c12 : 0 ≤ x1001_1
                  · rw [if_pos c12] at H
                    have c12b0 := eq_true c12
                    have c12b1 : decide (0 ≤ x1001_1) = true := decide_eq_true c12
                    clear c12
                    by_cases c13 : x1001_1 ≤ (s0_0.size : Int)
                    · rw [if_pos c13] at H
                      have c13b0 := eq_true c13
                      have c13b1 : decide (x1001_1 ≤ (s0_0.size : Int)) = true := decide_eq_true c13
                      clear c13
                      replace H := Option.bind_eq_some_iff.mp H
                      obtain ⟨t101, A140, H⟩ := H
                      replace H : (if t101 < 0 then (lex_lexer_skip.l0 kj4 s0_0 (wrap64 (x1001_1 + (wrap64 ((s0_0.size : Int) - x1001_1))))) else (lex_lexer_skip.l0 kj4 s0_0 (wrap64 (x1001_1 + t101)))) = some (r1, r2) := H
                      have A14 := Aside0.mk A140
                      clear A140
                      by_cases c15 : t101 < 0
                      · rw [if_pos c15] at H
                        have c15b0 : decide (t101 < 0) = true := decide_eq_true c15
                        clear c15
                        have H' := Aside0.mk H
                        clear H
                        obtain ⟨HGz16, hgz16⟩ := HI0.out
                        have hcz16_0 := cellS35_0 HGz16
                        have hcz16_1 := cellS35_1 HGz16
                        have hfz16_0 := blk_frozen HGz16 0
                        have hfz16_1 := blk_frozen HGz16 1
                        clear HGz16 hgz16
                        go_wp2_with (first | (go_at_call 21; (with_reducible refine (strings_IndexByte.calls (s0_0.extract (x1001_1 : Int).toNat s0_0.size) 10 t101 _ A14.out).mono ?_); rintro e w' ⟨rfl, ⟨nd, rfl⟩⟩; (try first | exact ⟨rfl, _, World.drewN_drewN _ _ _⟩ | exact ⟨rfl, _, Eq.trans (World.drewN_drewN _ _ _) (congrArg (World.drewN _) (Nat.add_assoc _ _ _))⟩)))
                        repeat (go_quiet (first | (go_at_call 21; (with_reducible refine (strings_IndexByte.calls (s0_0.extract (x1001_1 : Int).toNat s0_0.size) 10 t101 _ A14.out).mono ?_); rintro e w' ⟨rfl, ⟨nd, rfl⟩⟩; (try first | exact ⟨rfl, _, World.drewN_drewN _ _ _⟩ | exact ⟨rfl, _, Eq.trans (World.drewN_drewN _ _ _) (congrArg (World.drewN _) (Nat.add_assoc _ _ _))⟩))); try go_wp2_with (first | (go_at_call 21; (with_reducible refine (strings_IndexByte.calls (s0_0.extract (x1001_1 : Int).toNat s0_0.size) 10 t101 _ A14.out).mono ?_); rintro e w' ⟨rfl, ⟨nd, rfl⟩⟩; (try first | exact ⟨rfl, _, World.drewN_drewN _ _ _⟩ | exact ⟨rfl, _, Eq.trans (World.drewN_drewN _ _ _) (congrArg (World.drewN _) (Nat.add_assoc _ _ _))⟩))))
                        go_roundg kj4
                        case measure => have := HK1.out; have := HJ4.out; omega
                        case rel => exact ⟨(wrap64 (x1001_1 + (wrap64 ((s0_0.size : Int) - x1001_1)))), H', ⟨by have := HK1.out; have := HJ4.out; omega⟩, ⟨by repeat (first | (with_reducible first | exact HI0.out | apply IsS35.alloc | apply IsS35.drewN | apply IsS35.drew | apply IsS35.set_0 | apply IsS35.set_1) | exact HI0.out)⟩, ⟨by repeat (first | (with_reducible first | exact HK.out | apply KeepBut.set_ | apply keep_drewN | apply keep_drew | apply keep_alloc) | exact HK.out)⟩, ⟨by repeat (first | (with_reducible first | exact HB.out | apply below_alloc | apply pw_below_drewN | apply below_drew1 | refine below_set ?_ (IsS35.ge HI0.out)) | exact HB.out)⟩⟩
                      · rw [if_neg c15] at H
                        have c15b0 : decide (t101 < 0) = false := decide_eq_false c15
                        clear c15
                        have H' := Aside0.mk H
                        clear H
                        obtain ⟨HGz17, hgz17⟩ := HI0.out
                        have hcz17_0 := cellS35_0 HGz17
                        have hcz17_1 := cellS35_1 HGz17
                        have hfz17_0 := blk_frozen HGz17 0
                        have hfz17_1 := blk_frozen HGz17 1
                        clear HGz17 hgz17
                        go_wp2_with (first | (go_at_call 21; (with_reducible refine (strings_IndexByte.calls (s0_0.extract (x1001_1 : Int).toNat s0_0.size) 10 t101 _ A14.out).mono ?_); rintro e w' ⟨rfl, ⟨nd, rfl⟩⟩; (try first | exact ⟨rfl, _, World.drewN_drewN _ _ _⟩ | exact ⟨rfl, _, Eq.trans (World.drewN_drewN _ _ _) (congrArg (World.drewN _) (Nat.add_assoc _ _ _))⟩)))
                        repeat (go_quiet (first | (go_at_call 21; (with_reducible refine (strings_IndexByte.calls (s0_0.extract (x1001_1 : Int).toNat s0_0.size) 10 t101 _ A14.out).mono ?_); rintro e w' ⟨rfl, ⟨nd, rfl⟩⟩; (try first | exact ⟨rfl, _, World.drewN_drewN _ _ _⟩ | exact ⟨rfl, _, Eq.trans (World.drewN_drewN _ _ _) (congrArg (World.drewN _) (Nat.add_assoc _ _ _))⟩))); try go_wp2_with (first | (go_at_call 21; (with_reducible refine (strings_IndexByte.calls (s0_0.extract (x1001_1 : Int).toNat s0_0.size) 10 t101 _ A14.out).mono ?_); rintro e w' ⟨rfl, ⟨nd, rfl⟩⟩; (try first | exact ⟨rfl, _, World.drewN_drewN _ _ _⟩ | exact ⟨rfl, _, Eq.trans (World.drewN_drewN _ _ _) (congrArg (World.drewN _) (Nat.add_assoc _ _ _))⟩))))
                        go_roundg kj4
                        case measure => have := HK1.out; have := HJ4.out; omega
                        case rel => exact ⟨(wrap64 (x1001_1 + t101)), H', ⟨by have := HK1.out; have := HJ4.out; omega⟩, ⟨by repeat (first | (with_reducible first | exact HI0.out | apply IsS35.alloc | apply IsS35.drewN | apply IsS35.drew | apply IsS35.set_0 | apply IsS35.set_1) | exact HI0.out)⟩, ⟨by repeat (first | (with_reducible first | exact HK.out | apply KeepBut.set_ | apply keep_drewN | apply keep_drew | apply keep_alloc) | exact HK.out)⟩, ⟨by repeat (first | (with_reducible first | exact HB.out | apply below_alloc | apply pw_below_drewN | apply below_drew1 | refine below_set ?_ (IsS35.ge HI0.out)) | exact HB.out)⟩⟩
                    · rw [if_neg c13] at H
                      exact absurd H (by simp)
                  · rw [if_neg c12] at H
                    exact absurd H (by simp)
                · rw [if_neg c11] at H
                  have c11b0 : ((bt s0_0 x1001_1) == 35) = false := beq_eq_false_iff_ne.mpr c11
                  have c11b1 : ((bt s0_0 x1001_1) != 35) = true := bne_iff_ne.mpr c11
                  simp only [Option.some.injEq, Prod.mk.injEq] at H
                  obtain ⟨rfl, rfl⟩ := H
                  go_wp2
                  repeat (go_quiet (fail); try go_wp2)
                  first | go_end0 | ((try simp only [Exit.inBlock, Exit.then]); refine bodyPost_ret (results_none rfl _ _ _) rfl ?_)
                  exact ⟨by first | rfl | (simp [errW_none, errW_some] <;> rfl) | (simp [*, errW_none, errW_some] <;> rfl), by repeat (first | (with_reducible first | exact HI0.out | apply IsS35.alloc | apply IsS35.drewN | apply IsS35.drew | apply IsS35.set_0 | apply IsS35.set_1) | exact HI0.out), by repeat (first | (with_reducible first | exact HB.out | apply below_alloc | apply pw_below_drewN | apply below_drew1 | refine below_set ?_ (IsS35.ge HI0.out)) | exact HB.out), by repeat (first | (with_reducible first | exact HK.out | apply KeepBut.set_ | apply keep_drewN | apply keep_drew | apply keep_alloc) | exact HK.out)⟩
        · rw [if_neg c3] at H
          exact absurd H (by simp)
      · rw [if_neg c2] at H
        have c2b0 : decide (x1001_1 < (s0_0.size : Int)) = false := decide_eq_false c2
        clear c2
        simp only [Option.some.injEq, Prod.mk.injEq] at H
        obtain ⟨rfl, rfl⟩ := H
        obtain ⟨HGz18, hgz18⟩ := HI0.out
        have hcz18_0 := cellS35_0 HGz18
        have hcz18_1 := cellS35_1 HGz18
        have hfz18_0 := blk_frozen HGz18 0
        have hfz18_1 := blk_frozen HGz18 1
        clear HGz18 hgz18
        go_wp2
        repeat (go_quiet (fail); try go_wp2)
        first | go_end0 | ((try simp only [Exit.inBlock, Exit.then]); refine bodyPost_ret (results_none rfl _ _ _) rfl ?_)
        exact ⟨by first | rfl | (simp [errW_none, errW_some] <;> rfl) | (simp [*, errW_none, errW_some] <;> rfl), by repeat (first | (with_reducible first | exact HI0.out | apply IsS35.alloc | apply IsS35.drewN | apply IsS35.drew | apply IsS35.set_0 | apply IsS35.set_1) | exact HI0.out), by repeat (first | (with_reducible first | exact HB.out | apply below_alloc | apply pw_below_drewN | apply below_drew1 | refine below_set ?_ (IsS35.ge HI0.out)) | exact HB.out), by repeat (first | (with_reducible first | exact HK.out | apply KeepBut.set_ | apply keep_drewN | apply keep_drew | apply keep_alloc) | exact HK.out)⟩

/-! ### lex_isDigit: function 22 -/
def lex_isDigit.f (a0 : Int) : Option (Bool) := if 48 ≤ a0 then (some (decide (a0 ≤ 57))) else (some false)
set_option maxHeartbeats 8000000 in
set_option maxRecDepth 100000 in
theorem lex_isDigit.calls (a0 : Int) (r : Bool) (w : World) (h : lex_isDigit.f a0 = some r) :
    Calls Tryd.prog 22 #[.int .u8 a0] w fun e w' => e = .returned (.bool r) ∧ Drawn0 w w' := by
  have H : (if 48 ≤ a0 then (some (decide (a0 ≤ 57))) else (some false)) = some r := h
  clear h
  by_cases c2 : 48 ≤ a0
  · rw [if_pos c2] at H
    have c2b0 : decide (48 ≤ a0) = true := decide_eq_true c2
    clear c2
    obtain rfl := Option.some.inj H
    go_enter Tryd.func22, Tryd.ntmps22
    go_wp2
    go_ret
    exact ⟨by first | rfl | (simp; done) | (simp [*]; done), by repeat (first | exact Drawn0.refl _ | apply Drawn0.step)⟩
  · rw [if_neg c2] at H
    have c2b0 : decide (48 ≤ a0) = false := decide_eq_false c2
    clear c2
    obtain rfl := Option.some.inj H
    go_enter Tryd.func22, Tryd.ntmps22
    go_wp2
    go_ret
    exact ⟨by first | rfl | (simp; done) | (simp [*]; done), by repeat (first | exact Drawn0.refl _ | apply Drawn0.step)⟩

/-! ### lex_isLetter: function 24 -/
def lex_isLetter.f (a0 : Int) : Option (Bool) := if 97 ≤ a0 then (if a0 ≤ 122 then (some true) else (if 65 ≤ a0 then (if a0 ≤ 90 then (some true) else (some (a0 == 95))) else (some (a0 == 95)))) else (if 65 ≤ a0 then (if a0 ≤ 90 then (some true) else (some (a0 == 95))) else (some (a0 == 95)))
set_option maxHeartbeats 8000000 in
set_option maxRecDepth 100000 in
theorem lex_isLetter.calls (a0 : Int) (r : Bool) (w : World) (h : lex_isLetter.f a0 = some r) :
    Calls Tryd.prog 24 #[.int .u8 a0] w fun e w' => e = .returned (.bool r) ∧ Drawn0 w w' := by
  have H : (if 97 ≤ a0 then (if a0 ≤ 122 then (some true) else (if 65 ≤ a0 then (if a0 ≤ 90 then (some true) else (some (a0 == 95))) else (some (a0 == 95)))) else (if 65 ≤ a0 then (if a0 ≤ 90 then (some true) else (some (a0 == 95))) else (some (a0 == 95)))) = some r := h
  clear h
  by_cases c2 : 97 ≤ a0
  · rw [if_pos c2] at H
    have c2b0 : decide (97 ≤ a0) = true := decide_eq_true c2
    clear c2
    by_cases c3 : a0 ≤ 122
    · rw [if_pos c3] at H
      have c3b0 : decide (a0 ≤ 122) = true := decide_eq_true c3
      clear c3
      obtain rfl := Option.some.inj H
      go_enter Tryd.func24, Tryd.ntmps24
      go_wp2
      go_ret
      exact ⟨by first | rfl | (simp; done) | (simp [*]; done), by repeat (first | exact Drawn0.refl _ | apply Drawn0.step)⟩
    · rw [if_neg c3] at H
      have c3b0 : decide (a0 ≤ 122) = false := decide_eq_false c3
      clear c3
      by_cases c4 : 65 ≤ a0
      · rw [if_pos c4] at H
        have c4b0 : decide (65 ≤ a0) = true := decide_eq_true c4
        clear c4
        by_cases c5 : a0 ≤ 90
        · rw [if_pos c5] at H
          have c5b0 : decide (a0 ≤ 90) = true := decide_eq_true c5
          clear c5
          obtain rfl := Option.some.inj H
          go_enter Tryd.func24, Tryd.ntmps24
          go_wp2
          go_ret
          exact ⟨by first | rfl | (simp; done) | (simp [*]; done), by repeat (first | exact Drawn0.refl _ | apply Drawn0.step)⟩
        · rw [if_neg c5] at H
          have c5b0 : decide (a0 ≤ 90) = false := decide_eq_false c5
          clear c5
          obtain rfl := Option.some.inj H
          go_enter Tryd.func24, Tryd.ntmps24
          go_wp2
          go_ret
          exact ⟨by first | rfl | (simp; done) | (simp [*]; done), by repeat (first | exact Drawn0.refl _ | apply Drawn0.step)⟩
      · rw [if_neg c4] at H
        have c4b0 : decide (65 ≤ a0) = false := decide_eq_false c4
        clear c4
        obtain rfl := Option.some.inj H
        go_enter Tryd.func24, Tryd.ntmps24
        go_wp2
        go_ret
        exact ⟨by first | rfl | (simp; done) | (simp [*]; done), by repeat (first | exact Drawn0.refl _ | apply Drawn0.step)⟩
  · rw [if_neg c2] at H
    have c2b0 : decide (97 ≤ a0) = false := decide_eq_false c2
    clear c2
    by_cases c6 : 65 ≤ a0
    · rw [if_pos c6] at H
      have c6b0 : decide (65 ≤ a0) = true := decide_eq_true c6
      clear c6
      by_cases c7 : a0 ≤ 90
      · rw [if_pos c7] at H
        have c7b0 : decide (a0 ≤ 90) = true := decide_eq_true c7
        clear c7
        obtain rfl := Option.some.inj H
        go_enter Tryd.func24, Tryd.ntmps24
        go_wp2
        go_ret
        exact ⟨by first | rfl | (simp; done) | (simp [*]; done), by repeat (first | exact Drawn0.refl _ | apply Drawn0.step)⟩
      · rw [if_neg c7] at H
        have c7b0 : decide (a0 ≤ 90) = false := decide_eq_false c7
        clear c7
        obtain rfl := Option.some.inj H
        go_enter Tryd.func24, Tryd.ntmps24
        go_wp2
        go_ret
        exact ⟨by first | rfl | (simp; done) | (simp [*]; done), by repeat (first | exact Drawn0.refl _ | apply Drawn0.step)⟩
    · rw [if_neg c6] at H
      have c6b0 : decide (65 ≤ a0) = false := decide_eq_false c6
      clear c6
      obtain rfl := Option.some.inj H
      go_enter Tryd.func24, Tryd.ntmps24
      go_wp2
      go_ret
      exact ⟨by first | rfl | (simp; done) | (simp [*]; done), by repeat (first | exact Drawn0.refl _ | apply Drawn0.step)⟩

/-! ### lex_lexer_number: function 23: proved by hand -/
/-- the end of a run of bytes of which p holds, from i on (n: at most so many) -/
def runEnd (p : Int → Bool) (s : ByteArray) : Nat → Int → Int
  | 0, i => i
  | n + 1, i => if i < (s.size : Int) ∧ p (bt s i) = true then runEnd p s n (i + 1) else i
def runE (p : Int → Bool) (s : ByteArray) (i : Int) : Int := runEnd p s (s.size - i.toNat) i
def lexD (c : Int) : Bool := decide (48 ≤ c) && decide (c ≤ 57)
def lexL (c : Int) : Bool := (decide (97 ≤ c) && decide (c ≤ 122)) || (decide (65 ≤ c) && decide (c ≤ 90)) || (c == 95)
def numOut (s t : ByteArray) (e : Int) : Lib.NumEnd Int → Option (Int × ByteArray × Int × Int × ByteArray × Int)
  | .ok v => if v > 4611686018427387904 then some (1, t, 0, 2, s, e) else if e < (s.size : Int) then (if lexL (bt s e) = true then some (1, t, 0, 18, s, e) else some (1, t, 0, 0, s, e)) else some (1, t, 0, 0, s, e)
  | .range => some (1, t, 0, 2, s, e)
  | _ => none
def lex_lexer_number.f (s : ByteArray) (i : Int) : Option (Int × ByteArray × Int × Int × ByteArray × Int) :=
  if 0 ≤ i ∧ i ≤ (s.size : Int) ∧ s.size ≤ 140737488355328 then numOut s (s.extract i.toNat (runE lexD s i).toNat) (runE lexD s i) (Lib.atoiAll (s.extract i.toNat (runE lexD s i).toNat).data.toList) else none
theorem runEnd_ge (p : Int → Bool) (s : ByteArray) : ∀ n i, i ≤ runEnd p s n i
  | 0, i => by simp [runEnd]
  | n + 1, i => by
    unfold runEnd
    split
    · have := runEnd_ge p s n (i + 1); omega
    · omega
theorem runEnd_le (p : Int → Bool) (s : ByteArray) : ∀ n i, i ≤ (s.size : Int) → runEnd p s n i ≤ s.size
  | 0, i, h => by simpa [runEnd] using h
  | n + 1, i, h => by
    unfold runEnd
    split
    · exact runEnd_le p s n (i + 1) (by omega)
    · exact h
theorem runE_step (p : Int → Bool) (s : ByteArray) (i : Int) (h0 : 0 ≤ i) (h1 : i < (s.size : Int)) (hp : p (bt s i) = true) : runE p s (i + 1) = runE p s i := by
  unfold runE
  rw [show s.size - i.toNat = (s.size - (i + 1).toNat) + 1 by omega]
  conv => rhs; unfold runEnd
  rw [if_pos ⟨h1, hp⟩]
theorem runE_stop (p : Int → Bool) (s : ByteArray) (i : Int) (hp : ¬ (i < (s.size : Int) ∧ p (bt s i) = true)) : runE p s i = i := by
  unfold runE
  cases s.size - i.toNat with
  | zero => rfl
  | succ n => unfold runEnd; rw [if_neg hp]
set_option maxHeartbeats 8000000 in
set_option maxRecDepth 100000 in
theorem lex_run.calls (gf : Nat) (eg : ∀ args w, (callFunc gf args).run Tryd.prog w = .ok (.enter gf args) w) (p : Int → Bool) (hp : ∀ (c : Int) (W : World), Calls Tryd.prog gf (#[.int .u8 c] ++ #[]) W fun e w' => e = .returned (.bool (p c)) ∧ Drawn0 W w') (g : Nat) (s : ByteArray) (i : Int) (w0 w : World) (hI : IsS35 w0 w g s i) (hB : Below w0.heap.size w0 w) (h0 : 0 ≤ i) (h1 : i ≤ (s.size : Int)) (h2 : s.size ≤ 140737488355328) :
    Calls Tryd.prog 34 #[.pointer (some ⟨g, 0, none⟩), .func (.func gf) #[] #[]] w fun e w' => e = .returned (.string (s.extract i.toNat (runE p s i).toNat)) ∧ IsS35 w0 w' g s (runE p s i) ∧ Below w0.heap.size w0 w' ∧ KeepBut w w' g none := by
  have HI0 := Aside0.mk hI
  have HK := Aside0.mk (KeepBut.refl w g none)
  clear hI
  have HB := Aside0.mk hB
  clear hB
  have h2' : (s.size : Int) ≤ 140737488355328 := by omega
  obtain ⟨HGz6, hgz6⟩ := HI0.out
  have hcz6_0 := cellS35_0 HGz6
  have hcz6_1 := cellS35_1 HGz6
  clear HGz6 hgz6
  go_enter Tryd.func34, Tryd.ntmps34
  go_wp2
  clear hcz6_0 hcz6_1
  go_loopg [] (s.size - i.toNat) (fun kq w' => ∃ x : Int, Aside0 (0 ≤ x ∧ i ≤ x ∧ x ≤ (s.size : Int)) ∧ Aside0 (s.size - x.toNat ≤ kq) ∧ Aside0 (runE p s x = runE p s i) ∧ Aside0 (IsS35 w0 w' g s x) ∧ Aside0 (KeepBut w w' g none) ∧ Aside0 (Below w0.heap.size w0 w'))
  case atStart => exact ⟨i, ⟨h0, Int.le_refl _, h1⟩, ⟨Nat.le_refl _⟩, ⟨rfl⟩, HI0, HK, HB⟩
  case round =>
    clear HI0 HK HB
    obtain ⟨x, HX, HM, HE, HI0, HK, HB⟩ := hrel
    obtain ⟨hx0, hx1, hx2⟩ := HX.out
    obtain ⟨HGz6, hgz6⟩ := HI0.out
    have hcz6_0 := cellS35_0 HGz6
    have hcz6_1 := cellS35_1 HGz6
    have hfz6_1 := blk_frozen HGz6 1
    clear HGz6 hgz6
    by_cases hlt : x < (s.size : Int)
    · have c2b0 : decide (x < (s.size : Int)) = true := decide_eq_true hlt
      have p4 : (0 ≤ x) = True := eq_true hx0
      have q4 : (x < (s.size : Int)) = True := eq_true hlt
      have hx4 := bt_at s x
      have hcall := hp (bt s x)
      have HLT := Aside0.mk hlt
      cases gk with
      | zero => exact absurd HM.out (by omega)
      | succ k1 =>
        cases hq : p (bt s x) with
        | true =>
          rw [hq] at hcall
          have HE2 := Aside0.mk ((runE_step p s x hx0 hlt hq).trans HE.out)
          clear hq hlt hp
          go_wp2
          go_quiet ((go_at_fn gf; refine (hcall _).mono ?_; rintro e w' ⟨rfl, ⟨nd, rfl⟩⟩; first | exact ⟨rfl, _, World.drewN_drewN _ _ _⟩ | exact ⟨rfl, _, rfl⟩))
          go_wp2
          go_roundg k1
          case measure => have := HM.out; omega
          case rel => exact ⟨x + 1, ⟨by omega, by omega, by have := HLT.out; omega⟩, ⟨by have := HM.out; omega⟩, HE2, ⟨(by repeat (first | (with_reducible first | exact HI0.out | apply IsS35.alloc | apply IsS35.drewN | apply IsS35.drew | apply IsS35.set_0 | apply IsS35.set_1) | exact HI0.out))⟩, ⟨(by repeat (first | (with_reducible first | exact HK.out | apply KeepBut.set_ | apply keep_drewN | apply keep_drew | apply keep_alloc) | exact HK.out))⟩, ⟨(by repeat (first | (with_reducible first | exact HB.out | apply below_alloc | apply pw_below_drewN | apply below_drew1 | refine below_set ?_ (IsS35.ge HI0.out)) | exact HB.out))⟩⟩
        | false =>
          rw [hq] at hcall
          have HE2 : Aside0 (runE p s i = x) := ⟨HE.out.symm.trans (runE_stop p s x (by rw [hq]; simp))⟩
          clear hq hlt hp
          go_wp2
          go_quiet ((go_at_fn gf; refine (hcall _).mono ?_; rintro e w' ⟨rfl, ⟨nd, rfl⟩⟩; first | exact ⟨rfl, _, World.drewN_drewN _ _ _⟩ | exact ⟨rfl, _, rfl⟩))
          go_wp2
          have h0' : (0 ≤ i) = True := eq_true h0
          have h1' : (i ≤ x) = True := eq_true hx1
          have h2'' : (x ≤ (s.size : Int)) = True := eq_true hx2
          repeat (go_quiet (fail); try go_wp2)
          go_ret
          rw [HE2.out]
          exact ⟨rfl, (by repeat (first | (with_reducible first | exact HI0.out | apply IsS35.alloc | apply IsS35.drewN | apply IsS35.drew | apply IsS35.set_0 | apply IsS35.set_1) | exact HI0.out)), (by repeat (first | (with_reducible first | exact HB.out | apply below_alloc | apply pw_below_drewN | apply below_drew1 | refine below_set ?_ (IsS35.ge HI0.out)) | exact HB.out)), (by repeat (first | (with_reducible first | exact HK.out | apply KeepBut.set_ | apply keep_drewN | apply keep_drew | apply keep_alloc) | exact HK.out))⟩
    · have c2b0 : decide (x < (s.size : Int)) = false := decide_eq_false hlt
      have HE2 : Aside0 (runE p s i = x) := ⟨HE.out.symm.trans (runE_stop p s x (by omega))⟩
      clear hlt hp
      go_wp2
      go_quiet (fail)
      go_wp2
      have h0' : (0 ≤ i) = True := eq_true h0
      have h1' : (i ≤ x) = True := eq_true hx1
      have h2'' : (x ≤ (s.size : Int)) = True := eq_true hx2
      repeat (go_quiet (fail); try go_wp2)
      go_ret
      rw [HE2.out]
      exact ⟨rfl, (by repeat (first | (with_reducible first | exact HI0.out | apply IsS35.alloc | apply IsS35.drewN | apply IsS35.drew | apply IsS35.set_0 | apply IsS35.set_1) | exact HI0.out)), (by repeat (first | (with_reducible first | exact HB.out | apply below_alloc | apply pw_below_drewN | apply below_drew1 | refine below_set ?_ (IsS35.ge HI0.out)) | exact HB.out)), (by repeat (first | (with_reducible first | exact HK.out | apply KeepBut.set_ | apply keep_drewN | apply keep_drew | apply keep_alloc) | exact HK.out))⟩

theorem enters22 : ∀ args w, (callFunc 22 args).run Tryd.prog w = .ok (.enter 22 args) w := enters_of Tryd.func22 rfl rfl
theorem enters36 : ∀ args w, (callFunc 36 args).run Tryd.prog w = .ok (.enter 36 args) w := enters_of Tryd.func36 rfl rfl
theorem isDigit_f (c : Int) : lex_isDigit.f c = some (lexD c) := by
  unfold lex_isDigit.f lexD
  split <;> rename_i h <;> simp [h]
theorem isLetter_f (c : Int) : lex_isLetter.f c = some (lexL c) := by
  unfold lex_isLetter.f lexL
  repeat' split
  all_goals simp [*]
  all_goals omega
theorem digit_calls (c : Int) (W : World) : Calls Tryd.prog 22 (#[.int .u8 c] ++ #[]) W fun e w' => e = .returned (.bool (lexD c)) ∧ Drawn0 W w' := lex_isDigit.calls c _ W (isDigit_f c)
theorem letter_calls (c : Int) (W : World) : Calls Tryd.prog 24 #[.int .u8 c] W fun e w' => e = .returned (.bool (lexL c)) ∧ Drawn0 W w' := lex_isLetter.calls c _ W (isLetter_f c)
theorem runD_calls (g : Nat) (s : ByteArray) (i : Int) (w0 w : World) (hI : IsS35 w0 w g s i) (hB : Below w0.heap.size w0 w) (h0 : 0 ≤ i) (h1 : i ≤ (s.size : Int)) (h2 : s.size ≤ 140737488355328) :
    Calls Tryd.prog 34 #[.pointer (some ⟨g, 0, none⟩), .func (.func 22) #[] #[]] w fun e w' => e = .returned (.string (s.extract i.toNat (runE lexD s i).toNat)) ∧ IsS35 w0 w' g s (runE lexD s i) ∧ Below w0.heap.size w0 w' ∧ KeepBut w w' g none :=
  lex_run.calls 22 enters22 lexD digit_calls g s i w0 w hI hB h0 h1 h2
theorem atoi_ok (t : ByteArray) (hs : t.size ≤ 140737488355328) (v : Int) (h : Lib.atoiAll t.data.toList = .ok v) (w : World) :
    Calls Tryd.prog 35 #[.string t] w fun e w' => e = .returned (.tuple #[.int .i64 v, .nilIface]) ∧ Below w.heap.size w w' := by
  refine (Tryd.strconv_Atoi_ok t (by omega) v h w).mono ?_
  rintro e w' ⟨rfl, rfl | ⟨n, rfl⟩⟩
  · exact ⟨rfl, Below.refl _ _⟩
  · exact ⟨rfl, Lib.bytesWorld_below _ _ _⟩
theorem atoi_range (t : ByteArray) (hs : t.size ≤ 140737488355328) (h : Lib.atoiAll t.data.toList = .range) (w : World) (hG : GV w) :
    Calls Tryd.prog 35 #[.string t] w fun e w' => ∃ N : Nat, e = .returned (.tuple #[.int .i64 (Lib.atoiSat t.data.toList), .iface 68 (.pointer (some ⟨N, 0, none⟩))]) ∧ Below w.heap.size w w' := by
  obtain ⟨te, pe, hc⟩ := hG
  refine (Tryd.strconv_Atoi_range t (by omega) h _ w hc (.inr ⟨te, pe, rfl⟩)).mono ?_
  rintro e w' ⟨N, rfl, _, _, hb⟩
  exact ⟨N, rfl, hb⟩

set_option maxHeartbeats 8000000 in
set_option maxRecDepth 100000 in
theorem number_walk (er : Value) (v : Int) (r4 : Int) (g : Nat) (s : ByteArray) (i : Int) (w0 w : World) (hI : IsS35 w0 w g s i) (hB : Below w0.heap.size w0 w) (h0 : 0 ≤ i) (h1 : i ≤ (s.size : Int)) (h2 : s.size ≤ 140737488355328)
    (hA : ∀ W, Below w0.heap.size w0 W → Calls Tryd.prog 35 #[.string (s.extract i.toNat (runE lexD s i).toNat)] W fun e w' => e = .returned (.tuple #[.int .i64 v, er]) ∧ Below W.heap.size W w')
    (hC : (er = .nilIface ∧ (decide (4611686018427387904 < v) = true ∧ r4 = 2 ∨ decide (4611686018427387904 < v) = false ∧ (decide (runE lexD s i < (s.size : Int)) = true ∧ (lexL (bt s (runE lexD s i)) = true ∧ r4 = 18 ∨ lexL (bt s (runE lexD s i)) = false ∧ r4 = 0) ∨ decide (runE lexD s i < (s.size : Int)) = false ∧ r4 = 0))) ∨ False) :
    Calls Tryd.prog 23 #[.pointer (some ⟨g, 0, none⟩)] w fun e w' => e = .returned (.tuple #[.agg #[.int .i64 1, .string (s.extract i.toNat (runE lexD s i).toNat), .int .i64 0], .int .i64 r4]) ∧ IsS35 w0 w' g s (runE lexD s i) ∧ Below w0.heap.size w0 w' ∧ KeepBut w w' g none := by
  have HI0 := Aside0.mk hI
  have HK := Aside0.mk (KeepBut.refl w g none)
  have HB := Aside0.mk hB
  have HL := Aside0.mk hB.size
  have HE0 : Aside0 (0 ≤ runE lexD s i) := ⟨Int.le_trans h0 (runEnd_ge _ _ _ _)⟩
  have HE1 : Aside0 (runE lexD s i ≤ (s.size : Int)) := ⟨runEnd_le _ _ _ _ h1⟩
  have hrun := fun W hI hB => runD_calls g s i w0 W hI hB h0 h1 h2
  clear hI hB
  generalize runE lexD s i = E at *
  generalize ht : s.extract i.toNat E.toNat = t at *
  clear ht
  rcases hC with ⟨rfl, ⟨hv, rfl⟩ | ⟨hv, ⟨he, ⟨hl, rfl⟩ | ⟨hl, rfl⟩⟩ | ⟨he, rfl⟩⟩⟩ | hC
  · go_enter Tryd.func23, Tryd.ntmps23
    go_wp2_with (first
      | ((with_reducible refine gate_dst (N := 2) rfl ?_); refine box_event ?hg (N := 2) ?hd (cs := #[.int .i64 0, .string (⟨#[]⟩ : ByteArray), .int .i64 0]) (t := 30) ?hr ?_; (case hd => rfl); (case hg => rfl); (case hr => first | (go_simp; done) | (go_simp; rfl)); intro g2 hg2 W1 hbox2 hb1; have BK2 := Aside0.mk hbox2; have NE2 : Aside0 (g2 ≠ g) := ⟨by have := HI0.out.lt; omega⟩; have GE2 : Aside0 (w.heap.size ≤ g2) := ⟨by omega⟩; have HI1 := Aside0.mk (HI0.out.below hb1); have HB1 := Aside0.mk (below_step HB.out hb1); have HK1 := Aside0.mk (HK.out.trans (KeepBut.of_below hb1 g none) (.inl rfl)); clear hbox2 hb1 hg2)
      | (go_at_call 34; (refine (hrun _ HI1.out HB1.out).mono ?_); rintro e W2 ⟨rfl, hI2, hB2, hK2⟩; have HI2 := Aside0.mk hI2; have HB2 := Aside0.mk hB2; have HK2 := Aside0.mk (HK1.out.trans hK2 (.inl rfl)); have BK2' := Aside0.mk (hK2.blk BK2.out NE2.out (by simp)); clear hI2 hB2 hK2)
      | ((with_reducible refine gate_dst (N := 4) rfl ?_); refine box_event ?hg (N := 4) ?hd (cs := #[.int .i64 0, .string (⟨#[]⟩ : ByteArray), .int .i64 0]) (t := 30) ?hr ?_; (case hd => rfl); (case hg => rfl); (case hr => first | (go_simp; done) | (go_simp; rfl)); intro g4 hg4 W3 hbox4 hb3; have BK4 := Aside0.mk hbox4; have NE4 : Aside0 (g ≠ g4) := ⟨by have := HI2.out.lt; omega⟩; have NE24 : Aside0 (g2 ≠ g4) := ⟨by have := blk_lt BK2'.out; omega⟩; have GE4 : Aside0 (w.heap.size ≤ g4) := ⟨by have := HK2.out.1; omega⟩; have HI3 := Aside0.mk (HI2.out.below hb3); have HB3 := Aside0.mk (below_step HB2.out hb3); have HK3 := Aside0.mk (HK2.out.trans (KeepBut.of_below hb3 g none) (.inl rfl)); have BK23 := Aside0.mk (blk_below BK2'.out hb3); have hc40 := blk_cell BK4.out 0; have hc41 := blk_cell BK4.out 1; have hc42 := blk_cell BK4.out 2; have hf40 := blk_frozen BK4.out 0; have hf41 := blk_frozen BK4.out 1; have hf42 := blk_frozen BK4.out 2; clear hbox4 hb3 hg4)
      | (go_at_call 35; ((refine (hA _ ?hb0).mono ?_)); (case hb0 => exact below_set (below_set (below_set HB3.out (Nat.le_trans HL.out GE4.out)) (Nat.le_trans HL.out GE4.out)) (Nat.le_trans HL.out GE4.out)); rintro e W4 ⟨rfl, hb4⟩; have BK4d := Aside0.mk (blk_below (blk_put (cs' := #[.int .i64 1, .string t, .int .i64 0]) (blk_put (cs' := #[.int .i64 1, .string t, .int .i64 0]) (blk_put (cs' := #[.int .i64 1, .string (⟨#[]⟩ : ByteArray), .int .i64 0]) BK4.out 0 _ rfl) 1 _ rfl) 2 _ rfl) hb4); have BK2d := Aside0.mk (blk_below (blk_far (blk_far (blk_far BK23.out (p := ⟨g4, 0, none⟩) NE24.out _) (p := ⟨g4, 1, none⟩) NE24.out _) (p := ⟨g4, 2, none⟩) NE24.out _) hb4); have HI4 := Aside0.mk ((((HI3.out.far (p := ⟨g4, 0, none⟩) NE4.out _).far (p := ⟨g4, 1, none⟩) NE4.out _).far (p := ⟨g4, 2, none⟩) NE4.out _).below hb4); have HB4 := Aside0.mk (below_step (below_set (below_set (below_set HB3.out (Nat.le_trans HL.out GE4.out)) (Nat.le_trans HL.out GE4.out)) (Nat.le_trans HL.out GE4.out)) hb4); have HK4 := Aside0.mk ((keep_far (keep_far (keep_far HK3.out (p := ⟨g4, 0, none⟩) GE4.out _) (p := ⟨g4, 1, none⟩) GE4.out _) (p := ⟨g4, 2, none⟩) GE4.out _).trans (KeepBut.of_below hb4 g none) (.inl rfl)); clear hc40 hc41 hc42 hf40 hf41 hf42 hb4; have hc40 := (blk_cell BK4d.out 0).trans rfl; have hc41 := (blk_cell BK4d.out 1).trans rfl; have hc42 := (blk_cell BK4d.out 2).trans rfl; have hc20 := (blk_cell BK2d.out 0).trans rfl; have hc21 := (blk_cell BK2d.out 1).trans rfl; have hc22 := (blk_cell BK2d.out 2).trans rfl; have hf20 := blk_frozen BK2d.out 0; have hf21 := blk_frozen BK2d.out 1; have hf22 := blk_frozen BK2d.out 2; obtain ⟨HGz6, hgz6⟩ := HI4.out; have hcz6_0 := cellS35_0 HGz6; have hcz6_1 := cellS35_1 HGz6; clear HGz6 hgz6))
    refine bodyPost_ret (results_ct rfl _ _ g2 30 #[.int .i64 1, .string t, .int .i64 0] (0, 0) _ rfl (by (with_reducible repeat (first | refine blk_drewN ?_ _ | refine blk_drew ?_)); refine blk_put (cs := #[.int .i64 1, .string t, .int .i64 0]) ?_ 2 _ rfl; (with_reducible repeat (first | refine blk_drewN ?_ _ | refine blk_drew ?_)); refine blk_put (cs := #[.int .i64 1, .string (⟨#[]⟩ : ByteArray), .int .i64 0]) ?_ 1 _ rfl; (with_reducible repeat (first | refine blk_drewN ?_ _ | refine blk_drew ?_)); refine blk_put (cs := #[.int .i64 0, .string (⟨#[]⟩ : ByteArray), .int .i64 0]) ?_ 0 _ rfl; (with_reducible repeat (first | refine blk_drewN ?_ _ | refine blk_drew ?_)); exact BK2d.out) Tryd.underlying30 rfl (by kernel_rfl)) rfl ?_
    first
    | exact ⟨rfl, ((HI4.out.far (p := ⟨g2, 0, none⟩) NE2.out.symm _).far (p := ⟨g2, 1, none⟩) NE2.out.symm _).far (p := ⟨g2, 2, none⟩) NE2.out.symm _, below_set (below_set (below_set HB4.out (Nat.le_trans HL.out GE2.out)) (Nat.le_trans HL.out GE2.out)) (Nat.le_trans HL.out GE2.out), keep_far (keep_far (keep_far HK4.out (p := ⟨g2, 0, none⟩) GE2.out _) (p := ⟨g2, 1, none⟩) GE2.out _) (p := ⟨g2, 2, none⟩) GE2.out _⟩
    | exact ⟨rfl, (((HI4.out.drewN _).far (p := ⟨g2, 0, none⟩) NE2.out.symm _).far (p := ⟨g2, 1, none⟩) NE2.out.symm _).far (p := ⟨g2, 2, none⟩) NE2.out.symm _, below_set (below_set (below_set (pw_below_drewN HB4.out _) (Nat.le_trans HL.out GE2.out)) (Nat.le_trans HL.out GE2.out)) (Nat.le_trans HL.out GE2.out), keep_far (keep_far (keep_far (keep_drewN HK4.out _) (p := ⟨g2, 0, none⟩) GE2.out _) (p := ⟨g2, 1, none⟩) GE2.out _) (p := ⟨g2, 2, none⟩) GE2.out _⟩
  · have hcall := letter_calls (bt s E)
    rw [hl] at hcall
    have hE : (E < (s.size : Int)) = True := eq_true (of_decide_eq_true he)
    have hE0 : (0 ≤ E) = True := eq_true HE0.out
    have hx4 := bt_at s E
    go_enter Tryd.func23, Tryd.ntmps23
    go_wp2_with (first
      | ((with_reducible refine gate_dst (N := 2) rfl ?_); refine box_event ?hg (N := 2) ?hd (cs := #[.int .i64 0, .string (⟨#[]⟩ : ByteArray), .int .i64 0]) (t := 30) ?hr ?_; (case hd => rfl); (case hg => rfl); (case hr => first | (go_simp; done) | (go_simp; rfl)); intro g2 hg2 W1 hbox2 hb1; have BK2 := Aside0.mk hbox2; have NE2 : Aside0 (g2 ≠ g) := ⟨by have := HI0.out.lt; omega⟩; have GE2 : Aside0 (w.heap.size ≤ g2) := ⟨by omega⟩; have HI1 := Aside0.mk (HI0.out.below hb1); have HB1 := Aside0.mk (below_step HB.out hb1); have HK1 := Aside0.mk (HK.out.trans (KeepBut.of_below hb1 g none) (.inl rfl)); clear hbox2 hb1 hg2)
      | (go_at_call 34; (refine (hrun _ HI1.out HB1.out).mono ?_); rintro e W2 ⟨rfl, hI2, hB2, hK2⟩; have HI2 := Aside0.mk hI2; have HB2 := Aside0.mk hB2; have HK2 := Aside0.mk (HK1.out.trans hK2 (.inl rfl)); have BK2' := Aside0.mk (hK2.blk BK2.out NE2.out (by simp)); clear hI2 hB2 hK2)
      | ((with_reducible refine gate_dst (N := 4) rfl ?_); refine box_event ?hg (N := 4) ?hd (cs := #[.int .i64 0, .string (⟨#[]⟩ : ByteArray), .int .i64 0]) (t := 30) ?hr ?_; (case hd => rfl); (case hg => rfl); (case hr => first | (go_simp; done) | (go_simp; rfl)); intro g4 hg4 W3 hbox4 hb3; have BK4 := Aside0.mk hbox4; have NE4 : Aside0 (g ≠ g4) := ⟨by have := HI2.out.lt; omega⟩; have NE24 : Aside0 (g2 ≠ g4) := ⟨by have := blk_lt BK2'.out; omega⟩; have GE4 : Aside0 (w.heap.size ≤ g4) := ⟨by have := HK2.out.1; omega⟩; have HI3 := Aside0.mk (HI2.out.below hb3); have HB3 := Aside0.mk (below_step HB2.out hb3); have HK3 := Aside0.mk (HK2.out.trans (KeepBut.of_below hb3 g none) (.inl rfl)); have BK23 := Aside0.mk (blk_below BK2'.out hb3); have hc40 := blk_cell BK4.out 0; have hc41 := blk_cell BK4.out 1; have hc42 := blk_cell BK4.out 2; have hf40 := blk_frozen BK4.out 0; have hf41 := blk_frozen BK4.out 1; have hf42 := blk_frozen BK4.out 2; clear hbox4 hb3 hg4)
      | (go_at_call 35; ((refine (hA _ ?hb0).mono ?_)); (case hb0 => exact below_set (below_set (below_set HB3.out (Nat.le_trans HL.out GE4.out)) (Nat.le_trans HL.out GE4.out)) (Nat.le_trans HL.out GE4.out)); rintro e W4 ⟨rfl, hb4⟩; have BK4d := Aside0.mk (blk_below (blk_put (cs' := #[.int .i64 1, .string t, .int .i64 0]) (blk_put (cs' := #[.int .i64 1, .string t, .int .i64 0]) (blk_put (cs' := #[.int .i64 1, .string (⟨#[]⟩ : ByteArray), .int .i64 0]) BK4.out 0 _ rfl) 1 _ rfl) 2 _ rfl) hb4); have BK2d := Aside0.mk (blk_below (blk_far (blk_far (blk_far BK23.out (p := ⟨g4, 0, none⟩) NE24.out _) (p := ⟨g4, 1, none⟩) NE24.out _) (p := ⟨g4, 2, none⟩) NE24.out _) hb4); have HI4 := Aside0.mk ((((HI3.out.far (p := ⟨g4, 0, none⟩) NE4.out _).far (p := ⟨g4, 1, none⟩) NE4.out _).far (p := ⟨g4, 2, none⟩) NE4.out _).below hb4); have HB4 := Aside0.mk (below_step (below_set (below_set (below_set HB3.out (Nat.le_trans HL.out GE4.out)) (Nat.le_trans HL.out GE4.out)) (Nat.le_trans HL.out GE4.out)) hb4); have HK4 := Aside0.mk ((keep_far (keep_far (keep_far HK3.out (p := ⟨g4, 0, none⟩) GE4.out _) (p := ⟨g4, 1, none⟩) GE4.out _) (p := ⟨g4, 2, none⟩) GE4.out _).trans (KeepBut.of_below hb4 g none) (.inl rfl)); clear hc40 hc41 hc42 hf40 hf41 hf42 hb4; have hc40 := (blk_cell BK4d.out 0).trans rfl; have hc41 := (blk_cell BK4d.out 1).trans rfl; have hc42 := (blk_cell BK4d.out 2).trans rfl; have hc20 := (blk_cell BK2d.out 0).trans rfl; have hc21 := (blk_cell BK2d.out 1).trans rfl; have hc22 := (blk_cell BK2d.out 2).trans rfl; have hf20 := blk_frozen BK2d.out 0; have hf21 := blk_frozen BK2d.out 1; have hf22 := blk_frozen BK2d.out 2; obtain ⟨HGz6, hgz6⟩ := HI4.out; have hcz6_0 := cellS35_0 HGz6; have hcz6_1 := cellS35_1 HGz6; clear HGz6 hgz6))
    go_quiet ((go_at_call 24; (refine (hcall _).mono ?_); rintro e w' ⟨rfl, ⟨nd, rfl⟩⟩; first | exact ⟨rfl, _, World.drewN_drewN _ _ _⟩ | exact ⟨rfl, _, rfl⟩))
    go_wp2
    refine bodyPost_ret (results_ct rfl _ _ g2 30 #[.int .i64 1, .string t, .int .i64 0] (0, 0) _ rfl (by (with_reducible repeat (first | refine blk_drewN ?_ _ | refine blk_drew ?_)); refine blk_put (cs := #[.int .i64 1, .string t, .int .i64 0]) ?_ 2 _ rfl; (with_reducible repeat (first | refine blk_drewN ?_ _ | refine blk_drew ?_)); refine blk_put (cs := #[.int .i64 1, .string (⟨#[]⟩ : ByteArray), .int .i64 0]) ?_ 1 _ rfl; (with_reducible repeat (first | refine blk_drewN ?_ _ | refine blk_drew ?_)); refine blk_put (cs := #[.int .i64 0, .string (⟨#[]⟩ : ByteArray), .int .i64 0]) ?_ 0 _ rfl; (with_reducible repeat (first | refine blk_drewN ?_ _ | refine blk_drew ?_)); exact BK2d.out) Tryd.underlying30 rfl (by kernel_rfl)) rfl ?_
    first
    | exact ⟨rfl, ((HI4.out.far (p := ⟨g2, 0, none⟩) NE2.out.symm _).far (p := ⟨g2, 1, none⟩) NE2.out.symm _).far (p := ⟨g2, 2, none⟩) NE2.out.symm _, below_set (below_set (below_set HB4.out (Nat.le_trans HL.out GE2.out)) (Nat.le_trans HL.out GE2.out)) (Nat.le_trans HL.out GE2.out), keep_far (keep_far (keep_far HK4.out (p := ⟨g2, 0, none⟩) GE2.out _) (p := ⟨g2, 1, none⟩) GE2.out _) (p := ⟨g2, 2, none⟩) GE2.out _⟩
    | exact ⟨rfl, (((HI4.out.drewN _).far (p := ⟨g2, 0, none⟩) NE2.out.symm _).far (p := ⟨g2, 1, none⟩) NE2.out.symm _).far (p := ⟨g2, 2, none⟩) NE2.out.symm _, below_set (below_set (below_set (pw_below_drewN HB4.out _) (Nat.le_trans HL.out GE2.out)) (Nat.le_trans HL.out GE2.out)) (Nat.le_trans HL.out GE2.out), keep_far (keep_far (keep_far (keep_drewN HK4.out _) (p := ⟨g2, 0, none⟩) GE2.out _) (p := ⟨g2, 1, none⟩) GE2.out _) (p := ⟨g2, 2, none⟩) GE2.out _⟩
  · have hcall := letter_calls (bt s E)
    rw [hl] at hcall
    have hE : (E < (s.size : Int)) = True := eq_true (of_decide_eq_true he)
    have hE0 : (0 ≤ E) = True := eq_true HE0.out
    have hx4 := bt_at s E
    go_enter Tryd.func23, Tryd.ntmps23
    go_wp2_with (first
      | ((with_reducible refine gate_dst (N := 2) rfl ?_); refine box_event ?hg (N := 2) ?hd (cs := #[.int .i64 0, .string (⟨#[]⟩ : ByteArray), .int .i64 0]) (t := 30) ?hr ?_; (case hd => rfl); (case hg => rfl); (case hr => first | (go_simp; done) | (go_simp; rfl)); intro g2 hg2 W1 hbox2 hb1; have BK2 := Aside0.mk hbox2; have NE2 : Aside0 (g2 ≠ g) := ⟨by have := HI0.out.lt; omega⟩; have GE2 : Aside0 (w.heap.size ≤ g2) := ⟨by omega⟩; have HI1 := Aside0.mk (HI0.out.below hb1); have HB1 := Aside0.mk (below_step HB.out hb1); have HK1 := Aside0.mk (HK.out.trans (KeepBut.of_below hb1 g none) (.inl rfl)); clear hbox2 hb1 hg2)
      | (go_at_call 34; (refine (hrun _ HI1.out HB1.out).mono ?_); rintro e W2 ⟨rfl, hI2, hB2, hK2⟩; have HI2 := Aside0.mk hI2; have HB2 := Aside0.mk hB2; have HK2 := Aside0.mk (HK1.out.trans hK2 (.inl rfl)); have BK2' := Aside0.mk (hK2.blk BK2.out NE2.out (by simp)); clear hI2 hB2 hK2)
      | ((with_reducible refine gate_dst (N := 4) rfl ?_); refine box_event ?hg (N := 4) ?hd (cs := #[.int .i64 0, .string (⟨#[]⟩ : ByteArray), .int .i64 0]) (t := 30) ?hr ?_; (case hd => rfl); (case hg => rfl); (case hr => first | (go_simp; done) | (go_simp; rfl)); intro g4 hg4 W3 hbox4 hb3; have BK4 := Aside0.mk hbox4; have NE4 : Aside0 (g ≠ g4) := ⟨by have := HI2.out.lt; omega⟩; have NE24 : Aside0 (g2 ≠ g4) := ⟨by have := blk_lt BK2'.out; omega⟩; have GE4 : Aside0 (w.heap.size ≤ g4) := ⟨by have := HK2.out.1; omega⟩; have HI3 := Aside0.mk (HI2.out.below hb3); have HB3 := Aside0.mk (below_step HB2.out hb3); have HK3 := Aside0.mk (HK2.out.trans (KeepBut.of_below hb3 g none) (.inl rfl)); have BK23 := Aside0.mk (blk_below BK2'.out hb3); have hc40 := blk_cell BK4.out 0; have hc41 := blk_cell BK4.out 1; have hc42 := blk_cell BK4.out 2; have hf40 := blk_frozen BK4.out 0; have hf41 := blk_frozen BK4.out 1; have hf42 := blk_frozen BK4.out 2; clear hbox4 hb3 hg4)
      | (go_at_call 35; ((refine (hA _ ?hb0).mono ?_)); (case hb0 => exact below_set (below_set (below_set HB3.out (Nat.le_trans HL.out GE4.out)) (Nat.le_trans HL.out GE4.out)) (Nat.le_trans HL.out GE4.out)); rintro e W4 ⟨rfl, hb4⟩; have BK4d := Aside0.mk (blk_below (blk_put (cs' := #[.int .i64 1, .string t, .int .i64 0]) (blk_put (cs' := #[.int .i64 1, .string t, .int .i64 0]) (blk_put (cs' := #[.int .i64 1, .string (⟨#[]⟩ : ByteArray), .int .i64 0]) BK4.out 0 _ rfl) 1 _ rfl) 2 _ rfl) hb4); have BK2d := Aside0.mk (blk_below (blk_far (blk_far (blk_far BK23.out (p := ⟨g4, 0, none⟩) NE24.out _) (p := ⟨g4, 1, none⟩) NE24.out _) (p := ⟨g4, 2, none⟩) NE24.out _) hb4); have HI4 := Aside0.mk ((((HI3.out.far (p := ⟨g4, 0, none⟩) NE4.out _).far (p := ⟨g4, 1, none⟩) NE4.out _).far (p := ⟨g4, 2, none⟩) NE4.out _).below hb4); have HB4 := Aside0.mk (below_step (below_set (below_set (below_set HB3.out (Nat.le_trans HL.out GE4.out)) (Nat.le_trans HL.out GE4.out)) (Nat.le_trans HL.out GE4.out)) hb4); have HK4 := Aside0.mk ((keep_far (keep_far (keep_far HK3.out (p := ⟨g4, 0, none⟩) GE4.out _) (p := ⟨g4, 1, none⟩) GE4.out _) (p := ⟨g4, 2, none⟩) GE4.out _).trans (KeepBut.of_below hb4 g none) (.inl rfl)); clear hc40 hc41 hc42 hf40 hf41 hf42 hb4; have hc40 := (blk_cell BK4d.out 0).trans rfl; have hc41 := (blk_cell BK4d.out 1).trans rfl; have hc42 := (blk_cell BK4d.out 2).trans rfl; have hc20 := (blk_cell BK2d.out 0).trans rfl; have hc21 := (blk_cell BK2d.out 1).trans rfl; have hc22 := (blk_cell BK2d.out 2).trans rfl; have hf20 := blk_frozen BK2d.out 0; have hf21 := blk_frozen BK2d.out 1; have hf22 := blk_frozen BK2d.out 2; obtain ⟨HGz6, hgz6⟩ := HI4.out; have hcz6_0 := cellS35_0 HGz6; have hcz6_1 := cellS35_1 HGz6; clear HGz6 hgz6))
    go_quiet ((go_at_call 24; (refine (hcall _).mono ?_); rintro e w' ⟨rfl, ⟨nd, rfl⟩⟩; first | exact ⟨rfl, _, World.drewN_drewN _ _ _⟩ | exact ⟨rfl, _, rfl⟩))
    go_wp2
    refine bodyPost_ret (results_ct rfl _ _ g2 30 #[.int .i64 1, .string t, .int .i64 0] (0, 0) _ rfl (by (with_reducible repeat (first | refine blk_drewN ?_ _ | refine blk_drew ?_)); refine blk_put (cs := #[.int .i64 1, .string t, .int .i64 0]) ?_ 2 _ rfl; (with_reducible repeat (first | refine blk_drewN ?_ _ | refine blk_drew ?_)); refine blk_put (cs := #[.int .i64 1, .string (⟨#[]⟩ : ByteArray), .int .i64 0]) ?_ 1 _ rfl; (with_reducible repeat (first | refine blk_drewN ?_ _ | refine blk_drew ?_)); refine blk_put (cs := #[.int .i64 0, .string (⟨#[]⟩ : ByteArray), .int .i64 0]) ?_ 0 _ rfl; (with_reducible repeat (first | refine blk_drewN ?_ _ | refine blk_drew ?_)); exact BK2d.out) Tryd.underlying30 rfl (by kernel_rfl)) rfl ?_
    first
    | exact ⟨rfl, ((HI4.out.far (p := ⟨g2, 0, none⟩) NE2.out.symm _).far (p := ⟨g2, 1, none⟩) NE2.out.symm _).far (p := ⟨g2, 2, none⟩) NE2.out.symm _, below_set (below_set (below_set HB4.out (Nat.le_trans HL.out GE2.out)) (Nat.le_trans HL.out GE2.out)) (Nat.le_trans HL.out GE2.out), keep_far (keep_far (keep_far HK4.out (p := ⟨g2, 0, none⟩) GE2.out _) (p := ⟨g2, 1, none⟩) GE2.out _) (p := ⟨g2, 2, none⟩) GE2.out _⟩
    | exact ⟨rfl, (((HI4.out.drewN _).far (p := ⟨g2, 0, none⟩) NE2.out.symm _).far (p := ⟨g2, 1, none⟩) NE2.out.symm _).far (p := ⟨g2, 2, none⟩) NE2.out.symm _, below_set (below_set (below_set (pw_below_drewN HB4.out _) (Nat.le_trans HL.out GE2.out)) (Nat.le_trans HL.out GE2.out)) (Nat.le_trans HL.out GE2.out), keep_far (keep_far (keep_far (keep_drewN HK4.out _) (p := ⟨g2, 0, none⟩) GE2.out _) (p := ⟨g2, 1, none⟩) GE2.out _) (p := ⟨g2, 2, none⟩) GE2.out _⟩
  · go_enter Tryd.func23, Tryd.ntmps23
    go_wp2_with (first
      | ((with_reducible refine gate_dst (N := 2) rfl ?_); refine box_event ?hg (N := 2) ?hd (cs := #[.int .i64 0, .string (⟨#[]⟩ : ByteArray), .int .i64 0]) (t := 30) ?hr ?_; (case hd => rfl); (case hg => rfl); (case hr => first | (go_simp; done) | (go_simp; rfl)); intro g2 hg2 W1 hbox2 hb1; have BK2 := Aside0.mk hbox2; have NE2 : Aside0 (g2 ≠ g) := ⟨by have := HI0.out.lt; omega⟩; have GE2 : Aside0 (w.heap.size ≤ g2) := ⟨by omega⟩; have HI1 := Aside0.mk (HI0.out.below hb1); have HB1 := Aside0.mk (below_step HB.out hb1); have HK1 := Aside0.mk (HK.out.trans (KeepBut.of_below hb1 g none) (.inl rfl)); clear hbox2 hb1 hg2)
      | (go_at_call 34; (refine (hrun _ HI1.out HB1.out).mono ?_); rintro e W2 ⟨rfl, hI2, hB2, hK2⟩; have HI2 := Aside0.mk hI2; have HB2 := Aside0.mk hB2; have HK2 := Aside0.mk (HK1.out.trans hK2 (.inl rfl)); have BK2' := Aside0.mk (hK2.blk BK2.out NE2.out (by simp)); clear hI2 hB2 hK2)
      | ((with_reducible refine gate_dst (N := 4) rfl ?_); refine box_event ?hg (N := 4) ?hd (cs := #[.int .i64 0, .string (⟨#[]⟩ : ByteArray), .int .i64 0]) (t := 30) ?hr ?_; (case hd => rfl); (case hg => rfl); (case hr => first | (go_simp; done) | (go_simp; rfl)); intro g4 hg4 W3 hbox4 hb3; have BK4 := Aside0.mk hbox4; have NE4 : Aside0 (g ≠ g4) := ⟨by have := HI2.out.lt; omega⟩; have NE24 : Aside0 (g2 ≠ g4) := ⟨by have := blk_lt BK2'.out; omega⟩; have GE4 : Aside0 (w.heap.size ≤ g4) := ⟨by have := HK2.out.1; omega⟩; have HI3 := Aside0.mk (HI2.out.below hb3); have HB3 := Aside0.mk (below_step HB2.out hb3); have HK3 := Aside0.mk (HK2.out.trans (KeepBut.of_below hb3 g none) (.inl rfl)); have BK23 := Aside0.mk (blk_below BK2'.out hb3); have hc40 := blk_cell BK4.out 0; have hc41 := blk_cell BK4.out 1; have hc42 := blk_cell BK4.out 2; have hf40 := blk_frozen BK4.out 0; have hf41 := blk_frozen BK4.out 1; have hf42 := blk_frozen BK4.out 2; clear hbox4 hb3 hg4)
      | (go_at_call 35; ((refine (hA _ ?hb0).mono ?_)); (case hb0 => exact below_set (below_set (below_set HB3.out (Nat.le_trans HL.out GE4.out)) (Nat.le_trans HL.out GE4.out)) (Nat.le_trans HL.out GE4.out)); rintro e W4 ⟨rfl, hb4⟩; have BK4d := Aside0.mk (blk_below (blk_put (cs' := #[.int .i64 1, .string t, .int .i64 0]) (blk_put (cs' := #[.int .i64 1, .string t, .int .i64 0]) (blk_put (cs' := #[.int .i64 1, .string (⟨#[]⟩ : ByteArray), .int .i64 0]) BK4.out 0 _ rfl) 1 _ rfl) 2 _ rfl) hb4); have BK2d := Aside0.mk (blk_below (blk_far (blk_far (blk_far BK23.out (p := ⟨g4, 0, none⟩) NE24.out _) (p := ⟨g4, 1, none⟩) NE24.out _) (p := ⟨g4, 2, none⟩) NE24.out _) hb4); have HI4 := Aside0.mk ((((HI3.out.far (p := ⟨g4, 0, none⟩) NE4.out _).far (p := ⟨g4, 1, none⟩) NE4.out _).far (p := ⟨g4, 2, none⟩) NE4.out _).below hb4); have HB4 := Aside0.mk (below_step (below_set (below_set (below_set HB3.out (Nat.le_trans HL.out GE4.out)) (Nat.le_trans HL.out GE4.out)) (Nat.le_trans HL.out GE4.out)) hb4); have HK4 := Aside0.mk ((keep_far (keep_far (keep_far HK3.out (p := ⟨g4, 0, none⟩) GE4.out _) (p := ⟨g4, 1, none⟩) GE4.out _) (p := ⟨g4, 2, none⟩) GE4.out _).trans (KeepBut.of_below hb4 g none) (.inl rfl)); clear hc40 hc41 hc42 hf40 hf41 hf42 hb4; have hc40 := (blk_cell BK4d.out 0).trans rfl; have hc41 := (blk_cell BK4d.out 1).trans rfl; have hc42 := (blk_cell BK4d.out 2).trans rfl; have hc20 := (blk_cell BK2d.out 0).trans rfl; have hc21 := (blk_cell BK2d.out 1).trans rfl; have hc22 := (blk_cell BK2d.out 2).trans rfl; have hf20 := blk_frozen BK2d.out 0; have hf21 := blk_frozen BK2d.out 1; have hf22 := blk_frozen BK2d.out 2; obtain ⟨HGz6, hgz6⟩ := HI4.out; have hcz6_0 := cellS35_0 HGz6; have hcz6_1 := cellS35_1 HGz6; clear HGz6 hgz6))
    go_quiet (fail)
    go_wp2
    refine bodyPost_ret (results_ct rfl _ _ g2 30 #[.int .i64 1, .string t, .int .i64 0] (0, 0) _ rfl (by (with_reducible repeat (first | refine blk_drewN ?_ _ | refine blk_drew ?_)); refine blk_put (cs := #[.int .i64 1, .string t, .int .i64 0]) ?_ 2 _ rfl; (with_reducible repeat (first | refine blk_drewN ?_ _ | refine blk_drew ?_)); refine blk_put (cs := #[.int .i64 1, .string (⟨#[]⟩ : ByteArray), .int .i64 0]) ?_ 1 _ rfl; (with_reducible repeat (first | refine blk_drewN ?_ _ | refine blk_drew ?_)); refine blk_put (cs := #[.int .i64 0, .string (⟨#[]⟩ : ByteArray), .int .i64 0]) ?_ 0 _ rfl; (with_reducible repeat (first | refine blk_drewN ?_ _ | refine blk_drew ?_)); exact BK2d.out) Tryd.underlying30 rfl (by kernel_rfl)) rfl ?_
    first
    | exact ⟨rfl, ((HI4.out.far (p := ⟨g2, 0, none⟩) NE2.out.symm _).far (p := ⟨g2, 1, none⟩) NE2.out.symm _).far (p := ⟨g2, 2, none⟩) NE2.out.symm _, below_set (below_set (below_set HB4.out (Nat.le_trans HL.out GE2.out)) (Nat.le_trans HL.out GE2.out)) (Nat.le_trans HL.out GE2.out), keep_far (keep_far (keep_far HK4.out (p := ⟨g2, 0, none⟩) GE2.out _) (p := ⟨g2, 1, none⟩) GE2.out _) (p := ⟨g2, 2, none⟩) GE2.out _⟩
    | exact ⟨rfl, (((HI4.out.drewN _).far (p := ⟨g2, 0, none⟩) NE2.out.symm _).far (p := ⟨g2, 1, none⟩) NE2.out.symm _).far (p := ⟨g2, 2, none⟩) NE2.out.symm _, below_set (below_set (below_set (pw_below_drewN HB4.out _) (Nat.le_trans HL.out GE2.out)) (Nat.le_trans HL.out GE2.out)) (Nat.le_trans HL.out GE2.out), keep_far (keep_far (keep_far (keep_drewN HK4.out _) (p := ⟨g2, 0, none⟩) GE2.out _) (p := ⟨g2, 1, none⟩) GE2.out _) (p := ⟨g2, 2, none⟩) GE2.out _⟩
  · exact absurd hC id

set_option maxHeartbeats 8000000 in
set_option maxRecDepth 100000 in
theorem number_walk_range (v : Int) (g : Nat) (s : ByteArray) (i : Int) (w0 w : World) (hI : IsS35 w0 w g s i) (hB : Below w0.heap.size w0 w) (h0 : 0 ≤ i) (h1 : i ≤ (s.size : Int)) (h2 : s.size ≤ 140737488355328)
    (hA : ∀ W, Below w0.heap.size w0 W → Calls Tryd.prog 35 #[.string (s.extract i.toNat (runE lexD s i).toNat)] W fun e w' => ∃ N : Nat, e = .returned (.tuple #[.int .i64 v, .iface 68 (.pointer (some ⟨N, 0, none⟩))]) ∧ Below W.heap.size W w') :
    Calls Tryd.prog 23 #[.pointer (some ⟨g, 0, none⟩)] w fun e w' => e = .returned (.tuple #[.agg #[.int .i64 1, .string (s.extract i.toNat (runE lexD s i).toNat), .int .i64 0], .int .i64 2]) ∧ IsS35 w0 w' g s (runE lexD s i) ∧ Below w0.heap.size w0 w' ∧ KeepBut w w' g none := by
  have HI0 := Aside0.mk hI
  have HK := Aside0.mk (KeepBut.refl w g none)
  have HB := Aside0.mk hB
  have HL := Aside0.mk hB.size
  have HE0 : Aside0 (0 ≤ runE lexD s i) := ⟨Int.le_trans h0 (runEnd_ge _ _ _ _)⟩
  have HE1 : Aside0 (runE lexD s i ≤ (s.size : Int)) := ⟨runEnd_le _ _ _ _ h1⟩
  have hrun := fun W hI hB => runD_calls g s i w0 W hI hB h0 h1 h2
  clear hI hB
  generalize runE lexD s i = E at *
  generalize ht : s.extract i.toNat E.toNat = t at *
  clear ht
  go_enter Tryd.func23, Tryd.ntmps23
  go_wp2_with (first
    | ((with_reducible refine gate_dst (N := 2) rfl ?_); refine box_event ?hg (N := 2) ?hd (cs := #[.int .i64 0, .string (⟨#[]⟩ : ByteArray), .int .i64 0]) (t := 30) ?hr ?_; (case hd => rfl); (case hg => rfl); (case hr => first | (go_simp; done) | (go_simp; rfl)); intro g2 hg2 W1 hbox2 hb1; have BK2 := Aside0.mk hbox2; have NE2 : Aside0 (g2 ≠ g) := ⟨by have := HI0.out.lt; omega⟩; have GE2 : Aside0 (w.heap.size ≤ g2) := ⟨by omega⟩; have HI1 := Aside0.mk (HI0.out.below hb1); have HB1 := Aside0.mk (below_step HB.out hb1); have HK1 := Aside0.mk (HK.out.trans (KeepBut.of_below hb1 g none) (.inl rfl)); clear hbox2 hb1 hg2)
    | (go_at_call 34; (refine (hrun _ HI1.out HB1.out).mono ?_); rintro e W2 ⟨rfl, hI2, hB2, hK2⟩; have HI2 := Aside0.mk hI2; have HB2 := Aside0.mk hB2; have HK2 := Aside0.mk (HK1.out.trans hK2 (.inl rfl)); have BK2' := Aside0.mk (hK2.blk BK2.out NE2.out (by simp)); clear hI2 hB2 hK2)
    | ((with_reducible refine gate_dst (N := 4) rfl ?_); refine box_event ?hg (N := 4) ?hd (cs := #[.int .i64 0, .string (⟨#[]⟩ : ByteArray), .int .i64 0]) (t := 30) ?hr ?_; (case hd => rfl); (case hg => rfl); (case hr => first | (go_simp; done) | (go_simp; rfl)); intro g4 hg4 W3 hbox4 hb3; have BK4 := Aside0.mk hbox4; have NE4 : Aside0 (g ≠ g4) := ⟨by have := HI2.out.lt; omega⟩; have NE24 : Aside0 (g2 ≠ g4) := ⟨by have := blk_lt BK2'.out; omega⟩; have GE4 : Aside0 (w.heap.size ≤ g4) := ⟨by have := HK2.out.1; omega⟩; have HI3 := Aside0.mk (HI2.out.below hb3); have HB3 := Aside0.mk (below_step HB2.out hb3); have HK3 := Aside0.mk (HK2.out.trans (KeepBut.of_below hb3 g none) (.inl rfl)); have BK23 := Aside0.mk (blk_below BK2'.out hb3); have hc40 := blk_cell BK4.out 0; have hc41 := blk_cell BK4.out 1; have hc42 := blk_cell BK4.out 2; have hf40 := blk_frozen BK4.out 0; have hf41 := blk_frozen BK4.out 1; have hf42 := blk_frozen BK4.out 2; clear hbox4 hb3 hg4)
    | (go_at_call 35; ((refine (hA _ ?hb0).mono ?_)); (case hb0 => exact below_set (below_set (below_set HB3.out (Nat.le_trans HL.out GE4.out)) (Nat.le_trans HL.out GE4.out)) (Nat.le_trans HL.out GE4.out)); rintro e W4 ⟨N, rfl, hb4⟩; have BK4d := Aside0.mk (blk_below (blk_put (cs' := #[.int .i64 1, .string t, .int .i64 0]) (blk_put (cs' := #[.int .i64 1, .string t, .int .i64 0]) (blk_put (cs' := #[.int .i64 1, .string (⟨#[]⟩ : ByteArray), .int .i64 0]) BK4.out 0 _ rfl) 1 _ rfl) 2 _ rfl) hb4); have BK2d := Aside0.mk (blk_below (blk_far (blk_far (blk_far BK23.out (p := ⟨g4, 0, none⟩) NE24.out _) (p := ⟨g4, 1, none⟩) NE24.out _) (p := ⟨g4, 2, none⟩) NE24.out _) hb4); have HI4 := Aside0.mk ((((HI3.out.far (p := ⟨g4, 0, none⟩) NE4.out _).far (p := ⟨g4, 1, none⟩) NE4.out _).far (p := ⟨g4, 2, none⟩) NE4.out _).below hb4); have HB4 := Aside0.mk (below_step (below_set (below_set (below_set HB3.out (Nat.le_trans HL.out GE4.out)) (Nat.le_trans HL.out GE4.out)) (Nat.le_trans HL.out GE4.out)) hb4); have HK4 := Aside0.mk ((keep_far (keep_far (keep_far HK3.out (p := ⟨g4, 0, none⟩) GE4.out _) (p := ⟨g4, 1, none⟩) GE4.out _) (p := ⟨g4, 2, none⟩) GE4.out _).trans (KeepBut.of_below hb4 g none) (.inl rfl)); clear hc40 hc41 hc42 hf40 hf41 hf42 hb4; have hc40 := (blk_cell BK4d.out 0).trans rfl; have hc41 := (blk_cell BK4d.out 1).trans rfl; have hc42 := (blk_cell BK4d.out 2).trans rfl; have hc20 := (blk_cell BK2d.out 0).trans rfl; have hc21 := (blk_cell BK2d.out 1).trans rfl; have hc22 := (blk_cell BK2d.out 2).trans rfl; have hf20 := blk_frozen BK2d.out 0; have hf21 := blk_frozen BK2d.out 1; have hf22 := blk_frozen BK2d.out 2; obtain ⟨HGz6, hgz6⟩ := HI4.out; have hcz6_0 := cellS35_0 HGz6; have hcz6_1 := cellS35_1 HGz6; clear HGz6 hgz6))
  refine bodyPost_ret (results_ct rfl _ _ g2 30 #[.int .i64 1, .string t, .int .i64 0] (0, 0) _ rfl (by (with_reducible repeat (first | refine blk_drewN ?_ _ | refine blk_drew ?_)); refine blk_put (cs := #[.int .i64 1, .string t, .int .i64 0]) ?_ 2 _ rfl; (with_reducible repeat (first | refine blk_drewN ?_ _ | refine blk_drew ?_)); refine blk_put (cs := #[.int .i64 1, .string (⟨#[]⟩ : ByteArray), .int .i64 0]) ?_ 1 _ rfl; (with_reducible repeat (first | refine blk_drewN ?_ _ | refine blk_drew ?_)); refine blk_put (cs := #[.int .i64 0, .string (⟨#[]⟩ : ByteArray), .int .i64 0]) ?_ 0 _ rfl; (with_reducible repeat (first | refine blk_drewN ?_ _ | refine blk_drew ?_)); exact BK2d.out) Tryd.underlying30 rfl (by kernel_rfl)) rfl ?_
  first
  | exact ⟨rfl, ((HI4.out.far (p := ⟨g2, 0, none⟩) NE2.out.symm _).far (p := ⟨g2, 1, none⟩) NE2.out.symm _).far (p := ⟨g2, 2, none⟩) NE2.out.symm _, below_set (below_set (below_set HB4.out (Nat.le_trans HL.out GE2.out)) (Nat.le_trans HL.out GE2.out)) (Nat.le_trans HL.out GE2.out), keep_far (keep_far (keep_far HK4.out (p := ⟨g2, 0, none⟩) GE2.out _) (p := ⟨g2, 1, none⟩) GE2.out _) (p := ⟨g2, 2, none⟩) GE2.out _⟩
  | exact ⟨rfl, (((HI4.out.drewN _).far (p := ⟨g2, 0, none⟩) NE2.out.symm _).far (p := ⟨g2, 1, none⟩) NE2.out.symm _).far (p := ⟨g2, 2, none⟩) NE2.out.symm _, below_set (below_set (below_set (pw_below_drewN HB4.out _) (Nat.le_trans HL.out GE2.out)) (Nat.le_trans HL.out GE2.out)) (Nat.le_trans HL.out GE2.out), keep_far (keep_far (keep_far (keep_drewN HK4.out _) (p := ⟨g2, 0, none⟩) GE2.out _) (p := ⟨g2, 1, none⟩) GE2.out _) (p := ⟨g2, 2, none⟩) GE2.out _⟩

theorem lex_lexer_number.calls (g : Nat) (s0_0 : ByteArray) (s0_1 : Int) (r1 : Int) (r2 : ByteArray) (r3 : Int) (r4 : Int) (r5 : ByteArray) (r6 : Int) (w0 w : World) (hI : IsS35 w0 w g s0_0 s0_1) (hB : Below w0.heap.size w0 w) (hG : GV w0) (h : lex_lexer_number.f s0_0 s0_1 = some (r1, r2, r3, r4, r5, r6)) :
    Calls Tryd.prog 23 #[.pointer (some ⟨g, 0, none⟩)] w fun e w' => e = .returned (.tuple #[.agg #[.int .i64 r1, .string r2, .int .i64 r3], .int .i64 r4]) ∧ IsS35 w0 w' g r5 r6 ∧ Below w0.heap.size w0 w' ∧ KeepBut w w' g none := by
  unfold lex_lexer_number.f at h
  split at h
  case isFalse => exact absurd h (by simp)
  rename_i hc
  obtain ⟨h0, h1, h2⟩ := hc
  have hz : (s0_0.extract s0_1.toNat (runE lexD s0_0 s0_1).toNat).size ≤ 140737488355328 := by
    rw [ByteArray.size_extract]; omega
  cases ha : Lib.atoiAll (s0_0.extract s0_1.toNat (runE lexD s0_0 s0_1).toNat).data.toList with
  | ok v =>
    rw [ha] at h
    have hok := fun (W : World) (_ : Below w0.heap.size w0 W) => atoi_ok _ hz v ha W
    unfold numOut at h
    dsimp only at h
    split at h
    · rename_i hv
      simp only [Option.some.injEq, Prod.mk.injEq] at h
      obtain ⟨rfl, rfl, rfl, rfl, rfl, rfl⟩ := h
      exact number_walk _ v _ g s0_0 s0_1 w0 w hI hB h0 h1 h2 hok (.inl ⟨rfl, .inl ⟨decide_eq_true hv, rfl⟩⟩)
    · rename_i hv
      have hv' : decide (4611686018427387904 < v) = false := decide_eq_false hv
      split at h
      · rename_i he
        split at h
        · rename_i hl
          simp only [Option.some.injEq, Prod.mk.injEq] at h
          obtain ⟨rfl, rfl, rfl, rfl, rfl, rfl⟩ := h
          exact number_walk _ v _ g s0_0 s0_1 w0 w hI hB h0 h1 h2 hok (.inl ⟨rfl, .inr ⟨hv', .inl ⟨decide_eq_true he, .inl ⟨hl, rfl⟩⟩⟩⟩)
        · rename_i hl
          simp only [Option.some.injEq, Prod.mk.injEq] at h
          obtain ⟨rfl, rfl, rfl, rfl, rfl, rfl⟩ := h
          exact number_walk _ v _ g s0_0 s0_1 w0 w hI hB h0 h1 h2 hok (.inl ⟨rfl, .inr ⟨hv', .inl ⟨decide_eq_true he, .inr ⟨by simpa using hl, rfl⟩⟩⟩⟩)
      · rename_i he
        simp only [Option.some.injEq, Prod.mk.injEq] at h
        obtain ⟨rfl, rfl, rfl, rfl, rfl, rfl⟩ := h
        exact number_walk _ v _ g s0_0 s0_1 w0 w hI hB h0 h1 h2 hok (.inl ⟨rfl, .inr ⟨hv', .inr ⟨decide_eq_false he, rfl⟩⟩⟩)
  | range =>
    rw [ha] at h
    unfold numOut at h
    simp only [Option.some.injEq, Prod.mk.injEq] at h
    obtain ⟨rfl, rfl, rfl, rfl, rfl, rfl⟩ := h
    exact number_walk_range _ g s0_0 s0_1 w0 w hI hB h0 h1 h2 (fun W hW => atoi_range _ hz ha W (hG.below hW))
  | _ => rw [ha] at h; exact absurd h (by simp [numOut])


end Go.Proofs.YtflmpgepboldfaaDoor.G
