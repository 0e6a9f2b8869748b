import Derived.Test.YtocefehnemahhaaRows
import Derived.Test.YtocefehnemahhaaG0
import Derived.WalkKit
import Derived.ProofKit
import Derived.OpenShut
import Derived.ShutString
import Derived.ChangeOld
import Derived.Below
import Derived.SizedLaws
import Derived.Lib.SmallJoins
import Derived.Deep.Slices
/-! The arguments of the laws, out of what the rows say of them. -/
namespace Go.Proofs.Ytocefehnemahhaa.G
open Go.ChangeShapes Go.WideShapes Go.ChangeAt Go.RowKit Go.Joins
open Go.Proofs.YtocefehnemahhaaW.PrintWords
set_option linter.unusedVariables false
theorem own : ownKnob Try.prog.godebug = none := by kernel_rfl
theorem laidOut : laidOutB Try.prog = true := by kernel_rfl
theorem cells3 : Try.prog.cellsOf 3 = 1 := by kernel_rfl
theorem cells22 : Try.prog.cellsOf 22 = 1 := by kernel_rfl
theorem cells34 : Try.prog.cellsOf 34 = 1 := by kernel_rfl
theorem cells51 : Try.prog.cellsOf 51 = 4 := by kernel_rfl
theorem cells36 : Try.prog.cellsOf 36 = 3 := by kernel_rfl
theorem cells24 : Try.prog.cellsOf 24 = 4 := by kernel_rfl
section
variable {H : Type} {enc : TypeId × Value → H} {W : World}
theorem int_cell {n : Nat} {c : Value} {y : DataW H × List MemPlace} (h : DataW.trod enc Try.prog W 0 (fun _ => true) true n 3 [c] = some y) : ∃ a, c = .int .i64 a := by
  obtain ⟨a, e0, _, _⟩ := DataW.trod_int Try.underlying3 h
  exact ⟨a, by simpa using e0⟩
theorem trod_struct3' {P : Program} {W : World} {base : Nat} {spare : Nat → Bool} {held : Bool} {t : TypeId} {f0 f1 f2 : Field} {fuel : Nat} {cs : List Value} {x : DataW H × List MemPlace} (ht : P.underlying t = some (.struct #[f0, f1, f2])) (h : DataW.trod enc P W base spare held fuel t cs = some x) :
    ∃ y0 y1 y2 n, DataW.trod enc P W base spare held n f0.type ((cs.drop f0.offset).take (P.cellsOf f0.type)) = some y0 ∧ DataW.trod enc P W base spare held n f1.type ((cs.drop f1.offset).take (P.cellsOf f1.type)) = some y1 ∧
      DataW.trod enc P W base spare held n f2.type ((cs.drop f2.offset).take (P.cellsOf f2.type)) = some y2 := by
  obtain ⟨xs, n, _, rfl, hl, hlen, hf⟩ := DataW.trod_struct ht h
  match xs, hlen with
  | [y0, y1, y2], _ => exact ⟨y0, y1, y2, n, by simpa using hf 0 f0 rfl, by simpa using hf 1 f1 rfl, by simpa using hf 2 f2 rfl⟩
theorem pix_cells {n : Nat} {c0 c1 c2 c3 : Value} {y : DataW H × List MemPlace} (h : DataW.trod enc Try.prog W 0 (fun _ => true) true n 51 [c0, c1, c2, c3] = some y) : ∃ x0 x1 x2 x3, c0 = .int .i64 x0 ∧ c1 = .int .i64 x1 ∧ c2 = .int .i64 x2 ∧ c3 = .int .i64 x3 := by
  obtain ⟨y0, y1, y2, y3, n, hx, _, h0, h1, h2, h3⟩ := trod_struct4 Try.underlying51 h
  simp only [cells3, List.drop_zero, List.drop_succ_cons, List.take_succ_cons, List.take_zero] at h0 h1 h2 h3
  obtain ⟨x0, rfl⟩ := int_cell h0
  obtain ⟨x1, rfl⟩ := int_cell h1
  obtain ⟨x2, rfl⟩ := int_cell h2
  obtain ⟨x3, rfl⟩ := int_cell h3
  exact ⟨x0, x1, x2, x3, rfl, rfl, rfl, rfl⟩
theorem rect_cells {n : Nat} {c0 c1 c2 c3 : Value} {y : DataW H × List MemPlace} (h : DataW.trod enc Try.prog W 0 (fun _ => true) true n 24 [c0, c1, c2, c3] = some y) : ∃ x0 x1 x2 x3, c0 = .int .i64 x0 ∧ c1 = .int .i64 x1 ∧ c2 = .int .i64 x2 ∧ c3 = .int .i64 x3 := by
  obtain ⟨y0, y1, y2, y3, n, hx, _, h0, h1, h2, h3⟩ := trod_struct4 Try.underlying24 h
  simp only [cells3, List.drop_zero, List.drop_succ_cons, List.take_succ_cons, List.take_zero] at h0 h1 h2 h3
  obtain ⟨x0, rfl⟩ := int_cell h0
  obtain ⟨x1, rfl⟩ := int_cell h1
  obtain ⟨x2, rfl⟩ := int_cell h2
  obtain ⟨x3, rfl⟩ := int_cell h3
  exact ⟨x0, x1, x2, x3, rfl, rfl, rfl, rfl⟩
theorem ints_cell {n : Nat} {c : Value} {y : DataW H × List MemPlace} (h : DataW.trod enc Try.prog W 0 (fun _ => true) true n 22 [c] = some y) : ∃ (A : Option Addr) (k : Nat) (zs : List Int), c = .slice A zs.length k ∧ zs.length ≤ k ∧ Kd.C (Kd.int .i64) W A zs.length zs := by
  rcases open_ints Try.underlying22 Try.underlying3 (by kernel_rfl) h with ⟨hcs, _⟩ | ⟨x, l, k, zs, hcs, _, hl, hm, hz, _, hcell, hwz⟩
  · simp at hcs
    exact ⟨none, 0, [], by simpa using hcs, Nat.le_refl _, Kd.C_nil _ _⟩
  · have hcs := List.head_eq_of_cons_eq hcs
    have hz' : zs.length = k := by simpa using hz
    have hll : (zs.take l).length = l := by rw [List.length_take]; omega
    refine ⟨some x, k, zs.take l, by rw [hll]; exact hcs, by rw [hll]; exact hl, rfl, ?_, fun _ => ⟨x, rfl, fun j q hj => ⟨[.int .i64 q], rfl, rfl, fun i u hu => ?_⟩⟩⟩
    · rw [hll]; simp only [maxLen] at hm; omega
    · have hi : i = 0 := by
        rcases Nat.lt_or_ge i 1 with h1 | h1
        · omega
        · rw [List.getElem?_eq_none (by simpa using h1)] at hu; cases hu
      subst hi
      simp only [List.getElem?_cons_zero, Option.some.injEq] at hu
      subst hu
      have hjl : j < (zs.take l).length := (List.getElem?_eq_some_iff.1 hj).1
      have h2 := hcell j (by rw [hll] at hjl; omega)
      have h3 : zs.getD j 0 = q := by
        rw [List.getElem?_take_of_lt (by rw [hll] at hjl; exact hjl)] at hj
        rw [List.getD_eq_getElem?_getD, hj]; rfl
      rw [h3] at h2
      show W.cell? (x.add (j * 1 + 0)) = _
      rw [Nat.mul_one]
      exact h2
theorem pixs_cell {n : Nat} {c : Value} {y : DataW H × List MemPlace} (h : DataW.trod enc Try.prog W 0 (fun _ => true) true n 34 [c] = some y) : ∃ (A : Option Addr) (k : Nat) (l : List S51), c = .slice A l.length k ∧ l.length ≤ k ∧ Kd.C k51 W A l.length l := by
  rcases Go.Deep.open_slice Try.underlying34 h with ⟨hcs, _⟩ | ⟨a, len, cap, m, nn, D, Pl, hcs, _, hl, hm, hmm, _, hel⟩
  · have hcs := List.head_eq_of_cons_eq hcs
    exact ⟨none, 0, [], hcs, Nat.le_refl _, Kd.C_nil _ _⟩
  · have hcs := List.head_eq_of_cons_eq hcs
    have hmc : m = cap := by simpa using hmm
    have hch : ∀ i, i < len → ∃ p : S51, ∀ j u, ([.int .i64 p.f0, .int .i64 p.f1, .int .i64 p.f2, .int .i64 p.f3] : List Value)[j]? = some u → W.cell? (a.add (i * 4 + j)) = some u := fun i hi => by
      obtain ⟨cs', h1, h2⟩ := hel i (by omega)
      rw [cells51] at h1
      obtain ⟨_, hlen, hat⟩ := World.cells?_some h1
      match cs', hlen with
      | [c0, c1, c2, c3], _ =>
        obtain ⟨x0, x1, x2, x3, rfl, rfl, rfl, rfl⟩ := pix_cells h2
        refine ⟨⟨x0, x1, x2, x3⟩, fun j u hu => ?_⟩
        have hj : j < 4 := (List.getElem?_eq_some_iff.1 hu).1
        have h4 := hat j hj
        rw [add_add] at h4
        rw [h4]
        exact hu
    haveI : Inhabited S51 := ⟨z51⟩
    obtain ⟨f, hf⟩ := Go.Deep.choose_lt hch
    have hll : ((List.range len).map f).length = len := by rw [List.length_map, List.length_range]
    refine ⟨some a, cap, (List.range len).map f, by rw [hll]; exact hcs, by rw [hll]; exact hl, rfl, ?_, fun _ => ⟨a, rfl, fun j q hj => ⟨_, rfl, k51_mk W q, fun i u hu => ?_⟩⟩⟩
    · rw [hll]; simp only [maxLen] at hm; omega
    · have hjl : j < len := by have := (List.getElem?_eq_some_iff.1 hj).1; omega
      rw [List.getElem?_map, List.getElem?_range hjl, Option.map_some, Option.some.injEq] at hj
      subst hj
      exact hf j hjl i u hu
theorem img_cells {n : Nat} {c0 c1 c2 : Value} {y : DataW H × List MemPlace} (h : DataW.trod enc Try.prog W 0 (fun _ => true) true n 36 [c0, c1, c2] = some y) :
    ∃ (a0 a1 : Int) (A : Option Addr) (c : Nat) (l : List S51), c0 = .int .i64 a0 ∧ c1 = .int .i64 a1 ∧ c2 = .slice A l.length c ∧ l.length ≤ c ∧ Kd.C k51 W A l.length l := by
  obtain ⟨y0, y1, y2, n, h0, h1, h2⟩ := trod_struct3' Try.underlying36 h
  simp only [cells3, cells34, List.drop_zero, List.drop_succ_cons, List.take_succ_cons, List.take_zero] at h0 h1 h2
  obtain ⟨a0, rfl⟩ := int_cell h0
  obtain ⟨a1, rfl⟩ := int_cell h1
  obtain ⟨A, c, l, rfl, hc, hC⟩ := pixs_cell h2
  exact ⟨a0, a1, A, c, l, rfl, rfl, rfl, hc, hC⟩
set_option maxRecDepth 100000 in
theorem image_arg {base : Nat} {v : Value} {d : DataW H} {p : List MemPlace} (hv : Value.okWide Try.prog W .any base 36 v) (h : DataW.Trod enc Try.prog W 0 (fun _ => true) true 36 v d p) :
    ∃ (a0 a1 : Int) (A : Option Addr) (c : Nat) (l : List S51), v = .agg #[.int .i64 a0, .int .i64 a1, .slice A l.length c] ∧ l.length ≤ c ∧ Kd.C k51 W A l.length l := by
  obtain ⟨cs, rfl, hsz⟩ := okWide_struct Try.underlying36 hv
  rw [cells36] at hsz
  obtain ⟨fuel, hf⟩ := h
  obtain ⟨L⟩ := cs
  match L, hsz with
  | [c0, c1, c2], _ =>
    obtain ⟨a0, a1, A, c, l, rfl, rfl, rfl, hc, hC⟩ := img_cells hf
    exact ⟨a0, a1, A, c, l, rfl, hc, hC⟩
end
end Go.Proofs.Ytocefehnemahhaa.G
