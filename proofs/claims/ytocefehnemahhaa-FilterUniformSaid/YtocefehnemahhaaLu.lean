/- FilterUniform (imageeditorlaw16) returns true for every pixel, size and filter, and leaves its argument as it was. No condition. -/
import Derived.Test.YtocefehnemahhaaRows
import Derived.Test.YtocefehnemahhaaPu
import Derived.WalkKit
import Derived.ProofKit
import Derived.OpenShut
import Derived.ShutString
import Derived.ChangeOld
import Derived.Below
import Derived.SizedLaws
import Derived.Lib.SmallJoins
namespace Go.Proofs.Ytocefehnemahhaa.filterUniform
open Go.ChangeShapes Go.WideShapes Go.ChangeAt Go.RowKit Go.Joins
open Go.Proofs.Ytocefehnemahhaa.G Go.Proofs.YtocefehnemahhaaW.PrintWords
set_option linter.unusedVariables false
theorem own : ownKnob Try.prog.godebug = none := by kernel_rfl
theorem laidOut : laidOutB Try.prog = true := by kernel_rfl
theorem cells3 : Try.prog.cellsOf 3 = 1 := by kernel_rfl
theorem cells22 : Try.prog.cellsOf 22 = 1 := by kernel_rfl
theorem cells51 : Try.prog.cellsOf 51 = 4 := by kernel_rfl
theorem cells53 : Try.prog.cellsOf 53 = 8 := by kernel_rfl
section
variable {H : Type} {enc : TypeId × Value → H} {W : World}
theorem int_cell {n : Nat} {c : Value} {y : DataW H × List MemPlace} (h : DataW.trod enc Try.prog W 0 (fun _ => true) true n 3 [c] = some y) : ∃ a, c = .int .i64 a := by
  obtain ⟨a, e0, _, _⟩ := DataW.trod_int Try.underlying3 h
  exact ⟨a, by simpa using e0⟩
theorem trod_struct5 {P : Program} {W : World} {base : Nat} {spare : Nat → Bool} {held : Bool} {t : TypeId} {f0 f1 f2 f3 f4 : Field} {fuel : Nat} {cs : List Value} {x : DataW H × List MemPlace} (ht : P.underlying t = some (.struct #[f0, f1, f2, f3, f4])) (h : DataW.trod enc P W base spare held fuel t cs = some x) :
    ∃ y0 y1 y2 y3 y4 n, DataW.trod enc P W base spare held n f0.type ((cs.drop f0.offset).take (P.cellsOf f0.type)) = some y0 ∧ DataW.trod enc P W base spare held n f1.type ((cs.drop f1.offset).take (P.cellsOf f1.type)) = some y1 ∧
      DataW.trod enc P W base spare held n f2.type ((cs.drop f2.offset).take (P.cellsOf f2.type)) = some y2 ∧ DataW.trod enc P W base spare held n f3.type ((cs.drop f3.offset).take (P.cellsOf f3.type)) = some y3 ∧ DataW.trod enc P W base spare held n f4.type ((cs.drop f4.offset).take (P.cellsOf f4.type)) = some y4 := by
  obtain ⟨xs, n, _, rfl, hl, hlen, hf⟩ := DataW.trod_struct ht h
  match xs, hlen with
  | [y0, y1, y2, y3, y4], _ => exact ⟨y0, y1, y2, y3, y4, n, by simpa using hf 0 f0 rfl, by simpa using hf 1 f1 rfl, by simpa using hf 2 f2 rfl, by simpa using hf 3 f3 rfl, by simpa using hf 4 f4 rfl⟩
theorem pix_cells {n : Nat} {c0 c1 c2 c3 : Value} {y : DataW H × List MemPlace} (h : DataW.trod enc Try.prog W 0 (fun _ => true) true n 51 [c0, c1, c2, c3] = some y) : ∃ x0 x1 x2 x3, c0 = .int .i64 x0 ∧ c1 = .int .i64 x1 ∧ c2 = .int .i64 x2 ∧ c3 = .int .i64 x3 := by
  obtain ⟨y0, y1, y2, y3, n, hx, _, h0, h1, h2, h3⟩ := trod_struct4 Try.underlying51 h
  simp only [cells3, List.drop_zero, List.drop_succ_cons, List.take_succ_cons, List.take_zero] at h0 h1 h2 h3
  obtain ⟨x0, rfl⟩ := int_cell h0
  obtain ⟨x1, rfl⟩ := int_cell h1
  obtain ⟨x2, rfl⟩ := int_cell h2
  obtain ⟨x3, rfl⟩ := int_cell h3
  exact ⟨x0, x1, x2, x3, rfl, rfl, rfl, rfl⟩
theorem ints_cell {n : Nat} {c : Value} {y : DataW H × List MemPlace} (h : DataW.trod enc Try.prog W 0 (fun _ => true) true n 22 [c] = some y) : ∃ (A : Option Addr) (k : Nat) (zs : List Int), c = .slice A zs.length k ∧ zs.length ≤ k ∧ Kd.C (Kd.int .i64) W A zs.length zs := by
  rcases open_ints Try.underlying22 Try.underlying3 (by kernel_rfl) h with ⟨hcs, _⟩ | ⟨x, l, k, zs, hcs, _, hl, hm, hz, _, hcell, hwz⟩
  · simp at hcs
    exact ⟨none, 0, [], by simpa using hcs, Nat.le_refl _, Kd.C_nil _ _⟩
  · have hcs := List.head_eq_of_cons_eq hcs
    have hz' : zs.length = k := by simpa using hz
    have hll : (zs.take l).length = l := by rw [List.length_take]; omega
    refine ⟨some x, k, zs.take l, by rw [hll]; exact hcs, by rw [hll]; exact hl, rfl, ?_, fun _ => ⟨x, rfl, fun j q hj => ⟨[.int .i64 q], rfl, rfl, fun i u hu => ?_⟩⟩⟩
    · rw [hll]; simp only [maxLen] at hm; omega
    · have hi : i = 0 := by
        rcases Nat.lt_or_ge i 1 with h1 | h1
        · omega
        · rw [List.getElem?_eq_none (by simpa using h1)] at hu; cases hu
      subst hi
      simp only [List.getElem?_cons_zero, Option.some.injEq] at hu
      subst hu
      have hjl : j < (zs.take l).length := (List.getElem?_eq_some_iff.1 hj).1
      have h2 := hcell j (by rw [hll] at hjl; omega)
      have h3 : zs.getD j 0 = q := by
        rw [List.getElem?_take_of_lt (by rw [hll] at hjl; exact hjl)] at hj
        rw [List.getD_eq_getElem?_getD, hj]; rfl
      rw [h3] at h2
      show W.cell? (x.add (j * 1 + 0)) = _
      rw [Nat.mul_one]
      exact h2
set_option maxRecDepth 100000 in
theorem plain_cells {base : Nat} {v : Value} {d : DataW H} {p : List MemPlace} (hv : Value.okWide Try.prog W .any base 53 v) (h : DataW.Trod enc Try.prog W 0 (fun _ => true) true 53 v d p) :
    ∃ (q : S51) (m n kd : Int) (A : Option Addr) (c : Nat) (l : List Int), v = .agg #[.int .i64 q.f0, .int .i64 q.f1, .int .i64 q.f2, .int .i64 q.f3, .int .i64 m, .int .i64 n, .int .i64 kd, .slice A l.length c] ∧ l.length ≤ c ∧ Kd.C (Kd.int .i64) W A l.length l := by
  obtain ⟨cs, rfl, hsz⟩ := okWide_struct Try.underlying53 hv
  rw [cells53] at hsz
  obtain ⟨fuel, hf⟩ := h
  obtain ⟨y0, y1, y2, y3, y4, n, h0, h1, h2, h3, h4⟩ := trod_struct5 Try.underlying53 hf
  obtain ⟨L⟩ := cs
  match L, hsz with
  | [c0, c1, c2, c3, c4, c5, c6, c7], _ =>
    simp only [Value.cells, cells3, cells22, cells51, List.drop_zero, List.drop_succ_cons, List.take_succ_cons, List.take_zero] at h0 h1 h2 h3 h4
    obtain ⟨x0, x1, x2, x3, rfl, rfl, rfl, rfl⟩ := pix_cells h0
    obtain ⟨m, rfl⟩ := int_cell h1
    obtain ⟨k, rfl⟩ := int_cell h2
    obtain ⟨kd, rfl⟩ := int_cell h3
    obtain ⟨A, c, l, rfl, hc, hC⟩ := ints_cell h4
    exact ⟨⟨x0, x1, x2, x3⟩, m, k, kd, A, c, l, rfl, hc, hC⟩
end
set_option maxRecDepth 100000 in
theorem lifted (os : Os) (started : os.Started) (H : Type) (enc : TypeId × Value → H) :
    ReturnsInHanded {} Try.checked os 5 .any (Rows.filterUniformSpec.pre6 enc Try.prog Try.f5 Rows.filterUniformRow.domain false) (Rows.filterUniformSpec.post enc Try.prog Try.f5 false true false false) := by
  refine returnsInHanded_of_change (C := Try.checked) own started (by kernel_rfl) Try.func5
    (ChangeSpec.witness6 (enc := enc) (C := Try.checked) false ⟨#[], #[.agg #[.int .i64 0, .int .i64 0, .int .i64 0, .int .i64 0, .int .i64 0, .int .i64 0, .int .i64 0, .slice none 0 0]], []⟩ 8 (by kernel_rfl) (by kernel_rfl) (by kernel_rfl) (by kernel_rfl)) ?_
  intro W base args ds gs before hval0 hW hcnd _
  have hval : ∀ (j : Nat) t v, Try.f5.params[j]? = some t → args[j]? = some v → Value.okWide Try.prog W .any base t v := hval0
  have hW' := hW
  obtain ⟨p, q, hA0, hV, rfl, hfz, hnd⟩ := hW
  have hA : DataW.TrodAll enc Try.prog W 0 (fun _ => true) true Try.f5.params.toList args.toList ds p := hA0
  rw [Try.params5] at hA hval
  obtain ⟨v0, vs0, d0, ds0, p0, q0, hargs, rfl, rfl, h0, r0⟩ := trodAll_cons hA
  obtain ⟨rfl, rfl, rfl⟩ := trodAll_nil r0
  obtain rfl : args = #[v0] := by cases args; simp_all
  obtain ⟨rfl, rfl⟩ := trodVars_none hV
  have k0 := h0
  have lt0 : ∀ x ∈ p0, x.block < W.heap.size := by obtain ⟨m, hm⟩ := k0; exact DataW.trod_lt m _ _ _ hm
  obtain ⟨q, m, n, kd, A, c, l, rfl, hc, hC⟩ := plain_cells (hval 0 53 v0 rfl rfl) h0
  obtain ⟨k, hk⟩ := uniform_pure q m n kd l
  clear hA0 hval0
  refine (imageeditorlaw16_FilterUniform.calls k q.f0 q.f1 q.f2 q.f3 m n kd A c l true W hC hc hk).mono fun e W' ⟨he, bel⟩ => ?_
  subst he
  exact ⟨_, rfl, _, _, _, [], _, [], hW', trodAll_mk1 (shut_bool Try.underlying4 _), (trodAll_cons_mk (Below.trod laidOut (by kernel_rfl) (of_decide_eq_true (by kernel_rfl)) k0 bel lt0) trodAll_mk0), rfl, bel.frame _, fun h => by cases h⟩
theorem over : Rows.filterUniformRow.holds Try.pinned (OpenSpec.ofChange Rows.filterUniformSpec) :=
  OpenClaim.holds_of_wide 5 Try.f5 rfl rfl rfl rfl rfl rfl rfl ⟨rfl, rfl, rfl, rfl, rfl⟩ rfl rfl rfl rfl rfl (by kernel_rfl) Try.func5 (by kernel_rfl)
    (of_decide_eq_true (by kernel_rfl)) (by unfold Func.isWrapper; first | (rw [if_pos (by decide +kernel)]; kernel_rfl) | (rw [if_neg (by decide +kernel)]; exact ⟨rfl, rfl⟩))
    (fun os started H enc _ => lifted os started H enc)
theorem proved : Rows.FilterUniformSaid := over
end Go.Proofs.Ytocefehnemahhaa.filterUniform
namespace Go.Proofs.Ytocefehnemahhaa
/-- The row, under a short name, for the claim. -/
theorem filterUniform_holds : Rows.FilterUniformSaid := filterUniform.proved
#print axioms filterUniform_holds
end Go.Proofs.Ytocefehnemahhaa
