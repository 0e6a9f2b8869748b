/- FilterParts (imageeditorlaw16) returns true for every image, filter and rectangle, and leaves its argument as it was. No condition. -/
import Derived.Test.YtocefehnemahhaaLk
import Derived.Test.YtocefehnemahhaaLp
import Derived.Test.YtocefehnemahhaaPp
namespace Go.Proofs.Ytocefehnemahhaa.filterParts
open Go.ChangeShapes Go.WideShapes Go.ChangeAt Go.RowKit Go.Joins
open Go.Proofs.Ytocefehnemahhaa.G Go.Proofs.YtocefehnemahhaaW.PrintWords
set_option linter.unusedVariables false
theorem cells38 : Try.prog.cellsOf 38 = 9 := by kernel_rfl
set_option maxRecDepth 100000 in
theorem part_arg {H : Type} {enc : TypeId × Value → H} {W : World} {base : Nat} {v : Value} {e : DataW H} {p : List MemPlace} (hv : Value.okWide Try.prog W .any base 38 v) (h : DataW.Trod enc Try.prog W 0 (fun _ => true) true 38 v e p) :
    ∃ (a0 a1 : Int) (A : Option Addr) (c : Nat) (l : List S51) (kd : Int) (B : Option Addr) (d : Nat) (ps : List Int) (o0 o1 o2 o3 : Int), v = .agg #[.int .i64 a0, .int .i64 a1, .slice A l.length c, .int .i64 kd, .slice B ps.length d, .int .i64 o0, .int .i64 o1, .int .i64 o2, .int .i64 o3] ∧ l.length ≤ c ∧ Kd.C k51 W A l.length l ∧ ps.length ≤ d ∧ Kd.C (Kd.int .i64) W B ps.length ps := by
  obtain ⟨cs, rfl, hsz⟩ := okWide_struct Try.underlying38 hv
  rw [cells38] at hsz
  obtain ⟨fuel, hf⟩ := h
  obtain ⟨y0, y1, y2, y3, n, hx, _, h0, h1, h2, h3⟩ := trod_struct4 Try.underlying38 hf
  obtain ⟨L⟩ := cs
  match L, hsz with
  | [c0, c1, c2, c3, c4, c5, c6, c7, c8], _ =>
    simp only [Value.cells, cells3, cells22, cells24, cells36, List.drop_zero, List.drop_succ_cons, List.take_succ_cons, List.take_zero] at h0 h1 h2 h3
    obtain ⟨a0, a1, A, c, l, rfl, rfl, rfl, hc, hC⟩ := img_cells h0
    obtain ⟨kd, rfl⟩ := int_cell h1
    obtain ⟨B, d, ps, rfl, hd, hD⟩ := ints_cell h2
    obtain ⟨o0, o1, o2, o3, rfl, rfl, rfl, rfl⟩ := rect_cells h3
    exact ⟨a0, a1, A, c, l, kd, B, d, ps, o0, o1, o2, o3, rfl, hc, hC, hd, hD⟩
set_option maxRecDepth 100000 in
theorem lifted (os : Os) (started : os.Started) (H : Type) (enc : TypeId × Value → H) :
    ReturnsInHanded {} Try.checked os 4 .any (Rows.filterPartsSpec.pre6 enc Try.prog Try.f4 Rows.filterPartsRow.domain false) (Rows.filterPartsSpec.post enc Try.prog Try.f4 false true false false) := by
  refine returnsInHanded_of_change (C := Try.checked) own started (by kernel_rfl) Try.func4
    (ChangeSpec.witness6 (enc := enc) (C := Try.checked) false ⟨#[], #[.agg #[.int .i64 0, .int .i64 0, .slice none 0 0, .int .i64 0, .slice none 0 0, .int .i64 0, .int .i64 0, .int .i64 0, .int .i64 0]], []⟩ 8 (by kernel_rfl) (by kernel_rfl) (by kernel_rfl) (by kernel_rfl)) ?_
  intro W base args ds gs before hval0 hW hcnd _
  have hval : ∀ (j : Nat) t v, Try.f4.params[j]? = some t → args[j]? = some v → Value.okWide Try.prog W .any base t v := hval0
  have hW' := hW
  obtain ⟨p, q, hA0, hV, rfl, hfz, hnd⟩ := hW
  have hA : DataW.TrodAll enc Try.prog W 0 (fun _ => true) true Try.f4.params.toList args.toList ds p := hA0
  rw [Try.params4] at hA hval
  obtain ⟨v0, vs0, d0, ds0, p0, q0, hargs, rfl, rfl, h0, r0⟩ := trodAll_cons hA
  obtain ⟨rfl, rfl, rfl⟩ := trodAll_nil r0
  obtain rfl : args = #[v0] := by cases args; simp_all
  obtain ⟨rfl, rfl⟩ := trodVars_none hV
  have k0 := h0
  have lt0 : ∀ x ∈ p0, x.block < W.heap.size := by obtain ⟨m, hm⟩ := k0; exact DataW.trod_lt m _ _ _ hm
  obtain ⟨a0, a1, A, c, l, kd, B, d, ps, o0, o1, o2, o3, rfl, hc, hC, hd, hD⟩ := part_arg (hval 0 38 v0 rfl rfl) h0
  obtain ⟨k, cc, pc, vb, eb, wb, e0, e1, e2, e3, e4, hY⟩ := parts_pure a0 a1 kd o0 o1 o2 o3 l ps
  clear hA0 hval0
  refine (parts_walk k a0 a1 A c l kd B d ps o0 o1 o2 o3 cc pc vb eb wb W hC hc hD hd e0 e1 e2 e3 e4 hY).mono fun e W' ⟨he, bel⟩ => ?_
  subst he
  exact ⟨_, rfl, _, _, _, [], _, [], hW', trodAll_mk1 (shut_bool Try.underlying4 _), (trodAll_cons_mk (Below.trod laidOut (by kernel_rfl) (of_decide_eq_true (by kernel_rfl)) k0 bel lt0) trodAll_mk0), rfl, bel.frame _, fun h => by cases h⟩
theorem over : Rows.filterPartsRow.holds Try.pinned (OpenSpec.ofChange Rows.filterPartsSpec) :=
  OpenClaim.holds_of_wide 4 Try.f4 rfl rfl rfl rfl rfl rfl rfl ⟨rfl, rfl, rfl, rfl, rfl⟩ rfl rfl rfl rfl rfl (by kernel_rfl) Try.func4 (by kernel_rfl)
    (of_decide_eq_true (by kernel_rfl)) (by unfold Func.isWrapper; first | (rw [if_pos (by decide +kernel)]; kernel_rfl) | (rw [if_neg (by decide +kernel)]; exact ⟨rfl, rfl⟩))
    (fun os started H enc _ => lifted os started H enc)
theorem proved : Rows.FilterPartsSaid := over
end Go.Proofs.Ytocefehnemahhaa.filterParts
namespace Go.Proofs.Ytocefehnemahhaa
/-- The row, under a short name, for the claim. -/
theorem filterParts_holds : Rows.FilterPartsSaid := filterParts.proved
#print axioms filterParts_holds
end Go.Proofs.Ytocefehnemahhaa
