/- FilterOrders (imageeditorlaw16) returns true for every image and radius, and leaves its arguments as they were. No condition. -/
import Derived.Test.YtocefehnemahhaaLk
import Derived.Test.YtocefehnemahhaaLo
import Derived.Test.YtocefehnemahhaaPo
namespace Go.Proofs.Ytocefehnemahhaa.filterOrders
open Go.ChangeShapes Go.WideShapes Go.ChangeAt Go.RowKit Go.Joins
open Go.Proofs.Ytocefehnemahhaa.G Go.Proofs.YtocefehnemahhaaW.PrintWords
set_option linter.unusedVariables false
theorem walk (k : Nat) (a0 a1 : Int) (A : Option Addr) (c : Nat) (l : List S51) (rad cc : Int) (w : World) (hr : Kd.C k51 w A l.length l) (hc : l.length ≤ c) (e0 : imageeditorref11_Check.f k a0 a1 l = some cc)
    (hY : cc = 0 → 0 ≤ rad → rad ≤ 4 → (l.length : Int) ≤ 1024 → (∀ i : Nat, i < l.length → (rd_T51 l i).f3 ≠ 0) → ∃ lo md hi : List S51, filter_Whole.f k a0 a1 l 8 [rad] = some (a0, a1, lo, 0) ∧ filter_Whole.f k a0 a1 l 4 [rad] = some (a0, a1, md, 0) ∧ filter_Whole.f k a0 a1 l 7 [rad] = some (a0, a1, hi, 0) ∧ lo.length = l.length ∧ md.length = l.length ∧ hi.length = l.length ∧ (∀ i : Nat, i < l.length → belowS (rd_T51 lo i) (rd_T51 l i) ∧ belowS (rd_T51 l i) (rd_T51 hi i) ∧ belowS (rd_T51 lo i) (rd_T51 md i) ∧ belowS (rd_T51 md i) (rd_T51 hi i)) ∧ (rad = 0 → ∃ bx : List S51, filter_Whole.f k a0 a1 l 1 [0] = some (a0, a1, bx, 0) ∧ imageeditorlaw16_same.f k a0 a1 lo a0 a1 l = some true ∧ imageeditorlaw16_same.f k a0 a1 md a0 a1 l = some true ∧ imageeditorlaw16_same.f k a0 a1 hi a0 a1 l = some true ∧ imageeditorlaw16_same.f k a0 a1 bx a0 a1 l = some true)) :
    Calls Try.prog 6 #[.agg #[.int .i64 a0, .int .i64 a1, .slice A l.length c], .int .i64 rad] w fun e w' => e = .returned (.bool true) ∧ Below w.heap.size w w' := by
  by_cases h0 : cc = 0
  case neg => exact orders_o1 k a0 a1 A c l rad cc w hr hc e0 h0
  subst h0
  by_cases h1 : rad < 0
  · exact orders_o2 k a0 a1 A c l rad w hr hc e0 h1
  by_cases h2 : 4 < rad
  · exact orders_o3 k a0 a1 A c l rad w hr hc e0 (by omega) h2
  by_cases h3 : (1024 : Int) < (l.length : Int)
  · exact orders_o4 k a0 a1 A c l rad w hr hc e0 (by omega) (by omega) h3
  exact orders_main k a0 a1 A c l rad w hr hc e0 (by omega) (by omega) (by omega) (hY rfl (by omega) (by omega) (by omega))
set_option maxRecDepth 100000 in
theorem lifted (os : Os) (started : os.Started) (H : Type) (enc : TypeId × Value → H) :
    ReturnsInHanded {} Try.checked os 6 .any (Rows.filterOrdersSpec.pre6 enc Try.prog Try.f6 Rows.filterOrdersRow.domain false) (Rows.filterOrdersSpec.post enc Try.prog Try.f6 false true false false) := by
  refine returnsInHanded_of_change (C := Try.checked) own started (by kernel_rfl) Try.func6
    (ChangeSpec.witness6 (enc := enc) (C := Try.checked) false ⟨#[], #[.agg #[.int .i64 0, .int .i64 0, .slice none 0 0], .int .i64 0], []⟩ 8 (by kernel_rfl) (by kernel_rfl) (by kernel_rfl) (by kernel_rfl)) ?_
  intro W base args ds gs before hval0 hW hcnd _
  have hval : ∀ (j : Nat) t v, Try.f6.params[j]? = some t → args[j]? = some v → Value.okWide Try.prog W .any base t v := hval0
  have hW' := hW
  obtain ⟨p, q, hA0, hV, rfl, hfz, hnd⟩ := hW
  have hA : DataW.TrodAll enc Try.prog W 0 (fun _ => true) true Try.f6.params.toList args.toList ds p := hA0
  rw [Try.params6] at hA hval
  obtain ⟨v0, vs0, d0, ds0, p0, q0, hargs, rfl, rfl, h0, r0⟩ := trodAll_cons hA
  obtain ⟨v1, vs1, d1, ds1, p1, q1, hargs1, rfl, rfl, h1, r1⟩ := trodAll_cons r0
  obtain ⟨rfl, rfl, rfl⟩ := trodAll_nil r1
  obtain rfl : args = #[v0, v1] := by cases args; simp_all
  obtain ⟨rfl, rfl⟩ := trodVars_none hV
  have k0 := h0
  have k1 := h1
  have lt0 : ∀ x ∈ p0, x.block < W.heap.size := by obtain ⟨m, hm⟩ := k0; exact DataW.trod_lt m _ _ _ hm
  have lt1 : ∀ x ∈ p1, x.block < W.heap.size := by obtain ⟨m, hm⟩ := k1; exact DataW.trod_lt m _ _ _ hm
  obtain ⟨a0, a1, A, c, l, rfl, hc, hC⟩ := image_arg (hval 0 36 v0 rfl rfl) h0
  obtain ⟨rad, rfl⟩ := okWide_int Try.underlying3 (hval 1 3 v1 rfl rfl)
  obtain ⟨k, cc, e0, hY⟩ := orders_pure a0 a1 rad l
  clear hA0 hval0
  refine (walk k a0 a1 A c l rad cc W hC hc e0 hY).mono fun e W' ⟨he, bel⟩ => ?_
  subst he
  exact ⟨_, rfl, _, _, _, [], _, [], hW', trodAll_mk1 (shut_bool Try.underlying4 _), (trodAll_cons_mk (Below.trod laidOut (by kernel_rfl) (of_decide_eq_true (by kernel_rfl)) k0 bel lt0) (trodAll_cons_mk (Below.trod laidOut (by kernel_rfl) (of_decide_eq_true (by kernel_rfl)) k1 bel lt1) trodAll_mk0)), rfl, bel.frame _, fun h => by cases h⟩
theorem over : Rows.filterOrdersRow.holds Try.pinned (OpenSpec.ofChange Rows.filterOrdersSpec) :=
  OpenClaim.holds_of_wide 6 Try.f6 rfl rfl rfl rfl rfl rfl rfl ⟨rfl, rfl, rfl, rfl, rfl⟩ rfl rfl rfl rfl rfl (by kernel_rfl) Try.func6 (by kernel_rfl)
    (of_decide_eq_true (by kernel_rfl)) (by unfold Func.isWrapper; first | (rw [if_pos (by decide +kernel)]; kernel_rfl) | (rw [if_neg (by decide +kernel)]; exact ⟨rfl, rfl⟩))
    (fun os started H enc _ => lifted os started H enc)
theorem proved : Rows.FilterOrdersSaid := over
end Go.Proofs.Ytocefehnemahhaa.filterOrders
namespace Go.Proofs.Ytocefehnemahhaa
/-- The row, under a short name, for the claim. -/
theorem filterOrders_holds : Rows.FilterOrdersSaid := filterOrders.proved
#print axioms filterOrders_holds
end Go.Proofs.Ytocefehnemahhaa
