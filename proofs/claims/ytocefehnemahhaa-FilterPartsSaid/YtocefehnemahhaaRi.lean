import Derived.Test.YtocefehnemahhaaWLast
import Derived.Test.YtocefehnemahhaaWMore
import Derived.RegionTactic
namespace Go.Proofs.Ytocefehnemahhaa.G
open Go.RowKit Go.Proofs.YtocefehnemahhaaW.PrintWords Go.Proofs.YtocefehnemahhaaW.PrintLast Go.Proofs.YtocefehnemahhaaW.PrintMore
set_option linter.unusedVariables false
set_option linter.unusedSimpArgs false
/-! A region that draws its order, by an invariant: what holds when the operations of f have come up, whatever the order. -/
section
variable {P : Program} {ops : Array Oper} {Q : Exit → Act → World → Prop}
def upd (f : Nat → Bool) (i : Nat) : Nat → Bool := fun j => j == i || f j
def depsL (o : Oper) : List Nat := (o.after.toList.filter (Region.binds .any)).map (·.on)
def Steps (P : Program) (ops : Array Oper) (Q : Exit → Act → World → Prop) (I : (Nat → Bool) → Act → World → Prop) : Nat → List Oper → Prop
  | _, [] => True
  | i, o :: rest => (∀ f a w, I f a w → f i = false → (∀ j, (depsL o).contains j = true → f j = true) → ∀ K : Act → World → Prop, (∀ a w, I (upd f i) a w → K a w) →
      if Region.wanted o (yielded ops a.tmps) = true then Oper.wp P o a w K Q else K (a.put o.dst undef) w) ∧ Steps P ops Q I (i + 1) rest
def ordered (ops : Array Oper) : Bool := (List.range ops.size).all fun j => match ops[j]? with | some o => (depsL o).all (fun i => decide (i < j)) | none => true
theorem steps_at {I : (Nat → Bool) → Act → World → Prop} : ∀ (l : List Oper) (k : Nat), Steps P ops Q I k l → ∀ i o, l[i]? = some o →
    (∀ f a w, I f a w → f (k + i) = false → (∀ j, (depsL o).contains j = true → f j = true) → ∀ K : Act → World → Prop, (∀ a w, I (upd f (k + i)) a w → K a w) →
      if Region.wanted o (yielded ops a.tmps) = true then Oper.wp P o a w K Q else K (a.put o.dst undef) w)
  | [], _, _, i, o, h => by simp at h
  | x :: l, k, hs, 0, o, h => by
    simp only [List.getElem?_cons_zero, Option.some.injEq] at h
    subst h
    exact hs.1
  | x :: l, k, hs, i + 1, o, h => by
    have := steps_at l (k + 1) hs.2 i o (by simpa using h)
    rw [show k + (i + 1) = k + 1 + i by omega]
    exact this
def listedF (l : Array Bool) : Nat → Bool := fun j => l.getD j false
theorem listedF_set {l : Array Bool} {i : Nat} (h : i < l.size) : listedF (l.setIfInBounds i true) = upd (listedF l) i := by
  funext j
  unfold listedF upd
  by_cases hj : j = i
  · subst hj; simp [h]
  · have : (j == i) = false := by simpa using hj
    simp [this, Array.getElem?_setIfInBounds_ne (Ne.symm hj)]
theorem any_inv {I : (Nat → Bool) → Act → World → Prop} (ho : ordered ops = true) (hs : Steps P ops Q I 0 ops.toList)
    (hd : ∀ f a w, (∀ j, j < ops.size → f j = true) → I f a w → Q .normal a w) :
    ∀ (fuel : Nat) (l : Array Bool) (a : Act) (w : World), l.size = ops.size → l.toList.count false ≤ fuel → I (listedF l) a w → wpAny P .any ops Q fuel l a w := by
  have key : ∀ (l : Array Bool), l.size = ops.size → Region.ready .any ops l = [] → ∀ j, j < ops.size → listedF l j = true := by
    intro l hl hr j
    induction j using Nat.strongRecOn with
    | _ j ih =>
      intro hj
      by_cases hf : l.getD j false = true
      · exact hf
      · exfalso
        have hm : j ∈ Region.ready .any ops l := by
          rw [mem_ready]
          refine ⟨by simp [hl, hj] at hf ⊢; exact hf, ops[j], by simp [hj], fun e he hb => ?_⟩
          have h1 : (depsL ops[j]).all (fun i => decide (i < j)) = true := by
            have := List.all_eq_true.1 ho j (by simpa using hj)
            simpa [hj] using this
          have h2 : e.on ∈ depsL ops[j] := List.mem_map.2 ⟨e, List.mem_filter.2 ⟨by simpa using he, hb⟩, rfl⟩
          have h3 := of_decide_eq_true (List.all_eq_true.1 h1 e.on h2)
          exact ih e.on h3 (by omega)
        rw [hr] at hm
        cases hm
  intro fuel
  induction fuel with
  | zero =>
    intro l a w hl hc hI
    have hall : ∀ j, j < ops.size → listedF l j = true := by
      intro j hj
      have h0 : l.toList.count false = 0 := by omega
      have : false ∉ l.toList := List.count_eq_zero.1 h0
      unfold listedF
      simp only [Array.getD_eq_getD_getElem?, hl ▸ hj, Array.getElem?_eq_getElem, Option.getD_some]
      cases hb : l[j]'(hl ▸ hj) with
      | true => rfl
      | false => exact absurd (by rw [← hb]; simp) this
    refine ⟨?_, hd _ _ _ hall hI⟩
    cases hr : Region.ready .any ops l with
    | nil => rfl
    | cons i rs =>
      exfalso
      have hi : i ∈ Region.ready .any ops l := by rw [hr]; simp
      obtain ⟨h1, o, h2, _⟩ := mem_ready.1 hi
      have hlt : i < ops.size := (Array.getElem?_eq_some_iff.1 h2).1
      have h3 := hall i hlt
      unfold listedF at h3
      simp [hl, hlt] at h1 h3
      rw [h1] at h3
      cases h3
  | succ fuel ih =>
    intro l a w hl hc hI
    refine ⟨fun hr => hd _ _ _ (key l hl hr) hI, fun i hi => ?_⟩
    obtain ⟨h1, o, h2, h3⟩ := mem_ready.1 hi
    have hlt : i < ops.size := (Array.getElem?_eq_some_iff.1 h2).1
    refine wpOp_step h2 fun K' hK => ?_
    have hst := steps_at ops.toList 0 hs i o (by simpa using h2)
    rw [Nat.zero_add] at hst
    refine hst (listedF l) a w hI ?_ ?_ K' ?_
    · unfold listedF
      simp [hl, hlt] at h1 ⊢
      exact h1
    · intro j hj
      have hj' : j ∈ depsL o := by simpa using hj
      obtain ⟨e, he, rfl⟩ := List.mem_map.1 hj'
      obtain ⟨he1, he2⟩ := List.mem_filter.1 he
      exact h3 e (by simpa using he1) he2
    · intro a' w' hI'
      refine hK _ _ (ih _ _ _ (by simpa using hl) ?_ ?_)
      · have hfi : l[i]'(hl ▸ hlt) = false := by simpa [hl, hlt] using h1
        have hil : i < l.size := hl ▸ hlt
        rw [Array.toList_setIfInBounds, List.count_set (by simpa using hil)]
        have : l.toList[i]'(by simpa using hil) = false := by simpa using hfi
        simp only [this, beq_self_eq_true, if_true]
        have hpos : 0 < l.toList.count false := List.count_pos_iff.2 (by rw [← this]; simp)
        have h9 : (true == false) = false := rfl
        simp only [h9]
        have hc' : l.toList.count false ≤ fuel + 1 := hc
        clear hc
        generalize l.toList.count false = n at hc' hpos ⊢
        simp
        omega
      · rw [listedF_set (hl ▸ hlt)]
        exact hI'
theorem region_inv {id : Nat} {a : Act} {w : World} (I : (Nat → Bool) → Act → World → Prop) (hm : P.follows .mixedOrders = true) (ho : ordered ops = true)
    (h0 : I (fun _ => false) a w.drew) (hd : ∀ f a w, (∀ j, j < ops.size → f j = true) → I f a w → Q .normal a w) (hs : Steps P ops Q I 0 ops.toList) :
    (Code.region id ops true).wp P Q a w := by
  refine wp_region_any hm (any_inv ho hs hd _ _ _ _ (by simp) ?_ ?_)
  · simp
  · have : listedF (Array.replicate ops.size false) = fun _ => false := by
      funext j
      unfold listedF
      by_cases hj : j < ops.size <;> simp [hj]
    rw [this]
    exact h0
end
/-! What holds at a world holds behind draws and new blocks. -/
inductive PeelR (w : World) : World → Prop
  | refl : PeelR w w
  | drew {w'} : PeelR w w' → PeelR w w'.drew
  | drewN {w'} (n : Nat) : PeelR w w' → PeelR w (w'.drewN n)
  | alloc {w'} (o : Obj) : PeelR w w' → PeelR w (w'.alloc o)
class Peel (w w' : World) : Prop where
  p : PeelR w w'
instance (w : World) : Peel w w := ⟨.refl⟩
instance (w w' : World) [h : Peel w w'] : Peel w w'.drew := ⟨.drew h.p⟩
instance (w w' : World) (n : Nat) [h : Peel w w'] : Peel w (w'.drewN n) := ⟨.drewN n h.p⟩
instance (w w' : World) (o : Obj) [h : Peel w w'] : Peel w (w'.alloc o) := ⟨.alloc o h.p⟩
theorem PeelR.bel {w w' : World} (h : PeelR w w') : Below w.heap.size w w' := by
  induction h with
  | refl => exact Below.refl _ _
  | drew _ ih => exact ih.drew
  | drewN n _ ih => exact pw_below_drewN ih n
  | alloc o _ ih => exact below_alloc ih o
theorem Peel.below {w w' : World} [h : Peel w w'] : Below w.heap.size w w' := h.p.bel
theorem am {p : Prop} (h : p) : Aside0 p := ⟨h⟩
theorem bb {w w' : World} {g : Nat} {o : Obj} (h : Aside0 (w.heap[g]? = some o)) (hb : Below w.heap.size w w') : Aside0 (w'.heap[g]? = some o) := ⟨blk_below h.out hb⟩
theorem hh {w W W' : World} (h : Aside0 (Below w.heap.size w W)) (hb : Below W.heap.size W W') : Aside0 (Below w.heap.size w W') := ⟨below_step h.out hb⟩
theorem bX {w w' : World} [Peel w w'] {g : Nat} {o : Obj} (h : w.heap[g]? = some o) : w'.heap[g]? = some o := blk_below h Peel.below
theorem beX {w W W' : World} [Peel W W'] (h : Below w.heap.size w W) : Below w.heap.size w W' := below_step h Peel.below
theorem rX {α : Type} {d : Kd α} {e base : Nat} {w w' : World} [Peel w w'] {ok : Nat → Prop} {v : Value} {xs : List α} (h : d.R e w base ok v xs) : d.R e w' base ok v xs := Kd.R_below h Peel.below
/-! Several cells of one block set, one behind the other. -/
def sets (w : World) (g : Nat) : Nat → List Value → World
  | _, [] => w
  | i, v :: l => sets (w.setCell ⟨g, i, none⟩ v) g (i + 1) l
def setsA (cs : Array Value) : Nat → List Value → Array Value
  | _, [] => cs
  | i, v :: l => setsA (cs.setIfInBounds i v) (i + 1) l
theorem heap_sets {t : TypeId} {g : Nat} : ∀ (l : List Value) (i : Nat) {w : World} {cs : Array Value}, w.heap[g]? = some (.cells cs t (0, 0)) → (sets w g i l).heap[g]? = some (.cells (setsA cs i l) t (0, 0))
  | [], _, _, _, h => h
  | v :: l, i, _, _, h => heap_sets l (i + 1) (blk_put h i v rfl)
def lset : List Value → Nat → List Value → List Value
  | [], _, _ => []
  | c :: L, i + 1, l => c :: lset L i l
  | _ :: L, 0, v :: l => v :: lset L 0 l
  | c :: L, 0, [] => c :: L
theorem lset_nil : ∀ (L : List Value) (i : Nat), lset L i [] = L
  | [], _ => rfl
  | c :: L, 0 => rfl
  | c :: L, i + 1 => by rw [lset, lset_nil L i]
theorem lset_cons (v : Value) (l : List Value) : ∀ (L : List Value) (i : Nat), lset L i (v :: l) = lset (L.set i v) (i + 1) l
  | [], _ => rfl
  | c :: L, 0 => by rw [lset, List.set_cons_zero, lset]
  | c :: L, i + 1 => by rw [lset, lset_cons v l L i, List.set_cons_succ, lset]
theorem setsA_lset : ∀ (l : List Value) (i : Nat) (cs : Array Value), setsA cs i l = (lset cs.toList i l).toArray
  | [], i, cs => by rw [lset_nil, setsA]
  | v :: l, i, cs => by rw [setsA, setsA_lset l (i + 1), lset_cons, Array.toList_setIfInBounds]
theorem setsA_of {cs cs' : Array Value} {i : Nat} {l : List Value} (e : lset cs.toList i l = cs'.toList) : setsA cs i l = cs' := by rw [setsA_lset, e]
theorem far_sets {t : TypeId} {g g' : Nat} {cs : Array Value} (ne : g' ≠ g) : ∀ (l : List Value) (i : Nat) {w : World}, w.heap[g']? = some (.cells cs t (0, 0)) → (sets w g i l).heap[g']? = some (.cells cs t (0, 0))
  | [], _, _, h => h
  | _ :: l, i, _, h => far_sets ne l (i + 1) (blk_far h (p := ⟨g, i, none⟩) ne _)
theorem below_sets {w : World} {g : Nat} (hz : w.heap.size ≤ g) : ∀ (l : List Value) (i : Nat) {W : World}, Below w.heap.size w W → Below w.heap.size w (sets W g i l)
  | [], _, _, h => h
  | _ :: l, i, _, h => below_sets hz l (i + 1) (below_set h hz)
theorem R_sets {α : Type} {d : Kd α} {e base g t : Nat} {ok : Nat → Prop} {v : Value} {xs : List α} (ht : ∀ q, q ∈ e :: d.E → q ≠ t) : ∀ (l : List Value) (i : Nat) {w : World} {cs : Array Value}, w.heap[g]? = some (.cells cs t (0, 0)) → d.R e w base ok v xs → d.R e (sets w g i l) base ok v xs
  | [], _, _, _, _, h => h
  | u :: l, i, _, _, hb, h => R_sets ht l (i + 1) (blk_put hb i u rfl) (Kd.R_set h hb ht i u)
theorem R_fars {α : Type} {d : Kd α} {e base g : Nat} {v : Value} {xs : List α} {ok : Nat → Prop} : ∀ (l : List Value) (i : Nat) {w : World}, d.R e w base (fun k => ok k ∧ k ≠ g) v xs → d.R e (sets w g i l) base (fun k => ok k ∧ k ≠ g) v xs
  | [], _, _, h => h
  | _ :: l, i, _, h => R_fars l (i + 1) (Kd.R_far (p := ⟨g, i, none⟩) h (fun _ hk => hk.2) _)
section
variable {w w' : World} {g i : Nat} {l : List Value}
theorem pS {t : TypeId} {cs : Array Value} (cs' : Array Value) (hw : w' = sets w g i l) (h : Aside0 (w.heap[g]? = some (.cells cs t (0, 0)))) (e : lset cs.toList i l = cs'.toList := by rfl) : Aside0 (w'.heap[g]? = some (.cells cs' t (0, 0))) := ⟨hw ▸ setsA_of e ▸ heap_sets l i h.out⟩
theorem pS0 {t : TypeId} {cs : Array Value} (cs' : Array Value) (h : w.heap[g]? = some (.cells cs t (0, 0))) (e : lset cs.toList i l = cs'.toList := by rfl) : (sets w g i l).heap[g]? = some (.cells cs' t (0, 0)) := setsA_of e ▸ heap_sets l i h
theorem fS {t : TypeId} {g' : Nat} {cs : Array Value} (hw : w' = sets w g i l) (h : Aside0 (w.heap[g']? = some (.cells cs t (0, 0)))) (ne : g' ≠ g) : Aside0 (w'.heap[g']? = some (.cells cs t (0, 0))) := ⟨hw ▸ far_sets ne l i h.out⟩
theorem fS0 {t : TypeId} {g' : Nat} {cs : Array Value} (h : w.heap[g']? = some (.cells cs t (0, 0))) (ne : g' ≠ g) : (sets w g i l).heap[g']? = some (.cells cs t (0, 0)) := far_sets ne l i h
theorem hS {W0 : World} (hw : w' = sets w g i l) (h : Aside0 (Below W0.heap.size W0 w)) (hz : W0.heap.size ≤ g) : Aside0 (Below W0.heap.size W0 w') := ⟨hw ▸ below_sets hz l i h.out⟩
theorem hS0 {W0 : World} (h : Below W0.heap.size W0 w) (hz : W0.heap.size ≤ g) : Below W0.heap.size W0 (sets w g i l) := below_sets hz l i h
theorem rS {α : Type} {d : Kd α} {e base : Nat} {t : TypeId} {ok : Nat → Prop} {v : Value} {xs : List α} {cs : Array Value} (hw : w' = sets w g i l) (h : Aside0 (d.R e w base ok v xs)) (hb : Aside0 (w.heap[g]? = some (.cells cs t (0, 0)))) (ht : ∀ q, q ∈ e :: d.E → q ≠ t) : Aside0 (d.R e w' base ok v xs) := ⟨hw ▸ R_sets ht l i hb.out h.out⟩
theorem rS0 {α : Type} {d : Kd α} {e base : Nat} {t : TypeId} {ok : Nat → Prop} {v : Value} {xs : List α} {cs : Array Value} (h : d.R e w base ok v xs) (hb : w.heap[g]? = some (.cells cs t (0, 0))) (ht : ∀ q, q ∈ e :: d.E → q ≠ t) : d.R e (sets w g i l) base ok v xs := R_sets ht l i hb h
theorem rF {α : Type} {d : Kd α} {e base : Nat} {ok : Nat → Prop} {v : Value} {xs : List α} (hw : w' = sets w g i l) (h : Aside0 (d.R e w base (fun k => ok k ∧ k ≠ g) v xs)) : Aside0 (d.R e w' base (fun k => ok k ∧ k ≠ g) v xs) := ⟨hw ▸ R_fars l i h.out⟩
theorem rB {α : Type} {d : Kd α} {e base : Nat} {ok : Nat → Prop} {v : Value} {xs : List α} (h : Aside0 (d.R e w base ok v xs)) (hb : Below w.heap.size w w') : Aside0 (d.R e w' base ok v xs) := ⟨Kd.R_below h.out hb⟩
theorem lB {b : Nat} {o : Obj} (hg : g = w.heap.size) (h : Aside0 (w.heap[b]? = some o)) : b < g := hg ▸ blk_lt h.out
theorem lB0 {b : Nat} {o : Obj} (hg : g = w.heap.size) (h : w.heap[b]? = some o) : b < g := hg ▸ blk_lt h
theorem zB {W0 : World} (hg : g = w.heap.size) (h : Aside0 (Below W0.heap.size W0 w)) : W0.heap.size ≤ g := hg ▸ below_size h.out
theorem zB0 {W0 : World} (hg : g = w.heap.size) (h : Below W0.heap.size W0 w) : W0.heap.size ≤ g := hg ▸ below_size h
end
section
variable {P : Program} {ops : Array Oper} {rest : List Oper} {o : Oper} {a : Act} {Q : Exit → Act → World → Prop} {W : World}
theorem boxE {N : Tmp} (cs : Array Value) (t : TypeId)
    (h : ∀ g, g = W.heap.size → ∀ w1, w1.heap[g]? = some (.cells cs t (0, 0)) → Below W.heap.size W w1 → wpList P ops Q rest (a.put o.dst (.pointer (some ⟨g, 0, none⟩))) w1)
    (hd : o.dst = some N := by rfl) (hgd : o.guard = none := by rfl)
    (hrun : (execOp a.eval o).run P W = .ok (.value (.pointer (some ⟨W.heap.size, 0, none⟩))) (W.alloc (.cells cs t (0, 0))) := by first | (go_simp; done) | (go_simp; rfl)) : wpList P ops Q (o :: rest) a W :=
  box_event hgd hd hrun h
theorem storeE {t : TypeId} {p : Tmp} {v : Operand} (w1 : World) (h : ∀ w', w' = w1 → wpList P ops Q rest a w')
    (ho : o.op = .store t (.tmp p) v := by rfl) (hgd : o.guard = none := by rfl) (hN : o.dst = none := by rfl)
    (hrun : (execOp a.eval o).run P W = .ok .skip w1 := by first | (go_simp; done) | (go_simp; rfl)) : wpList P ops Q (o :: rest) a W :=
  store_event hgd ho hN hrun h
theorem goesE {N : Option Tmp} {f : FuncId} {fn : Func} (hf : P.funcs[f]? = some fn) (args : Array Value) {as : Array Operand} {ts : Array TypeId}
    (h : Calls P f args W fun e w' => ∃ v, e = .returned v ∧ wpList P ops Q rest (a.put N v) w') (hd : o.dst = N := by rfl) (hg : o.guard = none := by rfl)
    (hname : (fn.name == "runtime.NumGoroutine") = false := by kernel_rfl) (hb : fn.body.isSome = true := by rfl)
    (hop : o.op = .call { callee := .value (.func f), args := as, argTypes := ts } := by rfl)
    (hargs : as.map a.eval = args := by first | rfl | (simp only [List.map_toArray, List.map_cons, List.map_nil, List.append_toArray, List.cons_append, List.nil_append]; done) | (simp only [List.map_toArray, List.map_cons, List.map_nil, List.append_toArray, List.cons_append, List.nil_append]; rfl)) : wpList P ops Q (o :: rest) a W :=
  goesL_ N hd hg hf hname hb args hop hargs h
theorem goesD {N : Option Tmp} {K : Act → World → Prop} {f : FuncId} {fn : Func} (hf : P.funcs[f]? = some fn) (args : Array Value) {as : Array Operand} {ts : Array TypeId}
    (h : Calls P f args W fun e w' => ∃ v, e = .returned v ∧ K (a.put N v) w')
    (hname : (fn.name == "runtime.NumGoroutine") = false := by kernel_rfl) (hb : fn.body.isSome = true := by rfl)
    (hw : Region.wanted o (yielded ops a.tmps) = true := by rfl) (hN : o.dst = N := by rfl)
    (hop : o.op = .call { callee := .value (.func f), args := as, argTypes := ts } := by rfl)
    (hargs : as.map a.eval = args := by first | rfl | (simp only [List.map_toArray, List.map_cons, List.map_nil, List.append_toArray, List.cons_append, List.nil_append]; done) | (simp only [List.map_toArray, List.map_cons, List.map_nil, List.append_toArray, List.cons_append, List.nil_append]; rfl)) :
    if Region.wanted o (yielded ops a.tmps) = true then Oper.wp P o a W K Q else K (a.put N undef) W :=
  goes_ hf hname hb args hw hN hop hargs h
theorem valE {N : Option Tmp} {w1 : World} (v : Value) {K : Act → World → Prop} (h : K (a.put N v) w1)
    (hw : Region.wanted o (yielded ops a.tmps) = true := by rfl) (hN : o.dst = N := by rfl)
    (hrun : (execOp a.eval o).run P W = .ok (.value v) w1 := by first | (go_simp; done) | (go_simp; rfl) | (go_simp; simp only [i64_w]; done) | (go_simp; simp only [i64_w]; rfl)) :
    if Region.wanted o (yielded ops a.tmps) = true then Oper.wp P o a W K Q else K (a.put N undef) W := value_ hw hN hrun h
theorem skipE {w1 : World} {K : Act → World → Prop} (h : K a w1)
    (hw : Region.wanted o (yielded ops a.tmps) = true := by rfl) (hN : o.dst = none := by rfl)
    (hrun : (execOp a.eval o).run P W = .ok .skip w1 := by first | (go_simp; done) | (go_simp; rfl) | (go_simp; simp only [i64_w]; done) | (go_simp; simp only [i64_w]; rfl)) :
    if Region.wanted o (yielded ops a.tmps) = true then Oper.wp P o a W K Q else K (a.put none undef) W := skip_ hw hN hrun h
theorem bxE {N : Tmp} {K : Act → World → Prop} (cs : Array Value) (t : TypeId)
    (h : ∀ g, g = W.heap.size → ∀ w1, w1.heap[g]? = some (.cells cs t (0, 0)) → Below W.heap.size W w1 → K (a.put o.dst (.pointer (some ⟨g, 0, none⟩))) w1)
    (hw : Region.wanted o (yielded ops a.tmps) = true := by rfl) (hd : o.dst = some N := by rfl)
    (hrun : (execOp a.eval o).run P W = .ok (.value (.pointer (some ⟨W.heap.size, 0, none⟩))) (W.alloc (.cells cs t (0, 0))) := by first | (go_simp; done) | (go_simp; rfl)) :
    if Region.wanted o (yielded ops a.tmps) = true then Oper.wp P o a W K Q else K (a.put o.dst undef) W := box_step hw hd hrun h
end
/-! The same, in fewer words. -/
class PeelO (w : outParam World) (w' : World) : Prop where
  p : PeelR w w'
instance (priority := low) peelO0 (w : World) : PeelO w w := ⟨.refl⟩
instance (w w' : World) [h : PeelO w w'] : PeelO w w'.drew := ⟨.drew h.p⟩
instance (w w' : World) (n : Nat) [h : PeelO w w'] : PeelO w (w'.drewN n) := ⟨.drewN n h.p⟩
instance (w w' : World) (o : Obj) [h : PeelO w w'] : PeelO w (w'.alloc o) := ⟨.alloc o h.p⟩
theorem bO {w w' : World} [p : PeelO w w'] {g : Nat} {o : Obj} (h : w.heap[g]? = some o) : w'.heap[g]? = some o := blk_below h p.p.bel
theorem bY {w W W' : World} [Peel w W] {g : Nat} {o : Obj} (h : Aside0 (w.heap[g]? = some o)) (hb : Below W.heap.size W W') : Aside0 (W'.heap[g]? = some o) := ⟨blk_below (bX h.out) hb⟩
theorem hYb {w W W1 W' : World} [Peel W W1] (h : Aside0 (Below w.heap.size w W)) (hb : Below W1.heap.size W1 W') : Aside0 (Below w.heap.size w W') := ⟨below_step (beX h.out) hb⟩
theorem gW {w W W' : World} [Peel W W'] {g : Nat} (hg : g = W'.heap.size) (h : Aside0 (Below w.heap.size w W)) : Aside0 (w.heap.size ≤ g) := ⟨hg ▸ below_size (beX h.out)⟩
theorem nL {W W' : World} [Peel W W'] {g g' : Nat} {o : Obj} (hg : g' = W'.heap.size) (h : Aside0 (W.heap[g]? = some o)) : Aside0 (g ≠ g') := ⟨hg ▸ Nat.ne_of_lt (blk_lt (bX (w' := W') h.out))⟩
theorem nG {W W' : World} [Peel W W'] {g g' : Nat} {o : Obj} (hg : g' = W'.heap.size) (h : Aside0 (W.heap[g]? = some o)) : Aside0 (g' ≠ g) := ⟨hg ▸ Nat.ne_of_gt (blk_lt (bX (w' := W') h.out))⟩
section
variable {P : Program} {ops : Array Oper} {rest : List Oper} {o : Oper} {a : Act} {Q : Exit → Act → World → Prop} {W : World}
theorem goesP (N : Option Tmp) {f : FuncId} {fn : Func} (hf : P.funcs[f]? = some fn) (args : Array Value) {as : Array Operand} {ts : Array TypeId}
    (h : Calls P f args W fun e w' => ∃ v, e = .returned v ∧ wpList P ops Q rest (a.put N v) w') (hd : o.dst = N := by rfl) (hg : o.guard = none := by rfl)
    (hname : (fn.name == "runtime.NumGoroutine") = false := by kernel_rfl) (hb : fn.body.isSome = true := by rfl)
    (hop : o.op = .call { callee := .value (.func f), args := as, argTypes := ts } := by rfl)
    (hargs : as.map a.eval = args := by ((try simp only [List.map_toArray, List.map_cons, List.map_nil]); first | done | rfl | (simp only [List.length_drop, List.length_take]; rfl))) : wpList P ops Q (o :: rest) a W :=
  goesL_ N hd hg hf hname hb args hop hargs h
end
end Go.Proofs.Ytocefehnemahhaa.G
