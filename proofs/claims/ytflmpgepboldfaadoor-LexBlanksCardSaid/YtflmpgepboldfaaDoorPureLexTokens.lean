/-
  The plain law LexTokens: for every text the program's tokens are the reference's, and the few given examples read as said.
-/
import Derived.Test.YtflmpgepboldfaaDoorG7
import Derived.Test.YtflmpgepboldfaaDoorLt
namespace Go.Proofs.YtflmpgepboldfaaDoor.Pure
open Go.RowKit Go.Proofs.YtflmpgepboldfaaDoor.G Go.Proofs.YtflmpgepboldfaaDoorW.PrintWords Go.Proofs.YtflmpgepboldfaaDoorW.PrintLast Go.Proofs.YtflmpgepboldfaaDoor.Lx

theorem same_at (l : List S30) (hl : l.length ≤ 1000000) : ∀ (n : Nat) (i : Int), 0 ≤ i → i + n = l.length → Ev (fun k => imageeditorlaw53_same.l0 k l l i) true := by
  intro n
  induction n with
  | zero =>
    intro i h0 hi
    refine Ev.step (fun k => ?_) (Ev.now _)
    rw [imageeditorlaw53_same.l0, if_neg (by omega)]
  | succ n ih =>
    intro i h0 hi
    refine Ev.step (fun k => ?_) (ih (i + 1) (by omega) (by omega))
    rw [imageeditorlaw53_same.l0, if_pos (by omega), if_pos h0, if_pos (by omega), Lx.wrap_small (by omega) (by omega), if_neg (by simp)]
theorem same_ev (l : List S30) (hl : l.length ≤ 1000000) : Ev (fun k => imageeditorlaw53_same.f k l l) true := by
  refine Ev.congr (fun k => ?_) (same_at l hl l.length 0 (by omega) (by omega))
  unfold imageeditorlaw53_same.f; rw [if_pos rfl]
theorem toksL_len : ∀ (n : Nat) (N : Int) (l : List UInt8) (acc : List S30), acc.length ≤ 4096 → (toksL n N l acc).1.length ≤ 4097 := by
  intro n
  induction n with
  | zero => intro N l acc h; simp [toksL]
  | succ n ih =>
    intro N l acc h
    rw [toksL]
    split
    · simp
    split
    · simp; omega
    · split
      · exact ih _ _ _ (by simp; omega)
      · simp
theorem lexS_len (l : List UInt8) : (lexS l).1.length ≤ 4097 := by
  unfold lexS
  split
  · simp
  · exact toksL_len _ _ _ _ (by simp)
theorem example_true : imageeditorlaw53_example.f 60 = some true := by kernel_rfl
theorem example_ev : Ev (fun k => imageeditorlaw53_example.f k) true := Ev.of imageeditorlaw53_example.mono example_true

theorem LexTokens : imageeditorlaw53_LexTokens.Pure := by
  intro a0 _
  obtain ⟨h1, h2⟩ := lex_Tokens_ev a0
  have hs := same_ev (lexS a0.data.toList).1 (by have := lexS_len a0.data.toList; omega)
  have e := Ev.bind h1 (f := fun k (b : List S30 × Int × Int) => (imageeditorref53_Tokens.f k a0).bind fun bt229 => ((imageeditorlaw53_same.f k b.1 bt229.1).bind fun t234 => (if t234 = true then (if b.2.1 = bt229.2.1 then (if b.2.2 = bt229.2.2 then ((lex_Reserved.f a0).bind fun t235 => ((imageeditorref53_Reserved.f a0).bind fun t236 => (if (t235 == t236) = true then ((imageeditorlaw53_example.f k).bind fun t237 => (some t237)) else (some false)))) else (some false)) else (some false)) else (some false))))
    (Ev.bind h2 (f := fun k (c : List S30 × Int × Int) => (imageeditorlaw53_same.f k (lexS a0.data.toList).1 c.1).bind fun t234 => (if t234 = true then (if (lexS a0.data.toList).2.1 = c.2.1 then (if (lexS a0.data.toList).2.2 = c.2.2 then ((lex_Reserved.f a0).bind fun t235 => ((imageeditorref53_Reserved.f a0).bind fun t236 => (if (t235 == t236) = true then ((imageeditorlaw53_example.f k).bind fun t237 => (some t237)) else (some false)))) else (some false)) else (some false)) else (some false)))
      (Ev.bind hs (f := fun k (t234 : Bool) => (if t234 = true then (if (lexS a0.data.toList).2.1 = (lexS a0.data.toList).2.1 then (if (lexS a0.data.toList).2.2 = (lexS a0.data.toList).2.2 then ((lex_Reserved.f a0).bind fun t235 => ((imageeditorref53_Reserved.f a0).bind fun t236 => (if (t235 == t236) = true then ((imageeditorlaw53_example.f k).bind fun t237 => (some t237)) else (some false)))) else (some false)) else (some false)) else (some false))) (r := true)
        (Ev.congr (fun k => by
          rw [if_pos rfl, if_pos rfl, if_pos rfl, lex_resv, ref_resv, Option.bind_some, Option.bind_some, if_pos (by simp)]) (Ev.bind example_ev (f := fun _ t => some t) (Ev.now _)))))
  exact Ev.rounds e

end Go.Proofs.YtflmpgepboldfaaDoor.Pure
