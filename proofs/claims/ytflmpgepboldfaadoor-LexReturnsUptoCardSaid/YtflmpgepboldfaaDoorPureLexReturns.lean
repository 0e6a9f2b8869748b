/-
  The plain law LexReturns, for a string of at most 1048576 bytes: a literal is read as its string.
-/
import Derived.Test.YtflmpgepboldfaaDoorG10
import Derived.Test.YtflmpgepboldfaaDoorLq
import Derived.Test.YtflmpgepboldfaaDoorPureLexTokens
namespace Go.Proofs.YtflmpgepboldfaaDoor.Pure
open Go.RowKit Go.Proofs.YtflmpgepboldfaaDoor.G Go.Proofs.YtflmpgepboldfaaDoorW.PrintWords Go.Proofs.YtflmpgepboldfaaDoorW.PrintLast Go.Proofs.YtflmpgepboldfaaDoor.Lx

theorem LexReturns (a0 : ByteArray) (w0 : a0.size ≤ 1048576) : ∃ k, imageeditorlaw53_LexReturns.f k a0 = some true := by
  have h1 := lex_Quote_ev a0 w0
  have ex := Ev.bind example_ev (f := fun _ t => some t) (Ev.now true)
  refine Ev.rounds (Ev.bind h1 (f := fun k (b : ByteArray × Int) => (if b.2 = 0 then ((lex_Tokens.f k b.1).bind fun bt283 => (if bt283.2.2 = 0 then ((imageeditorlaw53_same.f k bt283.1 (([(⟨2, a0, 0⟩ : S30), (⟨0, (⟨#[]⟩ : ByteArray), (b.1.size : Int)⟩ : S30)] : List (S30)))).bind fun t291 => (if t291 = true then ((imageeditorlaw53_example.f k).bind fun t292 => (some t292)) else (some false))) else (some false))) else ((imageeditorlaw53_example.f k).bind fun t293 => (some t293)))) ?_)
  unfold quoS quoR
  by_cases hall : a0.data.toList.all okc = true
  · by_cases hb : a0.data.toList.length > 256
    · rw [if_pos hall, if_pos hb]
      exact Ev.congr (fun k => by rw [if_neg (by simp)]) ex
    · rw [if_pos hall, if_neg hb]
      obtain ⟨t1, -⟩ := lex_Tokens_ev (B ([34] ++ a0.data.toList.flatMap qe ++ [34]))
      rw [B_list, lexS_quote _ hall (by omega)] at t1
      refine Ev.congr (fun k => by rw [if_pos rfl]) (Ev.bind t1 (f := fun k (c : List S30 × Int × Int) => (if c.2.2 = 0 then ((imageeditorlaw53_same.f k c.1 (([(⟨2, a0, 0⟩ : S30), (⟨0, (⟨#[]⟩ : ByteArray), ((B ([34] ++ a0.data.toList.flatMap qe ++ [34])).size : Int)⟩ : S30)] : List (S30)))).bind fun t291 => (if t291 = true then ((imageeditorlaw53_example.f k).bind fun t292 => (some t292)) else (some false))) else (some false))) ?_)
      have e1 : tkS 2 a0.data.toList 0 = (⟨2, a0, 0⟩ : S30) := by unfold tkS; rw [B_back]
      have e2 : tkS 0 [] (([34] ++ a0.data.toList.flatMap qe ++ [34]).length : Nat) = (⟨0, (⟨#[]⟩ : ByteArray), ((B ([34] ++ a0.data.toList.flatMap qe ++ [34])).size : Int)⟩ : S30) := by unfold tkS; rw [B_size]; rfl
      rw [e1, e2]
      refine Ev.congr (fun k => by rw [if_pos rfl]) (Ev.bind (same_ev _ (by simp)) (f := fun k (t291 : Bool) => (if t291 = true then ((imageeditorlaw53_example.f k).bind fun t292 => (some t292)) else (some false))) (Ev.congr (fun k => by rw [if_pos rfl]) ex))
  · rw [if_neg hall]
    exact Ev.congr (fun k => by rw [if_neg (by simp)]) ex

end Go.Proofs.YtflmpgepboldfaaDoor.Pure
