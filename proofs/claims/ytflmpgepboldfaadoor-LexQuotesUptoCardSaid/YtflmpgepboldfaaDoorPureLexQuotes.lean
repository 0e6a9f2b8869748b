/-
  The plain law LexQuotes, for a string of at most 1048576 bytes: the program's literal is the reference's, and so is the error.
-/
import Derived.Test.YtflmpgepboldfaaDoorLq
import Derived.Test.YtflmpgepboldfaaDoorPureLexTokens
namespace Go.Proofs.YtflmpgepboldfaaDoor.Pure
open Go.RowKit Go.Proofs.YtflmpgepboldfaaDoor.G Go.Proofs.YtflmpgepboldfaaDoorW.PrintWords Go.Proofs.YtflmpgepboldfaaDoorW.PrintLast Go.Proofs.YtflmpgepboldfaaDoor.Lx

theorem LexQuotes (a0 : ByteArray) (w0 : a0.size ≤ 1048576) : ∃ k, imageeditorlaw53_LexQuotes.f k a0 = some true := by
  obtain ⟨h1, h2⟩ := Quote_ev a0 w0
  exact Ev.rounds (Ev.bind h1 (f := fun k (b : ByteArray × Int) => (imageeditorref53_Quote.f k a0).bind fun bt278 => (if b.1.toList = bt278.1.toList then (if b.2 = bt278.2 then ((imageeditorlaw53_example.f k).bind fun t280 => (some t280)) else (some false)) else (some false)))
    (Ev.bind h2 (f := fun k (c : ByteArray × Int) => (if (quoS a0.data.toList).1.toList = c.1.toList then (if (quoS a0.data.toList).2 = c.2 then ((imageeditorlaw53_example.f k).bind fun t280 => (some t280)) else (some false)) else (some false)))
      (Ev.congr (fun k => by rw [if_pos rfl, if_pos rfl]) (Ev.bind example_ev (f := fun _ t => some t) (Ev.now true)))))

end Go.Proofs.YtflmpgepboldfaaDoor.Pure
