-- out of the kit's printed words: those declarations that this claim reaches
import Derived.Test.YtocefehnemahhaaWN
namespace Go.Proofs.YtocefehnemahhaaW.PrintWords
open Go.RowKit
namespace Kd
section
variable {α : Type} {d : Kd α} {W : World} {g n : Nat} {S ok : Nat → Prop} {A : Option Addr} {ad : Addr} {xs : List α}
end
end Kd
end Go.Proofs.YtocefehnemahhaaW.PrintWords
