-- out of the kit's printed words: those declarations that this claim reaches
import Derived.Test.YtocefehnemahhaaWInv
import Derived.Test.YtocefehnemahhaaWFootNe
namespace Go.Proofs.YtocefehnemahhaaW.PrintWords
open Go.RowKit
end Go.Proofs.YtocefehnemahhaaW.PrintWords
namespace Go.Proofs.YtocefehnemahhaaW.PrintLast
section
variable {ops : Array Oper} {a : Act} {o og : Oper} {g : Nat} {t : Tmp} {u : Bool}
end
end Go.Proofs.YtocefehnemahhaaW.PrintLast
