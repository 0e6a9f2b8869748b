-- out of the kit's printed words: those declarations that this claim reaches
import Derived.Test.YtocefehnemahhaaWTab
namespace Go.Proofs.YtocefehnemahhaaW.PrintLast
section
variable {P : Program} {ops : Array Oper} {Q : Exit → Act → World → Prop} {md : Region.Mode} {S : World → Prop} {ds : List Nat} {T : Bool × List (List Nat × List Nat)}
end
end Go.Proofs.YtocefehnemahhaaW.PrintLast
