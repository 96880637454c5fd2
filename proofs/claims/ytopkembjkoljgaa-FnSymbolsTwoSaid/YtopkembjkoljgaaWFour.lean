-- Written by a program of this session, out of the kit's words: those that this seat names. Not trusted: Lean checks it.
import Derived.Test.YtopkembjkoljgaaWTab
namespace Go.Proofs.YtopkembjkoljgaaW.PrintLast
section
variable {P : Program} {ops : Array Oper} {Q : Exit → Act → World → Prop} {md : Region.Mode} {S : World → Prop} {ds : List Nat} {T : Bool × List (List Nat × List Nat)}
end
end Go.Proofs.YtopkembjkoljgaaW.PrintLast
