-- Written by a program of this session, out of the kit's words: those that this seat names. Not trusted: Lean checks it.
import Derived.Test.YtdenepapeoiiiaaWTab
namespace Go.Proofs.YtdenepapeoiiiaaW.PrintLast
section
variable {P : Program} {ops : Array Oper} {Q : Exit → Act → World → Prop} {md : Region.Mode} {S : World → Prop} {ds : List Nat} {T : Bool × List (List Nat × List Nat)}
end
end Go.Proofs.YtdenepapeoiiiaaW.PrintLast
