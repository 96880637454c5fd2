-- Written by a program of this session, out of the kit's words: those that this seat names. Not trusted: Lean checks it.
import Derived.Test.YtopkembjkoljgaaWInv
import Derived.Test.YtopkembjkoljgaaWFootNe
namespace Go.Proofs.YtopkembjkoljgaaW.PrintWords
open Go.RowKit
end Go.Proofs.YtopkembjkoljgaaW.PrintWords
namespace Go.Proofs.YtopkembjkoljgaaW.PrintLast
section
variable {ops : Array Oper} {a : Act} {o og : Oper} {g : Nat} {t : Tmp} {u : Bool}
end
end Go.Proofs.YtopkembjkoljgaaW.PrintLast
