-- Written by a program of this session, out of the kit's words: those that this seat names. Not trusted: Lean checks it.
import Derived.Test.YtdenepapeoiiiaaWInv
import Derived.Test.YtdenepapeoiiiaaWFootNe
namespace Go.Proofs.YtdenepapeoiiiaaW.PrintWords
open Go.RowKit
end Go.Proofs.YtdenepapeoiiiaaW.PrintWords
namespace Go.Proofs.YtdenepapeoiiiaaW.PrintLast
section
variable {ops : Array Oper} {a : Act} {o og : Oper} {g : Nat} {t : Tmp} {u : Bool}
end
end Go.Proofs.YtdenepapeoiiiaaW.PrintLast
