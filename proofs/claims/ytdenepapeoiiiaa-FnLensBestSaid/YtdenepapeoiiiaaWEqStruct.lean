-- Written by a program of this session, out of the kit's words: those that this seat names. Not trusted: Lean checks it.
import Derived.Test.YtdenepapeoiiiaaWWords
import Derived.Laws.StructEq
namespace Go.Proofs.YtdenepapeoiiiaaW.PrintWords
open Go.RowKit
section
variable {P : Program} {d : Nat} {xs ys : Array Value} {f : Field} {fs : List Field} {a b : Value} {r s : Bool} {w : World}
end
end Go.Proofs.YtdenepapeoiiiaaW.PrintWords
