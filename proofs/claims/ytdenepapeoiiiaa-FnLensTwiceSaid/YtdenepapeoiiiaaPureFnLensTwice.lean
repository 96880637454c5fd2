/- The law FnLensTwice returns true: counts twice as great make the same lengths. Condition: the slice has at most 140737488351232 bytes, as every slice that the row reads. -/
import Derived.Test.YtdenepapeoiiiaaLawsLensTwice
namespace Go.Proofs.Ytdenepapeoiiiaa.Pure
open Go.Proofs.Ytdenepapeoiiiaa.PAll
theorem FnLensTwice : laws_FnLensTwice.Pure := Go.Proofs.Ytdenepapeoiiiaa.My.LawLensTwice
end Go.Proofs.Ytdenepapeoiiiaa.Pure
