/- The law FnLensSame returns true: of counts that are all one, lengths differ by one at most. Condition: the slice has at most 140737488351232 bytes, as every slice that the row reads. -/
import Derived.Test.YtdenepapeoiiiaaLawsLensSame
namespace Go.Proofs.Ytdenepapeoiiiaa.Pure
open Go.Proofs.Ytdenepapeoiiiaa.PAll
theorem FnLensSame : laws_FnLensSame.Pure := Go.Proofs.Ytdenepapeoiiiaa.My.LawLensSame
end Go.Proofs.Ytdenepapeoiiiaa.Pure
