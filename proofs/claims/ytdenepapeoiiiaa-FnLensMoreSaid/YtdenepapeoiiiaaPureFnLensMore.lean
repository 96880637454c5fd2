/- The law FnLensMore returns true: of drawn counts, what comes more often has no longer code. Condition: the slice has at most 140737488351232 bytes, as every slice that the row reads. -/
import Derived.Test.YtdenepapeoiiiaaLawsLensMore
namespace Go.Proofs.Ytdenepapeoiiiaa.Pure
open Go.Proofs.Ytdenepapeoiiiaa.PAll
theorem FnLensMore : laws_FnLensMore.Pure := Go.Proofs.Ytdenepapeoiiiaa.My.LawLensMore
end Go.Proofs.Ytdenepapeoiiiaa.Pure
