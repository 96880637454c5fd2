/- The law FnExactLensOf returns true: LensOf of the program is that of the reference, and the slices are a caller's own. Condition: the slice has at most 140737488351232 bytes, as every slice that the row reads. -/
import Derived.Test.YtdenepapeoiiiaaLawsExactLensOf
namespace Go.Proofs.Ytdenepapeoiiiaa.Pure
open Go.Proofs.Ytdenepapeoiiiaa.PAll
theorem FnExactLensOf : laws_FnExactLensOf.Pure := Go.Proofs.Ytdenepapeoiiiaa.My.ExactLensOf
end Go.Proofs.Ytdenepapeoiiiaa.Pure
