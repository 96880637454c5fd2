/- The law FnLens returns true: lengths made of drawn counts make a code, none is longer than it may be, and just symbols that come have one. Condition: the slice has at most 140737488351232 bytes, as every slice that the row reads. -/
import Derived.Test.YtdenepapeoiiiaaLawsLens
namespace Go.Proofs.Ytdenepapeoiiiaa.Pure
open Go.Proofs.Ytdenepapeoiiiaa.PAll
theorem FnLens : laws_FnLens.Pure := Go.Proofs.Ytdenepapeoiiiaa.My.LawLens
end Go.Proofs.Ytdenepapeoiiiaa.Pure
