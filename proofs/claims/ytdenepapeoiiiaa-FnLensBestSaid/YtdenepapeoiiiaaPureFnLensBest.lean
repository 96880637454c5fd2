/- The law FnLensBest returns true: lengths made of drawn counts need no more bits than codes of one length. Condition: the slice has at most 140737488351232 bytes, as every slice that the row reads. -/
import Derived.Test.YtdenepapeoiiiaaLawsLensBest
namespace Go.Proofs.Ytdenepapeoiiiaa.Pure
open Go.Proofs.Ytdenepapeoiiiaa.PAll
theorem FnLensBest : laws_FnLensBest.Pure := Go.Proofs.Ytdenepapeoiiiaa.My.LawLensBest
end Go.Proofs.Ytdenepapeoiiiaa.Pure
