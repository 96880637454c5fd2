/- The law FnLensOne returns true: a symbol that comes alone has a code of one bit. Condition: the slice has at most 140737488351232 bytes, as every slice that the row reads. -/
import Derived.Test.YtdenepapeoiiiaaLawsLensOne
namespace Go.Proofs.Ytdenepapeoiiiaa.Pure
open Go.Proofs.Ytdenepapeoiiiaa.PAll
theorem FnLensOne : laws_FnLensOne.Pure := Go.Proofs.Ytdenepapeoiiiaa.My.LawLensOne
end Go.Proofs.Ytdenepapeoiiiaa.Pure
