/- The law FnBitsGet returns true: BitsGet is the reference's, and what it reads BitsPut writes so. Condition: the code has at most 140737488351232 bytes, as every slice that the row reads. -/
import Derived.Test.YtfpbdojbnomnmaaLawsB12
namespace Go.Proofs.Ytfpbdojbnomnmaa.Pure
open Go.Proofs.Ytfpbdojbnomnmaa.PAll
theorem FnBitsGet : laws_FnBitsGet.Pure := Go.Proofs.Ytfpbdojbnomnmaa.My.LawBitsGet
end Go.Proofs.Ytfpbdojbnomnmaa.Pure
