/- The law FnBits returns true: what BitsPut wrote BitsGet reads, and it is as long as BitsLong says. Condition: the code has at most 140737488351232 bytes, as every slice that the row reads. -/
import Derived.Test.YtfpbdojbnomnmaaLawsB4
namespace Go.Proofs.Ytfpbdojbnomnmaa.Pure
open Go.Proofs.Ytfpbdojbnomnmaa.PAll
theorem FnBits : laws_FnBits.Pure := Go.Proofs.Ytfpbdojbnomnmaa.My.LawBits
end Go.Proofs.Ytfpbdojbnomnmaa.Pure
