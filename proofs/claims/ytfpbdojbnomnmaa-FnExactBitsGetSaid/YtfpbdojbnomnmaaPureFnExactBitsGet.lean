/- The law FnExactBitsGet returns true: BitsGet of the program is that of the reference, and the slices are a caller's own. Condition: the text has at most 140737488351232 bytes and the slice as many bytes, as every text and slice that the row reads. -/
import Derived.Test.YtfpbdojbnomnmaaLawsB1
namespace Go.Proofs.Ytfpbdojbnomnmaa.Pure
open Go.Proofs.Ytfpbdojbnomnmaa.PAll
theorem FnExactBitsGet : laws_FnExactBitsGet.Pure := Go.Proofs.Ytfpbdojbnomnmaa.My.ExactBitsGet
end Go.Proofs.Ytfpbdojbnomnmaa.Pure
