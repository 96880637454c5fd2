/- The law FnBitsOver returns true: BitsLong is the reference's, a piece that is none makes -1 and no text, a piece of two bits makes two more. Condition: the code has at most 140737488351232 bytes, as every slice that the row reads. -/
import Derived.Test.YtfpbdojbnomnmaaLawsB2
namespace Go.Proofs.Ytfpbdojbnomnmaa.Pure
open Go.Proofs.Ytfpbdojbnomnmaa.PAll
theorem FnBitsOver : laws_FnBitsOver.Pure := Go.Proofs.Ytfpbdojbnomnmaa.My.LawBitsOver
end Go.Proofs.Ytfpbdojbnomnmaa.Pure
