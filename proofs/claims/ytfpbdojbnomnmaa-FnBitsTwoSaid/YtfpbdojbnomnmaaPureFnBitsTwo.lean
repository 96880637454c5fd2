/- The law FnBitsTwo returns true: filled up with zero bits, one text of pieces goes before another. Condition: each code has at most 140737488351232 bytes, as every slice that the row reads. -/
import Derived.Test.YtfpbdojbnomnmaaLawsB10
namespace Go.Proofs.Ytfpbdojbnomnmaa.Pure
open Go.Proofs.Ytfpbdojbnomnmaa.PAll
theorem FnBitsTwo : laws_FnBitsTwo.Pure := Go.Proofs.Ytfpbdojbnomnmaa.My.LawBitsTwo
end Go.Proofs.Ytfpbdojbnomnmaa.Pure
