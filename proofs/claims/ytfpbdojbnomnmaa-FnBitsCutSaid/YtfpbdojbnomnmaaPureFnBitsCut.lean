/- The law FnBitsCut returns true: a byte less or a byte more is not read. Condition: the code has at most 140737488351232 bytes, as every slice that the row reads. -/
import Derived.Test.YtfpbdojbnomnmaaLawsB6
namespace Go.Proofs.Ytfpbdojbnomnmaa.Pure
open Go.Proofs.Ytfpbdojbnomnmaa.PAll
theorem FnBitsCut : laws_FnBitsCut.Pure := Go.Proofs.Ytfpbdojbnomnmaa.My.LawBitsCut
end Go.Proofs.Ytfpbdojbnomnmaa.Pure
