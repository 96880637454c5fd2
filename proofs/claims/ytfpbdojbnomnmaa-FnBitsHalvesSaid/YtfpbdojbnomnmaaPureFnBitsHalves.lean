/- The law FnBitsHalves returns true: pieces in halves make the same text. Condition: the code has at most 140737488351232 bytes, as every slice that the row reads. -/
import Derived.Test.YtfpbdojbnomnmaaLawsB9
namespace Go.Proofs.Ytfpbdojbnomnmaa.Pure
open Go.Proofs.Ytfpbdojbnomnmaa.PAll
theorem FnBitsHalves : laws_FnBitsHalves.Pure := Go.Proofs.Ytfpbdojbnomnmaa.My.LawBitsHalves
end Go.Proofs.Ytfpbdojbnomnmaa.Pure
