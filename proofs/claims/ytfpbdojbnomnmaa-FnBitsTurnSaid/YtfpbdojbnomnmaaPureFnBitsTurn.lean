/- The law FnBitsTurn returns true: turned twice a number is itself, and a bit more doubles what is turned. Condition: the code has at most 140737488351232 bytes, as every slice that the row reads. -/
import Derived.Test.YtfpbdojbnomnmaaLawsB3
namespace Go.Proofs.Ytfpbdojbnomnmaa.Pure
open Go.Proofs.Ytfpbdojbnomnmaa.PAll
theorem FnBitsTurn : laws_FnBitsTurn.Pure := Go.Proofs.Ytfpbdojbnomnmaa.My.LawBitsTurn
end Go.Proofs.Ytfpbdojbnomnmaa.Pure
