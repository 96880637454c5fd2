/- The law FnExactBitsTurn returns true: BitsTurn of the program is that of the reference. Condition: none but that the two numbers are of 64 bits. -/
import Derived.Test.YtfpbdojbnomnmaaLawsB3
namespace Go.Proofs.Ytfpbdojbnomnmaa.Pure
open Go.Proofs.Ytfpbdojbnomnmaa.PAll
theorem FnExactBitsTurn : laws_FnExactBitsTurn.Pure := Go.Proofs.Ytfpbdojbnomnmaa.My.ExactBitsTurn
end Go.Proofs.Ytfpbdojbnomnmaa.Pure
