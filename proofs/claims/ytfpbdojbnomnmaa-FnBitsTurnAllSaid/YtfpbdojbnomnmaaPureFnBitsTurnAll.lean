/- The law FnBitsTurnAll returns true: of all numbers of so many bits each comes once. Condition: the code has at most 140737488351232 bytes, as every slice that the row reads. -/
import Derived.Test.YtfpbdojbnomnmaaLawsB3
namespace Go.Proofs.Ytfpbdojbnomnmaa.Pure
open Go.Proofs.Ytfpbdojbnomnmaa.PAll
theorem FnBitsTurnAll : laws_FnBitsTurnAll.Pure := Go.Proofs.Ytfpbdojbnomnmaa.My.LawBitsTurnAll
end Go.Proofs.Ytfpbdojbnomnmaa.Pure
