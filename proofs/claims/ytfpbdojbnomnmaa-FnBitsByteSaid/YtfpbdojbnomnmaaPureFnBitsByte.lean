/- The law FnBitsByte returns true: pieces of eight bits are the bytes. Condition: the code has at most 140737488351232 bytes, as every slice that the row reads. -/
import Derived.Test.YtfpbdojbnomnmaaLawsB5
namespace Go.Proofs.Ytfpbdojbnomnmaa.Pure
open Go.Proofs.Ytfpbdojbnomnmaa.PAll
theorem FnBitsByte : laws_FnBitsByte.Pure := Go.Proofs.Ytfpbdojbnomnmaa.My.LawBitsByte
end Go.Proofs.Ytfpbdojbnomnmaa.Pure
