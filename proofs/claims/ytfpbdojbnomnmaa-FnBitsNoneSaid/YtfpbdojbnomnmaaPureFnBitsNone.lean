/- The law FnBitsNone returns true: pieces of no bits change no text. Condition: the code has at most 140737488351232 bytes, as every slice that the row reads. -/
import Derived.Test.YtfpbdojbnomnmaaLawsB11
namespace Go.Proofs.Ytfpbdojbnomnmaa.Pure
open Go.Proofs.Ytfpbdojbnomnmaa.PAll
theorem FnBitsNone : laws_FnBitsNone.Pure := Go.Proofs.Ytfpbdojbnomnmaa.My.LawBitsNone
end Go.Proofs.Ytfpbdojbnomnmaa.Pure
