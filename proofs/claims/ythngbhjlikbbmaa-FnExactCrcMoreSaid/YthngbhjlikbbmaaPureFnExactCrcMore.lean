/- The law FnExactCrcMore returns true: CrcMore of the program is that of the reference. Condition: the number is of 64 bits, the text has at most 140737488351232 bytes, as every string that the row reads. -/
import Derived.Test.YthngbhjlikbbmaaLaws1
namespace Go.Proofs.Ythngbhjlikbbmaa.Pure
open Go.Proofs.Ythngbhjlikbbmaa.PAll
theorem FnExactCrcMore : laws_FnExactCrcMore.Pure := Go.Proofs.Ythngbhjlikbbmaa.My.ExactCrcMore
end Go.Proofs.Ythngbhjlikbbmaa.Pure
