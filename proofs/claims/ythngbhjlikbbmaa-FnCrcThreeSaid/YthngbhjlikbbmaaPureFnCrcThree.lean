/- The law FnCrcThree returns true: sums of three drawn texts are joined in either order. Condition: each code has at most 140737488351232 bytes, as every slice that the row reads. -/
import Derived.Test.YthngbhjlikbbmaaLaws2
namespace Go.Proofs.Ythngbhjlikbbmaa.Pure
open Go.Proofs.Ythngbhjlikbbmaa.PAll
theorem FnCrcThree : laws_FnCrcThree.Pure := Go.Proofs.Ythngbhjlikbbmaa.My.CrcThree
end Go.Proofs.Ythngbhjlikbbmaa.Pure
