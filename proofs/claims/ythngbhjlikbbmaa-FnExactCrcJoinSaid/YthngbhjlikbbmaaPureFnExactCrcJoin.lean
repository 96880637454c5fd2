/- The law FnExactCrcJoin returns true: CrcJoin of the program is that of the reference. Condition: none but that the three numbers are of 64 bits. -/
import Derived.Test.YthngbhjlikbbmaaLaws1
namespace Go.Proofs.Ythngbhjlikbbmaa.Pure
open Go.Proofs.Ythngbhjlikbbmaa.PAll
theorem FnExactCrcJoin : laws_FnExactCrcJoin.Pure := Go.Proofs.Ythngbhjlikbbmaa.My.ExactCrcJoin
end Go.Proofs.Ythngbhjlikbbmaa.Pure
