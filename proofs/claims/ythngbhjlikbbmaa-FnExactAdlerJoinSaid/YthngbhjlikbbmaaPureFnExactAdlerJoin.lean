/- The law FnExactAdlerJoin returns true: AdlerJoin of the program is that of the reference. Condition: none but that the three numbers are of 64 bits. -/
import Derived.Test.YthngbhjlikbbmaaLaws1
namespace Go.Proofs.Ythngbhjlikbbmaa.Pure
open Go.Proofs.Ythngbhjlikbbmaa.PAll
theorem FnExactAdlerJoin : laws_FnExactAdlerJoin.Pure := Go.Proofs.Ythngbhjlikbbmaa.My.ExactAdlerJoin
end Go.Proofs.Ythngbhjlikbbmaa.Pure
