/- The law FnAdlerJoin returns true: AdlerJoin of drawn numbers is such a sum or -1, as the reference has it, and with 1 and no length it is the first. Condition: the code has at most 140737488351232 bytes, as every slice that the row reads. -/
import Derived.Test.YthngbhjlikbbmaaLaws3
namespace Go.Proofs.Ythngbhjlikbbmaa.Pure
open Go.Proofs.Ythngbhjlikbbmaa.PAll
theorem FnAdlerJoin : laws_FnAdlerJoin.Pure := Go.Proofs.Ythngbhjlikbbmaa.My.LawAdlerJoin
end Go.Proofs.Ythngbhjlikbbmaa.Pure
