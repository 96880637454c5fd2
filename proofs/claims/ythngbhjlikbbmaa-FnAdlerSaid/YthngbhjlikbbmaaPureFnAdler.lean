/- The law FnAdler returns true: AdlerJoin of two drawn texts' sums is Adler of both. Condition: each code has at most 140737488351232 bytes, as every slice that the row reads. -/
import Derived.Test.YthngbhjlikbbmaaLaws2
namespace Go.Proofs.Ythngbhjlikbbmaa.Pure
open Go.Proofs.Ythngbhjlikbbmaa.PAll
theorem FnAdler : laws_FnAdler.Pure := Go.Proofs.Ythngbhjlikbbmaa.My.LawAdler
end Go.Proofs.Ythngbhjlikbbmaa.Pure
