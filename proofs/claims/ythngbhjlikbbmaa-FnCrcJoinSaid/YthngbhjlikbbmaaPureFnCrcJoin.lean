/- The law FnCrcJoin returns true: CrcJoin of two drawn texts' sums is Crc of both. Condition: each code has at most 140737488351232 bytes, as every slice that the row reads. -/
import Derived.Test.YthngbhjlikbbmaaLaws3
namespace Go.Proofs.Ythngbhjlikbbmaa.Pure
open Go.Proofs.Ythngbhjlikbbmaa.PAll
theorem FnCrcJoin : laws_FnCrcJoin.Pure := Go.Proofs.Ythngbhjlikbbmaa.My.LawCrcJoin
end Go.Proofs.Ythngbhjlikbbmaa.Pure
