/- The law FnCrcMore returns true: CrcMore of Crc is Crc of both. Condition: each code has at most 140737488351232 bytes, as every slice that the row reads. -/
import Derived.Test.YthngbhjlikbbmaaLaws3
namespace Go.Proofs.Ythngbhjlikbbmaa.Pure
open Go.Proofs.Ythngbhjlikbbmaa.PAll
theorem FnCrcMore : laws_FnCrcMore.Pure := Go.Proofs.Ythngbhjlikbbmaa.My.LawCrcMore
end Go.Proofs.Ythngbhjlikbbmaa.Pure
