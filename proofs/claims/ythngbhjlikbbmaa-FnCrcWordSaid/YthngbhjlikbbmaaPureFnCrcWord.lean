/- The law FnCrcWord returns true: CrcMore of what is no number of 32 bits is -1, of 0 it is Crc. Condition: the code has at most 140737488351232 bytes, as every slice that the row reads. -/
import Derived.Test.YthngbhjlikbbmaaLaws3
namespace Go.Proofs.Ythngbhjlikbbmaa.Pure
open Go.Proofs.Ythngbhjlikbbmaa.PAll
theorem FnCrcWord : laws_FnCrcWord.Pure := Go.Proofs.Ythngbhjlikbbmaa.My.LawCrcWord
end Go.Proofs.Ythngbhjlikbbmaa.Pure
