/- The law FnCrcEnd returns true: Crc of a drawn text and its Crc behind it is 558161692. Condition: the code has at most 140737488351232 bytes, as every slice that the row reads. -/
import Derived.Test.YthngbhjlikbbmaaLaws2
namespace Go.Proofs.Ythngbhjlikbbmaa.Pure
open Go.Proofs.Ythngbhjlikbbmaa.PAll
theorem FnCrcEnd : laws_FnCrcEnd.Pure := Go.Proofs.Ythngbhjlikbbmaa.My.CrcEnd
end Go.Proofs.Ythngbhjlikbbmaa.Pure
