/- The law FnExactCrc returns true: Crc of the program is Crc of the reference. Condition: the text has at most 140737488351232 bytes, as every string that the row reads. -/
import Derived.Test.YthngbhjlikbbmaaLaws1
namespace Go.Proofs.Ythngbhjlikbbmaa.Pure
open Go.Proofs.Ythngbhjlikbbmaa.PAll
theorem FnExactCrc : laws_FnExactCrc.Pure := Go.Proofs.Ythngbhjlikbbmaa.My.ExactCrc
end Go.Proofs.Ythngbhjlikbbmaa.Pure
