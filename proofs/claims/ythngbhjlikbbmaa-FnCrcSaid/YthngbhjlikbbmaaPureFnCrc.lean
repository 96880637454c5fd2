/- The law FnCrc returns true: Crc of a drawn text is the reference's, of nine figures 3421780262, of nothing 0. Condition: the code has at most 140737488351232 bytes, as every slice that the row reads. -/
import Derived.Test.YthngbhjlikbbmaaLaws2
namespace Go.Proofs.Ythngbhjlikbbmaa.Pure
open Go.Proofs.Ythngbhjlikbbmaa.PAll
theorem FnCrc : laws_FnCrc.Pure := Go.Proofs.Ythngbhjlikbbmaa.My.LawCrc
end Go.Proofs.Ythngbhjlikbbmaa.Pure
