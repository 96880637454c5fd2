/- The law FnAdlerByte returns true: Adler of a drawn text with a byte more is a step more. Condition: the code has at most 140737488351232 bytes, as every slice that the row reads. -/
import Derived.Test.YthngbhjlikbbmaaLaws2
namespace Go.Proofs.Ythngbhjlikbbmaa.Pure
open Go.Proofs.Ythngbhjlikbbmaa.PAll
theorem FnAdlerByte : laws_FnAdlerByte.Pure := Go.Proofs.Ythngbhjlikbbmaa.My.AdlerByte
end Go.Proofs.Ythngbhjlikbbmaa.Pure
