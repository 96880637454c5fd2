/- The law FnCrcByte returns true: drawn texts that are one byte apart have two sums. Condition: each code has at most 140737488351232 bytes, as every slice that the row reads. -/
import Derived.Test.YthngbhjlikbbmaaLaws4
namespace Go.Proofs.Ythngbhjlikbbmaa.Pure
open Go.Proofs.Ythngbhjlikbbmaa.PAll
theorem FnCrcByte : laws_FnCrcByte.Pure := Go.Proofs.Ythngbhjlikbbmaa.My.LawCrcByte
end Go.Proofs.Ythngbhjlikbbmaa.Pure
