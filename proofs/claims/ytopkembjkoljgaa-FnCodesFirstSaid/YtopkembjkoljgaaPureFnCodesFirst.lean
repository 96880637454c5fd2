/- The law FnCodesFirst returns true: of drawn lengths that make a code, the first of the shortest codes is 0, and the last of the longest has all bits set, unless there is but one. Condition: the slice has at most 140737488351232 bytes, as every slice that the row reads. -/
import Derived.Test.YtopkembjkoljgaaLawsCodesFirst
namespace Go.Proofs.Ytopkembjkoljgaa.Pure
open Go.Proofs.Ytopkembjkoljgaa.PAll
theorem FnCodesFirst : laws_FnCodesFirst.Pure := Go.Proofs.Ytopkembjkoljgaa.My.LawCodesFirst
end Go.Proofs.Ytopkembjkoljgaa.Pure
