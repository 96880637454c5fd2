/- The law FnLensBad returns true: of drawn lengths that make a code, one more of 1 or -1 makes none, one of 0 does. Condition: the slice has at most 140737488351232 bytes, as every slice that the row reads. -/
import Derived.Test.YtopkembjkoljgaaLawsLensBad
namespace Go.Proofs.Ytopkembjkoljgaa.Pure
open Go.Proofs.Ytopkembjkoljgaa.PAll
theorem FnLensBad : laws_FnLensBad.Pure := Go.Proofs.Ytopkembjkoljgaa.My.LawLensBad
end Go.Proofs.Ytopkembjkoljgaa.Pure
