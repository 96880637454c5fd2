/- The law FnCodes returns true: of drawn lengths that make a code, no code begins another one, and of as long ones the later symbol has the greater one. Condition: the slice has at most 140737488351232 bytes, as every slice that the row reads. -/
import Derived.Test.YtopkembjkoljgaaLawsCodes
namespace Go.Proofs.Ytopkembjkoljgaa.Pure
open Go.Proofs.Ytopkembjkoljgaa.PAll
theorem FnCodes : laws_FnCodes.Pure := Go.Proofs.Ytopkembjkoljgaa.My.LawCodes
end Go.Proofs.Ytopkembjkoljgaa.Pure
