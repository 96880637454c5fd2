/- The law FnExactConstants returns true: each constant of the program is the one that the document names. No condition. -/
import Derived.Test.YthngbhjlikbbmaaLaws1
namespace Go.Proofs.Ythngbhjlikbbmaa.Pure
open Go.Proofs.Ythngbhjlikbbmaa.PAll
theorem FnExactConstants : laws_FnExactConstants.Pure := Go.Proofs.Ythngbhjlikbbmaa.My.ExactConstants
end Go.Proofs.Ythngbhjlikbbmaa.Pure
