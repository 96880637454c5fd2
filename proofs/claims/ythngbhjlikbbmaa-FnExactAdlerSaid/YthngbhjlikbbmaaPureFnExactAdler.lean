/- The law FnExactAdler returns true: Adler of the program is Adler of the reference. Condition: the text has at most 140737488351232 bytes, as every string that the row reads. -/
import Derived.Test.YthngbhjlikbbmaaLaws1
namespace Go.Proofs.Ythngbhjlikbbmaa.Pure
open Go.Proofs.Ythngbhjlikbbmaa.PAll
theorem FnExactAdler : laws_FnExactAdler.Pure := Go.Proofs.Ythngbhjlikbbmaa.My.ExactAdler
end Go.Proofs.Ythngbhjlikbbmaa.Pure
