/- The law FnSymbolsTwo returns true: of drawn lengths and symbols, the pieces of a list twice are its pieces, twice. Condition: the slice has at most 140737488351232 bytes, as every slice that the row reads. -/
import Derived.Test.YtopkembjkoljgaaMT
namespace Go.Proofs.Ytopkembjkoljgaa.Pure
open Go.Proofs.Ytopkembjkoljgaa.PAll
theorem FnSymbolsTwo : laws_FnSymbolsTwo.Pure := Go.Proofs.Ytopkembjkoljgaa.My.LawSymbolsTwo
end Go.Proofs.Ytopkembjkoljgaa.Pure
