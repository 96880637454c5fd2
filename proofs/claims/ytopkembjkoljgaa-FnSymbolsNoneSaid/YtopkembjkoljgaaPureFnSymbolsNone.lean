/- The law FnSymbolsNone returns true: of drawn lengths that make a code, a symbol is written if and only if it has a code. Condition: the slice has at most 140737488351232 bytes, as every slice that the row reads. -/
import Derived.Test.YtopkembjkoljgaaLawsSymbolsNone
namespace Go.Proofs.Ytopkembjkoljgaa.Pure
open Go.Proofs.Ytopkembjkoljgaa.PAll
theorem FnSymbolsNone : laws_FnSymbolsNone.Pure := Go.Proofs.Ytopkembjkoljgaa.My.LawSymbolsNone
end Go.Proofs.Ytopkembjkoljgaa.Pure
