/- The law FnSymbolsGet returns true: SymbolsGet of the program is that of the reference, fewer symbols of a text are the first of more, and each symbol has a code. Condition: the slices have at most 140737488351232 bytes, as every slice that the row reads. -/
import Derived.Test.YtcbehpemhkfieaaLawsSymbolsGet
namespace Go.Proofs.Ytcbehpemhkfieaa.Pure
open Go.Proofs.Ytcbehpemhkfieaa.PAll
theorem FnSymbolsGet : laws_FnSymbolsGet.Pure := Go.Proofs.Ytcbehpemhkfieaa.My.LawSymbolsGet
end Go.Proofs.Ytcbehpemhkfieaa.Pure
