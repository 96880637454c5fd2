/- The law FnExactSymbolsGet returns true: SymbolsGet of the program is that of the reference, and the slices are a caller's own. Condition: the slice and the text have at most 140737488351232 bytes, as every slice and text that the row reads. -/
import Derived.Test.YtcbehpemhkfieaaLawsExactSymbolsGet
namespace Go.Proofs.Ytcbehpemhkfieaa.Pure
open Go.Proofs.Ytcbehpemhkfieaa.PAll
theorem FnExactSymbolsGet : laws_FnExactSymbolsGet.Pure := Go.Proofs.Ytcbehpemhkfieaa.My.ExactSymbolsGet
end Go.Proofs.Ytcbehpemhkfieaa.Pure
