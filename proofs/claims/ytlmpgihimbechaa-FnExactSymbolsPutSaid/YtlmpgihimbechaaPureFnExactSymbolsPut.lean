/- The law FnExactSymbolsPut returns true: SymbolsPut of the program is that of the reference, and the slices are a caller's own. Condition: each slice has at most 140737488351232 bytes, as every slice that the row reads. -/
import Derived.Test.YtlmpgihimbechaaLawsC3
namespace Go.Proofs.Ytlmpgihimbechaa.Pure
open Go.Proofs.Ytlmpgihimbechaa.PAll
theorem FnExactSymbolsPut : laws_FnExactSymbolsPut.Pure := Go.Proofs.Ytlmpgihimbechaa.My.ExactSymbolsPut
end Go.Proofs.Ytlmpgihimbechaa.Pure
