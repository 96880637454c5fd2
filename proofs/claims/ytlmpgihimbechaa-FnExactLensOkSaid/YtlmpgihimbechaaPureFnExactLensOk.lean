/- The law FnExactLensOk returns true: LensOk of the program is that of the reference. Condition: the slice has at most 140737488351232 bytes, as every slice that the row reads. -/
import Derived.Test.YtlmpgihimbechaaLawsC1
namespace Go.Proofs.Ytlmpgihimbechaa.Pure
open Go.Proofs.Ytlmpgihimbechaa.PAll
theorem FnExactLensOk : laws_FnExactLensOk.Pure := Go.Proofs.Ytlmpgihimbechaa.My.ExactLensOk
end Go.Proofs.Ytlmpgihimbechaa.Pure
