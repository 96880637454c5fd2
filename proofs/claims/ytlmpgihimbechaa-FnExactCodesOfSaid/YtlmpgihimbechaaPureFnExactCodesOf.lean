/- The law FnExactCodesOf returns true: CodesOf of the program is that of the reference, and the slices are a caller's own. Condition: the slice has at most 140737488351232 bytes, as every slice that the row reads. -/
import Derived.Test.YtlmpgihimbechaaLawsC1
namespace Go.Proofs.Ytlmpgihimbechaa.Pure
open Go.Proofs.Ytlmpgihimbechaa.PAll
theorem FnExactCodesOf : laws_FnExactCodesOf.Pure := Go.Proofs.Ytlmpgihimbechaa.My.ExactCodesOf
end Go.Proofs.Ytlmpgihimbechaa.Pure
