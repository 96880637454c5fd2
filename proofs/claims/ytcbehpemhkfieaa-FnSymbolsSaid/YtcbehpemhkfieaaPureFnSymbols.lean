/- The law FnSymbols returns true: symbols that are put come back, and take as many bits as their codes are long. Condition: the slice has at most 140737488351232 bytes, as every slice that the row reads. -/
import Derived.Test.YtcbehpemhkfieaaLawsSymbols
namespace Go.Proofs.Ytcbehpemhkfieaa.Pure
open Go.Proofs.Ytcbehpemhkfieaa.PAll
theorem FnSymbols : laws_FnSymbols.Pure := Go.Proofs.Ytcbehpemhkfieaa.My.LawSymbols
end Go.Proofs.Ytcbehpemhkfieaa.Pure
