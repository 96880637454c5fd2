/- The law FnExactBitsPut. -/
import Derived.Test.YtfpbdojbnomnmaaPAllx21
import Derived.Test.YtfpbdojbnomnmaaLinkPieceS
import Derived.Test.YtfpbdojbnomnmaaLinkBits
namespace Go.Proofs.Ytfpbdojbnomnmaa.My
open Go Go.RowKit Go.Proofs.YtfpbdojbnomnmaaW.PrintWords Go.Proofs.YtfpbdojbnomnmaaW.PrintLast Go.Proofs.YtfpbdojbnomnmaaW.PrintMore Go.Proofs.Ytfpbdojbnomnmaa.PAll
theorem ExactBitsPut (l : List S65) (hl : l.length ≤ 9223372036854775807) : ∃ k, laws_FnExactBitsPut.f k l = some true := by
  refine ⟨2000000, ?_⟩
  obtain ⟨z, hz, hzl⟩ := szPieceS_f l hl
  unfold laws_FnExactBitsPut.f
  rw [hz, Option.bind_some]
  by_cases h0 : z < 0
  · rw [if_pos h0]
  have h1 := hzl h0
  have h2 : (l.map conv).length ≤ 1048576 := by rw [List.length_map]; exact h1
  rw [if_neg h0, toPieceS_f l h1 (by omega), Option.bind_some, spec_BitsPut_f _ (by omega) (by omega), Option.bind_some, Option.bind_some, impl_BitsPut_f _ (by omega) (by omega), Option.bind_some, if_pos rfl, Option.bind_some, eqPieceS_f _ h2 (by omega), Option.bind_some, if_pos rfl]
end Go.Proofs.Ytfpbdojbnomnmaa.My
