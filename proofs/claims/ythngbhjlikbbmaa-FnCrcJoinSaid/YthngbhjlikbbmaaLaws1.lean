/- The exact laws of the sums: each over the plain steps. -/
import Derived.Test.YthngbhjlikbbmaaLinkAdler
namespace Go.Proofs.Ythngbhjlikbbmaa.My
open Go Go.RowKit Go.Proofs.YthngbhjlikbbmaaW.PrintWords Go.Proofs.YthngbhjlikbbmaaW.PrintLast Go.Proofs.YthngbhjlikbbmaaW.PrintMore Go.Proofs.Ythngbhjlikbbmaa.PAll
open Go.Proofs.Ythngbhjlikbbmaa.Crc Go.Proofs.Ythngbhjlikbbmaa.Adler

theorem ExactConstants : laws_FnExactConstants.Pure := rfl
theorem ExactAdler : laws_FnExactAdler.Pure := by
  intro s hs
  refine ⟨s.size + 1, ?_⟩
  unfold laws_FnExactAdler.f
  rw [spec_Adler_f s (by omega) (by omega), impl_Adler_f s (by omega) (by omega)]
  simp
theorem ExactCrc : laws_FnExactCrc.Pure := by
  intro s hs
  refine ⟨10 * s.size + 10, ?_⟩
  unfold laws_FnExactCrc.f
  rw [spec_Crc_f s (by omega) (by omega), impl_Crc_f s (by omega) (by omega)]
  simp
theorem ExactAdlerJoin : laws_FnExactAdlerJoin.Pure := by
  intro a b n ha hb _
  unfold laws_FnExactAdlerJoin.f
  rw [spec_AdlerJoin_f, impl_AdlerJoin_f a b n (wf_i64 ha) (wf_i64 hb)]
  simp
theorem ExactCrcJoin : laws_FnExactCrcJoin.Pure := by
  intro a b n _ _ _
  refine ⟨800020, ?_⟩
  unfold laws_FnExactCrcJoin.f
  rw [spec_CrcJoin_f a b n (by omega), impl_CrcJoin_f a b n (by omega)]
  simp
theorem ExactCrcMore : laws_FnExactCrcMore.Pure := by
  intro a s _ hs
  refine ⟨10 * s.size + 10, ?_⟩
  unfold laws_FnExactCrcMore.f
  rw [spec_CrcMore_f a s (by omega) (by omega), impl_CrcMore_f a s (by omega) (by omega)]
  simp
end Go.Proofs.Ythngbhjlikbbmaa.My
