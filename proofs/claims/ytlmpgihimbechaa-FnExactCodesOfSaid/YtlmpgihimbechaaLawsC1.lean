/- The laws FnExactLensOk and FnExactCodesOf. -/
import Derived.Test.YtlmpgihimbechaaPAllx9
import Derived.Test.YtlmpgihimbechaaPAllx13
import Derived.Test.YtlmpgihimbechaaPAllx14
import Derived.Test.YtlmpgihimbechaaCodes
import Derived.Test.YtlmpgihimbechaaLinkEq
namespace Go.Proofs.Ytlmpgihimbechaa.My
open Go Go.RowKit Go.Proofs.YtlmpgihimbechaaW.PrintWords Go.Proofs.YtlmpgihimbechaaW.PrintLast Go.Proofs.YtlmpgihimbechaaW.PrintMore Go.Proofs.Ytlmpgihimbechaa.PAll

theorem ExactLensOk : laws_FnExactLensOk.Pure := by
  intro l _ _ _
  refine ⟨5000000, ?_⟩
  unfold laws_FnExactLensOk.f
  by_cases hz : (l.length : Int) > 1048576
  · rw [if_pos hz]
  rw [if_neg hz, toIntS_f l (by omega) (by omega), Option.bind_some, spec_LensOk_f l (by omega) (by omega), Option.bind_some, Option.bind_some, impl_LensOk_f l (by omega), Option.bind_some, if_neg (by simp), Option.bind_some, eqIntS_f l l (by omega) (by omega), Option.bind_some, if_pos (by simp)]
def codesR (l : List Int) : List Int := if okLens l then codesL l else []
theorem spec_CodesOf_f {k : Nat} (l : List Int) (hl : l.length ≤ 1048576) (hk : 2 * l.length + 8000 ≤ k) : spec_CodesOf.f k l = some (codesR l) := by
  unfold spec_CodesOf.f codesR
  rw [spec_LensOk_f l hl (by omega), Option.bind_some]
  cases h : okLens l with
  | false => rfl
  | true => rw [if_pos rfl, spec_codes_f l h (by omega), Option.bind_some]; rfl
theorem impl_CodesOf_f {k : Nat} (l : List Int) (hk : l.length + 8000 ≤ k) : impl_CodesOf.f k l = some (codesR l) := by
  unfold impl_CodesOf.f codesR
  rw [impl_LensOk_f l (by omega), Option.bind_some]
  cases h : okLens l with
  | false => rfl
  | true => rw [if_pos rfl, impl_codes_f l h (by omega), Option.bind_some]; rfl
theorem codesR_length (l : List Int) : (codesR l).length ≤ l.length := by
  unfold codesR
  split
  · simp [codesL]
  · simp
theorem ExactCodesOf : laws_FnExactCodesOf.Pure := by
  intro l _ _ _
  refine ⟨5000001, ?_⟩
  unfold laws_FnExactCodesOf.f
  by_cases hz : (l.length : Int) > 1048576
  · rw [if_pos hz]
  have hc := codesR_length l
  have e : ∀ a : List Int, decide (a = a) = true := fun a => by simp
  have I := impl_CodesOf_f (k := 5000000) l (by omega)
  have hj : laws_FnExactCodesOf.j0 5000001 l (codesR l) (codesR l) false = some true := by
    rw [laws_FnExactCodesOf.j0]
    generalize codesR l = c at *
    rw [if_neg (by simp), markIntS_f c (by omega) (by omega), Option.bind_some]
    simp only []
    rw [heldIntS_f c.length (by omega) (by omega), Option.bind_some, if_neg (by omega), if_pos rfl, toIntS_f l (by omega) (by omega), Option.bind_some, I, Option.bind_some, eqIntS_f c c (by omega) (by omega), Option.bind_some, if_pos (e c), Option.bind_some, if_neg (by omega), if_pos rfl]
  rw [if_neg hz, toIntS_f l (by omega) (by omega), Option.bind_some, spec_CodesOf_f l (by omega) (by omega), Option.bind_some, Option.bind_some, impl_CodesOf_f l (by omega), Option.bind_some, eqIntS_f (codesR l) (codesR l) (by omega) (by omega), Option.bind_some, if_pos (e _), Option.bind_some, eqIntS_f l l (by omega) (by omega), Option.bind_some, if_pos (e _), markIntS_f l (by omega) (by omega), Option.bind_some]
  simp only []
  rw [if_neg (by omega), Option.bind_some]
  simp only [decide_true, Bool.not_true]
  exact hj
end Go.Proofs.Ytlmpgihimbechaa.My
