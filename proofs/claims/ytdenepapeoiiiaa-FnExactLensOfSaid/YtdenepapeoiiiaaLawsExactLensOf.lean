/- The law FnExactLensOf. -/
import Derived.Test.YtdenepapeoiiiaaPAllx0
import Derived.Test.YtdenepapeoiiiaaPAllx6
import Derived.Test.YtdenepapeoiiiaaPAllx7
import Derived.Test.YtdenepapeoiiiaaPAllx10
import Derived.Test.YtdenepapeoiiiaaPAllx13
import Derived.Test.YtdenepapeoiiiaaLensOfI
import Derived.Test.YtdenepapeoiiiaaLinkEq
namespace Go.Proofs.Ytdenepapeoiiiaa.My
open Go Go.RowKit Go.Proofs.YtdenepapeoiiiaaW.PrintWords Go.Proofs.YtdenepapeoiiiaaW.PrintLast Go.Proofs.YtdenepapeoiiiaaW.PrintMore Go.Proofs.Ytdenepapeoiiiaa.PAll

theorem ExactLensOf : laws_FnExactLensOf.Pure := by
  intro l a _ _ _ _
  refine ⟨5000001, ?_⟩
  unfold laws_FnExactLensOf.f
  by_cases hz : (l.length : Int) > 1048576
  · rw [if_pos hz]
  have hc := lensR_length l a
  have e : ∀ a : List Int, decide (a = a) = true := fun a => by simp
  have I : ∀ k, 1000000 ≤ k → impl_LensOf.f k l a = some (lensR l a) := fun k hk => impl_LensOf_all l a (by omega)
  have P : ∀ k, 1000000 ≤ k → spec_LensOf.f k l a = some (lensR l a) := fun k hk => spec_LensOf_all l a (by omega)
  have T : ∀ k, 2000000 ≤ k → laws_toIntS.f k l = some l := fun k hk => toIntS_f l (by omega) (by omega)
  have hj : laws_FnExactLensOf.j0 5000001 l a (lensR l a) (lensR l a) false = some true := by
    rw [laws_FnExactLensOf.j0]
    generalize lensR l a = c at *
    rw [if_neg (by simp), markIntS_f c (by omega) (by omega), Option.bind_some]
    simp only []
    rw [heldIntS_f c.length (by omega) (by omega), Option.bind_some, if_neg (by omega), if_pos rfl, T _ (by omega), Option.bind_some, I _ (by omega), Option.bind_some, eqIntS_f c c (by omega) (by omega), Option.bind_some, if_pos (e c), Option.bind_some, if_neg (by omega), if_pos rfl]
  rw [if_neg hz, T _ (by omega), Option.bind_some, P _ (by omega), Option.bind_some, Option.bind_some, I _ (by omega), Option.bind_some, eqIntS_f (lensR l a) (lensR l a) (by omega) (by omega), Option.bind_some, if_pos (e _), Option.bind_some, eqIntS_f l l (by omega) (by omega), Option.bind_some, if_pos (e _), markIntS_f l (by omega) (by omega), Option.bind_some]
  simp only []
  rw [if_neg (by omega), Option.bind_some]
  simp only [decide_true, Bool.not_true]
  exact hj
end Go.Proofs.Ytdenepapeoiiiaa.My
