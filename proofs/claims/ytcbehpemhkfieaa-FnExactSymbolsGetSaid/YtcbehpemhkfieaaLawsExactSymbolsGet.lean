/- The law FnExactSymbolsGet. -/
import Derived.Test.YtcbehpemhkfieaaPAllx0
import Derived.Test.YtcbehpemhkfieaaPAllx23
import Derived.Test.YtcbehpemhkfieaaPAllx32
import Derived.Test.YtcbehpemhkfieaaPAllx34
import Derived.Test.YtcbehpemhkfieaaPAllx36
import Derived.Test.YtcbehpemhkfieaaSymGet
import Derived.Test.YtcbehpemhkfieaaLinkEq
namespace Go.Proofs.Ytcbehpemhkfieaa.My
open Go Go.RowKit Go.Proofs.YtcbehpemhkfieaaW.PrintWords Go.Proofs.YtcbehpemhkfieaaW.PrintLast Go.Proofs.YtcbehpemhkfieaaW.PrintMore Go.Proofs.Ytcbehpemhkfieaa.PAll

theorem ExactSymbolsGet : laws_FnExactSymbolsGet.Pure := by
  intro l s m _ _ _ _ _
  refine ⟨5000003, ?_⟩
  unfold laws_FnExactSymbolsGet.f
  by_cases hz : (l.length : Int) > 1048576
  · rw [if_pos hz]
  by_cases hy : (s.size : Int) > 1048576
  · rw [if_neg hz, if_pos hy]
  have hc := symGetR_length l s m
  have e : ∀ a : List Int, decide (a = a) = true := fun a => by simp
  have I : ∀ k, 4000000 ≤ k → impl_SymbolsGet.f k l s m = some (symGetR l s m) := fun k hk => impl_SymbolsGet_f l s (by omega) m (by omega)
  have P : ∀ k, 4000000 ≤ k → spec_SymbolsGet.f k l s m = some (symGetR l s m) := fun k hk => spec_SymbolsGet_f l (by omega) s (by omega) m (by omega)
  have T : ∀ k, 2000000 ≤ k → laws_toIntS.f k l = some l := fun k hk => toIntS_f l (by omega) (by omega)
  have hj2 : laws_FnExactSymbolsGet.j2 5000001 (marks (symGetR l s m).1.length 1) ((1 + (symGetR l s m).1.length : Nat) : Int) false = some true := by
    rw [laws_FnExactSymbolsGet.j2, if_neg (by decide), heldIntS_f _ (by omega) (by omega), Option.bind_some, if_neg (by omega), if_pos rfl]
  have hj1 : laws_FnExactSymbolsGet.j1 5000002 l s m (symGetR l s m).1 (symGetR l s m).2 (symGetR l s m).1 false = some true := by
    rw [laws_FnExactSymbolsGet.j1, if_neg (by decide), markIntS_f _ (by omega) (by omega), Option.bind_some]
    simp only []
    rw [heldIntS_f _ (by omega) (by omega), Option.bind_some, if_neg (by omega), if_pos rfl, T _ (by omega), Option.bind_some, I _ (by omega), Option.bind_some, eqIntS_f _ _ (by omega) (by omega), Option.bind_some, if_pos (e _), bne_self_eq_false]
    exact hj2
  have hj0 : laws_FnExactSymbolsGet.j0 5000003 l s m (symGetR l s m).1 (symGetR l s m).2 l (symGetR l s m).1 (symGetR l s m).2 false = some true := by
    rw [laws_FnExactSymbolsGet.j0, if_neg (by decide), T _ (by omega), Option.bind_some, eqIntS_f l l (by omega) (by omega), Option.bind_some, if_pos (e _), markIntS_f l (by omega) (by omega), Option.bind_some]
    simp only []
    rw [if_neg (by omega), eqIntS_f _ _ (by omega) (by omega), Option.bind_some, if_pos (e _), bne_self_eq_false]
    exact hj1
  rw [if_neg hz, if_neg hy, T _ (by omega), Option.bind_some, P _ (by omega), Option.bind_some, Option.bind_some, I _ (by omega), Option.bind_some, eqIntS_f _ _ (by omega) (by omega), Option.bind_some, if_pos (e _), bne_self_eq_false]
  exact hj0
end Go.Proofs.Ytcbehpemhkfieaa.My
