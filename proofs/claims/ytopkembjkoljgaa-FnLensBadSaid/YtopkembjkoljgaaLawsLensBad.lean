/- The law FnLensBad. -/
import Derived.Test.YtopkembjkoljgaaPAllx0
import Derived.Test.YtopkembjkoljgaaPAllx10
import Derived.Test.YtopkembjkoljgaaPAllx11
import Derived.Test.YtopkembjkoljgaaPAllx12
import Derived.Test.YtopkembjkoljgaaPAllx13
import Derived.Test.YtopkembjkoljgaaDrawM
import Derived.Test.YtopkembjkoljgaaML
import Derived.Test.YtopkembjkoljgaaCbUsed
namespace Go.Proofs.Ytopkembjkoljgaa.My
open Go Go.RowKit Go.Proofs.YtopkembjkoljgaaW.PrintWords Go.Proofs.YtopkembjkoljgaaW.PrintLast Go.Proofs.YtopkembjkoljgaaW.PrintMore Go.Proofs.Ytopkembjkoljgaa.PAll

theorem LawLensBad : laws_FnLensBad.Pure := by
  intro l0 _ _ hl0
  obtain ⟨b, hb, ho⟩ := open_f hl0
  obtain ⟨l, q, hl1, hl2, _, _, hd⟩ := lens_f hb (p := 0) (by omega) (by omega)
  refine ⟨200001, ?_⟩
  have S : ∀ x : List Int, x.length ≤ 300 → ∀ k, 100000 ≤ k → spec_LensOk.f k x = some (okLens x) := fun x hx k hk => spec_LensOk_f x (by omega) (by omega)
  have I : ∀ x : List Int, x.length ≤ 300 → ∀ k, 100000 ≤ k → impl_LensOk.f k x = some (okLens x) := fun x hx k hk => impl_LensOk_f x (by omega)
  unfold laws_FnLensBad.f
  by_cases hz : (l0.length : Int) > 1048576
  · rw [if_pos hz]
  have D : spec_DrawLensOk.f 200001 l0 = some l := by unfold spec_DrawLensOk.f; rw [ho, Option.bind_some, hd _ (by omega), Option.bind_some]
  have J : laws_FnLensBad.j0 200001 l (okLens l) true = some true := by
    rw [laws_FnLensBad.j0, if_pos rfl, S l (by omega) _ (by omega), Option.bind_some]
    simp
  rw [if_neg hz, D, Option.bind_some, I l (by omega) _ (by omega), Option.bind_some, S l (by omega) _ (by omega), Option.bind_some, if_neg (by simp)]
  by_cases hk : okLens l = true
  · rw [if_pos hk, cbUsed_f l (by omega) (by omega), Option.bind_some]
    by_cases hu : (used l : Int) < 2
    · rw [if_pos hu]; exact J
    · rw [if_neg hu, decide_eq_false (by omega), laws_FnLensBad.j0, if_neg (by simp)]
      have h2 := hk
      simp only [okLens, fits, Bool.and_eq_true, Bool.or_eq_true, decide_eq_true_eq] at h2
      obtain ⟨hr, h300, hs⟩ := h2
      have hs2 : ks l = 32768 := by rcases hs with h | h <;> omega
      simp only [Option.bind_some, List.nil_append, List.length_nil, Nat.zero_add]
      have e1 : okLens (l ++ [1]) = false := by
        have k1 : ks [1] = 16384 := by decide
        have u1 : used [1] = 1 := by decide
        have : ¬ (ks l + 16384 = 32768) := by omega
        have h3 : ¬ (used l + 1 = 1) := by omega
        simp only [okLens, fits, ks_append, used_append, k1, u1, this, h3, decide_false, Bool.false_and, Bool.or_false, Bool.and_false]
      have e2 : okLens (l ++ [0]) = true := by
        have k1 : ks [0] = 0 := by decide
        have u1 : used [0] = 0 := by decide
        have r1 : rng [0] = true := by decide
        have : l.length + 1 ≤ 300 := by omega
        simp only [okLens, fits, ks_append, used_append, rng_append, k1, r1, hr, hs2, List.length_append, List.length_singleton, this, decide_true, Bool.true_or, Bool.and_true, Nat.add_zero]
      have e3 : okLens (l ++ [-1]) = false := by
        have r1 : rng [-1] = false := by decide
        simp only [okLens, rng_append, r1, Bool.and_false, Bool.false_and]
      rw [if_pos (by omega), if_pos (by omega), I _ (by simp; omega) _ (by omega), Option.bind_some, e1, if_neg (by simp), if_pos (by omega), if_pos (by omega), I _ (by simp; omega) _ (by omega), Option.bind_some, e2, if_pos rfl, if_pos (by omega), if_pos (by omega), I _ (by simp; omega) _ (by omega), Option.bind_some, e3]
      rfl
  · rw [if_neg hk]; exact J
end Go.Proofs.Ytopkembjkoljgaa.My
