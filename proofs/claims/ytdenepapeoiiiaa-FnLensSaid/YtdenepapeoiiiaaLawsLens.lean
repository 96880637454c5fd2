/- The law FnLens. -/
import Derived.Test.YtdenepapeoiiiaaPAllx0
import Derived.Test.YtdenepapeoiiiaaPAllx6
import Derived.Test.YtdenepapeoiiiaaPAllx10
import Derived.Test.YtdenepapeoiiiaaPAllx16
import Derived.Test.YtdenepapeoiiiaaPAllx18
import Derived.Test.YtdenepapeoiiiaaDrawC
import Derived.Test.YtdenepapeoiiiaaCbInts
namespace Go.Proofs.Ytdenepapeoiiiaa.My
open Go Go.RowKit Go.Proofs.YtdenepapeoiiiaaW.PrintWords Go.Proofs.YtdenepapeoiiiaaW.PrintLast Go.Proofs.YtdenepapeoiiiaaW.PrintMore Go.Proofs.Ytdenepapeoiiiaa.PAll

theorem lens_l (c lens : List Int) (most : Int) (hl : lens.length = c.length) (hc : c.length ≤ 300) (hpos : ∀ i : Nat, i < c.length → (0 < rd lens i ↔ 0 < rd c i)) (hle : ∀ i : Nat, i < c.length → rd lens i ≤ most) (hok : okLens lens = true) (d : Nat) :
    ∀ (k i : Nat), i ≤ lens.length → lens.length - i = d → 1000 + d < k → laws_FnLens.l0 k c most lens (i : Int) = some true := by
  induction d with
  | zero =>
    intro k i hi hd hk
    obtain ⟨k, rfl⟩ : ∃ m, k = m + 1 := ⟨k - 1, by omega⟩
    rw [laws_FnLens.l0, if_neg (by omega), impl_LensOk_f lens (by omega), Option.bind_some, hok, if_pos rfl, hl]
    simp
  | succ d ih =>
    intro k i hi hd hk
    obtain ⟨k, rfl⟩ : ∃ m, k = m + 1 := ⟨k - 1, by omega⟩
    have h1 := hpos i (by omega)
    have h2 := hle i (by omega)
    have e : ((decide (rd lens (i : Int) > 0)) != (decide (rd c (i : Int) > 0))) = false := by
      by_cases h : 0 < rd lens i
      · have := h1.1 h; simp [h, this]
      · have : ¬ 0 < rd c i := fun x => h (h1.2 x)
        simp [h, this]
    rw [laws_FnLens.l0, if_pos (by omega), if_pos (by omega), if_pos (by omega), if_neg (by simp [e]), if_neg (by omega), w64 (by omega) (by omega), show ((i : Int) + 1) = ((i + 1 : Nat) : Int) by omega]
    exact ih k (i + 1) (by omega) (by omega) (by omega)
theorem LawLens : laws_FnLens.Pure := by
  intro l0 _ _ hl0
  obtain ⟨c, most, hc1, hc2, hc3, hd⟩ := drawLensOf_f hl0
  refine ⟨400001, ?_⟩
  have hn := lensR_length c most
  have I : ∀ k, 200000 ≤ k → impl_LensOf.f k c most = some (lensR c most) := fun k hk => impl_LensOf_all c most (by omega)
  have P : ∀ k, 200000 ≤ k → spec_LensOf.f k c most = some (lensR c most) := fun k hk => spec_LensOf_all c most (by omega)
  have E : ∀ k, 200000 ≤ k → laws_cbInts.f k (lensR c most) (lensR c most) = some true := fun k hk => cbInts_f _ (by omega) (by omega)
  unfold laws_FnLens.f
  by_cases hz : (l0.length : Int) > 1048576
  · rw [if_pos hz]
  rw [if_neg hz, hd _ (by omega), Option.bind_some, I _ (by omega), Option.bind_some, P _ (by omega), Option.bind_some, E _ (by omega), Option.bind_some, if_pos rfl, laws_FnLens.j0]
  by_cases h : fitOk c most
  · obtain ⟨m, rfl, hm, hf⟩ := fitOk_fit h
    obtain ⟨c', e1, h2, h3, h4, h5, h6⟩ := fitR_is 18 c m hf
    have e : lensR c m = lensL c' := by unfold lensR; rw [if_pos h, e1]
    have hl := lensL_length c'
    have e2 : (((lensL c').length : Int) == 0) = false := by simp only [beq_eq_false_iff_ne]; omega
    rw [e, e2, if_neg (by simp)]
    have hu : 1 ≤ used c' := by rw [h4]; exact hf.u1
    have hp : ∀ i : Nat, i < c.length → (0 < rd (lensL c') i ↔ 0 < rd c i) := fun i hi => by
      rw [lensL_rd h2.len h2.top (by omega), ← h5 i, rdI (show i < c'.length by omega)]
      have := lenOf_pos h2 hu (show i < c'.length by omega)
      omega
    have hle : ∀ i : Nat, i < c.length → rd (lensL c') i ≤ m := fun i hi => by
      rw [lensL_rd h2.len h2.top (by omega)]
      exact lenOf_most h2 h6 (by omega)
    exact lens_l c (lensL c') m (by omega) (by omega) hp hle (lensL_ok h2 hu (by omega)) _ 400000 0 (by omega) rfl (by omega)
  · have e : lensR c most = [] := by unfold lensR; rw [if_neg h]
    have E2 := E 400000 (by omega)
    rw [e] at E2
    rw [e, if_pos (by rfl), P _ (by omega), Option.bind_some, e, E2, Option.bind_some]
end Go.Proofs.Ytdenepapeoiiiaa.My
