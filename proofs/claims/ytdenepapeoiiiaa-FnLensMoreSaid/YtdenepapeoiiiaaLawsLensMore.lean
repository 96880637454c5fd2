/- The law FnLensMore. -/
import Derived.Test.YtdenepapeoiiiaaPAllx0
import Derived.Test.YtdenepapeoiiiaaPAllx6
import Derived.Test.YtdenepapeoiiiaaPAllx10
import Derived.Test.YtdenepapeoiiiaaPAllx16
import Derived.Test.YtdenepapeoiiiaaPAllx20
import Derived.Test.YtdenepapeoiiiaaDrawC
import Derived.Test.YtdenepapeoiiiaaCbInts
import Derived.Test.YtdenepapeoiiiaaCbUsed
namespace Go.Proofs.Ytdenepapeoiiiaa.My
open Go Go.RowKit Go.Proofs.YtdenepapeoiiiaaW.PrintWords Go.Proofs.YtdenepapeoiiiaaW.PrintLast Go.Proofs.YtdenepapeoiiiaaW.PrintMore Go.Proofs.Ytdenepapeoiiiaa.PAll

theorem more_l1 (c lens : List Int) (hl : lens.length = c.length) (hc : c.length ≤ 300) (hm : ∀ i j : Nat, i < c.length → j < c.length → rd c i > rd c j → rd c j > 0 → rd lens i ≤ rd lens j) (i : Nat) (hi : i < c.length) (K : Nat) (next : ∀ k, K ≤ k → laws_FnLensMore.l0 k c lens ((i + 1 : Nat) : Int) = some true) (d : Nat) :
    ∀ (k j : Nat), j ≤ lens.length → lens.length - j = d → K + d < k → laws_FnLensMore.l1 k c lens (i : Int) (j : Int) = some true := by
  induction d with
  | zero =>
    intro k j hj hd hk
    obtain ⟨k, rfl⟩ : ∃ m, k = m + 1 := ⟨k - 1, by omega⟩
    rw [laws_FnLensMore.l1, if_neg (by omega), w64 (by omega) (by omega), show ((i : Int) + 1) = ((i + 1 : Nat) : Int) by omega]
    exact next k (by omega)
  | succ d ih =>
    intro k j hj hd hk
    obtain ⟨k, rfl⟩ : ∃ m, k = m + 1 := ⟨k - 1, by omega⟩
    have go := ih k (j + 1) (by omega) (by omega) (by omega)
    have := hm i j hi (by omega)
    rw [laws_FnLensMore.l1, if_pos (by omega), if_pos (by omega), if_pos (by omega), if_pos (by omega), if_pos (by omega), w64 (x := (j : Int) + 1) (by omega) (by omega), show ((j : Int) + 1) = ((j + 1 : Nat) : Int) by omega]
    by_cases h1 : rd c i > rd c j
    · rw [if_pos h1]
      by_cases h2 : rd c j > 0
      · rw [if_pos h2, if_pos (by omega), if_neg (by have := this h1 h2; omega)]; exact go
      · rw [if_neg h2]; exact go
    · rw [if_neg h1]; exact go
theorem more_l0 (c lens : List Int) (hl : lens.length = c.length) (hc : c.length ≤ 300) (hm : ∀ i j : Nat, i < c.length → j < c.length → rd c i > rd c j → rd c j > 0 → rd lens i ≤ rd lens j) (hu : used lens = used c) (d : Nat) :
    ∀ (k i : Nat), i ≤ lens.length → lens.length - i = d → 400 * d + 1000 ≤ k → laws_FnLensMore.l0 k c lens (i : Int) = some true := by
  induction d with
  | zero =>
    intro k i hi hd hk
    obtain ⟨k, rfl⟩ : ∃ m, k = m + 1 := ⟨k - 1, by omega⟩
    rw [laws_FnLensMore.l0, if_neg (by omega), cbUsed_f lens (by omega) (by omega), Option.bind_some, cbUsed_f c (by omega) (by omega), Option.bind_some, hu]
    simp
  | succ d ih =>
    intro k i hi hd hk
    obtain ⟨k, rfl⟩ : ∃ m, k = m + 1 := ⟨k - 1, by omega⟩
    rw [laws_FnLensMore.l0, if_pos (by omega)]
    exact more_l1 c lens hl hc hm i (by omega) (400 * d + 1000) (fun k hk => ih k (i + 1) (by omega) (by omega) hk) lens.length k 0 (by omega) (by omega) (by omega)
theorem LawLensMore : laws_FnLensMore.Pure := by
  intro l0 _ _ hl0
  obtain ⟨c, most, hc1, hc2, hc3, hd⟩ := drawLensOf_f hl0
  refine ⟨400001, ?_⟩
  have hn := lensR_length c 15
  have I : ∀ k, 200000 ≤ k → impl_LensOf.f k c 15 = some (lensR c 15) := fun k hk => impl_LensOf_all c 15 (by omega)
  have P : ∀ k, 200000 ≤ k → spec_LensOf.f k c 15 = some (lensR c 15) := fun k hk => spec_LensOf_all c 15 (by omega)
  have E : ∀ k, 200000 ≤ k → laws_cbInts.f k (lensR c 15) (lensR c 15) = some true := fun k hk => cbInts_f _ (by omega) (by omega)
  unfold laws_FnLensMore.f
  by_cases hz : (l0.length : Int) > 1048576
  · rw [if_pos hz]
  rw [if_neg hz, hd _ (by omega), Option.bind_some, I _ (by omega), Option.bind_some, P _ (by omega), Option.bind_some, E _ (by omega), Option.bind_some, if_pos rfl]
  by_cases h : fitOk c 15
  · have e : lensR c 15 = lensL c := by rw [lensR_few (by omega), if_pos h]
    obtain ⟨h2, hu⟩ := fitOk_few h
    have hl := lensL_length c
    rw [e, if_neg (by omega), decide_eq_false (show ¬ (((c, most).1.length : Int) > 16) by show ¬ ((c.length : Int) > 16); omega), laws_FnLensMore.j0, if_neg (by simp)]
    refine more_l0 c (lensL c) hl (by omega) (fun i j hi hj h3 h4 => ?_) (lensL_used h2 hu) _ 400000 0 (by omega) rfl (by omega)
    rw [lensL_rd h2.len h2.top hi, lensL_rd h2.len h2.top hj]
    rw [rdI hi, rdI hj] at h3
    rw [rdI hj] at h4
    have := len_more h2 hu hi hj h4 h3
    omega
  · have e : lensR c 15 = [] := by unfold lensR; rw [if_neg h]
    have E2 := E 400000 (by omega)
    rw [e] at E2
    rw [e, if_pos (by rfl), laws_FnLensMore.j0, if_pos rfl, P _ (by omega), Option.bind_some, e, E2, Option.bind_some]
end Go.Proofs.Ytdenepapeoiiiaa.My
