/- The law FnLensSame. -/
import Derived.Test.YtdenepapeoiiiaaPAllx0
import Derived.Test.YtdenepapeoiiiaaPAllx21
import Derived.Test.YtdenepapeoiiiaaDrawC
import Derived.Test.YtdenepapeoiiiaaCbInts
namespace Go.Proofs.Ytdenepapeoiiiaa.My
open Go Go.RowKit Go.Proofs.YtdenepapeoiiiaaW.PrintWords Go.Proofs.YtdenepapeoiiiaaW.PrintLast Go.Proofs.YtdenepapeoiiiaaW.PrintMore Go.Proofs.Ytdenepapeoiiiaa.PAll

theorem same_l1 (lens : List Int) (hl : 1 ≤ lens.length) (hl2 : lens.length ≤ 300) (h : ∀ i : Nat, i < lens.length → 0 ≤ rd lens i ∧ rd lens i ≤ 15 ∧ rd lens i ≤ rd lens 0 + 1 ∧ rd lens 0 ≤ rd lens i + 1) (hok : okLens lens = true) (d : Nat) :
    ∀ (k i : Nat), i ≤ lens.length → lens.length - i = d → 1000 + d < k → laws_FnLensSame.l1 k lens (i : Int) = some true := by
  have h0 := h 0 (by omega)
  simp only [Int.natCast_zero] at h0
  induction d with
  | zero =>
    intro k i hi hd hk
    obtain ⟨k, rfl⟩ : ∃ m, k = m + 1 := ⟨k - 1, by omega⟩
    rw [laws_FnLensSame.l1, if_neg (by omega), impl_LensOk_f lens (by omega), Option.bind_some, hok]
  | succ d ih =>
    intro k i hi hd hk
    obtain ⟨k, rfl⟩ : ∃ m, k = m + 1 := ⟨k - 1, by omega⟩
    have h1 := h i (by omega)
    rw [laws_FnLensSame.l1, if_pos (by omega), if_pos (by omega), if_pos (by omega), w64 (x := rd lens i - rd lens 0) (by omega) (by omega), if_neg (by omega), w64 (x := rd lens 0 - rd lens i) (by omega) (by omega), if_neg (by omega), w64 (by omega) (by omega), show ((i : Int) + 1) = ((i + 1 : Nat) : Int) by omega]
    exact ih k (i + 1) (by omega) (by omega) (by omega)
theorem ones_set {n i : Nat} {x : List Int} (hx : x.length = n) (h : x.take i = List.replicate i 1) (hi : i < n) : (x.set i 1).take (i + 1) = List.replicate (i + 1) 1 := by
  rw [List.take_succ_eq_append_getElem (by rw [List.length_set]; omega), List.getElem_set_self, List.take_set_of_le (Nat.le_refl _), h, List.replicate_succ']
theorem same_l0 (n : Nat) (hn : 1 ≤ n) (hn2 : n ≤ 16) (d : Nat) : ∀ (k i : Nat) (x : List Int), x.length = n → i ≤ n → n - i = d → x.take i = List.replicate i 1 → 300000 + d < k → laws_FnLensSame.l0 k x (i : Int) = some true := by
  induction d with
  | zero =>
    intro k i x hx hi hd ht hk
    obtain ⟨k, rfl⟩ : ∃ m, k = m + 1 := ⟨k - 1, by omega⟩
    have hin : i = n := by omega
    subst hin
    rw [List.take_of_length_le (by omega)] at ht
    subst ht
    have hc : (List.replicate i (1 : Int)).length = i := by simp
    generalize hcc : List.replicate i (1 : Int) = c at *
    have h1 : ∀ x ∈ c, x = 1 := fun x hx => by rw [← hcc] at hx; exact List.eq_of_mem_replicate hx
    have hu : used c = i := by
      unfold used
      rw [List.countP_eq_length.2 (fun x hx => by rw [h1 x hx]; decide), hc]
    have hf : fitOk c 15 := by
      refine ⟨by omega, by omega, by omega, ?_, by omega, ?_⟩
      · unfold inC
        rw [List.all_eq_true]
        intro x hx
        rw [h1 x hx]; decide
      · have e : (2 : Int) ^ ((15 : Int).toNat - 1) = 16384 := by decide
        rw [e]; omega
    have e : lensR c 15 = lensL c := by rw [lensR_few (by omega), if_pos hf]
    obtain ⟨h2, hu1⟩ := fitOk_few hf
    have hl := lensL_length c
    have hnow := few_now (by omega) h2
    rw [laws_FnLensSame.l0, if_neg (by omega), impl_LensOf_all c 15 (by omega), Option.bind_some, spec_LensOf_all c 15 (by omega), Option.bind_some, cbInts_f _ (by rw [e]; omega) (by rw [e]; omega), Option.bind_some, if_pos rfl, e]
    have g : ∀ (a b : Nat) (ha : a < c.length) (hb : b < c.length), lenOf c a ≤ lenOf c b + 1 := fun a b ha hb => len_same h2 hu1 ha hb (by rw [h1 _ (List.getElem_mem hb)]; decide) (by rw [h1 _ (List.getElem_mem hb), h1 _ (List.getElem_mem ha)]; decide)
    refine same_l1 (lensL c) (by omega) (by omega) (fun j hj => ?_) (lensL_ok h2 hu1 hnow) _ k 0 (by omega) rfl (by omega)
    rw [hl] at hj
    have z0 := lensL_rd h2.len h2.top (show 0 < c.length by omega)
    simp only [Int.natCast_zero] at z0
    rw [lensL_rd h2.len h2.top hj, z0]
    have a1 := g j 0 hj (by omega)
    have a2 := g 0 j (by omega) hj
    have a3 := lenOf_most h2 hnow hj
    omega
  | succ d ih =>
    intro k i x hx hi hd ht hk
    obtain ⟨k, rfl⟩ : ∃ m, k = m + 1 := ⟨k - 1, by omega⟩
    rw [laws_FnLensSame.l0, if_pos (by omega), if_pos (by omega), Int.toNat_natCast, w64 (by omega) (by omega), show ((i : Int) + 1) = ((i + 1 : Nat) : Int) by omega]
    exact ih k (i + 1) _ (by rw [List.length_set]; exact hx) (by omega) (by omega) (ones_set hx ht (by omega)) (by omega)
theorem LawLensSame : laws_FnLensSame.Pure := by
  intro l0 _ _ hl0
  obtain ⟨c, most, hc1, hc2, hc3, hd⟩ := drawLensOf_f hl0
  refine ⟨400001, ?_⟩
  unfold laws_FnLensSame.f
  by_cases hz : (l0.length : Int) > 1048576
  · rw [if_pos hz]
  rw [if_neg hz, hd _ (by omega), Option.bind_some]
  exact same_l0 c.length hc1 (by omega) c.length 400001 0 c rfl (by omega) (by omega) (by simp) (by omega)
end Go.Proofs.Ytdenepapeoiiiaa.My
