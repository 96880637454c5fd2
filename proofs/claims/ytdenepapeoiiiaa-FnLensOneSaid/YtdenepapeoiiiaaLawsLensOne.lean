/- The law FnLensOne. -/
import Derived.Test.YtdenepapeoiiiaaPAllx0
import Derived.Test.YtdenepapeoiiiaaPAllx23
import Derived.Test.YtdenepapeoiiiaaPAllx24
import Derived.Test.YtdenepapeoiiiaaDrawC
import Derived.Test.YtdenepapeoiiiaaCbInts
import Derived.Test.YtdenepapeoiiiaaCbUsed
import Derived.Test.YtdenepapeoiiiaaCodesI
namespace Go.Proofs.Ytdenepapeoiiiaa.My
open Go Go.RowKit Go.Proofs.YtdenepapeoiiiaaW.PrintWords Go.Proofs.YtdenepapeoiiiaaW.PrintLast Go.Proofs.YtdenepapeoiiiaaW.PrintMore Go.Proofs.Ytdenepapeoiiiaa.PAll

theorem one_counts {n i : Nat} (hi : i < n) (hn : n ≤ 20) {v : Int} (v1 : 1 ≤ v) (v2 : v ≤ 1000) {c : List Int} (hc : c = (List.replicate n 0).set i v) :
    c.length = n ∧ fitOk c 15 ∧ used c = 1 ∧ rd c i = v ∧ ∀ j : Nat, j < n → j ≠ i → rd c j = 0 := by
  have hl : c.length = n := by rw [hc]; simp
  have hat : ∀ j : Nat, rd c j = if j = i then v else 0 := fun j => by rw [hc, rdI_set (by simp; omega), rd_zeros]
  have hmem : ∀ x ∈ c, x = v ∨ x = 0 := fun x hx => by
    obtain ⟨j, hj, rfl⟩ := List.mem_iff_getElem.1 hx
    have := hat j
    rw [rdI hj] at this
    rw [this]
    split
    · exact .inl rfl
    · exact .inr rfl
  have hu : used c = 1 := by
    have z : ∀ m, used (List.replicate m 0) = 0 := fun m => by
      unfold used
      rw [List.countP_eq_zero]
      intro x hx
      rw [List.eq_of_mem_replicate hx]
      decide
    have e : c = List.replicate i 0 ++ v :: List.replicate (n - i - 1) 0 := by
      rw [hc, List.set_eq_take_append_cons_drop, if_pos (by simp; omega), List.take_replicate, List.drop_replicate]
      rw [Nat.min_eq_left (by omega), show n - (i + 1) = n - i - 1 by omega]
    rw [e]
    unfold used at z ⊢
    rw [List.countP_append, z, List.countP_cons, z]
    simp
    omega
  refine ⟨hl, ⟨by omega, by omega, by omega, ?_, by omega, ?_⟩, hu, by rw [hat, if_pos rfl], fun j _ hne => by rw [hat, if_neg hne]⟩
  · unfold inC
    rw [List.all_eq_true]
    intro x hx
    simp only [Bool.and_eq_true, decide_eq_true_eq]
    rcases hmem x hx with e | e <;> omega
  · have e : (2 : Int) ^ ((15 : Int).toNat - 1) = 16384 := by decide
    rw [e]; omega
theorem one_lens {n i : Nat} (hi : i < n) (hn : n ≤ 20) {v : Int} (v1 : 1 ≤ v) (v2 : v ≤ 1000) {c : List Int} (hc : c = (List.replicate n 0).set i v) :
    (lensR c 15).length = n ∧ rd (lensR c 15) i = 1 ∧ used (lensR c 15) = 1 ∧ okLens (lensR c 15) = true ∧ (∀ j : Nat, j < n → j ≠ i → rd (lensR c 15) j = 0) := by
  obtain ⟨hl, hf, hu, hv, h0⟩ := one_counts hi hn v1 v2 hc
  obtain ⟨h2, hu1⟩ := fitOk_few hf
  have one : lenOf c i = 1 := lenOf_one h2 hu (by omega) (by rw [← rdI (show i < c.length by omega), hv]; omega)
  have none : ∀ j : Nat, j < n → j ≠ i → lenOf c j = 0 := fun j hj hne => lenOf_none h2 (by omega) (by rw [← rdI (show j < c.length by omega), h0 j hj hne]; omega)
  have hm : mostL (lensL c) 0 ≤ 15 := mostL_le _ _ (fun x hx => by
    obtain ⟨j, hj, rfl⟩ := lensL_mem h2 hx
    by_cases e : j = i
    · subst e; rw [one]; decide
    · rw [none j (by omega) e]; decide) (by omega)
  have e : lensR c 15 = lensL c := by
    unfold lensR
    rw [if_pos hf, fitR, if_pos hm]
  rw [e]
  refine ⟨by rw [lensL_length, hl], ?_, by rw [lensL_used h2 hu1, hu], lensL_ok h2 hu1 hm, fun j hj hne => ?_⟩
  · rw [lensL_rd h2.len h2.top (by omega), one]; rfl
  · rw [lensL_rd h2.len h2.top (by omega), none j hj hne]; rfl
theorem one_code {l : List Int} {n i : Nat} (hi : i < n) (hl : l.length = n) (h1 : rd l i = 1) (h0 : ∀ j : Nat, j < n → j ≠ i → rd l j = 0) : rd (codesL l) i = 0 := by
  have e : rd (codesL l) i = codeI l i := by
    rw [rdI (by simp [codesL]; omega)]
    simp [codesL]
  have hcode : code l i = 0 := by
    unfold code
    rw [h1]
    have : (l.take i).count 1 = 0 := by
      rw [List.count_eq_zero]
      intro hm
      obtain ⟨j, hj, e⟩ := List.mem_iff_getElem.1 hm
      rw [List.length_take] at hj
      rw [List.getElem_take] at e
      have := h0 j (by omega) (by omega)
      rw [rdI (by omega), e] at this
      omega
    rw [this]
    rfl
  rw [e]
  unfold codeI
  rw [if_pos (by omega), hcode]
  rfl
theorem LawLensOne : laws_FnLensOne.Pure := by
  intro l0 _ _ _
  refine ⟨400001, ?_⟩
  unfold laws_FnLensOne.f
  by_cases hz : (l0.length : Int) > 1048576
  · rw [if_pos hz]
  obtain ⟨n, hn⟩ : ∃ n : Nat, 1 + ((l0.length : Int) % 20) = n := Int.eq_ofNat_of_zero_le (by omega)
  obtain ⟨v, hv⟩ : ∃ v : Int, 1 + ((l0.length : Int) % 1000) = v := ⟨_, rfl⟩
  have hn1 : 1 ≤ n := by omega
  have hn2 : n ≤ 20 := by omega
  have hlr : (List.replicate n (0 : Int)).length = n := by simp
  have hw : wrap64 ((l0.length : Int) * 7) = (l0.length : Int) * 7 := w64 (by omega) (by omega)
  obtain ⟨i, hi⟩ : ∃ i : Nat, Int.tmod ((l0.length : Int) * 7) (n : Int) = i := by
    rw [tmod_pos (by omega)]
    exact Int.eq_ofNat_of_zero_le (Int.emod_nonneg _ (by omega))
  have hin : i < n := by
    have h2 : ((l0.length : Int) * 7) % (n : Int) < (n : Int) := Int.emod_lt_of_pos _ (by omega)
    rw [tmod_pos (by omega)] at hi
    omega
  rw [if_neg hz, hn, if_pos (by omega), if_pos (by omega), Option.bind_some, Int.toNat_natCast, hlr, if_neg (by omega), hw, hi, if_pos (by omega), if_pos (by omega), Option.bind_some, Int.toNat_natCast, hv]
  obtain ⟨c, hc⟩ : ∃ c, c = (List.replicate n 0).set i v := ⟨_, rfl⟩
  rw [← hc]
  obtain ⟨a1, a2, a3, a4, a5⟩ := one_lens hin hn2 (by omega) (by omega) hc
  have cl : (codesL (lensR c 15)).length = n := by simp [codesL, a1]
  have hco : rd (codesL (lensR c 15)) i = 0 := one_code hin a1 a2 a5
  have C : impl_CodesOf.f 400001 (lensR c 15) = some (codesL (lensR c 15)) := by
    unfold impl_CodesOf.f
    rw [impl_LensOk_f _ (by omega), Option.bind_some, a4, if_pos rfl, impl_codes_f _ a4 (by omega), Option.bind_some]
  rw [impl_LensOf_all c 15 (by omega), Option.bind_some, spec_LensOf_all c 15 (by omega), Option.bind_some, cbInts_f _ (by omega) (by omega), Option.bind_some, if_pos rfl, if_pos (by omega), a2, if_pos rfl, cbUsed_f _ (by omega) (by omega), Option.bind_some, a3, if_pos (by rfl), impl_LensOk_f _ (by omega), Option.bind_some, a4, if_pos rfl, C, Option.bind_some, if_pos (by omega), hco]
  rfl
end Go.Proofs.Ytdenepapeoiiiaa.My
