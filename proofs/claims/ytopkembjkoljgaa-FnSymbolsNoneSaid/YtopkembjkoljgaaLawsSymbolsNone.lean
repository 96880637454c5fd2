/- The law FnSymbolsNone. -/
import Derived.Test.YtopkembjkoljgaaPAllx0
import Derived.Test.YtopkembjkoljgaaPAllx11
import Derived.Test.YtopkembjkoljgaaPAllx12
import Derived.Test.YtopkembjkoljgaaPAllx14
import Derived.Test.YtopkembjkoljgaaPAllx22
import Derived.Test.YtopkembjkoljgaaPAllx27
import Derived.Test.YtopkembjkoljgaaDrawM
import Derived.Test.YtopkembjkoljgaaLawsC2
namespace Go.Proofs.Ytopkembjkoljgaa.My
open Go Go.RowKit Go.Proofs.YtopkembjkoljgaaW.PrintWords Go.Proofs.YtopkembjkoljgaaW.PrintLast Go.Proofs.YtopkembjkoljgaaW.PrintMore Go.Proofs.Ytopkembjkoljgaa.PAll

/-! ### A symbol without a code -/
theorem putR_one {l : List Int} (hk : okLens l = true) {j : Nat} (hj : j < l.length) : ((putR l [(j : Int)]).length = 1 ↔ rd l j > 0) := by
  have hr := (okLens_at hk).1
  have hm : rd l j ∈ l := by rw [rd_int_at hj]; exact List.getElem_mem hj
  unfold rng at hr
  rw [List.all_eq_true] at hr
  have hx := hr _ hm
  simp only [Bool.and_eq_true, decide_eq_true_eq] at hx
  have h1 : isSym l j = true := by simp only [isSym, Bool.and_eq_true, decide_eq_true_eq]; omega
  unfold putR
  rw [if_pos hk, putL, if_pos h1]
  by_cases h0 : rd l j = 0
  · rw [if_pos h0, h0]; simp
  · rw [if_neg h0, putL]
    simp
    omega
theorem putR_out {l : List Int} {v : Int} (h : isSym l v = false) : putR l [v] = [] := by
  unfold putR
  split
  · rw [putL, if_neg (by simp [h])]
  · rfl
theorem none_l (l : List Int) (hk : okLens l = true) (hl : l.length ≤ 300) (d : Nat) : ∀ (k i : Nat), i ≤ l.length → l.length - i = d → 20000 + d < k → laws_FnSymbolsNone.l0 k l (i : Int) = some true := by
  have I : ∀ v : Int, ∀ k, 10000 ≤ k → impl_SymbolsPut.f k l [v] = some (putR l [v]) := fun v k hk => impl_SymbolsPut_f l [v] (by simp) (by simp; omega)
  induction d with
  | zero =>
    intro k i hi hd hk2
    obtain ⟨k, rfl⟩ : ∃ m, k = m + 1 := ⟨k - 1, by omega⟩
    have e1 : isSym l (l.length : Int) = false := by simp only [isSym, Bool.and_eq_false_iff, decide_eq_false_iff_not]; omega
    have e2 : isSym l (-1) = false := by simp only [isSym, Bool.and_eq_false_iff, decide_eq_false_iff_not]; omega
    rw [laws_FnSymbolsNone.l0, if_neg (by omega), I _ _ (by omega), Option.bind_some, putR_out e1, if_pos (by simp), I _ _ (by omega), Option.bind_some, putR_out e2]
    rfl
  | succ d ih =>
    intro k i hi hd hk2
    obtain ⟨k, rfl⟩ : ∃ m, k = m + 1 := ⟨k - 1, by omega⟩
    have := putR_one hk (j := i) (by omega)
    have e : ((((putR l [(i : Int)]).length : Int) == 1) != decide (rd l (i : Int) > 0)) = false := by
      by_cases h : rd l i > 0
      · have h1 := this.2 h
        simp [h, h1]
      · have h1 : ¬ (putR l [(i : Int)]).length = 1 := fun x => h (this.1 x)
        have h2 : ¬ (((putR l [(i : Int)]).length : Int) = 1) := by omega
        simp [h, h2]
    rw [laws_FnSymbolsNone.l0, if_pos (by omega), I _ _ (by omega), Option.bind_some, if_pos (by omega), if_neg (by simp [e]), w64 (by omega) (by omega), show ((i : Int) + 1) = ((i + 1 : Nat) : Int) by omega]
    exact ih k (i + 1) (by omega) (by omega) (by omega)
theorem LawSymbolsNone : laws_FnSymbolsNone.Pure := by
  intro l0 _ _ hl0
  obtain ⟨b, hb, ho⟩ := open_f hl0
  obtain ⟨l, q, hl1, hl2, _, _, hd⟩ := lens_f hb (p := 0) (by omega) (by omega)
  refine ⟨200001, ?_⟩
  have S : ∀ k, 100000 ≤ k → spec_LensOk.f k l = some (okLens l) := fun k hk => spec_LensOk_f l (by omega) (by omega)
  have I : ∀ k, 100000 ≤ k → impl_LensOk.f k l = some (okLens l) := fun k hk => impl_LensOk_f l (by omega)
  have D : spec_DrawCodesOf.f 200001 l0 = some l := by unfold spec_DrawCodesOf.f; rw [ho, Option.bind_some, hd _ (by omega), Option.bind_some]
  unfold laws_FnSymbolsNone.f
  by_cases hz : (l0.length : Int) > 1048576
  · rw [if_pos hz]
  rw [if_neg hz, D, Option.bind_some, I _ (by omega), Option.bind_some, S _ (by omega), Option.bind_some, if_neg (by simp), laws_FnSymbolsNone.j0]
  cases hk : okLens l with
  | false =>
    rw [if_pos (show (!false) = true from rfl), S _ (by omega), Option.bind_some, hk]
    rfl
  | true =>
    rw [if_neg (by simp)]
    have := none_l l hk (by omega) l.length 200000 0 (by omega) (by omega) (by omega)
    exact this
end Go.Proofs.Ytopkembjkoljgaa.My
