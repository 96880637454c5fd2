/- A code, and its length. -/
import Derived.Test.YtopkembjkoljgaaPAllx0
import Derived.Test.YtopkembjkoljgaaCodesK
namespace Go.Proofs.Ytopkembjkoljgaa.My
open Go Go.RowKit Go.Proofs.YtopkembjkoljgaaW.PrintWords Go.Proofs.YtopkembjkoljgaaW.PrintLast Go.Proofs.YtopkembjkoljgaaW.PrintMore Go.Proofs.Ytopkembjkoljgaa.PAll

theorem len_range {l : List Int} (hk : okLens l = true) {j : Nat} (hj : j < l.length) : 0 ≤ rd l j ∧ rd l j ≤ 15 := by
  have hr := (okLens_at hk).1
  have hm : rd l j ∈ l := by rw [rd_int_at hj]; exact List.getElem_mem hj
  unfold rng at hr
  rw [List.all_eq_true] at hr
  have hx := hr _ hm
  simp only [Bool.and_eq_true, decide_eq_true_eq] at hx
  exact hx
theorem codes_at {l : List Int} (hk : okLens l = true) {j : Nat} (hj : j < l.length) (h0 : rd l j ≠ 0) : ∃ n : Nat, rd l j = n ∧ 1 ≤ n ∧ n ≤ 15 ∧ rd (codesL l) j = (code l j : Int) ∧ code l j < 2 ^ n := by
  obtain ⟨n, c, h1, h2, h3, h4, h5, h6⟩ := sym_code hk hj h0
  exact ⟨n, h1, h2, h3, by rw [h4, h5], by rw [← h5]; exact h6⟩
end Go.Proofs.Ytopkembjkoljgaa.My
