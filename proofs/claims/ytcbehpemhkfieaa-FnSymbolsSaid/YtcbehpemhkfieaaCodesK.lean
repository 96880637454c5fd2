/- What is known of a code of lengths that make one. -/
import Derived.Test.YtcbehpemhkfieaaPAllx0
import Derived.Test.YtcbehpemhkfieaaPAllx25
import Derived.Test.YtcbehpemhkfieaaCodes
namespace Go.Proofs.Ytcbehpemhkfieaa.My
open Go Go.RowKit Go.Proofs.YtcbehpemhkfieaaW.PrintWords Go.Proofs.YtcbehpemhkfieaaW.PrintLast Go.Proofs.YtcbehpemhkfieaaW.PrintMore Go.Proofs.Ytcbehpemhkfieaa.PAll

theorem okLens_at {l : List Int} (h : okLens l = true) : rng l = true ∧ l.length ≤ 300 ∧ ks l ≤ 32768 := by
  simp only [okLens, fits, Bool.and_eq_true, Bool.or_eq_true, decide_eq_true_eq] at h
  refine ⟨h.1, h.2.1, ?_⟩
  rcases h.2.2 with h | h
  · omega
  · omega
theorem codesL_length (l : List Int) : (codesL l).length = l.length := by simp [codesL]
theorem codesL_rd {l : List Int} {j : Nat} (h : j < l.length) : rd (codesL l) (j : Int) = codeI l j := by
  rw [rd_int_at (by rw [codesL_length]; exact h)]
  simp [codesL]
theorem sym_code {l : List Int} (h : okLens l = true) {j : Nat} (hj : j < l.length) (h0 : rd l j ≠ 0) :
    ∃ n c : Nat, rd l j = n ∧ 1 ≤ n ∧ n ≤ 15 ∧ rd (codesL l) (j : Int) = c ∧ c = code l j ∧ c < 2 ^ n := by
  obtain ⟨hr, _, hk⟩ := okLens_at h
  have hm : rd l j ∈ l := by rw [rd_int_at hj]; exact List.getElem_mem hj
  have hr2 := hr
  unfold rng at hr2
  rw [List.all_eq_true] at hr2
  have hx := hr2 _ hm
  simp only [Bool.and_eq_true, decide_eq_true_eq] at hx
  obtain ⟨n, h1, h2, h3, h4⟩ := code_lt hr hk hj (by omega)
  refine ⟨n, code l j, h1, h2, h3, ?_, rfl, h4⟩
  rw [codesL_rd hj]
  unfold codeI
  rw [if_pos (by omega)]
end Go.Proofs.Ytcbehpemhkfieaa.My
