/- Drawn counts, and lengths of few of them. -/
import Derived.Test.YtdenepapeoiiiaaPAllx0
import Derived.Test.YtdenepapeoiiiaaPAllx15
import Derived.Test.YtdenepapeoiiiaaLensOfI
import Derived.Test.YtdenepapeoiiiaaMB
namespace Go.Proofs.Ytdenepapeoiiiaa.My
open Go Go.RowKit Go.Proofs.YtdenepapeoiiiaaW.PrintWords Go.Proofs.YtdenepapeoiiiaaW.PrintLast Go.Proofs.YtdenepapeoiiiaaW.PrintMore Go.Proofs.Ytdenepapeoiiiaa.PAll

theorem drawLensOf_f {l0 : List Int} (h : ∀ x ∈ l0, (Lit.int .u8 x).wf = true) : ∃ (c : List Int) (most : Int), 1 ≤ c.length ∧ c.length ≤ 13 ∧ (∀ x ∈ c, -1 ≤ x ∧ x ≤ 100001) ∧ ∀ k, 60 ≤ k → spec_DrawLensOf.f k l0 = some (c, most) := by
  obtain ⟨b, hb, ho⟩ := open_f h
  obtain ⟨c, q, h1, h2, h3, h4, h5, h6⟩ := counts_f hb (p := 0) (by omega) (by omega)
  obtain ⟨v, v0, v1, hv⟩ := pick_lt hb (p := q) (by omega) (by omega) 12 (by omega)
  obtain ⟨x, hx, hx2⟩ := one_f hb (p := q + 1) (by omega) (by omega) ([(-1), 100001] : List Int) (by simp)
  obtain ⟨y, hy, hy2⟩ := one_f hb (p := q + 1) (by omega) (by omega) ([15, 15, 7, 5, 4, 3, 1, 0, 16] : List Int) (by simp)
  obtain ⟨z, hz, hz2⟩ := one_f hb (p := q + 1 + 1) (by omega) (by omega) ([15, 15, 7, 5, 4, 3, 1, 0, 16] : List Int) (by simp)
  by_cases e : v = 0
  · refine ⟨c ++ [x], z, by simp, by simp; omega, fun w hw => ?_, fun k hk => ?_⟩
    · rcases List.mem_append.1 hw with e | e
      · have := h3 w e; omega
      · rw [List.mem_singleton.1 e]
        simp only [List.mem_cons, List.not_mem_nil, or_false] at hx
        omega
    · unfold spec_DrawLensOf.f
      rw [ho, Option.bind_some, h6 k (by omega), Option.bind_some, hv k (by omega), Option.bind_some, if_pos e, hx2 k (by omega), Option.bind_some, if_pos (show c.length < 17592186044416 by omega), hz2 k (by omega), Option.bind_some]
  · refine ⟨c, y, h1, by omega, fun w hw => by have := h3 w hw; omega, fun k hk => ?_⟩
    unfold spec_DrawLensOf.f
    rw [ho, Option.bind_some, h6 k (by omega), Option.bind_some, hv k (by omega), Option.bind_some, if_neg e, hy2 k (by omega), Option.bind_some]
theorem few_now {c : List Int} (hc : c.length ≤ 16) (h : Cnt c) : mostL (lensL c) 0 ≤ 15 := by
  refine mostL_le _ _ (fun x hx => ?_) (by omega)
  obtain ⟨j, hj, rfl⟩ := lensL_mem h hx
  have := lenOf_le c j
  omega
theorem lensR_few {c : List Int} (hc : c.length ≤ 16) : lensR c 15 = if fitOk c 15 then lensL c else [] := by
  unfold lensR
  by_cases h : fitOk c 15
  · rw [if_pos h, if_pos h]
    obtain ⟨m, hm, _, hf⟩ := fitOk_fit h
    rw [fitR, if_pos (few_now hc hf.cnt)]
  · rw [if_neg h, if_neg h]
theorem fitOk_few {c : List Int} (h : fitOk c 15) : Cnt c ∧ 1 ≤ used c := by
  obtain ⟨m, _, _, hf⟩ := fitOk_fit h
  exact ⟨hf.cnt, hf.u1⟩
theorem inR {c : List Int} {most : Int} (h : fitOk c most) : ∀ x ∈ c, 0 ≤ x ∧ x ≤ 100000 := by
  have h4 := h.2.2.2.1
  unfold inC at h4
  rw [List.all_eq_true] at h4
  intro x hx
  have := h4 x hx
  simp only [Bool.and_eq_true, decide_eq_true_eq] at this
  exact this
end Go.Proofs.Ytdenepapeoiiiaa.My
