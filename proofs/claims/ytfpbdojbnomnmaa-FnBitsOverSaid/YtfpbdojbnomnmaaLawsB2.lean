/- The law FnBitsOver. -/
import Derived.Test.YtfpbdojbnomnmaaPAllx17
import Derived.Test.YtfpbdojbnomnmaaPutFacts
import Derived.Test.YtfpbdojbnomnmaaDrawBits
namespace Go.Proofs.Ytfpbdojbnomnmaa.My
open Go Go.RowKit Go.Proofs.YtfpbdojbnomnmaaW.PrintWords Go.Proofs.YtfpbdojbnomnmaaW.PrintLast Go.Proofs.YtfpbdojbnomnmaaW.PrintMore Go.Proofs.Ytfpbdojbnomnmaa.PAll
open Go.Proofs.Ytfpbdojbnomnmaa.Bit

theorem LawBitsOver : laws_FnBitsOver.Pure := by
  intro l _ _ hl
  obtain ⟨s, hs, hd⟩ := DrawBitsLong_f hl
  refine ⟨5000, ?_⟩
  unfold laws_FnBitsOver.f
  by_cases hz : (l.length : Int) > 1048576
  · rw [if_pos hz]
  rw [if_neg hz, hd _ (by omega), Option.bind_some, Ilong s (by omega) (by omega), Option.bind_some, Plong s (by omega) (by omega), Option.bind_some, if_pos rfl, Option.bind_some]
  rw [if_pos (by simp; omega), Option.bind_some, List.nil_append, if_pos (by omega), Option.bind_some, Option.bind_some, if_pos (by simp; omega), Option.bind_some, if_pos (by rw [List.nil_append]; omega), List.nil_append]
  have hb : okL (s ++ [(⟨4, 2⟩ : S47)]) = false := okL_bad (p := ⟨4, 2⟩) (by simp) (by decide)
  rw [Iput _ (by simp; omega) (by omega), Option.bind_some, txt_no hb, if_pos empty_list, Ilong _ (by simp; omega) (by omega), Option.bind_some, longI_no hb, if_pos rfl]
  cases h : okL s with
  | false => rw [longI_no h, if_pos (by omega)]
  | true =>
    have hr := longI_range (l := s) (by omega)
    rw [longI_ok h] at hr ⊢
    rw [if_neg (by omega), Ilong _ (by simp; omega) (by omega), Option.bind_some, longI_ok (okL_snoc (by omega) h (by decide)), total_append, w64 (by omega) (by omega)]
    simp [total]

end Go.Proofs.Ytfpbdojbnomnmaa.My
