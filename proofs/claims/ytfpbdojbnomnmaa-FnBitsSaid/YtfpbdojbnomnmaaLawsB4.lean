/- The law FnBits: written and read.  -/
import Derived.Test.YtfpbdojbnomnmaaPAllx31
import Derived.Test.YtfpbdojbnomnmaaReadFacts
import Derived.Test.YtfpbdojbnomnmaaDrawBits
import Derived.Test.YtfpbdojbnomnmaaCbInts
import Derived.Test.YtfpbdojbnomnmaaPutFacts
namespace Go.Proofs.Ytfpbdojbnomnmaa.My
open Go Go.RowKit Go.Proofs.YtfpbdojbnomnmaaW.PrintWords Go.Proofs.YtfpbdojbnomnmaaW.PrintLast Go.Proofs.YtfpbdojbnomnmaaW.PrintMore Go.Proofs.Ytfpbdojbnomnmaa.PAll
open Go.Proofs.Ytfpbdojbnomnmaa.Bit

/-! ### Written and read -/
theorem Bits_l (d : Nat) : ∀ (k : Nat) (l : List S47) (i : Nat), okL l = true → i ≤ l.length → l.length - i = d → l.length ≤ 400 → d + 2000 < k →
    laws_FnBits.l0 k l (txt l) (longI l) ((l.take i).map (fun q => q.f1)) ((l.take i).map (fun q => q.f0)) (i : Int) = some true := by
  induction d with
  | zero =>
    intro k l i hok hi hd hl hk
    obtain ⟨k, rfl⟩ : ∃ m, k = m + 1 := ⟨k - 1, by omega⟩
    have hz := txt_small l
    have ht := total_le (okL_all hok)
    rw [laws_FnBits.l0, if_neg (by omega), List.take_of_length_le (by omega), impl_BitsGet_f _ (by omega) _ (by simp; omega), getR_txt hok, Option.bind_some]
    simp only []
    rw [if_pos trivial, cbInts_f _ (by simp; omega) (by simp; omega), Option.bind_some, if_pos rfl, longI_ok hok, txt_size hok, w64 (x := (total l : Int) + 7) (by omega) (by omega), tdiv_pos (by omega), w64 (by omega) (by omega)]
    simp
  | succ d ih =>
    intro k l i hok hi hd hl hk
    obtain ⟨k, rfl⟩ : ∃ m, k = m + 1 := ⟨k - 1, by omega⟩
    rw [laws_FnBits.l0, if_pos (by omega), if_pos (by omega), if_pos (by simp; omega), if_pos (by simp; omega), rd_at (by omega), w64 (by omega) (by omega), show ((i : Int) + 1) = ((i + 1 : Nat) : Int) by omega]
    have := ih k l (i + 1) hok (by omega) (by omega) hl (by omega)
    rw [List.take_succ_eq_append_getElem (by omega), List.map_append, List.map_append] at this
    exact this
theorem LawBits : laws_FnBits.Pure := by
  intro l _ _ hl
  obtain ⟨s, hs, hd⟩ := DrawBitsPut_f hl
  refine ⟨5001, ?_⟩
  unfold laws_FnBits.f
  by_cases hz : (l.length : Int) > 1048576
  · rw [if_pos hz]
  rw [if_neg hz, hd _ (by omega), Option.bind_some, Iput s (by omega) (by omega), Option.bind_some, Ilong s (by omega) (by omega), Option.bind_some, Pput s (by omega) (by omega), Option.bind_some, if_pos rfl, Plong s (by omega) (by omega), Option.bind_some, if_pos rfl, laws_FnBits.j0]
  by_cases hb : decide (longI s < 0) = true
  · rw [if_pos hb, Pput s (by omega) (by omega), Option.bind_some, if_pos rfl, Plong s (by omega) (by omega), Option.bind_some]
    simp
  · rw [if_neg hb]
    exact Bits_l s.length 5000 s 0 (ok_of_long hb rfl) (by omega) (by omega) (by omega) (by omega)

end Go.Proofs.Ytfpbdojbnomnmaa.My
