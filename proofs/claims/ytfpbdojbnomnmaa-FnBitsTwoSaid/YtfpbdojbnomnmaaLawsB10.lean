/- The law FnBitsTwo. -/
import Derived.Test.YtfpbdojbnomnmaaPAllx19
import Derived.Test.YtfpbdojbnomnmaaPutFacts
import Derived.Test.YtfpbdojbnomnmaaDrawBits
namespace Go.Proofs.Ytfpbdojbnomnmaa.My
open Go Go.RowKit Go.Proofs.YtfpbdojbnomnmaaW.PrintWords Go.Proofs.YtfpbdojbnomnmaaW.PrintLast Go.Proofs.YtfpbdojbnomnmaaW.PrintMore Go.Proofs.Ytfpbdojbnomnmaa.PAll
open Go.Proofs.Ytfpbdojbnomnmaa.Bit

theorem strOfNums_cat {a b : List Bool} (ha : a.length % 8 = 0) : strOfNums (packI (a ++ b)) = strOfNums (packI a) ++ strOfNums (packI b) := by
  apply bys_inj
  rw [bys_append, bys_packI, bys_packI, bys_packI, pack_append ha]
def pad (s : List S47) : S47 := ⟨0, Int.tmod (wrap64 (8 - (Int.tmod (total s : Int) 8))) 8⟩
theorem pad_eq {s : List S47} : ∃ m : Nat, m ≤ 7 ∧ pad s = ⟨((0 : Nat) : Int), (m : Int)⟩ ∧ (total s + m) % 8 = 0 ∧ (total s + m + 7) / 8 = (total s + 7) / 8 := by
  refine ⟨(8 - total s % 8) % 8, by omega, ?_, by omega, by omega⟩
  unfold pad
  have e : Int.tmod (total s : Int) 8 = (total s : Int) % 8 := tmod_pos (by omega)
  have e2 : wrap64 (8 - (total s : Int) % 8) = 8 - (total s : Int) % 8 := w64 (by omega) (by omega)
  have e3 : Int.tmod (8 - (total s : Int) % 8) 8 = (8 - (total s : Int) % 8) % 8 := tmod_pos (by omega)
  rw [e, e2, e3]
  congr 1
  omega
theorem LawBitsTwo : laws_FnBitsTwo.Pure := by
  intro l m _ _ hl _ _ hm
  obtain ⟨s, hs, hd⟩ := DrawBitsPut_f hl
  obtain ⟨t, ht, he⟩ := DrawBitsPut_f hm
  refine ⟨5001, ?_⟩
  unfold laws_FnBitsTwo.f
  have key : ∀ b, laws_FnBitsTwo.j0 5001 l m b = some true := by
    intro b
    rw [laws_FnBitsTwo.j0]
    by_cases hb : b = true
    · rw [if_pos hb]
    rw [if_neg hb, hd _ (by omega), Option.bind_some, he _ (by omega), Option.bind_some, Ilong s (by omega) (by omega), Option.bind_some, Plong s (by omega) (by omega), Option.bind_some, if_pos rfl]
    have ktrue : laws_FnBitsTwo.j1 5000 s t (longI s) true = some true := by
      rw [laws_FnBitsTwo.j1, if_pos rfl, Plong s (by omega) (by omega), Option.bind_some]
      simp
    by_cases h1 : longI s < 0
    · rw [if_pos h1, ktrue]
    rw [if_neg h1, Ilong t (by omega) (by omega), Option.bind_some]
    by_cases h2 : longI t < 0
    · rw [show decide (longI t < 0) = true by simp [h2], ktrue]
    rw [show decide (longI t < 0) = false by simp [h2]]
    have o1 : okL s = true := by cases h : okL s with | true => rfl | false => exact absurd (longI_neg.2 h) h1
    have o2 : okL t = true := by cases h : okL t with | true => rfl | false => exact absurd (longI_neg.2 h) h2
    clear h1 h2 ktrue
    obtain ⟨n, n7, hp, hn8, hn7⟩ := pad_eq (s := s)
    have op : okP (pad s).f0 (pad s).f1 = true := by rw [hp]; exact okP_mk (by omega) Nat.one_le_two_pow
    have o3 := okL_snoc (by omega) o1 op
    have o4 : okL ((s ++ [pad s]) ++ t) = true := okL_mk (fun q hq => by
      rcases List.mem_append.1 hq with hq | hq
      · exact okL_all o3 q hq
      · exact okL_all o2 q hq) (by simp; omega)
    have b3 : bitsOf (s ++ [pad s]) = bitsOf s ++ List.replicate n false := by
      rw [bitsOf_append, hp]
      simp [bitsOf, nb_zero]
    have e1 : txt (s ++ [pad s]) = txt s := by
      rw [txt_ok o3, txt_ok o1, b3]
      unfold packI
      rw [pack_zeros (by rw [bitsOf_length]; omega)]
    have e2 : txt ((s ++ [pad s]) ++ t) = txt s ++ txt t := by
      rw [txt_ok o4, bitsOf_append, strOfNums_cat (by rw [b3, List.length_append, bitsOf_length, List.length_replicate]; omega), ← txt_ok o3, e1, txt_ok o2]
    have z1 := txt_small s
    have z2 := txt_small t
    rw [longI_ok o1]
    rw [laws_FnBitsTwo.j1, if_neg (by simp), Option.bind_some, if_pos (by simp; omega), Option.bind_some, List.nil_append, if_pos (by omega), Option.bind_some]
    rw [show (⟨0, Int.tmod (wrap64 (8 - (Int.tmod (total s : Int) 8))) 8⟩ : S47) = pad s from rfl]
    rw [Iput _ (by simp; omega) (by omega), Option.bind_some, Iput s (by omega) (by omega), Option.bind_some, e1, if_pos rfl, Option.bind_some, if_pos (by simp; omega), Option.bind_some, List.nil_append, if_pos (by simp; omega)]
    rw [Iput _ (by simp; omega) (by omega), Option.bind_some, Option.bind_some, Iput t (by omega) (by omega), Option.bind_some, if_pos (by omega), e2]
    simp
  by_cases hz : (l.length : Int) > 1048576
  · rw [if_pos hz]; exact key _
  · rw [if_neg hz]; exact key _

end Go.Proofs.Ytfpbdojbnomnmaa.My
