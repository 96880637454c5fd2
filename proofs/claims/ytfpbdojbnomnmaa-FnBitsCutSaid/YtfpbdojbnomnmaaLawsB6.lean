/- The law FnBitsCut: a text that is cut is not read. -/
import Derived.Test.YtfpbdojbnomnmaaPAllx29
import Derived.Test.YtfpbdojbnomnmaaReadFacts
import Derived.Test.YtfpbdojbnomnmaaDrawBits
import Derived.Test.YtfpbdojbnomnmaaPutFacts
namespace Go.Proofs.Ytfpbdojbnomnmaa.My
open Go Go.RowKit Go.Proofs.YtfpbdojbnomnmaaW.PrintWords Go.Proofs.YtfpbdojbnomnmaaW.PrintLast Go.Proofs.YtfpbdojbnomnmaaW.PrintMore Go.Proofs.Ytfpbdojbnomnmaa.PAll
open Go.Proofs.Ytfpbdojbnomnmaa.Bit

/-! ### A byte less, a byte more -/
theorem get_size {s : ByteArray} {l : List S47} {x : List Int} (h : getR s (l.map (fun q => q.f1)) = (x, true)) : s.size = (total l + 7) / 8 := by
  obtain ⟨m, h1, _, h3, h4⟩ := txt_get h
  rw [← h4, txt_size h3]
  have : total m = total l := by
    unfold total
    rw [show (m.map (fun p => p.f1.toNat)) = (m.map (fun q => q.f1)).map Int.toNat by simp, ← h1]
    simp [Function.comp_def]
  rw [this]
theorem get_no {s : ByteArray} {l : List S47} (h : s.size ≠ (total l + 7) / 8) : (getR s (l.map (fun q => q.f1))).2 = false := by
  obtain ⟨⟨x, b⟩, hx⟩ : ∃ z, z = getR s (l.map (fun q => q.f1)) := ⟨_, rfl⟩
  rw [← hx]
  cases b with
  | false => rfl
  | true => exact absurd (get_size hx.symm) h
theorem Cut_l (d : Nat) : ∀ (k : Nat) (l : List S47) (i : Nat), okL l = true → 0 < (txt l).size → i ≤ l.length → l.length - i = d → l.length ≤ 400 → d + 2000 < k →
    laws_FnBitsCut.l0 k l (txt l) ((l.take i).map (fun q => q.f1)) (i : Int) = some true := by
  induction d with
  | zero =>
    intro k l i hok h0 hi hd hl hk
    obtain ⟨k, rfl⟩ : ∃ m, k = m + 1 := ⟨k - 1, by omega⟩
    have hz := txt_small l
    have hs := txt_size hok
    have hw : wrap64 (((txt l).size : Int) - 1) = (((txt l).size - 1 : Nat) : Int) := by rw [w64 (by omega) (by omega)]; omega
    have s1 : ((txt l).extract 0 ((txt l).size - 1)).size = (txt l).size - 1 := by rw [ByteArray.size_extract]; omega
    have s2 : ((txt l) ++ (⟨#[0]⟩ : ByteArray)).size = (txt l).size + 1 := by rw [ByteArray.size_append]; rfl
    rw [laws_FnBitsCut.l0, if_neg (by omega), List.take_of_length_le (by omega), hw, if_pos (by omega), if_pos (by omega), Int.toNat_natCast]
    rw [impl_BitsGet_f _ (by omega) _ (by simp; omega), Option.bind_some, if_pos (by omega), impl_BitsGet_f _ (by omega) _ (by simp; omega), Option.bind_some,
      get_no (by omega), get_no (by omega), if_neg (by simp)]
    rfl
  | succ d ih =>
    intro k l i hok h0 hi hd hl hk
    obtain ⟨k, rfl⟩ : ∃ m, k = m + 1 := ⟨k - 1, by omega⟩
    rw [laws_FnBitsCut.l0, if_pos (by omega), if_pos (by omega), if_pos (by simp; omega), rd_at (by omega), w64 (by omega) (by omega), show ((i : Int) + 1) = ((i + 1 : Nat) : Int) by omega]
    have := ih k l (i + 1) hok h0 (by omega) (by omega) hl (by omega)
    rw [List.take_succ_eq_append_getElem (by omega), List.map_append] at this
    exact this
theorem LawBitsCut : laws_FnBitsCut.Pure := by
  intro l _ _ hl
  obtain ⟨s, hs, hd⟩ := DrawBitsPut_f hl
  refine ⟨5001, ?_⟩
  unfold laws_FnBitsCut.f
  by_cases hz : (l.length : Int) > 1048576
  · rw [if_pos hz]
  rw [if_neg hz, hd _ (by omega), Option.bind_some, Iput s (by omega) (by omega), Option.bind_some, Pput s (by omega) (by omega), Option.bind_some, if_pos rfl, laws_FnBitsCut.j0]
  by_cases hb : ((txt s).toList == ([] : List UInt8)) = true
  · rw [if_pos hb, Pput s (by omega) (by omega), Option.bind_some]
    simp
  · rw [if_neg hb]
    have h0 : 0 < (txt s).size := by
      rcases Nat.eq_zero_or_pos (txt s).size with h | h
      · exfalso
        apply hb
        have : txt s = ⟨#[]⟩ := by
          apply bys_inj
          exact List.eq_nil_of_length_eq_zero (by rw [bys_length]; exact h)
        rw [this, empty_list]
        rfl
      · exact h
    have hok : okL s = true := by
      cases h : okL s with
      | true => rfl
      | false => rw [txt_no h] at h0; exact absurd h0 (by decide)
    exact Cut_l s.length 5000 s 0 hok h0 (by omega) (by omega) (by omega) (by omega)

end Go.Proofs.Ytfpbdojbnomnmaa.My
