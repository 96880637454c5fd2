/- A text one byte of which is another one has another sum. -/
import Derived.Test.YthngbhjlikbbmaaPAllx7
import Derived.Test.YthngbhjlikbbmaaLaws3
namespace Go.Proofs.Ythngbhjlikbbmaa.My
open Go Go.RowKit Go.Proofs.YthngbhjlikbbmaaW.PrintWords Go.Proofs.YthngbhjlikbbmaaW.PrintLast Go.Proofs.YthngbhjlikbbmaaW.PrintMore Go.Proofs.Ythngbhjlikbbmaa.PAll
open Go.Proofs.Ythngbhjlikbbmaa.Crc Go.Proofs.Ythngbhjlikbbmaa.Adler

theorem take_drop_split (t : List Nat) (k : Nat) (hk : k < t.length) : t = t.take k ++ t[k] :: t.drop (k + 1) := by
  rw [← List.drop_eq_getElem_cons hk, List.take_append_drop]
theorem LawCrcByte : laws_FnCrcByte.Pure := by
  intro l m hlm _ hl hmm _ hm
  obtain ⟨s, hs, hd⟩ := DrawCrc_f hl
  refine ⟨7002, ?_⟩
  have hj1 : ∀ b, (s.toList = [] → b = true) → laws_FnCrcByte.j1 7001 m s ((crc (bys s)).toNat : Int) b = some true := by
    intro b hb
    rw [laws_FnCrcByte.j1]
    by_cases hbf : b = true
    · rw [if_pos hbf, spec_Crc_f s (by omega) (by omega), Option.bind_some, beq_self_int]
    · rw [if_neg hbf]
      have hne : s.size ≠ 0 := by
        intro h0
        apply hbf
        apply hb
        have he : s = ByteArray.empty := ByteArray.ext (Array.eq_empty_of_size_eq_zero h0)
        rw [he, ByteArray.toList_eq]
        rfl
      obtain ⟨k, hk, hklt⟩ : ∃ k : Nat, ((m.length : Int) % (s.size : Int)) = (k : Int) ∧ k < s.size := by
        refine ⟨m.length % s.size, by omega, Nat.mod_lt _ (by omega)⟩
      have hbt := bt_get s k hklt
      have hlt : (bys s)[k]'(by rw [bys_length]; exact hklt) < 256 := bys_lt s _ (List.getElem_mem _)
      obtain ⟨v, hv⟩ : ∃ v : Nat, v = (bys s)[k]'(by rw [bys_length]; exact hklt) := ⟨_, rfl⟩
      rw [← hv] at hbt hlt
      rw [if_neg (by omega), hk, if_pos (by omega), if_pos (by omega), if_pos (by omega), Option.bind_some, hbt]
      have hl1 : (strOfNums [((v : Int) + 1) % 256]).size = 1 := rfl
      have hb1 : bys (strOfNums [((v : Int) + 1) % 256]) = [(v + 1) % 256] := by
        rw [bys_strOfNums _ (by intro x hx; simp only [List.mem_cons, List.not_mem_nil, or_false] at hx; omega)]
        simp only [List.map_cons, List.map_nil, List.cons.injEq, and_true]
        omega
      generalize strOfNums [((v : Int) + 1) % 256] = y at *
      have e1 : (s.extract 0 ((k : Int)).toNat).size = k := by rw [ByteArray.size_extract]; omega
      rw [w64 (by omega) (by omega)]
      have e2 : (s.extract ((k : Int) + 1).toNat s.size).size = s.size - (k + 1) := by rw [ByteArray.size_extract]; omega
      have b1 : bys (s.extract 0 ((k : Int)).toNat) = (bys s).take k := by rw [bys_extract, Int.toNat_natCast]; rfl
      have b2 : bys (s.extract ((k : Int) + 1).toNat s.size) = (bys s).drop (k + 1) := by
        rw [bys_extract, List.take_of_length_le (by rw [bys_length]; omega), show ((k : Int) + 1).toNat = k + 1 by omega]
      generalize s.extract 0 ((k : Int)).toNat = u at *
      generalize s.extract ((k : Int) + 1).toNat s.size = z at *
      have e3 : (u ++ y ++ z).size = s.size := by rw [ByteArray.size_append, ByteArray.size_append]; omega
      have e4 : (u ++ y).size = k + 1 := by rw [ByteArray.size_append]; omega
      rw [if_pos (by omega), if_pos (by omega), if_pos (by omega), if_pos (by omega), impl_Crc_f (u ++ y ++ z) (by omega) (by omega), Option.bind_some]
      have b3 : bys (u ++ y ++ z) = (bys s).take k ++ ((v + 1) % 256) :: (bys s).drop (k + 1) := by
        rw [bys_append, bys_append, b1, b2, hb1]
        simp
      have b4 : bys s = (bys s).take k ++ v :: (bys s).drop (k + 1) := by
        rw [hv]; exact take_drop_split _ _ (by rw [bys_length]; exact hklt)
      have hnot : ¬ ((crc (bys (u ++ y ++ z))).toNat : Int) = ((crc (bys s)).toNat : Int) := by
        intro h
        have h2 : crc (bys (u ++ y ++ z)) = crc (bys s) := BitVec.eq_of_toNat_eq (by omega)
        have h3 := crc_byte ((bys s).take k) ((bys s).drop (k + 1)) (a := (v + 1) % 256) (b := v) (by omega) hlt (by omega)
        rw [← b3, ← b4] at h3
        exact h3 h2
      rw [if_neg hnot, if_pos (by omega), impl_Crc_f u (by omega) (by omega)]
      have e5 : ((u ++ y ++ z).extract 0 ((k : Int)).toNat).size = k := by rw [ByteArray.size_extract, e3]; omega
      rw [impl_Crc_f ((u ++ y ++ z).extract 0 ((k : Int)).toNat) (by omega) (by omega), Option.bind_some, Option.bind_some]
      have b5 : bys ((u ++ y ++ z).extract 0 ((k : Int)).toNat) = bys u := by
        rw [bys_extract, b3, b1, Int.toNat_natCast, List.take_append_of_le_length (by rw [List.length_take, bys_length]; omega), List.take_take, Nat.min_self]
        rfl
      rw [b5, beq_self_int]
  have hj : ∀ b, laws_FnCrcByte.j0 7002 l m b = some true := by
    intro b
    rw [laws_FnCrcByte.j0]
    split
    · rfl
    rw [hd _ (by omega), Option.bind_some, impl_Crc_f s (by omega) (by omega), Option.bind_some, spec_Crc_f s (by omega) (by omega), Option.bind_some, if_pos rfl]
    exact hj1 _ (fun h => by rw [h]; rfl)
  unfold laws_FnCrcByte.f
  split <;> exact hj _
end Go.Proofs.Ythngbhjlikbbmaa.My
