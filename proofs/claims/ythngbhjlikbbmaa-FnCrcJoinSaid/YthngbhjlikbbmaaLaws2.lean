/- The other laws of the sums, over the plain steps. -/
import Derived.Test.YthngbhjlikbbmaaPAllx6
import Derived.Test.YthngbhjlikbbmaaPAllx9
import Derived.Test.YthngbhjlikbbmaaLaws1
import Derived.Test.YthngbhjlikbbmaaDraw
namespace Go.Proofs.Ythngbhjlikbbmaa.My
open Go Go.RowKit Go.Proofs.YthngbhjlikbbmaaW.PrintWords Go.Proofs.YthngbhjlikbbmaaW.PrintLast Go.Proofs.YthngbhjlikbbmaaW.PrintMore Go.Proofs.Ythngbhjlikbbmaa.PAll
open Go.Proofs.Ythngbhjlikbbmaa.Crc Go.Proofs.Ythngbhjlikbbmaa.Adler

theorem crc_range (t : List Nat) : 0 ≤ ((crc t).toNat : Int) ∧ ((crc t).toNat : Int) ≤ 4294967295 := by
  have := (crc t).isLt
  omega
theorem adler_range (t : List Nat) : 0 ≤ (adler t : Int) ∧ (adler t : Int) ≤ 4294967295 := by
  have := adler_halves t
  omega
theorem adler_i64 (t : List Nat) : -9223372036854775808 ≤ (adler t : Int) ∧ (adler t : Int) ≤ 9223372036854775807 := by
  have := adler_halves t
  omega
theorem beq_self_int (x : Int) : (x == x) = true := by simp

theorem byte_aux {n m : Nat} (hn : n < 4294967296) (hm : m < 4294967296) (h1 : m % 65536 = (n % 65536 + 65) % 65521) (h2 : m / 65536 = (n / 65536 + (n % 65536 + 65) % 65521) % 65521) :
    (if Int.tmod (m : Int) 65536 = Int.tmod (wrap64 (Int.tmod (n : Int) 65536 + 65)) 65521 then some (wrap64 (Int.tdiv (m : Int) 65536) == Int.tmod (wrap64 (wrap64 (Int.tdiv (n : Int) 65536) + Int.tmod (wrap64 (Int.tmod (n : Int) 65536 + 65)) 65521)) 65521) else some false) = some true := by
  have e1 : (m : Int) % 65536 = ((n : Int) % 65536 + 65) % 65521 := by omega
  have e2 : (m : Int) / 65536 = ((n : Int) / 65536 + ((n : Int) % 65536 + 65) % 65521) % 65521 := by omega
  clear h1 h2
  rw [tmod_pos (x := (m : Int)) (by omega), tmod_pos (x := (n : Int)) (by omega), tdiv_pos (x := (m : Int)) (by omega), tdiv_pos (x := (n : Int)) (by omega)]
  have f1 : 0 ≤ (n : Int) % 65536 ∧ (n : Int) % 65536 < 65536 := by omega
  have f2 : 0 ≤ (n : Int) / 65536 ∧ (n : Int) / 65536 < 65536 := by omega
  have f3 : 0 ≤ (m : Int) / 65536 ∧ (m : Int) / 65536 < 65536 := by omega
  generalize (n : Int) % 65536 = x at *
  generalize (n : Int) / 65536 = y at *
  generalize (m : Int) % 65536 = u at *
  generalize (m : Int) / 65536 = v at *
  rw [w64 (x := x + 65) (by omega) (by omega), w64 (x := y) (by omega) (by omega), w64 (x := v) (by omega) (by omega), tmod_pos (x := x + 65) (by omega)]
  have f4 : 0 ≤ (x + 65) % 65521 ∧ (x + 65) % 65521 < 65521 := by omega
  rw [← e1] at e2 f4 ⊢
  clear e1
  rw [w64 (by omega) (by omega), tmod_pos (by omega), if_pos rfl, ← e2]
  simp
theorem AdlerByte : laws_FnAdlerByte.Pure := by
  intro l _ _ hl
  obtain ⟨s, hs, hd⟩ := DrawAdler_f hl
  refine ⟨1000, ?_⟩
  have hA : (s ++ (⟨#[65]⟩ : ByteArray)).size = s.size + 1 := by rw [ByteArray.size_append]; rfl
  have e : bys (s ++ (⟨#[65]⟩ : ByteArray)) = bys s ++ [65] := by rw [bys_append]; rfl
  have h1 := adler_halves (bys s)
  have h3 := adler_halves (bys s ++ [65])
  have h2 := adler_snoc (bys s) 65
  have g1 := impl_Adler_f (k := 1000) s (by omega) (by omega)
  have g2 := spec_Adler_f (k := 1000) s (by omega) (by omega)
  have g3 := impl_Adler_f (k := 1000) (s ++ (⟨#[65]⟩ : ByteArray)) (by omega) (by omega)
  rw [e] at g3
  generalize adler (bys s) = n at *
  generalize adler (bys s ++ [65]) = m at *
  unfold laws_FnAdlerByte.f
  split
  · rfl
  rw [hd _ (by omega), Option.bind_some, g1, Option.bind_some, g2, Option.bind_some, if_pos rfl, if_pos (by omega), g3, Option.bind_some]
  exact byte_aux h1.2.2 h3.2.2 h2.1 h2.2
theorem LawCrc : laws_FnCrc.Pure := by
  intro l _ _ hl
  obtain ⟨s, hs, hd⟩ := DrawCrc_f hl
  refine ⟨5000, ?_⟩
  unfold laws_FnCrc.f
  split
  · rfl
  rw [hd _ (by omega)]
  simp only [Option.bind_some]
  rw [impl_Crc_f s (by omega) (by omega), spec_Crc_f s (by omega) (by omega), impl_Crc_f _ (by decide) (by decide), impl_Crc_f _ (by decide) (by decide)]
  have h9 : bys (⟨#[49, 50, 51, 52, 53, 54, 55, 56, 57]⟩ : ByteArray) = [49, 50, 51, 52, 53, 54, 55, 56, 57] := rfl
  have h0 : bys (⟨#[]⟩ : ByteArray) = [] := rfl
  have hr := crc_range (bys s)
  simp only [Option.bind_some, if_true, h9, h0, crc_nine, crc_nil]
  rw [if_pos (by decide), if_pos (by decide), if_pos (by omega)]
  simp [hr.2]
theorem CrcEnd : laws_FnCrcEnd.Pure := by
  intro l _ _ hl
  obtain ⟨s, hs, hd⟩ := DrawCrc_f hl
  refine ⟨5000, ?_⟩
  unfold laws_FnCrcEnd.f
  split
  · rfl
  rw [hd _ (by omega)]
  simp only [Option.bind_some]
  rw [impl_Crc_f s (by omega) (by omega), spec_Crc_f s (by omega) (by omega)]
  simp only [Option.bind_some, if_true]
  have hlt := (crc (bys s)).isLt
  obtain ⟨n, hn⟩ : ∃ n, n = (crc (bys s)).toNat := ⟨_, rfl⟩
  have hend := crc_end (bys s)
  rw [← hn] at hlt hend ⊢
  have e : ([(Int.tmod (n : Int) 256) % 256, (Int.tmod (wrap64 (Int.tdiv (n : Int) 256)) 256) % 256, (Int.tmod (wrap64 (Int.tdiv (n : Int) 65536)) 256) % 256, (wrap64 (Int.tdiv (n : Int) 16777216)) % 256] : List Int) = [(n : Int) % 256, (n : Int) / 256 % 256, (n : Int) / 65536 % 256, (n : Int) / 16777216] := by
    rw [tmod_pos (x := (n : Int)) (by omega), tdiv_pos (x := (n : Int)) (by omega), tdiv_pos (x := (n : Int)) (by omega), tdiv_pos (x := (n : Int)) (by omega), w64 (x := (n : Int) / 256) (by omega) (by omega), w64 (x := (n : Int) / 65536) (by omega) (by omega), w64 (x := (n : Int) / 16777216) (by omega) (by omega), tmod_pos (by omega), tmod_pos (by omega)]
    simp only [List.cons.injEq, and_true]
    omega
  rw [e]
  have hz : (strOfNums [(n : Int) % 256, (n : Int) / 256 % 256, (n : Int) / 65536 % 256, (n : Int) / 16777216]).size = 4 := rfl
  rw [if_pos (by omega), impl_Crc_f _ (by rw [ByteArray.size_append]; omega) (by rw [ByteArray.size_append]; omega)]
  simp only [Option.bind_some]
  rw [bys_append, bys_strOfNums _ (by
    intro x hx
    simp only [List.mem_cons, List.not_mem_nil, or_false] at hx
    omega)]
  have e2 : List.map Int.toNat [(n : Int) % 256, (n : Int) / 256 % 256, (n : Int) / 65536 % 256, (n : Int) / 16777216] = word4 n := by
    simp only [List.map_cons, List.map_nil, word4, List.cons.injEq, and_true]
    omega
  rw [e2, hend]
  rfl
theorem LawAdler : laws_FnAdler.Pure := by
  intro l m _ _ hl _ _ hm
  obtain ⟨s, hs, hd⟩ := DrawAdler_f hl
  obtain ⟨t, ht, he⟩ := DrawAdler_f hm
  refine ⟨5001, ?_⟩
  have hj : ∀ b, laws_FnAdler.j0 5001 l m b = some true := by
    intro b
    rw [laws_FnAdler.j0]
    split
    · rfl
    rw [hd _ (by omega), he _ (by omega)]
    simp only [Option.bind_some]
    rw [impl_Adler_f s (by omega) (by omega), spec_Adler_f s (by omega) (by omega), impl_Adler_f t (by omega) (by omega)]
    have hst : (s ++ t).size = s.size + t.size := ByteArray.size_append
    have r1 := adler_range (bys s)
    have r2 := adler_range (bys t)
    simp only [Option.bind_some, if_true]
    rw [impl_AdlerJoin_f _ _ _ (by omega) (by omega)]
    simp only [Option.bind_some]
    rw [if_pos (by omega), impl_Adler_f (s ++ t) (by omega) (by omega), impl_Adler_f _ (by decide) (by decide), impl_Adler_f _ (by decide) (by decide)]
    simp only [Option.bind_some]
    rw [← bys_length t, joI_adler _ _ (by rw [bys_length]; omega), bys_append]
    rw [if_pos rfl]
    have h0 : bys (⟨#[]⟩ : ByteArray) = [] := rfl
    have h9 : bys (⟨#[87, 105, 107, 105, 112, 101, 100, 105, 97]⟩ : ByteArray) = [87, 105, 107, 105, 112, 101, 100, 105, 97] := rfl
    rw [h0, h9, adler_nil, adler_word]
    rfl
  unfold laws_FnAdler.f
  split <;> exact hj _
theorem AdlerThree : laws_FnAdlerThree.Pure := by
  intro l m _ _ hl _ _ hm
  obtain ⟨s, hs, hd⟩ := DrawAdler_f hl
  obtain ⟨t, ht, he⟩ := DrawAdler_f hm
  refine ⟨5001, ?_⟩
  have hj : ∀ b, laws_FnAdlerThree.j0 5001 l m b = some true := by
    intro b
    rw [laws_FnAdlerThree.j0]
    split
    · rfl
    rw [hd _ (by omega), he _ (by omega)]
    simp only [Option.bind_some]
    rw [impl_Adler_f s (by omega) (by omega), spec_Adler_f s (by omega) (by omega), impl_Adler_f t (by omega) (by omega)]
    have r1 := adler_range (bys s)
    have r2 := adler_range (bys t)
    simp only [Option.bind_some, if_true]
    rw [impl_AdlerJoin_f _ _ _ (by omega) (by omega)]
    simp only [Option.bind_some]
    rw [← bys_length t, ← bys_length s, joI_adler _ _ (by rw [bys_length]; omega), impl_AdlerJoin_f _ _ _ (adler_i64 _) (adler_i64 _)]
    simp only [Option.bind_some]
    rw [joI_adler _ _ (by rw [bys_length]; omega), impl_AdlerJoin_f _ _ _ (adler_i64 _) (adler_i64 _)]
    simp only [Option.bind_some]
    rw [joI_adler _ _ (by rw [bys_length]; omega), impl_AdlerJoin_f _ _ _ (adler_i64 _) (adler_i64 _), bys_length, bys_length, w64 (by omega) (by omega)]
    simp only [Option.bind_some]
    have el : ((t.size : Int) + (s.size : Int)) = ((bys t ++ bys s).length : Int) := by rw [List.length_append, bys_length, bys_length]; omega
    rw [el, joI_adler _ _ (by rw [List.length_append, bys_length, bys_length]; omega), List.append_assoc, if_pos rfl]
    have hst : (s ++ t).size = s.size + t.size := ByteArray.size_append
    have hsts : (s ++ t ++ s).size = s.size + t.size + s.size := by rw [ByteArray.size_append, ByteArray.size_append]
    rw [if_pos (by omega), if_pos (by omega), impl_Adler_f (s ++ t ++ s) (by omega) (by omega), bys_append, bys_append, List.append_assoc]
    simp
  unfold laws_FnAdlerThree.f
  split <;> exact hj _
theorem CrcThree : laws_FnCrcThree.Pure := by
  intro l m _ _ hl _ _ hm
  obtain ⟨s, hs, hd⟩ := DrawCrc_f hl
  obtain ⟨t, ht, he⟩ := DrawCrc_f hm
  refine ⟨1000001, ?_⟩
  have hj : ∀ b, laws_FnCrcThree.j0 1000001 l m b = some true := by
    intro b
    rw [laws_FnCrcThree.j0]
    split
    · rfl
    have J : ∀ (x y : List Nat) (n : Int), n = (y.length : Int) → y.length ≤ 100000 → impl_CrcJoin.f 1000000 ((crc x).toNat : Int) ((crc y).toNat : Int) n = some ((crc (x ++ y)).toNat : Int) := by
      intro x y n hn hy
      rw [impl_CrcJoin_f _ _ _ (by omega), hn, joinI_ok _ _ _ hy, join_crc]
    rw [hd _ (by omega), he _ (by omega)]
    simp only [Option.bind_some]
    rw [impl_Crc_f s (by omega) (by omega), spec_Crc_f s (by omega) (by omega), impl_Crc_f t (by omega) (by omega)]
    simp only [Option.bind_some, if_true]
    rw [J _ _ _ (by rw [bys_length]) (by rw [bys_length]; omega)]
    simp only [Option.bind_some]
    rw [J _ _ _ (by rw [bys_length]) (by rw [bys_length]; omega)]
    simp only [Option.bind_some]
    rw [J _ _ _ (by rw [bys_length]) (by rw [bys_length]; omega)]
    simp only [Option.bind_some]
    rw [w64 (by omega) (by omega), J _ _ _ (by rw [List.length_append, bys_length, bys_length]; omega) (by rw [List.length_append, bys_length, bys_length]; omega), List.append_assoc]
    simp only [Option.bind_some, if_true]
    have hst : (s ++ t).size = s.size + t.size := ByteArray.size_append
    have hsts : (s ++ t ++ s).size = s.size + t.size + s.size := by rw [ByteArray.size_append, ByteArray.size_append]
    rw [if_pos (by omega), if_pos (by omega), impl_Crc_f (s ++ t ++ s) (by omega) (by omega), bys_append, bys_append, List.append_assoc]
    simp
  unfold laws_FnCrcThree.f
  split <;> exact hj _
end Go.Proofs.Ythngbhjlikbbmaa.My
