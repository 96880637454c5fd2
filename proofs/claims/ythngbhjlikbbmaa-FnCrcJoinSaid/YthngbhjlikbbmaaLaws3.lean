/- The laws of the sums that draw numbers besides texts. -/
import Derived.Test.YthngbhjlikbbmaaPAllx10
import Derived.Test.YthngbhjlikbbmaaLaws2
namespace Go.Proofs.Ythngbhjlikbbmaa.My
open Go Go.RowKit Go.Proofs.YthngbhjlikbbmaaW.PrintWords Go.Proofs.YthngbhjlikbbmaaW.PrintLast Go.Proofs.YthngbhjlikbbmaaW.PrintMore Go.Proofs.Ythngbhjlikbbmaa.PAll
open Go.Proofs.Ythngbhjlikbbmaa.Crc Go.Proofs.Ythngbhjlikbbmaa.Adler

def I64 (x : Int) : Prop := -9223372036854775808 ≤ x ∧ x ≤ 9223372036854775807
theorem DrawAdlerJoin_f {l : List Int} (h : ∀ x ∈ l, (Lit.int .u8 x).wf = true) : ∃ a b n, I64 a ∧ I64 b ∧ ∀ k, 400 ≤ k → spec_DrawAdlerJoin.f k l = some (a, b, n) := by
  obtain ⟨b, hb, ho⟩ := open_f h
  obtain ⟨s, q, hs, h1, h2, hk⟩ := text_f hb (p := 0) (by omega) (by omega)
  obtain ⟨x, hx, ha⟩ := one_f hb (p := q) (by omega) (by omega) ([1, 0, 65520, 65521, (-1), (adler (bys s) : Int)] : List Int) (by simp)
  obtain ⟨t, q2, ht, h3, h4, hk2⟩ := text_f hb (p := q + 1) (by omega) (by omega)
  obtain ⟨y, hy, hc⟩ := one_f hb (p := q2) (by omega) (by omega) ([1, 0, (adler (bys t) : Int), 4294967295] : List Int) (by simp)
  obtain ⟨n, _, hn⟩ := one_f hb (p := q2 + 1) (by omega) (by omega) ([0, 1, 5, 100, (-1), 100000, 100001] : List Int) (by simp)
  have r1 := adler_range (bys s)
  have r2 := adler_range (bys t)
  refine ⟨x, y, n, ?_, ?_, fun k hk' => ?_⟩
  · simp only [List.mem_cons, List.not_mem_nil, or_false] at hx
    unfold I64
    omega
  · simp only [List.mem_cons, List.not_mem_nil, or_false] at hy
    unfold I64
    omega
  · unfold spec_DrawAdlerJoin.f
    rw [ho, Option.bind_some, hk k (by omega), Option.bind_some, spec_Adler_f s (by omega) (by omega), Option.bind_some, ha k (by omega), Option.bind_some, hk2 k (by omega), Option.bind_some, spec_Adler_f t (by omega) (by omega), Option.bind_some, hc k (by omega), Option.bind_some, hn k (by omega), Option.bind_some]
theorem DrawCrcMore_f {l : List Int} (h : ∀ x ∈ l, (Lit.int .u8 x).wf = true) : ∃ a s, I64 a ∧ s.size ≤ 300 ∧ ∀ k, 400 ≤ k → spec_DrawCrcMore.f k l = some (a, s) := by
  obtain ⟨b, hb, ho⟩ := open_f h
  obtain ⟨s, q, hs, h1, h2, hk⟩ := text_f hb (p := 0) (by omega) (by omega)
  obtain ⟨x, hx, ha⟩ := one_f hb (p := q) (by omega) (by omega) ([0, 1, 4294967295, 4294967296, (-1), ((crc (bys s)).toNat : Int)] : List Int) (by simp)
  obtain ⟨t, q2, ht, h3, h4, hk2⟩ := text_f hb (p := q + 1) (by omega) (by omega)
  have r1 := crc_range (bys s)
  refine ⟨x, t, ?_, ht, fun k hk' => ?_⟩
  · simp only [List.mem_cons, List.not_mem_nil, or_false] at hx
    unfold I64
    omega
  · unfold spec_DrawCrcMore.f
    rw [ho, Option.bind_some, hk k (by omega), Option.bind_some, spec_Crc_f s (by omega) (by omega), Option.bind_some, ha k (by omega), Option.bind_some, hk2 k (by omega), Option.bind_some]
theorem DrawCrcJoin_f {l : List Int} (h : ∀ x ∈ l, (Lit.int .u8 x).wf = true) : ∃ a b n, I64 a ∧ I64 b ∧ ∀ k, 400 ≤ k → spec_DrawCrcJoin.f k l = some (a, b, n) := by
  obtain ⟨b, hb, ho⟩ := open_f h
  obtain ⟨s, q, hs, h1, h2, hk⟩ := text_f hb (p := 0) (by omega) (by omega)
  obtain ⟨x, hx, ha⟩ := one_f hb (p := q) (by omega) (by omega) ([0, 4294967295, 4294967296, (-1), ((crc (bys s)).toNat : Int)] : List Int) (by simp)
  obtain ⟨t, q2, ht, h3, h4, hk2⟩ := text_f hb (p := q + 1) (by omega) (by omega)
  obtain ⟨y, hy, hc⟩ := one_f hb (p := q2) (by omega) (by omega) ([0, 7, (-1), ((crc (bys t)).toNat : Int)] : List Int) (by simp)
  obtain ⟨n, _, hn⟩ := one_f hb (p := q2 + 1) (by omega) (by omega) ([0, 1, 5, 100, (-1), 100001] : List Int) (by simp)
  have r1 := crc_range (bys s)
  have r2 := crc_range (bys t)
  refine ⟨x, y, n, ?_, ?_, fun k hk' => ?_⟩
  · simp only [List.mem_cons, List.not_mem_nil, or_false] at hx
    unfold I64
    omega
  · simp only [List.mem_cons, List.not_mem_nil, or_false] at hy
    unfold I64
    omega
  · unfold spec_DrawCrcJoin.f
    rw [ho, Option.bind_some, hk k (by omega), Option.bind_some, spec_Crc_f s (by omega) (by omega), Option.bind_some, ha k (by omega), Option.bind_some, hk2 k (by omega), Option.bind_some, spec_Crc_f t (by omega) (by omega), Option.bind_some, hc k (by omega), Option.bind_some, hn k (by omega), Option.bind_some]

theorem LawAdlerJoin : laws_FnAdlerJoin.Pure := by
  intro l _ _ hl
  obtain ⟨a, b, n, ha, hb, hd⟩ := DrawAdlerJoin_f hl
  refine ⟨1001, ?_⟩
  unfold laws_FnAdlerJoin.f
  split
  · rfl
  rw [hd _ (by omega), Option.bind_some, impl_AdlerJoin_f a b n ha hb, Option.bind_some, spec_AdlerJoin_f, Option.bind_some, if_pos rfl, laws_FnAdlerJoin.j0]
  split
  · rw [spec_AdlerJoin_f, Option.bind_some]
    simp
  · rename_i hneg
    have hnn : ¬ joI a b n < 0 := by simpa using hneg
    cases hok : (okAd a && okAd b && okLong n) with
    | false =>
      have : joI a b n = -1 := by unfold joI; rw [hok]; rfl
      omega
    | true =>
      simp only [Bool.and_eq_true] at hok
      obtain ⟨x, rfl, x1, x2, x3⟩ := okAd_yes hok.1.1
      obtain ⟨y, rfl, y1, y2, y3⟩ := okAd_yes hok.1.2
      obtain ⟨m, rfl, hm⟩ := okLong_yes hok.2
      have hj : ∃ j : Nat, joI (x : Int) (y : Int) (m : Int) = (j : Int) ∧ j % 65536 < 65521 ∧ j / 65536 < 65521 := by
        unfold joI
        rw [hok.1.1, hok.1.2, hok.2]
        simp only [Bool.and_self, if_true, Int.toNat_natCast]
        refine ⟨_, rfl, ?_⟩
        unfold jo
        omega
      obtain ⟨j, hj, j1, j2⟩ := hj
      rw [hj, tmod_pos (by omega), if_pos (by omega), tdiv_pos (by omega), w64 (by omega) (by omega), if_pos (by omega), impl_AdlerJoin_f (x : Int) 1 0 ha (by omega), Option.bind_some]
      have h1 : okAd 1 = true := by decide
      have h0 : okLong 0 = true := by decide
      have : joI (x : Int) 1 0 = (x : Int) := by
        unfold joI
        rw [hok.1.1, h1, h0]
        simp only [Bool.and_self, if_true, Int.toNat_natCast]
        unfold jo
        simp only [show (1 : Int).toNat = 1 from rfl, show (0 : Int).toNat = 0 from rfl, Nat.zero_mul]
        omega
      rw [this]
      simp
theorem LawCrcWord : laws_FnCrcWord.Pure := by
  intro l _ _ hl
  obtain ⟨a, s, ha, hs, hd⟩ := DrawCrcMore_f hl
  refine ⟨5000, ?_⟩
  unfold laws_FnCrcWord.f
  split
  · rfl
  have h1 : moreI (-1) (bys s) = -1 := moreI_no (by decide) _
  have h2 : moreI 4294967296 (bys s) = -1 := moreI_no (by decide) _
  have h3 : moreI 0 (bys s) = ((crc (bys s)).toNat : Int) := moreI_word 0#32 _
  rw [hd _ (by omega), Option.bind_some, impl_CrcMore_f a s (by omega) (by omega), Option.bind_some, spec_CrcMore_f a s (by omega) (by omega), Option.bind_some, if_pos rfl,
    impl_CrcMore_f (-1) s (by omega) (by omega), Option.bind_some, h1, if_pos rfl, impl_CrcMore_f 4294967296 s (by omega) (by omega), Option.bind_some, h2, if_pos rfl,
    impl_CrcMore_f 0 s (by omega) (by omega), Option.bind_some, h3, impl_Crc_f s (by omega) (by omega), Option.bind_some, if_pos rfl]
  cases hw : isWord a with
  | false =>
    rw [moreI_no hw]
    rcases isWord_no hw with h | h
    · rw [if_pos h]; rfl
    · rw [if_neg (by omega)]; simp [h]
  | true =>
    obtain ⟨c, rfl⟩ := isWord_yes hw
    rw [moreI_word]
    have hc := c.isLt
    have hm := (more c (bys s)).isLt
    rw [if_neg (by omega)]
    have e1 : decide (((more c (bys s)).toNat : Int) < 0) = false := decide_eq_false (by omega)
    have e2 : decide ((c.toNat : Int) > 4294967295) = false := decide_eq_false (by omega)
    rw [e1, e2]
    rfl
theorem LawCrcMore : laws_FnCrcMore.Pure := by
  intro l m _ _ hl _ _ hm
  obtain ⟨a, s, ha, hs, hd⟩ := DrawCrcMore_f hl
  obtain ⟨t, ht, he⟩ := DrawCrc_f hm
  refine ⟨7002, ?_⟩
  have hst : (s ++ t).size = s.size + t.size := ByteArray.size_append
  have hts : (t ++ s).size = t.size + s.size := ByteArray.size_append
  have hz : (⟨#[]⟩ : ByteArray).size = 0 := rfl
  have hbz : bys (⟨#[]⟩ : ByteArray) = [] := rfl
  have hj1 : ∀ b, (moreI a (bys s) < 0 → b = true) → laws_FnCrcMore.j1 7001 a s t (moreI a (bys s)) b = some true := by
    intro b hb
    rw [laws_FnCrcMore.j1]
    split
    · rw [spec_CrcMore_f a s (by omega) (by omega), Option.bind_some]
      simp
    · rename_i hbf
      have hge : ¬ moreI a (bys s) < 0 := fun h => hbf (hb h)
      cases hw : isWord a with
      | false => rw [moreI_no hw] at hge; omega
      | true =>
        obtain ⟨c, rfl⟩ := isWord_yes hw
        rw [impl_Crc_f t (by omega) (by omega), Option.bind_some, impl_CrcMore_f _ s (by omega) (by omega), Option.bind_some, if_pos (by omega), impl_Crc_f (t ++ s) (by omega) (by omega), Option.bind_some,
          moreI_word, bys_append, crc_append, if_pos rfl, impl_CrcMore_f _ _ (by omega) (by omega), Option.bind_some, hbz, moreI_word, more_nil, if_pos rfl, moreI_word,
          impl_CrcMore_f _ t (by omega) (by omega), Option.bind_some, if_pos (by omega), impl_CrcMore_f _ (s ++ t) (by omega) (by omega), Option.bind_some, moreI_word, moreI_word, bys_append, more_append]
        simp
  have hj : ∀ b, laws_FnCrcMore.j0 7002 l m b = some true := by
    intro b
    rw [laws_FnCrcMore.j0]
    split
    · rfl
    rw [hd _ (by omega), Option.bind_some, he _ (by omega), Option.bind_some, impl_CrcMore_f a s (by omega) (by omega), Option.bind_some, spec_CrcMore_f a s (by omega) (by omega), Option.bind_some, if_pos rfl]
    exact hj1 _ (fun h => by simpa using h)
  unfold laws_FnCrcMore.f
  split <;> exact hj _
theorem LawCrcJoin : laws_FnCrcJoin.Pure := by
  intro l m _ _ hl _ _ hm
  obtain ⟨a, b, n, ha, hb, hd⟩ := DrawCrcJoin_f hl
  obtain ⟨s, hs, hd2⟩ := DrawCrc_f hl
  obtain ⟨t, ht, he⟩ := DrawCrc_f hm
  refine ⟨1000001, ?_⟩
  have hst : (s ++ t).size = s.size + t.size := ByteArray.size_append
  have J : ∀ (x y : List Nat) (n : Int), n = (y.length : Int) → y.length ≤ 100000 → impl_CrcJoin.f 1000000 ((crc x).toNat : Int) ((crc y).toNat : Int) n = some ((crc (x ++ y)).toNat : Int) := by
    intro x y n hn hy
    rw [impl_CrcJoin_f _ _ _ (by omega), hn, joinI_ok _ _ _ hy, join_crc]
  have J0 : ∀ x : BitVec 32, impl_CrcJoin.f 1000000 (x.toNat : Int) 0 0 = some (x.toNat : Int) := by
    intro x
    rw [impl_CrcJoin_f _ _ _ (by omega)]
    have := joinI_ok x 0#32 0 (by omega)
    rw [join_zero] at this
    exact congrArg some this
  have hj : ∀ b, laws_FnCrcJoin.j0 1000001 l m b = some true := by
    intro b
    rw [laws_FnCrcJoin.j0]
    split
    · rfl
    rw [hd _ (by omega), Option.bind_some, impl_CrcJoin_f _ _ _ (by omega), Option.bind_some, hd2 _ (by omega), Option.bind_some, he _ (by omega), Option.bind_some, spec_CrcJoin_f _ _ _ (by omega), Option.bind_some, if_pos rfl,
      impl_Crc_f s (by omega) (by omega), Option.bind_some, impl_Crc_f t (by omega) (by omega), Option.bind_some, J _ _ _ (by rw [bys_length]) (by rw [bys_length]; omega), Option.bind_some, if_pos (by omega),
      impl_Crc_f (s ++ t) (by omega) (by omega), Option.bind_some, bys_append, if_pos rfl, Option.bind_some, J0, Option.bind_some, Option.bind_some]
    simp
  unfold laws_FnCrcJoin.f
  split <;> exact hj _
end Go.Proofs.Ythngbhjlikbbmaa.My
