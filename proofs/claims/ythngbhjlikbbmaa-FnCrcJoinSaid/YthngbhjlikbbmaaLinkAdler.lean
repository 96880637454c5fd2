/- The printed functions of Adler-32, each told by the plain steps. -/
import Derived.Test.YthngbhjlikbbmaaLinkSum
import Derived.Test.YthngbhjlikbbmaaAdler
namespace Go.Proofs.Ythngbhjlikbbmaa.My
open Go Go.RowKit Go.Proofs.YthngbhjlikbbmaaW.PrintWords Go.Proofs.YthngbhjlikbbmaaW.PrintLast Go.Proofs.YthngbhjlikbbmaaW.PrintMore Go.Proofs.Ythngbhjlikbbmaa.PAll
open Go.Proofs.Ythngbhjlikbbmaa.Crc Go.Proofs.Ythngbhjlikbbmaa.Adler

theorem bits_or16 {a b : Nat} (ha : a < 65536) (hb : b < 65536) : Go.bits .or .i64 ((b : Int) * 65536) (a : Int) = (b : Int) * 65536 + a := by
  have := bits_join .i64 63 (by decide) (fun n h0 h1 => by rw [IntKind.wrap_i64]; omega) 16 ((b : Int) * 65536) (a : Int) (by omega) (by omega) (by omega) (by omega) (by omega) (by omega)
  exact this
theorem ad_step {a b : Nat} {s : ByteArray} {i : Int} (ha : a < 65521) (hb : b < 65521) :
    Int.tmod (wrap64 ((a : Int) + wrap64 (bt s i))) 65521 = (((a + (bt s i).toNat) % 65521 : Nat) : Int) ∧
    Int.tmod (wrap64 ((b : Int) + (((a + (bt s i).toNat) % 65521 : Nat) : Int))) 65521 = (((b + (a + (bt s i).toNat) % 65521) % 65521 : Nat) : Int) := by
  have h := bt_range s i
  rw [w64 (x := bt s i) (by omega) (by omega), w64 (x := (a : Int) + bt s i) (by omega) (by omega), w64 (x := (b : Int) + (((a + (bt s i).toNat) % 65521 : Nat) : Int)) (by omega) (by omega), tmod_pos (by omega), tmod_pos (by omega)]
  omega
theorem spec_Adler_l (d : Nat) : ∀ (k : Nat) (s : ByteArray) (a b i : Nat), a < 65521 → b < 65521 → i ≤ s.size → s.size - i = d → s.size ≤ 9223372036854775806 → d < k →
    spec_Adler.l0 k s (a : Int) (b : Int) (i : Int) = some (((ad a b ((bys s).drop i)).2 * 65536 + (ad a b ((bys s).drop i)).1 : Nat) : Int) := by
  induction d with
  | zero =>
    intro k s a b i ha hb hi hd hs hk
    obtain ⟨k, rfl⟩ : ∃ m, k = m + 1 := ⟨k - 1, by omega⟩
    simp only [spec_Adler.l0]
    rw [if_neg (by omega), List.drop_of_length_le (by rw [bys_length]; omega), w64 (x := (b : Int) * 65536) (by omega) (by omega), w64 (by omega) (by omega)]
    simp [ad]
  | succ d ih =>
    intro k s a b i ha hb hi hd hs hk
    obtain ⟨k, rfl⟩ : ∃ m, k = m + 1 := ⟨k - 1, by omega⟩
    simp only [spec_Adler.l0]
    have hst := ad_step (s := s) (i := i) ha hb
    rw [if_pos (by omega), if_pos (by omega), hst.1, hst.2, w64 (by omega) (by omega), bys_drop s i (by omega), show ((i : Int) + 1) = ((i + 1 : Nat) : Int) by omega,
      ih k s _ _ (i + 1) (Nat.mod_lt _ (by decide)) (Nat.mod_lt _ (by decide)) (by omega) (by omega) hs (by omega)]
    rfl
theorem impl_Adler_l (d : Nat) : ∀ (k : Nat) (s : ByteArray) (a b i : Nat), a < 65521 → b < 65521 → i ≤ s.size → s.size - i = d → s.size ≤ 9223372036854775806 → d < k →
    impl_adlerOf.l0 k s (a : Int) (b : Int) (i : Int) = some (((ad a b ((bys s).drop i)).2 * 65536 + (ad a b ((bys s).drop i)).1 : Nat) : Int) := by
  induction d with
  | zero =>
    intro k s a b i ha hb hi hd hs hk
    obtain ⟨k, rfl⟩ : ∃ m, k = m + 1 := ⟨k - 1, by omega⟩
    simp only [impl_adlerOf.l0]
    rw [if_neg (by omega), List.drop_of_length_le (by rw [bys_length]; omega), w64 (by omega) (by omega), bits_or16 (by omega) (by omega)]
    simp [ad]
  | succ d ih =>
    intro k s a b i ha hb hi hd hs hk
    obtain ⟨k, rfl⟩ : ∃ m, k = m + 1 := ⟨k - 1, by omega⟩
    simp only [impl_adlerOf.l0]
    have hst := ad_step (s := s) (i := i) ha hb
    rw [if_pos (by omega), if_pos (by omega), hst.1, hst.2, w64 (by omega) (by omega), bys_drop s i (by omega), show ((i : Int) + 1) = ((i + 1 : Nat) : Int) by omega,
      ih k s _ _ (i + 1) (Nat.mod_lt _ (by decide)) (Nat.mod_lt _ (by decide)) (by omega) (by omega) hs (by omega)]
    rfl
theorem spec_Adler_f {k : Nat} (s : ByteArray) (hs : s.size ≤ 9223372036854775806) (hk : s.size + 1 ≤ k) : spec_Adler.f k s = some (adler (bys s) : Int) := by
  unfold spec_Adler.f
  exact spec_Adler_l s.size k s 1 0 0 (by decide) (by decide) (by omega) (by omega) hs (by omega)
theorem impl_Adler_f {k : Nat} (s : ByteArray) (hs : s.size ≤ 9223372036854775806) (hk : s.size + 1 ≤ k) : impl_Adler.f k s = some (adler (bys s) : Int) := by
  unfold impl_Adler.f impl_adlerOf.f
  have h : impl_adlerOf.l0 k s 1 0 0 = some (adler (bys s) : Int) := impl_Adler_l s.size k s 1 0 0 (by decide) (by decide) (by omega) (by omega) hs (by omega)
  rw [h]
  rfl

/-! ### Two sums in one -/
def okAd (n : Int) : Bool := isWord n && (decide (n % 65536 < 65521) && decide (n / 65536 < 65521))
theorem l2Adler_f (a : Int) : spec_l2Adler.f a = some (okAd a) := by
  unfold spec_l2Adler.f okAd
  rw [l2Word_f]
  simp only [Option.bind_some]
  cases h : isWord a with
  | false => simp
  | true =>
    simp [isWord] at h
    rw [tmod_pos (by omega), tdiv_pos (by omega), w64 (by omega) (by omega)]
    by_cases h1 : a % 65536 < 65521 <;> simp [h1]
theorem halves_f (a : Int) (ha : -9223372036854775808 ≤ a ∧ a ≤ 9223372036854775807) : impl_halves.f a = some (Int.tmod a 65536, Int.tdiv a 65536, okAd a) := by
  unfold impl_halves.f okAd
  rw [word_f]
  simp only [Option.bind_some]
  have hw : wrap64 (Int.tdiv a 65536) = Int.tdiv a 65536 := by
    have := @Int.tdiv_eq_ediv a 65536
    apply w64
    · rw [this, show Int.sign 65536 = 1 from rfl]; split <;> omega
    · rw [this, show Int.sign 65536 = 1 from rfl]; split <;> omega
  rw [hw]
  cases h : isWord a with
  | false => simp
  | true =>
    simp [isWord] at h
    rw [tmod_pos (by omega), tdiv_pos (by omega)]
    by_cases h1 : a % 65536 < 65521 <;> simp [h1]
def joI (a b n : Int) : Int := if okAd a && okAd b && okLong n then (jo (a.toNat % 65536) (a.toNat / 65536) (b.toNat % 65536) (b.toNat / 65536) n.toNat : Int) else -1
theorem okAd_yes {a : Int} (h : okAd a = true) : ∃ n : Nat, a = n ∧ n % 65536 < 65521 ∧ n / 65536 < 65521 ∧ n ≤ 4294967295 := by
  simp [okAd, isWord] at h
  exact ⟨a.toNat, by omega, by omega, by omega, by omega⟩
theorem okLong_yes {a : Int} (h : okLong a = true) : ∃ n : Nat, a = n ∧ n ≤ 100000 := by
  simp [okLong] at h
  exact ⟨a.toNat, by omega, by omega⟩
theorem jo_int (x y m : Nat) (z : Int) (h : z % 65521 = ((m * (x % 65536 + 65520) : Nat) : Int) % 65521) :
    ((x : Int) / 65536 + (y : Int) / 65536 + z) % 65521 * 65536 + ((x : Int) % 65536 + (y : Int) % 65536 - 1 + 65521) % 65521 = (jo (x % 65536) (x / 65536) (y % 65536) (y / 65536) m : Int) := by
  unfold jo
  obtain ⟨v, hv⟩ : ∃ v, v = m * (x % 65536 + 65520) := ⟨_, rfl⟩
  rw [← hv] at h ⊢
  omega
theorem spec_AdlerJoin_f (a b n : Int) : spec_AdlerJoin.f a b n = some (joI a b n) := by
  unfold spec_AdlerJoin.f joI
  rw [l2Adler_f, l2Adler_f, l1In_f]
  simp only [Option.bind_some]
  change (if okAd a = true then if okAd b = true then if okLong n = true then _ else _ else _ else _) = _
  cases ha : okAd a with
  | false => simp
  | true =>
    cases hb : okAd b with
    | false => simp
    | true =>
      cases hn : okLong n with
      | false => simp
      | true =>
        obtain ⟨x, rfl, hx1, hx2, hx3⟩ := okAd_yes ha
        obtain ⟨y, rfl, hy1, hy2, hy3⟩ := okAd_yes hb
        obtain ⟨m, rfl, hm⟩ := okLong_yes hn
        simp only [if_true, Bool.and_self, Int.toNat_natCast]
        rw [tdiv_pos (by omega), tdiv_pos (by omega), tmod_pos (x := (m : Int)) (by omega), tmod_pos (x := (x : Int)) (by omega), tmod_pos (x := (y : Int)) (by omega)]
        have hle : ((m : Int) % 65521) * ((x : Int) % 65536 + 65520) ≤ 65521 * 200000 := Int.mul_le_mul (by omega) (by omega) (by omega) (by omega)
        have hge : 0 ≤ ((m : Int) % 65521) * ((x : Int) % 65536 + 65520) := Int.mul_nonneg (by omega) (by omega)
        rw [w64 (x := (x : Int) % 65536 + 65520) (by omega) (by omega), w64 (x := ((m : Int) % 65521) * ((x : Int) % 65536 + 65520)) (by omega) (by omega)]
        have he : (((m : Int) % 65521) * ((x : Int) % 65536 + 65520)) % 65521 = ((m * (x % 65536 + 65520) : Nat) : Int) % 65521 := by
          rw [Int.natCast_mul, Int.mul_emod, Int.emod_emod, ← Int.mul_emod]
          congr 2
        generalize hz : ((m : Int) % 65521) * ((x : Int) % 65536 + 65520) = z at hle hge he ⊢
        rw [w64 (x := (x : Int) / 65536) (by omega) (by omega), w64 (x := (y : Int) / 65536) (by omega) (by omega), w64 (x := (x : Int) / 65536 + (y : Int) / 65536) (by omega) (by omega), w64 (x := (x : Int) / 65536 + (y : Int) / 65536 + z) (by omega) (by omega),
          w64 (x := (x : Int) % 65536 + (y : Int) % 65536) (by omega) (by omega), w64 (x := (x : Int) % 65536 + (y : Int) % 65536 - 1) (by omega) (by omega), w64 (x := (x : Int) % 65536 + (y : Int) % 65536 - 1 + 65521) (by omega) (by omega),
          tmod_pos (by omega), tmod_pos (by omega), w64 (x := _ * 65536) (by omega) (by omega), w64 (by omega) (by omega)]
        exact congrArg some ((jo_int x y m z he).trans (by congr 1))
theorem impl_AdlerJoin_f (a b n : Int) (ha0 : -9223372036854775808 ≤ a ∧ a ≤ 9223372036854775807) (hb0 : -9223372036854775808 ≤ b ∧ b ≤ 9223372036854775807) : impl_AdlerJoin.f a b n = some (joI a b n) := by
  unfold impl_AdlerJoin.f joI
  rw [halves_f a ha0, halves_f b hb0, within_f]
  simp only [Option.bind_some]
  change (if okAd a = true then if okAd b = true then if okLong n = true then _ else _ else _ else _) = _
  cases ha : okAd a with
  | false => simp
  | true =>
    cases hb : okAd b with
    | false => simp
    | true =>
      cases hn : okLong n with
      | false => simp
      | true =>
        obtain ⟨x, rfl, hx1, hx2, hx3⟩ := okAd_yes ha
        obtain ⟨y, rfl, hy1, hy2, hy3⟩ := okAd_yes hb
        obtain ⟨m, rfl, hm⟩ := okLong_yes hn
        simp only [if_true, Bool.and_self, Int.toNat_natCast]
        rw [tdiv_pos (x := (x : Int)) (by omega), tdiv_pos (x := (y : Int)) (by omega), tmod_pos (x := (x : Int)) (by omega), tmod_pos (x := (y : Int)) (by omega)]
        rw [w64 (x := (x : Int) % 65536 - 1) (by omega) (by omega), w64 (x := (x : Int) % 65536 - 1 + 65521) (by omega) (by omega)]
        have hle : (m : Int) * ((x : Int) % 65536 - 1 + 65521) ≤ 100000 * 200000 := Int.mul_le_mul (by omega) (by omega) (by omega) (by omega)
        have hge : 0 ≤ (m : Int) * ((x : Int) % 65536 - 1 + 65521) := Int.mul_nonneg (by omega) (by omega)
        rw [w64 (x := (m : Int) * ((x : Int) % 65536 - 1 + 65521)) (by omega) (by omega)]
        have he : (m : Int) * ((x : Int) % 65536 - 1 + 65521) = ((m * (x % 65536 + 65520) : Nat) : Int) := by
          rw [Int.natCast_mul]
          congr 1
          omega
        generalize hz : (m : Int) * ((x : Int) % 65536 - 1 + 65521) = z at hle hge he ⊢
        rw [w64 (x := (x : Int) / 65536 + (y : Int) / 65536) (by omega) (by omega), w64 (x := (x : Int) / 65536 + (y : Int) / 65536 + z) (by omega) (by omega),
          w64 (x := (x : Int) % 65536 + (y : Int) % 65536) (by omega) (by omega), w64 (x := (x : Int) % 65536 + (y : Int) % 65536 - 1) (by omega) (by omega), w64 (x := (x : Int) % 65536 + (y : Int) % 65536 - 1 + 65521) (by omega) (by omega),
          tmod_pos (by omega), tmod_pos (by omega), w64 (x := 65536 * _) (by omega) (by omega), w64 (by omega) (by omega)]
        rw [Int.mul_comm 65536, Int.add_comm]
        exact congrArg some ((jo_int x y m z (by rw [he])).trans (by congr 1))
theorem okAd_adler (t : List Nat) : okAd (adler t : Int) = true := by
  have h := adler_halves t
  have h2 := ad_lt t
  simp [okAd, isWord]
  omega
/-- The join of two sums, and a length up to 100000, is that of both. -/
theorem joI_adler (s t : List Nat) (h : t.length ≤ 100000) : joI (adler s : Int) (adler t : Int) (t.length : Int) = (adler (s ++ t) : Int) := by
  unfold joI
  have hl : okLong (t.length : Int) = true := by simp [okLong]; omega
  rw [okAd_adler, okAd_adler, hl]
  simp only [Bool.and_self, if_true, Int.toNat_natCast]
  have h1 := adler_halves s
  have h2 := adler_halves t
  rw [h1.1, h1.2.1, h2.1, h2.2.1, join_adler]
end Go.Proofs.Ythngbhjlikbbmaa.My
