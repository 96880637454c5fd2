/- The printed functions of the sums, each told by the plain steps. -/
import Derived.Test.YthngbhjlikbbmaaPAllx1
import Derived.Test.YthngbhjlikbbmaaPAllx2
import Derived.Test.YthngbhjlikbbmaaPAllx3
import Derived.Test.YthngbhjlikbbmaaBase
import Derived.Test.YthngbhjlikbbmaaCrc
namespace Go.Proofs.Ythngbhjlikbbmaa.My
open Go Go.RowKit Go.Proofs.YthngbhjlikbbmaaW.PrintWords Go.Proofs.YthngbhjlikbbmaaW.PrintLast Go.Proofs.YthngbhjlikbbmaaW.PrintMore Go.Proofs.Ythngbhjlikbbmaa.PAll
open Go.Proofs.Ythngbhjlikbbmaa.Crc

theorem P_nat : (P.toNat : Int) = 3988292384 := by decide
theorem F_nat : (F.toNat : Int) = 4294967295 := by decide

theorem mod32 (c : BitVec 32) : (c.toNat : Int) % 4294967296 = (c.toNat : Int) := by have := c.isLt; omega
/-! ### The reference's step of a byte -/
theorem l2Step_l (n : Nat) : ∀ (k : Nat) (c : BitVec 32) (i : Int), i = 8 - n → 0 ≤ i → n < k → spec_l2Step.l0 k (c.toNat : Int) i = some ((stps n c).toNat : Int) := by
  induction n with
  | zero =>
    intro k c i hi _ hk
    obtain ⟨k, rfl⟩ : ∃ m, k = m + 1 := ⟨k - 1, by omega⟩
    simp only [spec_l2Step.l0]
    rw [if_neg (by omega)]
    rfl
  | succ n ih =>
    intro k c i hi hi0 hk
    obtain ⟨k, rfl⟩ : ∃ m, k = m + 1 := ⟨k - 1, by omega⟩
    simp only [spec_l2Step.l0]
    have hlt := c.isLt
    rw [if_pos (by omega), tmod_pos (by omega), tdiv_pos (by omega), w64 (x := i + 1) (by omega) (by omega), ← toNat_shr1]
    rw [mod32]
    have ho := toNat_odd c
    by_cases h : (c.toNat : Int) % 2 = 1
    · rw [if_pos h, ← P_nat, bits_xor32, ih k _ _ (by omega) (by omega) (by omega)]
      simp only [stps, stp, ho, h, decide_true, if_true]
    · rw [if_neg h, ih k _ _ (by omega) (by omega) (by omega)]
      simp only [stps, stp, ho, h, decide_false, Bool.false_eq_true, if_false, BitVec.xor_zero]
theorem byt_int {b : Int} (h0 : 0 ≤ b) (h1 : b ≤ 255) : b % 4294967296 = ((byt b.toNat).toNat : Int) := by
  unfold byt
  rw [BitVec.toNat_ofNat]
  omega
theorem l2Step_f {k : Nat} (c : BitVec 32) {b : Int} (h0 : 0 ≤ b) (h1 : b ≤ 255) (hk : 9 ≤ k) : spec_l2Step.f k (c.toNat : Int) b = some ((st8 (c ^^^ byt b.toNat)).toNat : Int) := by
  unfold spec_l2Step.f
  rw [byt_int h0 h1, bits_xor32]
  exact l2Step_l 8 k _ 0 (by omega) (by omega) (by omega)

/-! ### Both sums of a text -/
theorem l2More_l (d : Nat) : ∀ (k : Nat) (s : ByteArray) (c : BitVec 32) (i : Nat), i ≤ s.size → s.size - i = d → s.size ≤ 9223372036854775806 → d + 10 ≤ k →
    spec_l2More.l0 k s (c.toNat : Int) (i : Int) = some ((run c ((bys s).drop i) ^^^ F).toNat : Int) := by
  induction d with
  | zero =>
    intro k s c i hi hd hs hk
    obtain ⟨k, rfl⟩ : ∃ m, k = m + 1 := ⟨k - 1, by omega⟩
    simp only [spec_l2More.l0]
    rw [if_neg (by omega), List.drop_of_length_le (by rw [bys_length]; omega), ← F_nat, bits_xor32]
    rfl
  | succ d ih =>
    intro k s c i hi hd hs hk
    obtain ⟨k, rfl⟩ : ∃ m, k = m + 1 := ⟨k - 1, by omega⟩
    simp only [spec_l2More.l0]
    have hb := bt_range s (i : Int)
    rw [if_pos (by omega), if_pos (by omega), l2Step_f c hb.1 hb.2 (by omega), bys_drop s i (by omega)]
    simp only [Option.bind_some]
    rw [w64 (by omega) (by omega)]
    have := ih k s (st8 (c ^^^ byt (bt s (i : Int)).toNat)) (i + 1) (by omega) (by omega) hs (by omega)
    rw [show ((i : Int) + 1) = ((i + 1 : Nat) : Int) by omega, this]
    rfl
theorem l2More_f {k : Nat} (c : BitVec 32) (s : ByteArray) (hs : s.size ≤ 9223372036854775806) (hk : s.size + 10 ≤ k) : spec_l2More.f k (c.toNat : Int) s = some ((more c (bys s)).toNat : Int) := by
  unfold spec_l2More.f
  rw [← F_nat, bits_xor32]
  exact l2More_l s.size k s (c ^^^ F) 0 (by omega) (by omega) hs hk
theorem crcUpdate_l1 (n : Nat) : ∀ (k : Nat) (c : BitVec 32) (s : ByteArray) (i j : Int), j = 8 - n → 0 ≤ j → -9223372036854775808 ≤ i → i ≤ 9223372036854775806 →
    impl_crcUpdate.l1 (k + n + 1) (c.toNat : Int) s i j = impl_crcUpdate.l0 k ((stps n c).toNat : Int) s (i + 1) := by
  induction n with
  | zero =>
    intro k c s i j hj _ h1 h2
    simp only [impl_crcUpdate.l1]
    rw [if_neg (by omega), w64 (by omega) (by omega)]
    rfl
  | succ n ih =>
    intro k c s i j hj hj0 h1 h2
    obtain ⟨m, hm⟩ : ∃ m, m = k + n + 1 := ⟨_, rfl⟩
    rw [show k + (n + 1) + 1 = m + 1 by omega]
    simp only [impl_crcUpdate.l1]
    have hlt := c.isLt
    rw [if_pos (by omega), w64 (x := j + 1) (by omega) (by omega), ← toNat_shr1]
    have h1' : Go.bits .and .u32 (c.toNat : Int) 1 = (c.toNat : Int) % 2 := by
      rw [show (1 : Int) = ((1#32).toNat : Int) by decide, bits_and32, and_one]
    rw [h1']
    have e : (3988292384 * ((c.toNat : Int) % 2)) % 4294967296 = ((if c.getLsbD 0 then P else 0#32).toNat : Int) := by
      rw [toNat_odd]
      by_cases h : (c.toNat : Int) % 2 = 1
      · simp only [h, decide_true, if_true]; rw [P_nat]; decide
      · have h0 : (c.toNat : Int) % 2 = 0 := by omega
        simp only [h0]; decide
    rw [e, bits_xor32, hm, ih k _ s i (j + 1) (by omega) (by omega) h1 h2]
    rfl
theorem crcUpdate_l (d : Nat) : ∀ (k : Nat) (s : ByteArray) (c : BitVec 32) (i : Nat), i ≤ s.size → s.size - i = d → s.size ≤ 9223372036854775806 → 10 * d + 1 ≤ k →
    impl_crcUpdate.l0 k (c.toNat : Int) s (i : Int) = some ((run c ((bys s).drop i) ^^^ F).toNat : Int) := by
  induction d with
  | zero =>
    intro k s c i hi hd hs hk
    obtain ⟨k, rfl⟩ : ∃ m, k = m + 1 := ⟨k - 1, by omega⟩
    simp only [impl_crcUpdate.l0]
    rw [if_neg (by omega), List.drop_of_length_le (by rw [bys_length]; omega), ← F_nat, bits_xor32, BitVec.xor_comm]
    rfl
  | succ d ih =>
    intro k s c i hi hd hs hk
    obtain ⟨k, rfl⟩ : ∃ m, k = m + 8 + 1 + 1 := ⟨k - 10, by omega⟩
    simp only [impl_crcUpdate.l0]
    have hb := bt_range s (i : Int)
    rw [if_pos (by omega), if_pos (by omega), byt_int hb.1 hb.2, bits_xor32, crcUpdate_l1 8 k _ s _ 0 (by omega) (by omega) (by omega) (by omega), bys_drop s i (by omega)]
    have := ih k s (st8 (c ^^^ byt (bt s (i : Int)).toNat)) (i + 1) (by omega) (by omega) hs (by omega)
    rw [show ((i : Int) + 1) = ((i + 1 : Nat) : Int) by omega]
    exact this
theorem crcUpdate_f {k : Nat} (c : BitVec 32) (s : ByteArray) (hs : s.size ≤ 9223372036854775806) (hk : 10 * s.size + 10 ≤ k) : impl_crcUpdate.f k (c.toNat : Int) s = some ((more c (bys s)).toNat : Int) := by
  unfold impl_crcUpdate.f
  rw [← F_nat, bits_xor32, BitVec.xor_comm]
  exact crcUpdate_l s.size k s (c ^^^ F) 0 (by omega) (by omega) hs (by omega)
theorem w64_32 (c : BitVec 32) : wrap64 (c.toNat : Int) = (c.toNat : Int) := by
  have := c.isLt
  exact w64 (by omega) (by omega)
theorem spec_Crc_f {k : Nat} (s : ByteArray) (hs : s.size ≤ 9223372036854775806) (hk : s.size + 10 ≤ k) : spec_Crc.f k s = some ((crc (bys s)).toNat : Int) := by
  unfold spec_Crc.f
  have := l2More_f 0#32 s hs hk
  rw [show ((0#32).toNat : Int) = 0 by decide] at this
  rw [this]
  simp only [Option.bind_some, w64_32]
  rfl
theorem impl_Crc_f {k : Nat} (s : ByteArray) (hs : s.size ≤ 9223372036854775806) (hk : 10 * s.size + 10 ≤ k) : impl_Crc.f k s = some ((crc (bys s)).toNat : Int) := by
  unfold impl_Crc.f
  have := crcUpdate_f 0#32 s hs hk
  rw [show ((0#32).toNat : Int) = 0 by decide] at this
  rw [this]
  simp only [Option.bind_some, w64_32]
  rfl

/-! ### Numbers of 32 bits, and what goes on with one -/
def isWord (a : Int) : Bool := decide (0 ≤ a) && decide (a ≤ 4294967295)
theorem l1In_f (a l h : Int) : spec_l1In.f a l h = some (decide (l ≤ a) && decide (a ≤ h)) := by
  unfold spec_l1In.f
  by_cases x : a ≥ l
  · rw [if_pos x]; simp [x]
  · rw [if_neg x]; have : ¬ l ≤ a := x; simp [this]
theorem within_f (a l h : Int) : impl_within.f a l h = some (decide (l ≤ a) && decide (a ≤ h)) := by
  unfold impl_within.f
  by_cases x : a ≥ l
  · rw [if_pos x]; simp [x]
  · rw [if_neg x]; have : ¬ l ≤ a := x; simp [this]
theorem l2Word_f (a : Int) : spec_l2Word.f a = some (isWord a) := by
  unfold spec_l2Word.f; rw [l1In_f]; rfl
theorem word_f (a : Int) : impl_word.f a = some (isWord a) := by
  unfold impl_word.f; rw [within_f]; rfl
theorem isWord_no {a : Int} (h : isWord a = false) : a < 0 ∨ 4294967295 < a := by
  simp [isWord] at h
  omega
theorem isWord_yes {a : Int} (h : isWord a = true) : ∃ c : BitVec 32, a = (c.toNat : Int) := by
  simp [isWord] at h
  exact int_toNat32 h.1 h.2
theorem isWord_mk (c : BitVec 32) : isWord (c.toNat : Int) = true := by
  have := c.isLt
  simp [isWord]
  omega
/-- Goes on with a text, or -1. -/
def moreI (a : Int) (t : List Nat) : Int := if isWord a then ((more (BitVec.ofNat 32 a.toNat) t).toNat : Int) else -1
theorem moreI_word (c : BitVec 32) (t : List Nat) : moreI (c.toNat : Int) t = ((more c t).toNat : Int) := by
  unfold moreI
  rw [isWord_mk, if_pos rfl, Int.toNat_natCast, BitVec.ofNat_toNat, BitVec.setWidth_eq]
theorem moreI_no {a : Int} (h : isWord a = false) (t : List Nat) : moreI a t = -1 := by
  unfold moreI; rw [h]; rfl
theorem spec_CrcMore_f {k : Nat} (a : Int) (s : ByteArray) (hs : s.size ≤ 9223372036854775806) (hk : s.size + 10 ≤ k) : spec_CrcMore.f k a s = some (moreI a (bys s)) := by
  unfold spec_CrcMore.f
  rw [l2Word_f]
  simp only [Option.bind_some]
  cases h : isWord a with
  | false => simp [moreI_no h]
  | true =>
    obtain ⟨c, rfl⟩ := isWord_yes h
    simp only [if_true, mod32, l2More_f c s hs hk, Option.bind_some, w64_32, moreI_word]
theorem impl_CrcMore_f {k : Nat} (a : Int) (s : ByteArray) (hs : s.size ≤ 9223372036854775806) (hk : 10 * s.size + 10 ≤ k) : impl_CrcMore.f k a s = some (moreI a (bys s)) := by
  unfold impl_CrcMore.f
  rw [word_f]
  simp only [Option.bind_some]
  cases h : isWord a with
  | false => simp [moreI_no h]
  | true =>
    obtain ⟨c, rfl⟩ := isWord_yes h
    simp only [if_true, mod32, crcUpdate_f c s hs hk, Option.bind_some, w64_32, moreI_word]

/-! ### Two sums in one -/
theorem spec_CrcJoin_l (n : Nat) : ∀ (k : Nat) (b a : BitVec 32) (long i : Int), i = long - n → 0 ≤ i → long ≤ 100000 → n + 10 ≤ k →
    spec_CrcJoin.l0 k (b.toNat : Int) long (a.toNat : Int) i = some ((join a b n).toNat : Int) := by
  induction n with
  | zero =>
    intro k b a long i hi h0 h1 hk
    obtain ⟨k, rfl⟩ : ∃ m, k = m + 1 := ⟨k - 1, by omega⟩
    simp only [spec_CrcJoin.l0]
    rw [if_neg (by omega), mod32, bits_xor32, w64_32]
    rfl
  | succ n ih =>
    intro k b a long i hi h0 h1 hk
    obtain ⟨k, rfl⟩ : ∃ m, k = m + 1 := ⟨k - 1, by omega⟩
    simp only [spec_CrcJoin.l0]
    rw [if_pos (by omega), l2Step_f a (by omega) (by omega) (by omega)]
    simp only [Option.bind_some]
    rw [w64 (by omega) (by omega), ih k b _ long (i + 1) (by omega) (by omega) h1 (by omega)]
    have : a ^^^ byt (Int.toNat 0) = a := by unfold byt; simp
    rw [this]
    rfl
theorem impl_CrcJoin_l (n : Nat) : ∀ (k : Nat) (b a : BitVec 32) (m i : Int), i = m - n → 0 ≤ i → m ≤ 800000 → n + 10 ≤ k →
    impl_CrcJoin.l0 k (b.toNat : Int) (a.toNat : Int) m i = some ((stps n a ^^^ b).toNat : Int) := by
  induction n with
  | zero =>
    intro k b a long i hi h0 h1 hk
    obtain ⟨k, rfl⟩ : ∃ m, k = m + 1 := ⟨k - 1, by omega⟩
    simp only [impl_CrcJoin.l0]
    rw [if_neg (by omega), mod32, bits_xor32, w64_32]
    rfl
  | succ n ih =>
    intro k b a long i hi h0 h1 hk
    obtain ⟨k, rfl⟩ : ∃ m, k = m + 1 := ⟨k - 1, by omega⟩
    simp only [impl_CrcJoin.l0]
    have h1' : Go.bits .and .u32 (a.toNat : Int) 1 = (a.toNat : Int) % 2 := by
      rw [show (1 : Int) = ((1#32).toNat : Int) by decide, bits_and32, and_one]
    rw [if_pos (by omega), w64 (by omega) (by omega), h1', ← toNat_shr1]
    have ho := toNat_odd a
    by_cases h : (a.toNat : Int) % 2 = 1
    · rw [if_pos h, ← P_nat, bits_xor32, ih k b _ long _ (by omega) (by omega) h1 (by omega)]
      simp only [stps, stp, ho, h, decide_true, if_true]
    · rw [if_neg h, ih k b _ long _ (by omega) (by omega) h1 (by omega)]
      simp only [stps, stp, ho, h, decide_false, Bool.false_eq_true, if_false, BitVec.xor_zero]
def okLong (n : Int) : Bool := decide (0 ≤ n) && decide (n ≤ 100000)
def joinI (a b n : Int) : Int := if isWord a && isWord b && okLong n then ((join (BitVec.ofNat 32 a.toNat) (BitVec.ofNat 32 b.toNat) n.toNat).toNat : Int) else -1
theorem joinI_ok (a b : BitVec 32) (n : Nat) (h : n ≤ 100000) : joinI (a.toNat : Int) (b.toNat : Int) (n : Int) = ((join a b n).toNat : Int) := by
  unfold joinI
  have : okLong (n : Int) = true := by simp [okLong]; omega
  rw [isWord_mk, isWord_mk, this]
  simp
theorem spec_CrcJoin_f {k : Nat} (a b n : Int) (hk : 100020 ≤ k) : spec_CrcJoin.f k a b n = some (joinI a b n) := by
  obtain ⟨k, rfl⟩ : ∃ m, k = m + 1 := ⟨k - 1, by omega⟩
  unfold spec_CrcJoin.f
  rw [l2Word_f, l2Word_f, l1In_f]
  simp only [Option.bind_some]
  show _ = some (if isWord a && isWord b && okLong n then _ else _)
  change (if isWord a = true then if isWord b = true then spec_CrcJoin.j0 (k + 1) a b n (!okLong n) else _ else _) = _
  cases ha : isWord a with
  | false => simp [spec_CrcJoin.j0]
  | true =>
    cases hb : isWord b with
    | false => simp [spec_CrcJoin.j0]
    | true =>
      cases hn : okLong n with
      | false => simp [spec_CrcJoin.j0]
      | true =>
        obtain ⟨c, rfl⟩ := isWord_yes ha
        obtain ⟨d, rfl⟩ := isWord_yes hb
        simp [okLong] at hn
        simp only [spec_CrcJoin.j0, Bool.not_true, Bool.false_eq_true, if_false, if_true, mod32, Bool.and_self]
        rw [spec_CrcJoin_l n.toNat k d c n 0 (by omega) (by omega) (by omega) (by omega)]
        simp
theorem impl_CrcJoin_f {k : Nat} (a b n : Int) (hk : 800020 ≤ k) : impl_CrcJoin.f k a b n = some (joinI a b n) := by
  obtain ⟨k, rfl⟩ : ∃ m, k = m + 1 := ⟨k - 1, by omega⟩
  unfold impl_CrcJoin.f
  rw [word_f, word_f, within_f]
  simp only [Option.bind_some]
  show _ = some (if isWord a && isWord b && okLong n then _ else _)
  change (if isWord a = true then if isWord b = true then impl_CrcJoin.j0 (k + 1) a b n (!okLong n) else _ else _) = _
  cases ha : isWord a with
  | false => simp [impl_CrcJoin.j0]
  | true =>
    cases hb : isWord b with
    | false => simp [impl_CrcJoin.j0]
    | true =>
      cases hn : okLong n with
      | false => simp [impl_CrcJoin.j0]
      | true =>
        obtain ⟨c, rfl⟩ := isWord_yes ha
        obtain ⟨d, rfl⟩ := isWord_yes hb
        simp [okLong] at hn
        simp only [impl_CrcJoin.j0, Bool.not_true, Bool.false_eq_true, if_false, if_true, mod32, Bool.and_self]
        rw [w64 (by omega) (by omega), impl_CrcJoin_l (8 * n.toNat) k d c (8 * n) 0 (by omega) (by omega) (by omega) (by omega), ← zer_stps]
        simp [join]
end Go.Proofs.Ythngbhjlikbbmaa.My
