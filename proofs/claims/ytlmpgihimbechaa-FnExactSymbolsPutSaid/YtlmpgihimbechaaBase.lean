/- Small lemmas on the words of the printed functions: whole numbers that fit, bits, bytes of a text. -/
import Derived.Test.YtlmpgihimbechaaPAllx0
namespace Go.Proofs.Ytlmpgihimbechaa.My
open Go Go.RowKit Go.Proofs.YtlmpgihimbechaaW.PrintWords Go.Proofs.YtlmpgihimbechaaW.PrintLast Go.Proofs.YtlmpgihimbechaaW.PrintMore

theorem w64 {x : Int} (h0 : -9223372036854775808 ≤ x) (h1 : x ≤ 9223372036854775807) : wrap64 x = x := by
  unfold wrap64
  omega
theorem tmod_pos {x m : Int} (h : 0 ≤ x) : Int.tmod x m = x % m := Int.tmod_eq_emod_of_nonneg h
theorem tdiv_pos {x m : Int} (h : 0 ≤ x) : Int.tdiv x m = x / m := Int.tdiv_eq_ediv_of_nonneg h
theorem wf_i64 {x : Int} (h : (Lit.int .i64 x).wf = true) : -9223372036854775808 ≤ x ∧ x ≤ 9223372036854775807 := by
  simpa [Lit.wf, IntKind.min, IntKind.max, IntKind.signed, IntKind.bits] using h
theorem wf_u8 {x : Int} (h : (Lit.int .u8 x).wf = true) : 0 ≤ x ∧ x ≤ 255 := by
  simpa [Lit.wf, IntKind.min, IntKind.max, IntKind.signed, IntKind.bits] using h

/-! ### Bits of 32 -/
theorem ofInt_toNat32 (c : BitVec 32) : BitVec.ofInt 32 (c.toNat : Int) = c := by
  rw [BitVec.ofInt_natCast, BitVec.ofNat_toNat, BitVec.setWidth_eq]
theorem wrap_u32_toNat (c : BitVec 32) : IntKind.u32.wrap (c.toNat : Int) = c.toNat := by
  rw [IntKind.wrap_u32]
  have := c.isLt
  omega
theorem bits_xor32 (c d : BitVec 32) : Go.bits .xor .u32 (c.toNat : Int) (d.toNat : Int) = ((c ^^^ d).toNat : Int) := by
  change IntKind.u32.wrap ((BitVec.ofInt 32 (c.toNat : Int) ^^^ BitVec.ofInt 32 (d.toNat : Int)).toNat : Int) = _
  rw [ofInt_toNat32, ofInt_toNat32]
  exact wrap_u32_toNat _
theorem bits_and32 (c d : BitVec 32) : Go.bits .and .u32 (c.toNat : Int) (d.toNat : Int) = ((c &&& d).toNat : Int) := by
  change IntKind.u32.wrap ((BitVec.ofInt 32 (c.toNat : Int) &&& BitVec.ofInt 32 (d.toNat : Int)).toNat : Int) = _
  rw [ofInt_toNat32, ofInt_toNat32]
  exact wrap_u32_toNat _
theorem toNat_shr1 (c : BitVec 32) : ((c >>> 1).toNat : Int) = (c.toNat : Int) / 2 := by
  rw [BitVec.toNat_ushiftRight, Nat.shiftRight_eq_div_pow]
  omega
theorem toNat_odd (c : BitVec 32) : c.getLsbD 0 = decide ((c.toNat : Int) % 2 = 1) := by
  rw [BitVec.getLsbD, Nat.testBit_zero]
  rw [Bool.eq_iff_iff]
  simp only [decide_eq_true_eq]
  omega
theorem and_one (c : BitVec 32) : ((c &&& 1#32).toNat : Int) = (c.toNat : Int) % 2 := by
  rw [BitVec.toNat_and, show (1#32).toNat = 2 ^ 1 - 1 from rfl, Nat.and_two_pow_sub_one_eq_mod]
  omega
theorem int_toNat32 {x : Int} (h0 : 0 ≤ x) (h1 : x ≤ 4294967295) : ∃ c : BitVec 32, x = (c.toNat : Int) := by
  refine ⟨BitVec.ofNat 32 x.toNat, ?_⟩
  rw [BitVec.toNat_ofNat]
  omega

/-! ### Bits of 64: numbers that are not below 0 -/
theorem bits_xor64 {x y : Int} (h0 : 0 ≤ x) (h1 : x < 9223372036854775808) (h2 : 0 ≤ y) (h3 : y < 9223372036854775808) : ∃ n : Nat, Go.bits .xor .i64 x y = (n : Int) ∧ n < 9223372036854775808 := by
  obtain ⟨a, rfl⟩ := Int.eq_ofNat_of_zero_le h0
  obtain ⟨b, rfl⟩ := Int.eq_ofNat_of_zero_le h2
  have ha : a < 2 ^ 63 := by omega
  have hb : b < 2 ^ 63 := by omega
  have hx : a ^^^ b < 2 ^ 63 := Nat.xor_lt_two_pow ha hb
  refine ⟨a ^^^ b, ?_, by omega⟩
  change IntKind.i64.wrap ((BitVec.ofInt 64 (a : Int) ^^^ BitVec.ofInt 64 (b : Int)).toNat : Int) = _
  have e1 : BitVec.ofInt 64 (a : Int) = BitVec.ofNat 64 a := BitVec.ofInt_natCast _ _
  have e2 : BitVec.ofInt 64 (b : Int) = BitVec.ofNat 64 b := BitVec.ofInt_natCast _ _
  rw [e1, e2, BitVec.toNat_xor, BitVec.toNat_ofNat, BitVec.toNat_ofNat, Nat.mod_eq_of_lt (show a < 2 ^ 64 by omega), Nat.mod_eq_of_lt (show b < 2 ^ 64 by omega), IntKind.wrap_i64]
  omega

/-! ### Bytes of a text -/
def bys (s : ByteArray) : List Nat := s.data.toList.map UInt8.toNat
theorem bys_length (s : ByteArray) : (bys s).length = s.size := by simp [bys]
theorem bys_append (s t : ByteArray) : bys (s ++ t) = bys s ++ bys t := by simp [bys, ByteArray.data_append]
theorem bys_lt (s : ByteArray) : ∀ b ∈ bys s, b < 256 := by
  intro b hb
  obtain ⟨u, _, rfl⟩ := List.mem_map.1 hb
  exact u.toNat_lt
theorem bys_inj {s t : ByteArray} (h : bys s = bys t) : s = t := by
  unfold bys at h
  have h2 : s.data.toList = t.data.toList := by
    have hi : ∀ l m : List UInt8, l.map UInt8.toNat = m.map UInt8.toNat → l = m := by
      intro l
      induction l with
      | nil => intro m hm; cases m with
        | nil => rfl
        | cons a m => cases hm
      | cons a l ih => intro m hm; cases m with
        | nil => cases hm
        | cons b m =>
          simp only [List.map_cons, List.cons.injEq] at hm
          rw [ih m hm.2, UInt8.toNat_inj.1 hm.1]
    exact hi _ _ h
  cases s; cases t
  simp only [ByteArray.mk.injEq]
  exact Array.toList_inj.1 h2
theorem bt_get (s : ByteArray) (n : Nat) (h : n < s.size) : bt s (n : Int) = ((bys s)[n]'(by rw [bys_length]; exact h) : Nat) := by
  simp only [bt, Int.toNat_natCast, h, dif_pos, bys, List.getElem_map]
  rfl
theorem bys_drop (s : ByteArray) (n : Nat) (h : n < s.size) : (bys s).drop n = (bt s (n : Int)).toNat :: (bys s).drop (n + 1) := by
  rw [bt_get s n h, Int.toNat_natCast]
  exact List.drop_eq_getElem_cons (by rw [bys_length]; exact h)
theorem bys_extract (s : ByteArray) (a b : Nat) : bys (s.extract a b) = ((bys s).take b).drop a := by
  unfold bys
  rw [ByteArray.data_extract, Array.toList_extract, List.extract_eq_take_drop, List.map_take, List.map_drop, List.drop_take]
theorem bys_strOfNums (xs : List Int) (h : ∀ x ∈ xs, 0 ≤ x ∧ x ≤ 255) : bys (strOfNums xs) = xs.map Int.toNat := by
  unfold bys strOfNums
  simp only [List.map_map]
  apply List.map_congr_left
  intro x hx
  have := h x hx
  simp only [Function.comp_apply, UInt8.toNat_ofNat']
  omega
end Go.Proofs.Ytlmpgihimbechaa.My
