/- The reference's printed reader of bits, told by plain lists of bits. -/
import Derived.Test.YtfpbdojbnomnmaaPAllx24
import Derived.Test.YtfpbdojbnomnmaaLinkGetI
namespace Go.Proofs.Ytfpbdojbnomnmaa.My
open Go Go.RowKit Go.Proofs.YtfpbdojbnomnmaaW.PrintWords Go.Proofs.YtfpbdojbnomnmaaW.PrintLast Go.Proofs.YtfpbdojbnomnmaaW.PrintMore Go.Proofs.Ytfpbdojbnomnmaa.PAll
open Go.Proofs.Ytfpbdojbnomnmaa.Bit

theorem spec_bit {k : Nat} (s : ByteArray) (hs : s.size ≤ 1099511627776) (p : Nat) (hp : p ≤ 8 * s.size) (b : Bool) (hk : 10 ≤ k) :
    spec_l1Src_bit.f k s (p : Int) b = some (((bit1 s p : Nat) : Int), s, ((nx s p : Nat) : Int), lost s p b) := by
  unfold spec_l1Src_bit.f nx lost
  rw [w64 (x := 8 * (s.size : Int)) (by omega) (by omega)]
  by_cases h : p < 8 * s.size
  · obtain ⟨c, hc, he⟩ := tb_get s h
    have hd : ((p : Int) / 8) = ((p / 8 : Nat) : Int) := by omega
    have hm : ((p : Int) % 8) = ((p % 8 : Nat) : Int) := by omega
    have hr := bt_range s ((p / 8 : Nat) : Int)
    have hpw : 1 ≤ 2 ^ (p % 8) := Nat.one_le_two_pow
    have e : ((2 ^ (p % 8) : Nat) : Int) = 2 ^ (p % 8) := by simp
    have h0 : 0 ≤ bt s ((p / 8 : Nat) : Int) / 2 ^ (p % 8) := Int.ediv_nonneg hr.1 (Int.pow_nonneg (by decide))
    have h1 : bt s ((p / 8 : Nat) : Int) / 2 ^ (p % 8) ≤ bt s ((p / 8 : Nat) : Int) := Int.ediv_le_self _ hr.1
    rw [if_neg (by omega), tdiv_pos (by omega), tmod_pos (by omega), hd, w64 (x := ((p / 8 : Nat) : Int)) (by omega) (by omega), if_pos (by omega), if_pos (by omega), hm, l1Pow_f (by omega) (by omega), Option.bind_some, if_neg (by omega),
      w64 (x := bt s ((p / 8 : Nat) : Int)) (by omega) (by omega), tdiv_pos hr.1, e, w64 (by omega) (by omega), tmod_pos h0, he, w64 (by omega) (by omega), if_pos h, if_pos h]
    have : bit1 s p = c.toNat := by unfold bit1; rw [hc]; rfl
    rw [this]
    simp
  · rw [if_pos (by omega), if_neg h, if_neg h, bit1_past s (by omega)]
    rfl
theorem spec_num_l (s : ByteArray) (hs : s.size ≤ 1099511627776) (n : Nat) : ∀ (k acc j p : Nat) (b : Bool), acc < 2 ^ j → j + n ≤ 16 → p ≤ 8 * s.size → n + 30 < k →
    spec_l1Src_num.l0 k ((j + n : Nat) : Int) (acc : Int) (j : Int) s (p : Int) b = some (((acc + 2 ^ j * rdv s n p : Nat) : Int), s, ((rdp s n p : Nat) : Int), rdb s n p b) := by
  induction n with
  | zero =>
    intro k acc j p b ha hj hp hk
    obtain ⟨k, rfl⟩ : ∃ m, k = m + 1 := ⟨k - 1, by omega⟩
    simp only [spec_l1Src_num.l0]
    rw [if_neg (by omega)]
    simp [rdv, rdp, rdb]
  | succ n ih =>
    intro k acc j p b ha hj hp hk
    obtain ⟨k, rfl⟩ : ∃ m, k = m + 1 := ⟨k - 1, by omega⟩
    simp only [spec_l1Src_num.l0]
    have hc := bit1_lt s p
    have h16 := pow16 (show j ≤ 16 by omega)
    have hcp : 2 ^ j * bit1 s p ≤ 2 ^ j * 1 := Nat.mul_le_mul_left _ (by omega)
    have hlt : acc + 2 ^ j * bit1 s p < 2 ^ (j + 1) := by rw [Nat.pow_succ]; omega
    have e : ((bit1 s p : Nat) : Int) * ((2 ^ j : Nat) : Int) = ((2 ^ j * bit1 s p : Nat) : Int) := by rw [Nat.mul_comm, Int.natCast_mul]
    rw [if_pos (by omega), spec_bit s hs p hp b (by omega), Option.bind_some, l1Pow_f (by omega) (by omega), Option.bind_some, e, w64 (x := ((2 ^ j * bit1 s p : Nat) : Int)) (by omega) (by omega), w64 (x := (acc : Int) + _) (by omega) (by omega), w64 (by omega) (by omega)]
    have := ih k (acc + 2 ^ j * bit1 s p) (j + 1) (nx s p) (lost s p b) hlt (by omega) (nx_le s hp) (by omega)
    rw [show ((j : Int) + 1) = ((j + 1 : Nat) : Int) by omega, show j + (n + 1) = j + 1 + n by omega, show ((acc : Int) + ((2 ^ j * bit1 s p : Nat) : Int)) = ((acc + 2 ^ j * bit1 s p : Nat) : Int) by omega]
    simp only [this, rdv, rdp, rdb]
    congr 2
    rw [Nat.pow_succ]
    grind
theorem spec_num {k : Nat} (s : ByteArray) (hs : s.size ≤ 1099511627776) (n p : Nat) (b : Bool) (hn : n ≤ 16) (hp : p ≤ 8 * s.size) (hk : 60 ≤ k) :
    spec_l1Src_num.f k s (p : Int) b (n : Int) = some (((rdv s n p : Nat) : Int), s, ((rdp s n p : Nat) : Int), rdb s n p b) := by
  unfold spec_l1Src_num.f
  have := spec_num_l s hs n k 0 0 p b (by decide) (by omega) hp (by omega)
  simpa using this
theorem spec_whole_l (s : ByteArray) (hs : s.size ≤ 1099511627776) (d : Nat) : ∀ (k p n : Nat) (b : Bool), 8 * ((p + 7) / 8) - p = d → p ≤ 8 * s.size → n + d ≤ 100 → d + 20 < k →
    spec_l1Src_whole.l0 k (n : Int) s (p : Int) b = some ((n == 0) && !(rest s p).any id, s, ((8 * ((p + 7) / 8) : Nat) : Int), b) := by
  induction d with
  | zero =>
    intro k p n b hd hp hn hk
    obtain ⟨k, rfl⟩ : ∃ m, k = m + 1 := ⟨k - 1, by omega⟩
    simp only [spec_l1Src_whole.l0]
    rw [tmod_pos (by omega), if_pos (by omega), rest_even s (by omega), show 8 * ((p + 7) / 8) = p by omega]
    have : ((n : Int) == 0) = (n == 0) := by rw [Bool.eq_iff_iff]; simp
    rw [this]
    simp
  | succ d ih =>
    intro k p n b hd hp hn hk
    obtain ⟨k, rfl⟩ : ∃ m, k = m + 1 := ⟨k - 1, by omega⟩
    simp only [spec_l1Src_whole.l0]
    obtain ⟨hlt, hr, he⟩ := even_step s (p := p) (by omega) hp
    have hnx : nx s p = p + 1 := by unfold nx; rw [if_pos hlt]
    have hlo : lost s p b = b := by unfold lost; rw [if_pos hlt]
    have hc := bit1_lt s p
    rw [tmod_pos (by omega), if_neg (by omega), spec_bit s hs p hp b (by omega), Option.bind_some, hnx, hlo, w64 (by omega) (by omega), show ((n : Int) + ((bit1 s p : Nat) : Int)) = ((n + bit1 s p : Nat) : Int) by omega,
      ih k (p + 1) (n + bit1 s p) b (by omega) (by omega) (by omega) (by omega), he, hr]
    by_cases h0 : bit1 s p = 0
    · simp [h0]
    · have h1 : bit1 s p = 1 := by omega
      rw [h1]
      have : (n + 1 == 0) = false := by simp
      simp [this]
theorem spec_whole {k : Nat} (s : ByteArray) (hs : s.size ≤ 1099511627776) (p : Nat) (b : Bool) (hp : p ≤ 8 * s.size) (hk : 40 ≤ k) :
    spec_l1Src_whole.f k s (p : Int) b = some (!(rest s p).any id, s, ((8 * ((p + 7) / 8) : Nat) : Int), b) := by
  unfold spec_l1Src_whole.f
  have := spec_whole_l s hs _ k p 0 b rfl hp (by omega) (by omega)
  simpa using this

theorem spec_BitsGet_l (s : ByteArray) (hs : s.size ≤ 1099511627776) (d : Nat) : ∀ (k : Nat) (l out : List Int) (i p : Nat) (b : Bool), i ≤ l.length → l.length - i = d → l.length ≤ 4000 → out.length ≤ i → p ≤ 8 * s.size → d + 80 < k →
    spec_BitsGet.l0 k s l out (i : Int) s (p : Int) b = some (getL s (l.drop i) out p b) := by
  induction d with
  | zero =>
    intro k l out i p b hi hd hl ho hp hk
    obtain ⟨k, rfl⟩ : ∃ m, k = m + 1 := ⟨k - 1, by omega⟩
    simp only [spec_BitsGet.l0]
    rw [if_neg (by omega), spec_whole s hs p b hp (by omega), Option.bind_some, List.drop_of_length_le (by omega), w64 (by omega) (by omega)]
    simp only [getL, fin]
    cases b
    · cases hr : (rest s p).any id
      · simp only [Bool.false_eq_true, if_false, Bool.or_self, Bool.not_false, if_true]
        by_cases h : 8 * ((p + 7) / 8) = 8 * s.size
        · rw [if_pos (by omega), if_pos h]
        · rw [if_neg (by omega), if_neg h]
      · simp
    · simp
  | succ d ih =>
    intro k l out i p b hi hd hl ho hp hk
    obtain ⟨k, rfl⟩ : ∃ m, k = m + 1 := ⟨k - 1, by omega⟩
    simp only [spec_BitsGet.l0]
    rw [if_pos (by omega), if_pos (by omega), l1In_f, Option.bind_some, rd_int (by omega), List.drop_eq_getElem_cons (show i < l.length by omega)]
    simp only [getL]
    change (if okBit (l[i]'(by omega)) = true then _ else _) = _
    cases h : okBit (l[i]'(by omega)) with
    | false => simp
    | true =>
      obtain ⟨n, hn, hn16⟩ := okBit_yes h
      rw [if_pos rfl, if_pos rfl, if_neg (by omega), hn, spec_num s hs n p b hn16 hp (by omega), Option.bind_some, if_pos (by omega), w64 (by omega) (by omega), show ((i : Int) + 1) = ((i + 1 : Nat) : Int) by omega, Int.toNat_natCast]
      exact ih k l _ (i + 1) _ _ (by omega) (by omega) hl (by simp; omega) (rdp_le s n p hp) (by omega)
theorem spec_BitsGet_long (s : ByteArray) (_hs : s.size ≤ 1099511627776) {k : Nat} (l : List Int) (hl : 4000 < l.length) (hk : 10 ≤ k) : spec_BitsGet.f k s l = some ([], false) := by
  obtain ⟨k, rfl⟩ : ∃ m, k = m + 1 := ⟨k - 1, by omega⟩
  unfold spec_BitsGet.f
  simp only [spec_BitsGet.l0]
  rw [if_pos (by omega), if_pos (by omega), l1In_f, Option.bind_some]
  split
  · rw [if_pos (by omega)]
  · rfl
theorem spec_BitsGet_f {k : Nat} (s : ByteArray) (hs : s.size ≤ 1099511627776) (l : List Int) (hk : l.length + 90 ≤ k) : spec_BitsGet.f k s l = some (getR s l) := by
  by_cases h : l.length ≤ 4000
  · unfold spec_BitsGet.f getR
    rw [if_pos h]
    exact spec_BitsGet_l s hs l.length k l [] 0 0 false (by omega) (by omega) h (by simp) (by omega) (by omega)
  · rw [spec_BitsGet_long s hs l (by omega) (by omega)]
    unfold getR
    rw [if_neg h]
end Go.Proofs.Ytfpbdojbnomnmaa.My
