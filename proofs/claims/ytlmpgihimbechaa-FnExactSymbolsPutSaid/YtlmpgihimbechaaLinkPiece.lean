/- The printed functions of one piece: a number of so many bits. -/
import Derived.Test.YtlmpgihimbechaaPAllx2
import Derived.Test.YtlmpgihimbechaaPAllx7
import Derived.Test.YtlmpgihimbechaaPAllx9
import Derived.Test.YtlmpgihimbechaaPAllx20
import Derived.Test.YtlmpgihimbechaaPAllx21
import Derived.Test.YtlmpgihimbechaaBase
import Derived.Test.YtlmpgihimbechaaBit
namespace Go.Proofs.Ytlmpgihimbechaa.My
open Go Go.RowKit Go.Proofs.YtlmpgihimbechaaW.PrintWords Go.Proofs.YtlmpgihimbechaaW.PrintLast Go.Proofs.YtlmpgihimbechaaW.PrintMore Go.Proofs.Ytlmpgihimbechaa.PAll
open Go.Proofs.Ytlmpgihimbechaa.Bit

/-! ### A number of so many bits -/
theorem l1In_f (a l h : Int) : spec_l1In.f a l h = some (decide (l ≤ a) && decide (a ≤ h)) := by
  unfold spec_l1In.f
  by_cases x : a ≥ l
  · rw [if_pos x]; simp [x]
  · rw [if_neg x]; have : ¬ l ≤ a := x; simp [this]
theorem within_f (a l h : Int) : impl_within.f a l h = some (decide (l ≤ a) && decide (a ≤ h)) := by
  unfold impl_within.f
  by_cases x : a ≥ l
  · rw [if_pos x]; simp [x]
  · rw [if_neg x]; have : ¬ l ≤ a := x; simp [this]
theorem l1Pow_l (n : Nat) : ∀ (k : Nat) (p : Nat), n ≤ 62 → p * 2 ^ n ≤ 4611686018427387904 → n < k → spec_l1Pow.l0 k (n : Int) (p : Int) = some ((p * 2 ^ n : Nat) : Int) := by
  induction n with
  | zero =>
    intro k p _ _ hk
    obtain ⟨k, rfl⟩ : ∃ m, k = m + 1 := ⟨k - 1, by omega⟩
    simp only [spec_l1Pow.l0]
    rw [if_neg (by omega)]
    simp
  | succ n ih =>
    intro k p hn hp hk
    obtain ⟨k, rfl⟩ : ∃ m, k = m + 1 := ⟨k - 1, by omega⟩
    simp only [spec_l1Pow.l0]
    have h2 : p * 2 ^ (n + 1) = (2 * p) * 2 ^ n := by rw [Nat.pow_succ]; grind
    have h3 : (2 * p) * 1 ≤ (2 * p) * 2 ^ n := Nat.mul_le_mul_left _ Nat.one_le_two_pow
    rw [if_pos (by omega), w64 (by omega) (by omega), w64 (by omega) (by omega)]
    rw [show ((n + 1 : Nat) : Int) - 1 = (n : Int) by omega, show (2 * (p : Int)) = ((2 * p : Nat) : Int) by omega, ih k (2 * p) (by omega) (by omega) (by omega), h2]
theorem l1Pow_f {k n : Nat} (hn : n ≤ 62) (hk : n < k) : spec_l1Pow.f k (n : Int) = some ((2 ^ n : Nat) : Int) := by
  unfold spec_l1Pow.f
  have h : 2 ^ n ≤ 2 ^ 62 := Nat.pow_le_pow_right (by decide) hn
  have := l1Pow_l n k 1 hn (by omega) hk
  rwa [Nat.one_mul] at this
/-- A piece is ok: at most 16 bits, and a number of so many. -/
def okP (n b : Int) : Bool := (decide (0 ≤ b) && decide (b ≤ 16)) && (decide (0 ≤ n) && decide (n < 2 ^ b.toNat))
theorem okP_yes {n b : Int} (h : okP n b = true) : ∃ x m : Nat, n = x ∧ b = m ∧ m ≤ 16 ∧ x < 2 ^ m := by
  simp only [okP, Bool.and_eq_true, decide_eq_true_eq] at h
  refine ⟨n.toNat, b.toNat, by omega, by omega, by omega, ?_⟩
  have h2 := h.2.2
  have : n = ((n.toNat : Nat) : Int) := by omega
  rw [this] at h2
  exact_mod_cast h2
theorem okP_mk {x m : Nat} (h1 : m ≤ 16) (h2 : x < 2 ^ m) : okP (x : Int) (m : Int) = true := by
  simp only [okP, Bool.and_eq_true, decide_eq_true_eq, Int.toNat_natCast]
  exact ⟨⟨by omega, by omega⟩, by omega, by exact_mod_cast h2⟩
theorem pow16 {m : Nat} (h : m ≤ 16) : 2 ^ m ≤ 65536 := Nat.pow_le_pow_right (by decide : 0 < 2) h
theorem l1Piece_f {k : Nat} (n b : Int) (hk : 20 ≤ k) : spec_l1Piece.f k n b = some (okP n b) := by
  unfold spec_l1Piece.f okP
  rw [l1In_f, Option.bind_some]
  cases hb : (decide (0 ≤ b) && decide (b ≤ 16)) with
  | false => simp
  | true =>
    simp only [Bool.and_eq_true, decide_eq_true_eq] at hb
    obtain ⟨m, rfl⟩ := Int.eq_ofNat_of_zero_le hb.1
    have hm : m ≤ 16 := by omega
    have hp := pow16 hm
    have hp1 : 1 ≤ 2 ^ m := Nat.one_le_two_pow
    rw [if_pos rfl, l1Pow_f (by omega) (by omega), Option.bind_some, w64 (by omega) (by omega), l1In_f, Option.bind_some]
    simp only [Bool.true_and, Int.toNat_natCast, Option.some.injEq]
    have e : ((2 : Int) ^ m) = ((2 ^ m : Nat) : Int) := by simp
    rw [Bool.eq_iff_iff]
    simp only [Bool.and_eq_true, decide_eq_true_eq]
    rw [e]
    omega
theorem pieceOk_f (n b : Int) : impl_pieceOk.f n b = some (okP n b) := by
  unfold impl_pieceOk.f okP
  rw [within_f, Option.bind_some]
  cases hb : (decide (0 ≤ b) && decide (b ≤ 16)) with
  | false => simp
  | true =>
    simp only [Bool.and_eq_true, decide_eq_true_eq] at hb
    obtain ⟨m, rfl⟩ := Int.eq_ofNat_of_zero_le hb.1
    have hm : m ≤ 16 := by omega
    have hp := pow16 hm
    have hp1 : 1 ≤ 2 ^ m := Nat.one_le_two_pow
    have e : ((2 : Int) ^ m) = ((2 ^ m : Nat) : Int) := by simp
    have hs : shl .i64 1 (m : Int) = ((2 ^ m : Nat) : Int) := by
      unfold shl
      rw [Int.toNat_natCast, show min m IntKind.i64.bits = m from Nat.min_eq_left (by show m ≤ 64; omega), Int.one_mul, e, IntKind.wrap_i64]
      omega
    rw [if_pos rfl, if_pos hb.1, hs, w64 (by omega) (by omega), within_f, Option.bind_some]
    simp only [Bool.true_and, Int.toNat_natCast, Option.some.injEq]
    rw [Bool.eq_iff_iff]
    simp only [Bool.and_eq_true, decide_eq_true_eq]
    rw [e]
    omega

theorem and1 (y : Nat) (hy : y ≤ 65535) : Go.bits .and .i64 (y : Int) 1 = ((y % 2 : Nat) : Int) := by
  have := bits_mask .i64 63 (by decide) (fun n h0 h1 => by rw [IntKind.wrap_i64]; omega) 1 (by decide) (y : Int) (by omega) (by omega)
  rw [show ((2 : Int) ^ 1 - 1) = 1 by decide, show ((2 : Int) ^ 1) = 2 by decide] at this
  rw [this]
  omega
end Go.Proofs.Ytlmpgihimbechaa.My
