/- Put together: LinkP, Turn1. -/
import Derived.Test.YtcbehpemhkfieaaPAllx0
import Derived.Test.YtcbehpemhkfieaaPAllx14
import Derived.Test.YtcbehpemhkfieaaPAllx19
import Derived.Test.YtcbehpemhkfieaaPAllx24
import Derived.Test.YtcbehpemhkfieaaMA
namespace Go.Proofs.Ytcbehpemhkfieaa.My
open Go Go.RowKit Go.Proofs.YtcbehpemhkfieaaW.PrintWords Go.Proofs.YtcbehpemhkfieaaW.PrintLast Go.Proofs.YtcbehpemhkfieaaW.PrintMore Go.Proofs.Ytcbehpemhkfieaa.PAll
open Go.Proofs.Ytcbehpemhkfieaa.Bit

/-! ### A number of so many bits -/
/-- A piece is ok: at most 16 bits, and a number of so many. -/
def okP (n b : Int) : Bool := (decide (0 ≤ b) && decide (b ≤ 16)) && (decide (0 ≤ n) && decide (n < 2 ^ b.toNat))
theorem okP_yes {n b : Int} (h : okP n b = true) : ∃ x m : Nat, n = x ∧ b = m ∧ m ≤ 16 ∧ x < 2 ^ m := by
  simp only [okP, Bool.and_eq_true, decide_eq_true_eq] at h
  refine ⟨n.toNat, b.toNat, by omega, by omega, by omega, ?_⟩
  have h2 := h.2.2
  have : n = ((n.toNat : Nat) : Int) := by omega
  rw [this] at h2
  exact_mod_cast h2
theorem okP_mk {x m : Nat} (h1 : m ≤ 16) (h2 : x < 2 ^ m) : okP (x : Int) (m : Int) = true := by
  simp only [okP, Bool.and_eq_true, decide_eq_true_eq, Int.toNat_natCast]
  exact ⟨⟨by omega, by omega⟩, by omega, by exact_mod_cast h2⟩
theorem pow16 {m : Nat} (h : m ≤ 16) : 2 ^ m ≤ 65536 := Nat.pow_le_pow_right (by decide : 0 < 2) h
theorem pieceOk_f (n b : Int) : impl_pieceOk.f n b = some (okP n b) := by
  unfold impl_pieceOk.f okP
  rw [within_f, Option.bind_some]
  cases hb : (decide (0 ≤ b) && decide (b ≤ 16)) with
  | false => simp
  | true =>
    simp only [Bool.and_eq_true, decide_eq_true_eq] at hb
    obtain ⟨m, rfl⟩ := Int.eq_ofNat_of_zero_le hb.1
    have hm : m ≤ 16 := by omega
    have hp := pow16 hm
    have hp1 : 1 ≤ 2 ^ m := Nat.one_le_two_pow
    have e : ((2 : Int) ^ m) = ((2 ^ m : Nat) : Int) := by simp
    have hs : shl .i64 1 (m : Int) = ((2 ^ m : Nat) : Int) := by
      unfold shl
      rw [Int.toNat_natCast, show min m IntKind.i64.bits = m from Nat.min_eq_left (by show m ≤ 64; omega), Int.one_mul, e, IntKind.wrap_i64]
      omega
    rw [if_pos rfl, if_pos hb.1, hs, w64 (by omega) (by omega), within_f, Option.bind_some]
    simp only [Bool.true_and, Int.toNat_natCast, Option.some.injEq]
    rw [Bool.eq_iff_iff]
    simp only [Bool.and_eq_true, decide_eq_true_eq]
    rw [e]
    omega

theorem and1 (y : Nat) (hy : y ≤ 65535) : Go.bits .and .i64 (y : Int) 1 = ((y % 2 : Nat) : Int) := by
  have := bits_mask .i64 63 (by decide) (fun n h0 h1 => by rw [IntKind.wrap_i64]; omega) 1 (by decide) (y : Int) (by omega) (by omega)
  rw [show ((2 : Int) ^ 1 - 1) = 1 by decide, show ((2 : Int) ^ 1) = 2 by decide] at this
  rw [this]
  omega
end Go.Proofs.Ytcbehpemhkfieaa.My

namespace Go.Proofs.Ytcbehpemhkfieaa.My
open Go Go.RowKit Go.Proofs.YtcbehpemhkfieaaW.PrintWords Go.Proofs.YtcbehpemhkfieaaW.PrintLast Go.Proofs.YtcbehpemhkfieaaW.PrintMore Go.Proofs.Ytcbehpemhkfieaa.PAll
open Go.Proofs.Ytcbehpemhkfieaa.Bit

/-- The lowest n bits of x, turned about. -/
def turn (x n : Nat) : Nat := val (nb x n).reverse
theorem turn_lt (x n : Nat) : turn x n < 2 ^ n := by
  have := val_lt (nb x n).reverse
  rwa [List.length_reverse, nb_length] at this
theorem turn_nb (x n : Nat) : nb (turn x n) n = (nb x n).reverse := by
  have := nb_val (nb x n).reverse
  rwa [List.length_reverse, nb_length] at this
theorem turn_turn {x n : Nat} (h : x < 2 ^ n) : turn (turn x n) n = x := by
  unfold turn
  rw [show val (nb x n).reverse = turn x n from rfl, turn_nb, List.reverse_reverse, val_nb n x h]
theorem turn_succ (x n : Nat) : turn x (n + 1) = 2 * turn x n + x / 2 ^ n % 2 := by
  unfold turn
  rw [nb_snoc, List.reverse_append, List.reverse_singleton, List.singleton_append]
  simp only [val]
  by_cases h : x / 2 ^ n % 2 = 1
  · simp [h]; omega
  · simp [h]; omega
theorem turn_more {x n : Nat} (h : x < 2 ^ n) : turn x (n + 1) = 2 * turn x n := by
  rw [turn_succ, Nat.div_eq_of_lt h]; simp
def turnI (a b : Int) : Int := if okP a b then (turn a.toNat b.toNat : Int) else -1
theorem specTurn_l (d : Nat) : ∀ (k x i n : Nat), x < 65536 → i ≤ n → n - i = d → n ≤ 16 → d < k → spec_l1Turn.l0 k ((x / 2 ^ i : Nat) : Int) (n : Int) (turn x i : Int) (i : Int) = some (turn x n : Int) := by
  induction d with
  | zero =>
    intro k x i n hx hi hd hn hk
    obtain ⟨k, rfl⟩ : ∃ m, k = m + 1 := ⟨k - 1, by omega⟩
    rw [spec_l1Turn.l0, if_neg (by omega), show i = n by omega]
  | succ d ih =>
    intro k x i n hx hi hd hn hk
    obtain ⟨k, rfl⟩ : ∃ m, k = m + 1 := ⟨k - 1, by omega⟩
    have ht := turn_lt x i
    have hp := pow16 (m := i) (by omega)
    have hq : x / 2 ^ i ≤ x := Nat.div_le_self _ _
    have e := turn_succ x i
    have e2 : x / 2 ^ (i + 1) = x / 2 ^ i / 2 := by rw [Nat.pow_succ, Nat.div_div_eq_div_mul]
    have hih := ih k x (i + 1) n hx (by omega) (by omega) hn (by omega)
    rw [e, e2] at hih
    generalize x / 2 ^ i = y at *
    generalize turn x i = z at *
    rw [spec_l1Turn.l0, if_pos (by omega), tdiv_pos (by omega), tmod_pos (by omega), w64 (x := (y : Int) / 2) (by omega) (by omega), w64 (x := 2 * (z : Int)) (by omega) (by omega), w64 (x := 2 * (z : Int) + _) (by omega) (by omega), w64 (by omega) (by omega)]
    rw [show (y : Int) / 2 = ((y / 2 : Nat) : Int) by omega, show 2 * (z : Int) + (y : Int) % 2 = ((2 * z + y % 2 : Nat) : Int) by omega, show ((i : Int) + 1) = ((i + 1 : Nat) : Int) by omega]
    exact hih
theorem shr_nat (x i : Nat) (hi : i ≤ 16) : shr .i64 (x : Int) (i : Int) = ((x / 2 ^ i : Nat) : Int) := by
  simp [shr, Int.toNat_natCast, Nat.min_eq_left (show i ≤ IntKind.i64.bits by show i ≤ 64; omega)]
theorem implTurn_l (d : Nat) : ∀ (k x i n : Nat), x < 65536 → i ≤ n → n - i = d → n ≤ 16 → d < k → impl_BitsTurn.l0 k (x : Int) (turn x i : Int) (n : Int) (i : Int) = some (turn x n : Int) := by
  induction d with
  | zero =>
    intro k x i n hx hi hd hn hk
    obtain ⟨k, rfl⟩ : ∃ m, k = m + 1 := ⟨k - 1, by omega⟩
    rw [impl_BitsTurn.l0, if_neg (by omega), show i = n by omega]
  | succ d ih =>
    intro k x i n hx hi hd hn hk
    obtain ⟨k, rfl⟩ : ∃ m, k = m + 1 := ⟨k - 1, by omega⟩
    have ht := turn_lt x i
    have hp := pow16 (m := i) (by omega)
    have hq : x / 2 ^ i ≤ x := Nat.div_le_self _ _
    have e := turn_succ x i
    have hih := ih k x (i + 1) n hx (by omega) (by omega) hn (by omega)
    rw [e] at hih
    rw [impl_BitsTurn.l0, if_pos (by omega), if_pos (by omega), shr_nat x i (by omega), and1 _ (by omega)]
    generalize x / 2 ^ i = y at *
    generalize turn x i = z at *
    rw [w64 (x := 2 * (z : Int)) (by omega) (by omega), w64 (x := 2 * (z : Int) + _) (by omega) (by omega), w64 (by omega) (by omega)]
    rw [show 2 * (z : Int) + ((y % 2 : Nat) : Int) = ((2 * z + y % 2 : Nat) : Int) by omega, show ((i : Int) + 1) = ((i + 1 : Nat) : Int) by omega]
    exact hih
theorem turn_zero (x : Nat) : turn x 0 = 0 := rfl
theorem implTurn_f {k : Nat} (a b : Int) (hk : 30 ≤ k) : impl_BitsTurn.f k a b = some (turnI a b) := by
  unfold impl_BitsTurn.f turnI
  rw [pieceOk_f a b, Option.bind_some]
  cases h : okP a b with
  | false => simp
  | true =>
    obtain ⟨x, m, rfl, rfl, h3, h4⟩ := okP_yes h
    have hp := pow16 h3
    have := implTurn_l m k x 0 m (by omega) (by omega) (by omega) h3 (by omega)
    rw [turn_zero, Int.natCast_zero] at this
    rw [if_pos rfl, this]
    simp
theorem turnI_ok {x m : Nat} (h1 : m ≤ 16) (h2 : x < 2 ^ m) : turnI x m = (turn x m : Int) := by
  unfold turnI; rw [okP_mk h1 h2]; rfl
theorem turnI_neg {a b : Int} (h : ¬ turnI a b < 0) : okP a b = true := by
  cases h2 : okP a b with
  | true => rfl
  | false => unfold turnI at h; rw [h2] at h; simp at h
theorem l1Turn_f {k x m : Nat} (h3 : m ≤ 16) (h4 : x < 2 ^ m) (hk : 30 ≤ k) : spec_l1Turn.f k (x : Int) (m : Int) = some (turn x m : Int) := by
  have hp := pow16 h3
  have := specTurn_l m k x 0 m (by omega) (by omega) (by omega) h3 (by omega)
  rw [turn_zero, Nat.pow_zero, Nat.div_one, Int.natCast_zero] at this
  unfold spec_l1Turn.f
  exact this
end Go.Proofs.Ytcbehpemhkfieaa.My
