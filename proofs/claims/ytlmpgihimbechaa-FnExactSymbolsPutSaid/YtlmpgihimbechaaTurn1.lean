/- A number whose bits are turned about: plain, and the program's function. -/
import Derived.Test.YtlmpgihimbechaaPAllx10
import Derived.Test.YtlmpgihimbechaaPAllx14
import Derived.Test.YtlmpgihimbechaaBase
import Derived.Test.YtlmpgihimbechaaBit
import Derived.Test.YtlmpgihimbechaaLinkPiece
namespace Go.Proofs.Ytlmpgihimbechaa.My
open Go Go.RowKit Go.Proofs.YtlmpgihimbechaaW.PrintWords Go.Proofs.YtlmpgihimbechaaW.PrintLast Go.Proofs.YtlmpgihimbechaaW.PrintMore Go.Proofs.Ytlmpgihimbechaa.PAll
open Go.Proofs.Ytlmpgihimbechaa.Bit

/-- The lowest n bits of x, turned about. -/
def turn (x n : Nat) : Nat := val (nb x n).reverse
theorem turn_lt (x n : Nat) : turn x n < 2 ^ n := by
  have := val_lt (nb x n).reverse
  rwa [List.length_reverse, nb_length] at this
theorem turn_nb (x n : Nat) : nb (turn x n) n = (nb x n).reverse := by
  have := nb_val (nb x n).reverse
  rwa [List.length_reverse, nb_length] at this
theorem turn_turn {x n : Nat} (h : x < 2 ^ n) : turn (turn x n) n = x := by
  unfold turn
  rw [show val (nb x n).reverse = turn x n from rfl, turn_nb, List.reverse_reverse, val_nb n x h]
theorem turn_succ (x n : Nat) : turn x (n + 1) = 2 * turn x n + x / 2 ^ n % 2 := by
  unfold turn
  rw [nb_snoc, List.reverse_append, List.reverse_singleton, List.singleton_append]
  simp only [val]
  by_cases h : x / 2 ^ n % 2 = 1
  · simp [h]; omega
  · simp [h]; omega
theorem turn_more {x n : Nat} (h : x < 2 ^ n) : turn x (n + 1) = 2 * turn x n := by
  rw [turn_succ, Nat.div_eq_of_lt h]; simp
def turnI (a b : Int) : Int := if okP a b then (turn a.toNat b.toNat : Int) else -1
theorem specTurn_l (d : Nat) : ∀ (k x i n : Nat), x < 65536 → i ≤ n → n - i = d → n ≤ 16 → d < k → spec_l1Turn.l0 k ((x / 2 ^ i : Nat) : Int) (n : Int) (turn x i : Int) (i : Int) = some (turn x n : Int) := by
  induction d with
  | zero =>
    intro k x i n hx hi hd hn hk
    obtain ⟨k, rfl⟩ : ∃ m, k = m + 1 := ⟨k - 1, by omega⟩
    rw [spec_l1Turn.l0, if_neg (by omega), show i = n by omega]
  | succ d ih =>
    intro k x i n hx hi hd hn hk
    obtain ⟨k, rfl⟩ : ∃ m, k = m + 1 := ⟨k - 1, by omega⟩
    have ht := turn_lt x i
    have hp := pow16 (m := i) (by omega)
    have hq : x / 2 ^ i ≤ x := Nat.div_le_self _ _
    have e := turn_succ x i
    have e2 : x / 2 ^ (i + 1) = x / 2 ^ i / 2 := by rw [Nat.pow_succ, Nat.div_div_eq_div_mul]
    have hih := ih k x (i + 1) n hx (by omega) (by omega) hn (by omega)
    rw [e, e2] at hih
    generalize x / 2 ^ i = y at *
    generalize turn x i = z at *
    rw [spec_l1Turn.l0, if_pos (by omega), tdiv_pos (by omega), tmod_pos (by omega), w64 (x := (y : Int) / 2) (by omega) (by omega), w64 (x := 2 * (z : Int)) (by omega) (by omega), w64 (x := 2 * (z : Int) + _) (by omega) (by omega), w64 (by omega) (by omega)]
    rw [show (y : Int) / 2 = ((y / 2 : Nat) : Int) by omega, show 2 * (z : Int) + (y : Int) % 2 = ((2 * z + y % 2 : Nat) : Int) by omega, show ((i : Int) + 1) = ((i + 1 : Nat) : Int) by omega]
    exact hih
theorem shr_nat (x i : Nat) (hi : i ≤ 16) : shr .i64 (x : Int) (i : Int) = ((x / 2 ^ i : Nat) : Int) := by
  simp [shr, Int.toNat_natCast, Nat.min_eq_left (show i ≤ IntKind.i64.bits by show i ≤ 64; omega)]
theorem implTurn_l (d : Nat) : ∀ (k x i n : Nat), x < 65536 → i ≤ n → n - i = d → n ≤ 16 → d < k → impl_BitsTurn.l0 k (x : Int) (turn x i : Int) (n : Int) (i : Int) = some (turn x n : Int) := by
  induction d with
  | zero =>
    intro k x i n hx hi hd hn hk
    obtain ⟨k, rfl⟩ : ∃ m, k = m + 1 := ⟨k - 1, by omega⟩
    rw [impl_BitsTurn.l0, if_neg (by omega), show i = n by omega]
  | succ d ih =>
    intro k x i n hx hi hd hn hk
    obtain ⟨k, rfl⟩ : ∃ m, k = m + 1 := ⟨k - 1, by omega⟩
    have ht := turn_lt x i
    have hp := pow16 (m := i) (by omega)
    have hq : x / 2 ^ i ≤ x := Nat.div_le_self _ _
    have e := turn_succ x i
    have hih := ih k x (i + 1) n hx (by omega) (by omega) hn (by omega)
    rw [e] at hih
    rw [impl_BitsTurn.l0, if_pos (by omega), if_pos (by omega), shr_nat x i (by omega), and1 _ (by omega)]
    generalize x / 2 ^ i = y at *
    generalize turn x i = z at *
    rw [w64 (x := 2 * (z : Int)) (by omega) (by omega), w64 (x := 2 * (z : Int) + _) (by omega) (by omega), w64 (by omega) (by omega)]
    rw [show 2 * (z : Int) + ((y % 2 : Nat) : Int) = ((2 * z + y % 2 : Nat) : Int) by omega, show ((i : Int) + 1) = ((i + 1 : Nat) : Int) by omega]
    exact hih
theorem turn_zero (x : Nat) : turn x 0 = 0 := rfl
theorem implTurn_f {k : Nat} (a b : Int) (hk : 30 ≤ k) : impl_BitsTurn.f k a b = some (turnI a b) := by
  unfold impl_BitsTurn.f turnI
  rw [pieceOk_f a b, Option.bind_some]
  cases h : okP a b with
  | false => simp
  | true =>
    obtain ⟨x, m, rfl, rfl, h3, h4⟩ := okP_yes h
    have hp := pow16 h3
    have := implTurn_l m k x 0 m (by omega) (by omega) (by omega) h3 (by omega)
    rw [turn_zero, Int.natCast_zero] at this
    rw [if_pos rfl, this]
    simp
theorem turnI_ok {x m : Nat} (h1 : m ≤ 16) (h2 : x < 2 ^ m) : turnI x m = (turn x m : Int) := by
  unfold turnI; rw [okP_mk h1 h2]; rfl
theorem turnI_neg {a b : Int} (h : ¬ turnI a b < 0) : okP a b = true := by
  cases h2 : okP a b with
  | true => rfl
  | false => unfold turnI at h; rw [h2] at h; simp at h
theorem l1Turn_f {k x m : Nat} (h3 : m ≤ 16) (h4 : x < 2 ^ m) (hk : 30 ≤ k) : spec_l1Turn.f k (x : Int) (m : Int) = some (turn x m : Int) := by
  have hp := pow16 h3
  have := specTurn_l m k x 0 m (by omega) (by omega) (by omega) h3 (by omega)
  rw [turn_zero, Nat.pow_zero, Nat.div_one, Int.natCast_zero] at this
  unfold spec_l1Turn.f
  exact this
end Go.Proofs.Ytlmpgihimbechaa.My
