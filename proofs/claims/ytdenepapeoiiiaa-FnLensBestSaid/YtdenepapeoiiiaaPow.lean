/- The laws' own powers of two. -/
import Derived.Test.YtdenepapeoiiiaaPAllx0
import Derived.Test.YtdenepapeoiiiaaPAllx25
import Derived.Test.YtdenepapeoiiiaaMA
namespace Go.Proofs.Ytdenepapeoiiiaa.My
open Go Go.RowKit Go.Proofs.YtdenepapeoiiiaaW.PrintWords Go.Proofs.YtdenepapeoiiiaaW.PrintLast Go.Proofs.YtdenepapeoiiiaaW.PrintMore Go.Proofs.Ytdenepapeoiiiaa.PAll

theorem cbPow_l (n : Nat) : ∀ (k : Nat) (p : Nat), n ≤ 62 → p * 2 ^ n ≤ 4611686018427387904 → n < k → laws_cbPow.l0 k (n : Int) (p : Int) = some ((p * 2 ^ n : Nat) : Int) := by
  induction n with
  | zero =>
    intro k p _ _ hk
    obtain ⟨k, rfl⟩ : ∃ m, k = m + 1 := ⟨k - 1, by omega⟩
    simp only [laws_cbPow.l0]
    rw [if_neg (by omega)]
    simp
  | succ n ih =>
    intro k p hn hp hk
    obtain ⟨k, rfl⟩ : ∃ m, k = m + 1 := ⟨k - 1, by omega⟩
    simp only [laws_cbPow.l0]
    have h2 : p * 2 ^ (n + 1) = (2 * p) * 2 ^ n := by rw [Nat.pow_succ]; grind
    have h3 : (2 * p) * 1 ≤ (2 * p) * 2 ^ n := Nat.mul_le_mul_left _ Nat.one_le_two_pow
    rw [if_pos (by omega), w64 (by omega) (by omega), w64 (by omega) (by omega)]
    rw [show ((n + 1 : Nat) : Int) - 1 = (n : Int) by omega, show (2 * (p : Int)) = ((2 * p : Nat) : Int) by omega, ih k (2 * p) (by omega) (by omega) (by omega), h2]
theorem cbPow_f {k n : Nat} (hn : n ≤ 62) (hk : n < k) : laws_cbPow.f k (n : Int) = some ((2 ^ n : Nat) : Int) := by
  unfold laws_cbPow.f
  have h : 2 ^ n ≤ 2 ^ 62 := Nat.pow_le_pow_right (by decide) hn
  have := cbPow_l n k 1 hn (by omega) hk
  rwa [Nat.one_mul] at this
end Go.Proofs.Ytdenepapeoiiiaa.My
