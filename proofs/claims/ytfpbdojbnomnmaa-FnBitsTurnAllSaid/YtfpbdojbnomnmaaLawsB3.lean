/- Laws of a number whose bits are turned about. -/
import Derived.Test.YtfpbdojbnomnmaaPAllx1
import Derived.Test.YtfpbdojbnomnmaaPAllx2
import Derived.Test.YtfpbdojbnomnmaaPAllx3
import Derived.Test.YtfpbdojbnomnmaaBase
import Derived.Test.YtfpbdojbnomnmaaBit
import Derived.Test.YtfpbdojbnomnmaaLinkBits
import Derived.Test.YtfpbdojbnomnmaaDrawBits
namespace Go.Proofs.Ytfpbdojbnomnmaa.My
open Go Go.RowKit Go.Proofs.YtfpbdojbnomnmaaW.PrintWords Go.Proofs.YtfpbdojbnomnmaaW.PrintLast Go.Proofs.YtfpbdojbnomnmaaW.PrintMore Go.Proofs.Ytfpbdojbnomnmaa.PAll
open Go.Proofs.Ytfpbdojbnomnmaa.Bit

/-- The lowest n bits of x, turned about. -/
def turn (x n : Nat) : Nat := val (nb x n).reverse
theorem turn_lt (x n : Nat) : turn x n < 2 ^ n := by
  have := val_lt (nb x n).reverse
  rwa [List.length_reverse, nb_length] at this
theorem turn_nb (x n : Nat) : nb (turn x n) n = (nb x n).reverse := by
  have := nb_val (nb x n).reverse
  rwa [List.length_reverse, nb_length] at this
theorem turn_turn {x n : Nat} (h : x < 2 ^ n) : turn (turn x n) n = x := by
  unfold turn
  rw [show val (nb x n).reverse = turn x n from rfl, turn_nb, List.reverse_reverse, val_nb n x h]
theorem turn_succ (x n : Nat) : turn x (n + 1) = 2 * turn x n + x / 2 ^ n % 2 := by
  unfold turn
  rw [nb_snoc, List.reverse_append, List.reverse_singleton, List.singleton_append]
  simp only [val]
  by_cases h : x / 2 ^ n % 2 = 1
  · simp [h]; omega
  · simp [h]; omega
theorem turn_more {x n : Nat} (h : x < 2 ^ n) : turn x (n + 1) = 2 * turn x n := by
  rw [turn_succ, Nat.div_eq_of_lt h]; simp
def turnI (a b : Int) : Int := if okP a b then (turn a.toNat b.toNat : Int) else -1
theorem specTurn_l (d : Nat) : ∀ (k x i n : Nat), x < 65536 → i ≤ n → n - i = d → n ≤ 16 → d < k → spec_l1Turn.l0 k ((x / 2 ^ i : Nat) : Int) (n : Int) (turn x i : Int) (i : Int) = some (turn x n : Int) := by
  induction d with
  | zero =>
    intro k x i n hx hi hd hn hk
    obtain ⟨k, rfl⟩ : ∃ m, k = m + 1 := ⟨k - 1, by omega⟩
    rw [spec_l1Turn.l0, if_neg (by omega), show i = n by omega]
  | succ d ih =>
    intro k x i n hx hi hd hn hk
    obtain ⟨k, rfl⟩ : ∃ m, k = m + 1 := ⟨k - 1, by omega⟩
    have ht := turn_lt x i
    have hp := pow16 (m := i) (by omega)
    have hq : x / 2 ^ i ≤ x := Nat.div_le_self _ _
    have e := turn_succ x i
    have e2 : x / 2 ^ (i + 1) = x / 2 ^ i / 2 := by rw [Nat.pow_succ, Nat.div_div_eq_div_mul]
    have hih := ih k x (i + 1) n hx (by omega) (by omega) hn (by omega)
    rw [e, e2] at hih
    generalize x / 2 ^ i = y at *
    generalize turn x i = z at *
    rw [spec_l1Turn.l0, if_pos (by omega), tdiv_pos (by omega), tmod_pos (by omega), w64 (x := (y : Int) / 2) (by omega) (by omega), w64 (x := 2 * (z : Int)) (by omega) (by omega), w64 (x := 2 * (z : Int) + _) (by omega) (by omega), w64 (by omega) (by omega)]
    rw [show (y : Int) / 2 = ((y / 2 : Nat) : Int) by omega, show 2 * (z : Int) + (y : Int) % 2 = ((2 * z + y % 2 : Nat) : Int) by omega, show ((i : Int) + 1) = ((i + 1 : Nat) : Int) by omega]
    exact hih
theorem shr_nat (x i : Nat) (hi : i ≤ 16) : shr .i64 (x : Int) (i : Int) = ((x / 2 ^ i : Nat) : Int) := by
  simp [shr, Int.toNat_natCast, Nat.min_eq_left (show i ≤ IntKind.i64.bits by show i ≤ 64; omega)]
theorem implTurn_l (d : Nat) : ∀ (k x i n : Nat), x < 65536 → i ≤ n → n - i = d → n ≤ 16 → d < k → impl_BitsTurn.l0 k (x : Int) (turn x i : Int) (n : Int) (i : Int) = some (turn x n : Int) := by
  induction d with
  | zero =>
    intro k x i n hx hi hd hn hk
    obtain ⟨k, rfl⟩ : ∃ m, k = m + 1 := ⟨k - 1, by omega⟩
    rw [impl_BitsTurn.l0, if_neg (by omega), show i = n by omega]
  | succ d ih =>
    intro k x i n hx hi hd hn hk
    obtain ⟨k, rfl⟩ : ∃ m, k = m + 1 := ⟨k - 1, by omega⟩
    have ht := turn_lt x i
    have hp := pow16 (m := i) (by omega)
    have hq : x / 2 ^ i ≤ x := Nat.div_le_self _ _
    have e := turn_succ x i
    have hih := ih k x (i + 1) n hx (by omega) (by omega) hn (by omega)
    rw [e] at hih
    rw [impl_BitsTurn.l0, if_pos (by omega), if_pos (by omega), shr_nat x i (by omega), and1 _ (by omega)]
    generalize x / 2 ^ i = y at *
    generalize turn x i = z at *
    rw [w64 (x := 2 * (z : Int)) (by omega) (by omega), w64 (x := 2 * (z : Int) + _) (by omega) (by omega), w64 (by omega) (by omega)]
    rw [show 2 * (z : Int) + ((y % 2 : Nat) : Int) = ((2 * z + y % 2 : Nat) : Int) by omega, show ((i : Int) + 1) = ((i + 1 : Nat) : Int) by omega]
    exact hih
theorem turn_zero (x : Nat) : turn x 0 = 0 := rfl
theorem specTurn_f {k : Nat} (a b : Int) (hk : 30 ≤ k) : spec_BitsTurn.f k a b = some (turnI a b) := by
  unfold spec_BitsTurn.f turnI
  rw [l1Piece_f a b (by omega), Option.bind_some]
  cases h : okP a b with
  | false => simp
  | true =>
    obtain ⟨x, m, rfl, rfl, h3, h4⟩ := okP_yes h
    have hp := pow16 h3
    have := specTurn_l m k x 0 m (by omega) (by omega) (by omega) h3 (by omega)
    rw [turn_zero, Nat.pow_zero, Nat.div_one, Int.natCast_zero] at this
    unfold spec_l1Turn.f
    rw [if_pos rfl, this, Option.bind_some]
    simp
theorem implTurn_f {k : Nat} (a b : Int) (hk : 30 ≤ k) : impl_BitsTurn.f k a b = some (turnI a b) := by
  unfold impl_BitsTurn.f turnI
  rw [pieceOk_f a b, Option.bind_some]
  cases h : okP a b with
  | false => simp
  | true =>
    obtain ⟨x, m, rfl, rfl, h3, h4⟩ := okP_yes h
    have hp := pow16 h3
    have := implTurn_l m k x 0 m (by omega) (by omega) (by omega) h3 (by omega)
    rw [turn_zero, Int.natCast_zero] at this
    rw [if_pos rfl, this]
    simp
theorem ExactBitsTurn : laws_FnExactBitsTurn.Pure := by
  intro a b _ _
  refine ⟨100, ?_⟩
  unfold laws_FnExactBitsTurn.f
  rw [specTurn_f a b (by omega), Option.bind_some, implTurn_f a b (by omega), Option.bind_some, if_pos rfl]
theorem turnI_ok {x m : Nat} (h1 : m ≤ 16) (h2 : x < 2 ^ m) : turnI x m = (turn x m : Int) := by
  unfold turnI; rw [okP_mk h1 h2]; rfl
theorem turnI_neg {a b : Int} (h : ¬ turnI a b < 0) : okP a b = true := by
  cases h2 : okP a b with
  | true => rfl
  | false => unfold turnI at h; rw [h2] at h; simp at h
theorem LawBitsTurn : laws_FnBitsTurn.Pure := by
  intro l _ _ hl
  obtain ⟨a, b, ha, hb, hd⟩ := DrawBitsTurn_f hl
  refine ⟨101, ?_⟩
  unfold laws_FnBitsTurn.f
  by_cases hz : (l.length : Int) > 1048576
  · rw [if_pos hz]
  rw [if_neg hz, hd _ (by omega), Option.bind_some]
  simp only []
  rw [implTurn_f a b (by omega), Option.bind_some, specTurn_f a b (by omega), Option.bind_some, if_pos rfl, laws_FnBitsTurn.j0]
  by_cases hn : turnI a b < 0
  · rw [if_pos (by simp [hn]), specTurn_f a b (by omega), Option.bind_some]
    simp
  rw [if_neg (by simp [hn])]
  obtain ⟨x, m, rfl, rfl, h3, h4⟩ := okP_yes (turnI_neg hn)
  have ht := turn_lt x m
  have hp := pow16 h3
  rw [turnI_ok h3 h4, implTurn_f _ _ (by omega), Option.bind_some, turnI_ok h3 ht, turn_turn h4, if_pos rfl]
  by_cases h16 : (m : Int) ≥ 16
  · rw [if_pos h16]
  rw [if_neg h16, w64 (by omega) (by omega), w64 (by omega) (by omega), implTurn_f _ _ (by omega), Option.bind_some, show ((m : Int) + 1) = ((m + 1 : Nat) : Int) by omega, turnI_ok (by omega) (by rw [Nat.pow_succ]; omega), turn_more h4]
  simp
theorem cbPow_l (n : Nat) : ∀ (k : Nat) (p : Nat), n ≤ 62 → p * 2 ^ n ≤ 4611686018427387904 → n < k → laws_cbPow.l0 k (n : Int) (p : Int) = some ((p * 2 ^ n : Nat) : Int) := by
  induction n with
  | zero =>
    intro k p _ _ hk
    obtain ⟨k, rfl⟩ : ∃ m, k = m + 1 := ⟨k - 1, by omega⟩
    simp only [laws_cbPow.l0]
    rw [if_neg (by omega)]
    simp
  | succ n ih =>
    intro k p hn hp hk
    obtain ⟨k, rfl⟩ : ∃ m, k = m + 1 := ⟨k - 1, by omega⟩
    simp only [laws_cbPow.l0]
    have h2 : p * 2 ^ (n + 1) = (2 * p) * 2 ^ n := by rw [Nat.pow_succ]; grind
    have h3 : (2 * p) * 1 ≤ (2 * p) * 2 ^ n := Nat.mul_le_mul_left _ Nat.one_le_two_pow
    rw [if_pos (by omega), w64 (by omega) (by omega), w64 (by omega) (by omega)]
    rw [show ((n + 1 : Nat) : Int) - 1 = (n : Int) by omega, show (2 * (p : Int)) = ((2 * p : Nat) : Int) by omega, ih k (2 * p) (by omega) (by omega) (by omega), h2]
theorem cbPow_f {k n : Nat} (hn : n ≤ 62) (hk : n < k) : laws_cbPow.f k (n : Int) = some ((2 ^ n : Nat) : Int) := by
  unfold laws_cbPow.f
  have h : 2 ^ n ≤ 2 ^ 62 := Nat.pow_le_pow_right (by decide) hn
  have := cbPow_l n k 1 hn (by omega) hk
  rwa [Nat.one_mul] at this
/-- Each number of n bits comes once. -/
theorem All_l (n : Nat) (hn : n ≤ 8) (d : Nat) : ∀ (k x : Nat) (seen : List Bool), x ≤ 2 ^ n → 2 ^ n - x = d → seen.length = 2 ^ n → (∀ y, y < 2 ^ n → seen.getD y false = true → turn y n < x) → d + 50 < k →
    laws_FnBitsTurnAll.l0 k (n : Int) seen (x : Int) = some true := by
  have hp := pow16 (m := n) (by omega)
  have hp1 : 1 ≤ 2 ^ n := Nat.one_le_two_pow
  induction d with
  | zero =>
    intro k x seen hx hd hl hs hk
    obtain ⟨k, rfl⟩ : ∃ m, k = m + 1 := ⟨k - 1, by omega⟩
    rw [laws_FnBitsTurnAll.l0, cbPow_f (by omega) (by omega), Option.bind_some, if_neg (by omega), Option.bind_some, implTurn_f _ _ (by omega), Option.bind_some]
    have : okP ((2 ^ n : Nat) : Int) (n : Int) = false := by
      cases h : okP ((2 ^ n : Nat) : Int) (n : Int) with
      | false => rfl
      | true =>
        obtain ⟨a, b, e1, e2, _, h4⟩ := okP_yes h
        have : n = b := by omega
        subst this
        omega
    unfold turnI
    rw [this]
    rfl
  | succ d ih =>
    intro k x seen hx hd hl hs hk
    obtain ⟨k, rfl⟩ : ∃ m, k = m + 1 := ⟨k - 1, by omega⟩
    have hxl : x < 2 ^ n := by omega
    have ht := turn_lt x n
    rw [laws_FnBitsTurnAll.l0, cbPow_f (by omega) (by omega), Option.bind_some, if_pos (by omega), implTurn_f _ _ (by omega), Option.bind_some, specTurn_f _ _ (by omega), Option.bind_some, if_pos rfl, turnI_ok (by omega) hxl,
      if_neg (by omega), if_neg (by omega), if_pos (by omega), if_pos (by omega)]
    have hno : ¬ rdOf false seen (turn x n : Int) = true := by
      intro h
      have := hs (turn x n) ht (by simpa [rdOf] using h)
      rw [turn_turn hxl] at this
      omega
    rw [if_neg hno, w64 (by omega) (by omega), show ((x : Int) + 1) = ((x + 1 : Nat) : Int) by omega, Int.toNat_natCast]
    refine ih k (x + 1) _ (by omega) (by omega) (by simp [hl]) ?_ (by omega)
    intro y hy h
    by_cases hyt : y = turn x n
    · rw [hyt, turn_turn hxl]; omega
    · have : seen.getD y false = true := by
        rw [List.getD_eq_getElem?_getD, List.getElem?_set_ne (by omega)] at h
        rw [List.getD_eq_getElem?_getD]; exact h
      have := hs y hy this
      omega
theorem LawBitsTurnAll : laws_FnBitsTurnAll.Pure := by
  intro l _ _ hl
  refine ⟨1000, ?_⟩
  unfold laws_FnBitsTurnAll.f
  by_cases hz : (l.length : Int) > 1048576
  · rw [if_pos hz]
  have hn : l.length % 9 ≤ 8 := by omega
  have e : ((l.length : Int) % 9) = ((l.length % 9 : Nat) : Int) := by omega
  rw [if_neg hz, e]
  generalize l.length % 9 = n at *
  have hp : 2 ^ n ≤ 2 ^ 8 := Nat.pow_le_pow_right (by decide) hn
  have hp8 : 2 ^ n ≤ 256 := hp
  have hp0 : (0 : Int) ≤ ((2 ^ n : Nat) : Int) := Int.natCast_nonneg _
  clear hp
  rw [cbPow_f (by omega) (by omega), Option.bind_some, if_pos hp0, Int.toNat_natCast, if_pos (by omega)]
  refine All_l n hn (2 ^ n) 1000 0 _ (by omega) (by omega) (by simp) ?_ (by omega)
  intro y hy h
  rw [List.getD_eq_getElem?_getD, List.getElem?_replicate] at h
  split at h <;> simp at h
end Go.Proofs.Ytfpbdojbnomnmaa.My
