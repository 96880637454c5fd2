/- No code begins another one: plain. -/
import Derived.Test.YtcbehpemhkfieaaPAllx0
import Derived.Test.YtcbehpemhkfieaaPAllx25
import Derived.Test.YtcbehpemhkfieaaCodes
namespace Go.Proofs.Ytcbehpemhkfieaa.My
open Go Go.RowKit Go.Proofs.YtcbehpemhkfieaaW.PrintWords Go.Proofs.YtcbehpemhkfieaaW.PrintLast Go.Proofs.YtcbehpemhkfieaaW.PrintMore Go.Proofs.Ytcbehpemhkfieaa.PAll

theorem fst_grow (l : List Int) (m : Nat) : ∀ d, 2 ^ (d + 1) * (fst l m + cnt l (m + 1)) ≤ fst l (m + d + 1)
  | 0 => by
    rw [Nat.zero_add, Nat.pow_one]
    exact Nat.le_refl _
  | d + 1 => by
    have ih := fst_grow l m d
    have e : fst l (m + (d + 1) + 1) = 2 * (fst l (m + d + 1) + cnt l (m + d + 1 + 1)) := rfl
    rw [e, Nat.pow_succ, Nat.mul_comm (2 ^ (d + 1)) 2, Nat.mul_assoc]
    omega
theorem code_bound {l : List Int} {j n : Nat} (h : j < l.length) (hn : rd l j = (n : Int)) (_h1 : 1 ≤ n) : fst l (n - 1) ≤ code l j ∧ code l j < fst l (n - 1) + cnt l n := by
  have := count_take_lt h hn
  unfold code cnt
  rw [hn, Int.toNat_natCast]
  omega
/-- Of two of one length the later has the greater code. -/
theorem code_mono {l : List Int} {i j : Nat} (hi : i < l.length) (hij : i < j) (h : rd l i = rd l j) : code l i < code l j := by
  unfold code
  rw [h]
  have h2 := count_take_lt (l := l.take j) (j := i) (x := rd l j) (by rw [List.length_take]; omega) (by
    rw [← h]
    unfold rd
    rw [List.getD_eq_getElem?_getD, List.getD_eq_getElem?_getD, Int.toNat_natCast, List.getElem?_take_of_lt hij])
  rw [List.take_take, Nat.min_eq_left (by omega)] at h2
  omega
theorem code_inj {l : List Int} {i j : Nat} (hi : i < l.length) (hj : j < l.length) (h : rd l i = rd l j) (hc : code l i = code l j) : i = j := by
  rcases Nat.lt_trichotomy i j with h1 | h1 | h1
  · have := code_mono hi h1 h; omega
  · exact h1
  · have := code_mono hj h1 h.symm; omega
/-- A longer code, cut, is none of the shorter ones. -/
theorem code_prefix {l : List Int} {i j n m : Nat} (hi : i < l.length) (hj : j < l.length) (hn : rd l i = (n : Int)) (hm : rd l j = (m : Int)) (h1 : 1 ≤ n) (h : n < m) : code l i < code l j / 2 ^ (m - n) := by
  have b1 := code_bound hi hn h1
  have b2 := code_bound hj hm (by omega)
  have g := fst_grow l (n - 1) (m - n - 1)
  rw [show n - 1 + (m - n - 1) + 1 = m - 1 by omega, show m - n - 1 + 1 = m - n by omega, show n - 1 + 1 = n by omega] at g
  refine Nat.lt_of_lt_of_le b1.2 ?_
  rw [Nat.le_div_iff_mul_le (Nat.pow_pos (by decide)), Nat.mul_comm]
  omega
end Go.Proofs.Ytcbehpemhkfieaa.My
