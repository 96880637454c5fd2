/- How long pieces are: the program's function. -/
import Derived.Test.YtcbehpemhkfieaaPAllx0
import Derived.Test.YtcbehpemhkfieaaPAllx27
import Derived.Test.YtcbehpemhkfieaaMF
namespace Go.Proofs.Ytcbehpemhkfieaa.My
open Go Go.RowKit Go.Proofs.YtcbehpemhkfieaaW.PrintWords Go.Proofs.YtcbehpemhkfieaaW.PrintLast Go.Proofs.YtcbehpemhkfieaaW.PrintMore Go.Proofs.Ytcbehpemhkfieaa.PAll
open Go.Proofs.Ytcbehpemhkfieaa.Bit

theorem impl_BitsLong_l (d : Nat) : ∀ (k : Nat) (l : List S49) (i n : Nat), (∀ p ∈ l, okP p.f0 p.f1 = true) → i ≤ l.length → l.length - i = d → l.length ≤ 4000 → n ≤ 16 * i → d < k →
    impl_BitsLong.l0 k (n : Int) l (l.length : Int) (i : Int) = some ((n + total (l.drop i) : Nat) : Int) := by
  induction d with
  | zero =>
    intro k l i n hok hi hd hl hn hk
    obtain ⟨k, rfl⟩ : ∃ m, k = m + 1 := ⟨k - 1, by omega⟩
    simp only [impl_BitsLong.l0]
    rw [if_neg (by omega), List.drop_of_length_le (by omega)]
    simp [total]
  | succ d ih =>
    intro k l i n hok hi hd hl hn hk
    obtain ⟨k, rfl⟩ : ∃ m, k = m + 1 := ⟨k - 1, by omega⟩
    simp only [impl_BitsLong.l0]
    obtain ⟨x, m, e1, e2, h3, h4⟩ := okP_yes (hok (l[i]'(by omega)) (List.getElem_mem _))
    rw [if_pos (by omega), if_pos (by omega), if_pos (by omega), rd_at (by omega), e2, w64 (by omega) (by omega), w64 (by omega) (by omega), show ((i : Int) + 1) = ((i + 1 : Nat) : Int) by omega, show ((n : Int) + (m : Int)) = ((n + m : Nat) : Int) by omega,
      ih k l (i + 1) (n + m) hok (by omega) (by omega) hl (by omega) (by omega), List.drop_eq_getElem_cons (show i < l.length by omega)]
    simp only [total, List.map_cons, List.sum_cons, e2, Int.toNat_natCast]
    congr 2
    omega
def longI (l : List S49) : Int := if okL l then (total l : Int) else -1
theorem impl_BitsLong_f {k : Nat} (l : List S49) (hl : l.length ≤ 9223372036854775806) (hk : l.length + 20 ≤ k) : impl_BitsLong.f k l = some (longI l) := by
  unfold impl_BitsLong.f longI
  rw [piecesOk_f l hl hk, Option.bind_some]
  cases h : okL l with
  | false => simp
  | true =>
    rw [if_pos rfl]
    have := impl_BitsLong_l l.length k l 0 0 (okL_at h).2 (by omega) (by omega) (okL_at h).1 (by omega) (by omega)
    simpa using this
theorem longI_neg {l : List S49} : longI l < 0 ↔ okL l = false := by
  unfold longI
  cases h : okL l <;> simp

end Go.Proofs.Ytcbehpemhkfieaa.My
