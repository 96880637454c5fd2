/- Put together: LinkPiece, LinkBitsS. -/
import Derived.Test.YtcbehpemhkfieaaPAllx0
import Derived.Test.YtcbehpemhkfieaaPAllx28
import Derived.Test.YtcbehpemhkfieaaPAllx29
import Derived.Test.YtcbehpemhkfieaaMA
import Derived.Test.YtcbehpemhkfieaaMC
import Derived.Test.YtcbehpemhkfieaaMF
namespace Go.Proofs.Ytcbehpemhkfieaa.My
open Go Go.RowKit Go.Proofs.YtcbehpemhkfieaaW.PrintWords Go.Proofs.YtcbehpemhkfieaaW.PrintLast Go.Proofs.YtcbehpemhkfieaaW.PrintMore Go.Proofs.Ytcbehpemhkfieaa.PAll
open Go.Proofs.Ytcbehpemhkfieaa.Bit

/-! ### A number of so many bits -/
theorem l1Piece_f {k : Nat} (n b : Int) (hk : 20 ≤ k) : spec_l1Piece.f k n b = some (okP n b) := by
  unfold spec_l1Piece.f okP
  rw [l1In_f, Option.bind_some]
  cases hb : (decide (0 ≤ b) && decide (b ≤ 16)) with
  | false => simp
  | true =>
    simp only [Bool.and_eq_true, decide_eq_true_eq] at hb
    obtain ⟨m, rfl⟩ := Int.eq_ofNat_of_zero_le hb.1
    have hm : m ≤ 16 := by omega
    have hp := pow16 hm
    have hp1 : 1 ≤ 2 ^ m := Nat.one_le_two_pow
    rw [if_pos rfl, l1Pow_f (by omega) (by omega), Option.bind_some, w64 (by omega) (by omega), l1In_f, Option.bind_some]
    simp only [Bool.true_and, Int.toNat_natCast, Option.some.injEq]
    have e : ((2 : Int) ^ m) = ((2 ^ m : Nat) : Int) := by simp
    rw [Bool.eq_iff_iff]
    simp only [Bool.and_eq_true, decide_eq_true_eq]
    rw [e]
    omega
end Go.Proofs.Ytcbehpemhkfieaa.My

namespace Go.Proofs.Ytcbehpemhkfieaa.My
open Go Go.RowKit Go.Proofs.YtcbehpemhkfieaaW.PrintWords Go.Proofs.YtcbehpemhkfieaaW.PrintLast Go.Proofs.YtcbehpemhkfieaaW.PrintMore Go.Proofs.Ytcbehpemhkfieaa.PAll
open Go.Proofs.Ytcbehpemhkfieaa.Bit

theorem l1Pieces_l (d : Nat) : ∀ (k : Nat) (l : List S49) (i : Nat), i ≤ l.length → l.length - i = d → l.length ≤ 9223372036854775806 → d + 20 ≤ k →
    spec_l1Pieces.l0 k l (i : Int) = some ((l.drop i).all (fun p => okP p.f0 p.f1) && decide (l.length ≤ 4000)) := by
  induction d with
  | zero =>
    intro k l i hi hd hl hk
    obtain ⟨k, rfl⟩ : ∃ m, k = m + 1 := ⟨k - 1, by omega⟩
    simp only [spec_l1Pieces.l0]
    rw [if_neg (by omega), List.drop_of_length_le (by omega)]
    simp
    omega
  | succ d ih =>
    intro k l i hi hd hl hk
    obtain ⟨k, rfl⟩ : ∃ m, k = m + 1 := ⟨k - 1, by omega⟩
    simp only [spec_l1Pieces.l0]
    rw [if_pos (by omega), if_pos (by omega), l1Piece_f _ _ (by omega), Option.bind_some, rd_at (by omega), List.drop_eq_getElem_cons (show i < l.length by omega), List.all_cons]
    cases h : okP (l[i]'(by omega)).f0 (l[i]'(by omega)).f1 with
    | false => simp
    | true =>
      rw [if_pos rfl, w64 (by omega) (by omega), show ((i : Int) + 1) = ((i + 1 : Nat) : Int) by omega, ih k l (i + 1) (by omega) (by omega) hl (by omega)]
      simp
theorem l1Pieces_f {k : Nat} (l : List S49) (hl : l.length ≤ 9223372036854775806) (hk : l.length + 20 ≤ k) : spec_l1Pieces.f k l = some (okL l) := by
  unfold spec_l1Pieces.f okL
  exact l1Pieces_l l.length k l 0 (by omega) (by omega) hl hk

/-! ### The reference's writer -/
def ost (L : List Bool) : OSt := ⟨packI (L.take (8 * (L.length / 8))), val (L.drop (8 * (L.length / 8))), L.length % 8⟩
theorem ost_parts {a r : List Bool} (ha : a.length % 8 = 0) (hr : r.length < 8) : ost (a ++ r) = ⟨packI a, val r, r.length⟩ := by
  have h1 : 8 * ((a ++ r).length / 8) = a.length := by rw [List.length_append]; omega
  unfold ost
  rw [h1, List.take_left, List.drop_left]
  congr 1
  rw [List.length_append]
  omega
theorem oone_bit (x : Nat) (L : List Bool) : oone x (ost L) = ost (L ++ [decide (x % 2 = 1)]) := by
  obtain ⟨b, hb⟩ : ∃ b : Bool, b = decide (x % 2 = 1) := ⟨_, rfl⟩
  have hbn : x % 2 = b.toNat := by
    rw [hb]
    by_cases h : x % 2 = 1
    · simp [h]
    · simp [h]; omega
  rw [← hb]
  obtain ⟨a, r, rfl, ha, hr, _, _⟩ := parts L
  rw [ost_parts ha hr]
  unfold oone
  simp only [hbn]
  have hv : val (r ++ [b]) = val r + b.toNat * 2 ^ r.length := by
    rw [val_append]; simp [val, Nat.mul_comm]
  by_cases h7 : r.length = 7
  · rw [if_pos h7, ← hv]
    have hlt := val_lt (r ++ [b])
    rw [List.length_append, List.length_singleton, h7] at hlt
    have e : (a ++ r ++ [b]) = (a ++ (r ++ [b])) ++ [] := by simp
    rw [e, ost_parts (a := a ++ (r ++ [b])) (by simp; omega) (by simp)]
    have hp : packI (a ++ (r ++ [b])) = packI a ++ [((val (r ++ [b]) : Nat) : Int)] := by
      unfold packI
      rw [pack_append ha, pack_small (l := r ++ [b]) (by simp) (by simp; omega)]
      simp
    rw [hp]
    congr 1
    have : ((val (r ++ [b]) : Nat) : Int) % 256 = ((val (r ++ [b]) : Nat) : Int) := by omega
    rw [this]
  · rw [if_neg h7, List.append_assoc, ost_parts ha (by simp; omega), hv]
    simp
theorem oones_bits (x : Nat) (L : List Bool) : ∀ n, oones x n (ost L) = ost (L ++ nb x n)
  | 0 => by simp [oones, nb]
  | n + 1 => by rw [oones, oones_bits x L n, oone_bit, nb_snoc, List.append_assoc]
theorem specSt_bits {l : List S49} : ∀ L : List Bool, specSt l (ost L) = ost (L ++ bitsOf l) := by
  induction l with
  | nil => intro L; simp [specSt, bitsOf]
  | cons p l ih =>
    intro L
    have hb : bitsOf (p :: l) = nb p.f0.toNat p.f1.toNat ++ bitsOf l := by simp [bitsOf]
    unfold specSt
    rw [List.foldl_cons, oones_bits]
    have := ih (L ++ nb p.f0.toNat p.f1.toNat)
    unfold specSt at this
    rw [this, hb, List.append_assoc]
theorem owhole_bits (L : List Bool) : (owhole (ost L)).bs = packI L := by
  obtain ⟨a, r, rfl, ha, hr, _, _⟩ := parts L
  unfold owhole
  by_cases h0 : 0 < (ost (a ++ r)).f
  · rw [if_pos h0, oones_bits, nb_zero]
    rw [ost_parts ha hr] at h0 ⊢
    simp only [] at h0 ⊢
    have e : a ++ r ++ List.replicate (8 - r.length) false = (a ++ r ++ List.replicate (8 - r.length) false) ++ [] := by simp
    rw [e, ost_parts (by simp; omega) (by simp)]
    simp only []
    unfold packI
    rw [pack_zeros (by simp; omega)]
  · rw [if_neg h0]
    rw [ost_parts ha hr] at h0 ⊢
    simp only [] at h0 ⊢
    have : r = [] := List.eq_nil_of_length_eq_zero (by omega)
    subst this
    simp
theorem spec_BitsPut_f {k : Nat} (l : List S49) (hl : l.length ≤ 9223372036854775806) (hk : l.length + 20 ≤ k) :
    spec_BitsPut.f k l = some (if okL l then strOfNums (packI (bitsOf l)) else ⟨#[]⟩) := by
  unfold spec_BitsPut.f
  rw [l1Pieces_f l hl hk, Option.bind_some]
  cases h : okL l with
  | false => simp
  | true =>
    rw [if_pos rfl, if_pos (okL_fit h)]
    have h0 : (⟨[], 0, 0⟩ : OSt) = ost [] := rfl
    rw [h0, specSt_bits, owhole_bits]
    rfl
end Go.Proofs.Ytcbehpemhkfieaa.My
