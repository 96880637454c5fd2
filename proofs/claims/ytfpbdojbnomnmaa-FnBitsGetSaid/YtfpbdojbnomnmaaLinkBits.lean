/- The printed functions of the bits, each told by plain lists of bits. -/
import Derived.Test.YtfpbdojbnomnmaaPAllx7
import Derived.Test.YtfpbdojbnomnmaaPAllx16
import Derived.Test.YtfpbdojbnomnmaaPAllx20
import Derived.Test.YtfpbdojbnomnmaaBase
import Derived.Test.YtfpbdojbnomnmaaBit
import Derived.Test.YtfpbdojbnomnmaaLinkPiece
namespace Go.Proofs.Ytfpbdojbnomnmaa.My
open Go Go.RowKit Go.Proofs.YtfpbdojbnomnmaaW.PrintWords Go.Proofs.YtfpbdojbnomnmaaW.PrintLast Go.Proofs.YtfpbdojbnomnmaaW.PrintMore Go.Proofs.Ytfpbdojbnomnmaa.PAll
open Go.Proofs.Ytfpbdojbnomnmaa.Bit

/-! ### Many of them -/
def okL (l : List S47) : Bool := l.all (fun p => okP p.f0 p.f1) && decide (l.length ≤ 4000)
theorem rd_at {l : List S47} {i : Nat} (h : i < l.length) : rd_T47 l (i : Int) = l[i] := by simp [rd_T47, List.getElem?_eq_getElem h]
theorem l1Pieces_l (d : Nat) : ∀ (k : Nat) (l : List S47) (i : Nat), i ≤ l.length → l.length - i = d → l.length ≤ 9223372036854775806 → d + 20 ≤ k →
    spec_l1Pieces.l0 k l (i : Int) = some ((l.drop i).all (fun p => okP p.f0 p.f1) && decide (l.length ≤ 4000)) := by
  induction d with
  | zero =>
    intro k l i hi hd hl hk
    obtain ⟨k, rfl⟩ : ∃ m, k = m + 1 := ⟨k - 1, by omega⟩
    simp only [spec_l1Pieces.l0]
    rw [if_neg (by omega), List.drop_of_length_le (by omega)]
    simp
    omega
  | succ d ih =>
    intro k l i hi hd hl hk
    obtain ⟨k, rfl⟩ : ∃ m, k = m + 1 := ⟨k - 1, by omega⟩
    simp only [spec_l1Pieces.l0]
    rw [if_pos (by omega), if_pos (by omega), l1Piece_f _ _ (by omega), Option.bind_some, rd_at (by omega), List.drop_eq_getElem_cons (show i < l.length by omega), List.all_cons]
    cases h : okP (l[i]'(by omega)).f0 (l[i]'(by omega)).f1 with
    | false => simp
    | true =>
      rw [if_pos rfl, w64 (by omega) (by omega), show ((i : Int) + 1) = ((i + 1 : Nat) : Int) by omega, ih k l (i + 1) (by omega) (by omega) hl (by omega)]
      simp
theorem piecesOk_l (d : Nat) : ∀ (k : Nat) (l : List S47) (i : Nat), i ≤ l.length → l.length - i = d → l.length ≤ 9223372036854775806 → d + 20 ≤ k →
    impl_piecesOk.l0 k l l (l.length : Int) (i : Int) = some ((l.drop i).all (fun p => okP p.f0 p.f1) && decide (l.length ≤ 4000)) := by
  induction d with
  | zero =>
    intro k l i hi hd hl hk
    obtain ⟨k, rfl⟩ : ∃ m, k = m + 1 := ⟨k - 1, by omega⟩
    simp only [impl_piecesOk.l0]
    rw [if_neg (by omega), List.drop_of_length_le (by omega)]
    simp
    omega
  | succ d ih =>
    intro k l i hi hd hl hk
    obtain ⟨k, rfl⟩ : ∃ m, k = m + 1 := ⟨k - 1, by omega⟩
    simp only [impl_piecesOk.l0]
    rw [if_pos (by omega), if_pos (by omega), if_pos (by omega), pieceOk_f, Option.bind_some, rd_at (by omega), List.drop_eq_getElem_cons (show i < l.length by omega), List.all_cons]
    cases h : okP (l[i]'(by omega)).f0 (l[i]'(by omega)).f1 with
    | false => simp
    | true =>
      rw [if_pos rfl, w64 (by omega) (by omega), show ((i : Int) + 1) = ((i + 1 : Nat) : Int) by omega, ih k l (i + 1) (by omega) (by omega) hl (by omega)]
      simp
theorem l1Pieces_f {k : Nat} (l : List S47) (hl : l.length ≤ 9223372036854775806) (hk : l.length + 20 ≤ k) : spec_l1Pieces.f k l = some (okL l) := by
  unfold spec_l1Pieces.f okL
  exact l1Pieces_l l.length k l 0 (by omega) (by omega) hl hk
theorem piecesOk_f {k : Nat} (l : List S47) (hl : l.length ≤ 9223372036854775806) (hk : l.length + 20 ≤ k) : impl_piecesOk.f k l = some (okL l) := by
  unfold impl_piecesOk.f okL
  exact piecesOk_l l.length k l 0 (by omega) (by omega) hl hk
theorem okL_at {l : List S47} (h : okL l = true) : l.length ≤ 4000 ∧ ∀ p ∈ l, okP p.f0 p.f1 = true := by
  simp only [okL, Bool.and_eq_true, decide_eq_true_eq, List.all_eq_true] at h
  exact ⟨h.2, h.1⟩
theorem okL_fit {l : List S47} (h : okL l = true) : fitB l = true := by
  obtain ⟨h1, h2⟩ := okL_at h
  simp only [fitB, Bool.and_eq_true, decide_eq_true_eq, List.all_eq_true]
  refine ⟨h1, fun p hp => ?_⟩
  obtain ⟨x, m, e1, e2, h3, h4⟩ := okP_yes (h2 p hp)
  have := pow16 h3
  rw [e1, e2]
  omega
/-- All bits of a list of pieces. -/
def bitsOf (l : List S47) : List Bool := l.flatMap (fun p => nb p.f0.toNat p.f1.toNat)
def packI (l : List Bool) : List Int := (pack l).map (fun (n : Nat) => (n : Int))
theorem packI_length (l : List Bool) : (packI l).length = (l.length + 7) / 8 := by simp [packI, pack_length]

/-! ### The program's writer -/
theorem or_byte {x j : Nat} (hx : x < 2 ^ j) (hj : j < 8) (b : Bool) : Go.bits .or .u8 (x : Int) ((b.toNat * 2 ^ j : Nat) : Int) = ((x + b.toNat * 2 ^ j : Nat) : Int) := by
  have h8 : 2 ^ (j + 1) ≤ 2 ^ 8 := Nat.pow_le_pow_right (by decide) (by omega)
  have hb : b.toNat * 2 ^ j ≤ 2 ^ j := by cases b <;> simp
  rw [Nat.pow_succ] at h8
  rw [(bits_nat .u8 8 (by decide) wraps_u8 x (b.toNat * 2 ^ j) (by omega) (by omega)).2, Nat.or_comm, Nat.mul_comm, ← Nat.two_pow_add_eq_or_of_lt hx]
  congr 1
  omega
theorem one_bit (x k : Nat) (hx : x ≤ 65535) (L : List Bool) : one (x : Int) k (packI L, L.length) = (packI (L ++ [decide (x / 2 ^ k % 2 = 1)]), L.length + 1) := by
  obtain ⟨y, hy⟩ : ∃ y, y = x / 2 ^ k := ⟨_, rfl⟩
  have hyb : y ≤ 65535 := by rw [hy]; exact Nat.le_trans (Nat.div_le_self _ _) hx
  have e1 : ((x : Int) / 2 ^ k) = (y : Int) := by rw [hy]; simp
  obtain ⟨b, hb⟩ : ∃ b : Bool, b = decide (y % 2 = 1) := ⟨_, rfl⟩
  have hbn : y % 2 = b.toNat := by
    rw [hb]
    by_cases h : y % 2 = 1
    · simp [h]
    · simp [h]; omega
  have e2 : ∀ j, j < 8 → (wrap64 (Go.bits .and .i64 ((x : Int) / 2 ^ k) 1 * 2 ^ j)) % 256 = ((b.toNat * 2 ^ j : Nat) : Int) := by
    intro j hj
    have h8 : 2 ^ (j + 1) ≤ 2 ^ 8 := Nat.pow_le_pow_right (by decide) (by omega)
    rw [Nat.pow_succ] at h8
    have hbl : b.toNat * 2 ^ j ≤ 2 ^ j := by cases b <;> simp
    rw [e1, and1 y hyb, hbn, show (((b.toNat : Nat) : Int) * 2 ^ j) = ((b.toNat * 2 ^ j : Nat) : Int) by simp, w64 (by omega) (by omega)]
    omega
  have hd : ((L.length : Int) / 8).toNat = L.length / 8 := by omega
  rw [← hy, ← hb]
  unfold one
  simp only []
  by_cases h8 : L.length % 8 = 0
  · rw [if_pos h8, h8, e2 0 (by decide)]
    have hlen : (packI L).length = L.length / 8 := by rw [packI_length]; omega
    have hp : packI (L ++ [b]) = packI L ++ [((b.toNat : Nat) : Int)] := by
      unfold packI
      rw [pack_snoc_new h8]
      simp
    have hr : rd (packI L ++ [0]) ((L.length : Int) / 8) = ((0 : Nat) : Int) := by
      unfold rd
      rw [hd, ← hlen]
      simp
    rw [hr, or_byte (j := 0) (by decide) (by decide), hp, ← hlen]
    simp
  · rw [if_neg h8, e2 (L.length % 8) (by omega)]
    obtain ⟨z, hz1, hz2, hz3⟩ := pack_snoc_old h8 b
    have hr : rd (packI L) ((L.length : Int) / 8) = (z : Int) := by
      unfold rd packI
      rw [hd, List.getD_eq_getElem?_getD, List.getElem?_map, hz1]
      rfl
    rw [hr, or_byte hz2 (by omega)]
    unfold packI
    rw [hz3, List.map_set]
theorem ones_bits (x : Nat) (hx : x ≤ 65535) (L : List Bool) : ∀ n, ones (x : Int) n (packI L, L.length) = (packI (L ++ nb x n), (L ++ nb x n).length)
  | 0 => by simp [ones, nb]
  | n + 1 => by
    rw [ones, ones_bits x hx L n, one_bit x n hx, nb_snoc, List.append_assoc]
    simp
    omega
theorem implSt_bits {l : List S47} (h : ∀ p ∈ l, okP p.f0 p.f1 = true) : ∀ L : List Bool, implSt l (packI L, L.length) = (packI (L ++ bitsOf l), (L ++ bitsOf l).length) := by
  induction l with
  | nil => intro L; simp [implSt, bitsOf]
  | cons p l ih =>
    intro L
    obtain ⟨x, m, e1, e2, h3, h4⟩ := okP_yes (h p (List.mem_cons_self ..))
    have := pow16 h3
    have ho : ones p.f0 p.f1.toNat (packI L, L.length) = (packI (L ++ nb x m), (L ++ nb x m).length) := by
      rw [e1, e2, Int.toNat_natCast]; exact ones_bits x (by omega) L m
    have hb : bitsOf (p :: l) = nb x m ++ bitsOf l := by simp [bitsOf, e1, e2]
    unfold implSt
    rw [List.foldl_cons, ho]
    have := ih (fun q hq => h q (List.mem_cons_of_mem _ hq)) (L ++ nb x m)
    unfold implSt at this
    rw [this, hb, List.append_assoc]
theorem impl_BitsPut_f {k : Nat} (l : List S47) (hl : l.length ≤ 9223372036854775806) (hk : l.length + 20 ≤ k) :
    impl_BitsPut.f k l = some (if okL l then strOfNums (packI (bitsOf l)) else ⟨#[]⟩) := by
  unfold impl_BitsPut.f
  rw [piecesOk_f l hl hk, Option.bind_some]
  cases h : okL l with
  | false => simp
  | true =>
    rw [if_pos rfl, if_pos (okL_fit h)]
    have := implSt_bits (okL_at h).2 []
    rw [show packI [] = [] from rfl, List.nil_append] at this
    rw [show (([] : List Int), (0 : Nat)) = ([], ([] : List Bool).length) from rfl, this]
    rfl

/-! ### The reference's writer -/
def ost (L : List Bool) : OSt := ⟨packI (L.take (8 * (L.length / 8))), val (L.drop (8 * (L.length / 8))), L.length % 8⟩
theorem ost_parts {a r : List Bool} (ha : a.length % 8 = 0) (hr : r.length < 8) : ost (a ++ r) = ⟨packI a, val r, r.length⟩ := by
  have h1 : 8 * ((a ++ r).length / 8) = a.length := by rw [List.length_append]; omega
  unfold ost
  rw [h1, List.take_left, List.drop_left]
  congr 1
  rw [List.length_append]
  omega
theorem oone_bit (x : Nat) (L : List Bool) : oone x (ost L) = ost (L ++ [decide (x % 2 = 1)]) := by
  obtain ⟨b, hb⟩ : ∃ b : Bool, b = decide (x % 2 = 1) := ⟨_, rfl⟩
  have hbn : x % 2 = b.toNat := by
    rw [hb]
    by_cases h : x % 2 = 1
    · simp [h]
    · simp [h]; omega
  rw [← hb]
  obtain ⟨a, r, rfl, ha, hr, _, _⟩ := parts L
  rw [ost_parts ha hr]
  unfold oone
  simp only [hbn]
  have hv : val (r ++ [b]) = val r + b.toNat * 2 ^ r.length := by
    rw [val_append]; simp [val, Nat.mul_comm]
  by_cases h7 : r.length = 7
  · rw [if_pos h7, ← hv]
    have hlt := val_lt (r ++ [b])
    rw [List.length_append, List.length_singleton, h7] at hlt
    have e : (a ++ r ++ [b]) = (a ++ (r ++ [b])) ++ [] := by simp
    rw [e, ost_parts (a := a ++ (r ++ [b])) (by simp; omega) (by simp)]
    have hp : packI (a ++ (r ++ [b])) = packI a ++ [((val (r ++ [b]) : Nat) : Int)] := by
      unfold packI
      rw [pack_append ha, pack_small (l := r ++ [b]) (by simp) (by simp; omega)]
      simp
    rw [hp]
    congr 1
    have : ((val (r ++ [b]) : Nat) : Int) % 256 = ((val (r ++ [b]) : Nat) : Int) := by omega
    rw [this]
  · rw [if_neg h7, List.append_assoc, ost_parts ha (by simp; omega), hv]
    simp
theorem oones_bits (x : Nat) (L : List Bool) : ∀ n, oones x n (ost L) = ost (L ++ nb x n)
  | 0 => by simp [oones, nb]
  | n + 1 => by rw [oones, oones_bits x L n, oone_bit, nb_snoc, List.append_assoc]
theorem specSt_bits {l : List S47} : ∀ L : List Bool, specSt l (ost L) = ost (L ++ bitsOf l) := by
  induction l with
  | nil => intro L; simp [specSt, bitsOf]
  | cons p l ih =>
    intro L
    have hb : bitsOf (p :: l) = nb p.f0.toNat p.f1.toNat ++ bitsOf l := by simp [bitsOf]
    unfold specSt
    rw [List.foldl_cons, oones_bits]
    have := ih (L ++ nb p.f0.toNat p.f1.toNat)
    unfold specSt at this
    rw [this, hb, List.append_assoc]
theorem owhole_bits (L : List Bool) : (owhole (ost L)).bs = packI L := by
  obtain ⟨a, r, rfl, ha, hr, _, _⟩ := parts L
  unfold owhole
  by_cases h0 : 0 < (ost (a ++ r)).f
  · rw [if_pos h0, oones_bits, nb_zero]
    rw [ost_parts ha hr] at h0 ⊢
    simp only [] at h0 ⊢
    have e : a ++ r ++ List.replicate (8 - r.length) false = (a ++ r ++ List.replicate (8 - r.length) false) ++ [] := by simp
    rw [e, ost_parts (by simp; omega) (by simp)]
    simp only []
    unfold packI
    rw [pack_zeros (by simp; omega)]
  · rw [if_neg h0]
    rw [ost_parts ha hr] at h0 ⊢
    simp only [] at h0 ⊢
    have : r = [] := List.eq_nil_of_length_eq_zero (by omega)
    subst this
    simp
theorem spec_BitsPut_f {k : Nat} (l : List S47) (hl : l.length ≤ 9223372036854775806) (hk : l.length + 20 ≤ k) :
    spec_BitsPut.f k l = some (if okL l then strOfNums (packI (bitsOf l)) else ⟨#[]⟩) := by
  unfold spec_BitsPut.f
  rw [l1Pieces_f l hl hk, Option.bind_some]
  cases h : okL l with
  | false => simp
  | true =>
    rw [if_pos rfl, if_pos (okL_fit h)]
    have h0 : (⟨[], 0, 0⟩ : OSt) = ost [] := rfl
    rw [h0, specSt_bits, owhole_bits]
    rfl
end Go.Proofs.Ytfpbdojbnomnmaa.My
