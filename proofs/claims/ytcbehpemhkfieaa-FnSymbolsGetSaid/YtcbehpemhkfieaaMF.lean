/- Put together: LinkBitsI, LongI, Base2, BitFactsF, GetBit. -/
import Derived.Test.YtcbehpemhkfieaaPAllx0
import Derived.Test.YtcbehpemhkfieaaPAllx21
import Derived.Test.YtcbehpemhkfieaaPAllx24
import Derived.Test.YtcbehpemhkfieaaPAllx25
import Derived.Test.YtcbehpemhkfieaaMA
import Derived.Test.YtcbehpemhkfieaaMC
namespace Go.Proofs.Ytcbehpemhkfieaa.My
open Go Go.RowKit Go.Proofs.YtcbehpemhkfieaaW.PrintWords Go.Proofs.YtcbehpemhkfieaaW.PrintLast Go.Proofs.YtcbehpemhkfieaaW.PrintMore Go.Proofs.Ytcbehpemhkfieaa.PAll
open Go.Proofs.Ytcbehpemhkfieaa.Bit

/-! ### Many of them -/
def okL (l : List S49) : Bool := l.all (fun p => okP p.f0 p.f1) && decide (l.length ≤ 4000)
theorem rd_at {l : List S49} {i : Nat} (h : i < l.length) : rd_T49 l (i : Int) = l[i] := by simp [rd_T49, List.getElem?_eq_getElem h]
theorem piecesOk_l (d : Nat) : ∀ (k : Nat) (l : List S49) (i : Nat), i ≤ l.length → l.length - i = d → l.length ≤ 9223372036854775806 → d + 20 ≤ k →
    impl_piecesOk.l0 k l l (l.length : Int) (i : Int) = some ((l.drop i).all (fun p => okP p.f0 p.f1) && decide (l.length ≤ 4000)) := by
  induction d with
  | zero =>
    intro k l i hi hd hl hk
    obtain ⟨k, rfl⟩ : ∃ m, k = m + 1 := ⟨k - 1, by omega⟩
    simp only [impl_piecesOk.l0]
    rw [if_neg (by omega), List.drop_of_length_le (by omega)]
    simp
    omega
  | succ d ih =>
    intro k l i hi hd hl hk
    obtain ⟨k, rfl⟩ : ∃ m, k = m + 1 := ⟨k - 1, by omega⟩
    simp only [impl_piecesOk.l0]
    rw [if_pos (by omega), if_pos (by omega), if_pos (by omega), pieceOk_f, Option.bind_some, rd_at (by omega), List.drop_eq_getElem_cons (show i < l.length by omega), List.all_cons]
    cases h : okP (l[i]'(by omega)).f0 (l[i]'(by omega)).f1 with
    | false => simp
    | true =>
      rw [if_pos rfl, w64 (by omega) (by omega), show ((i : Int) + 1) = ((i + 1 : Nat) : Int) by omega, ih k l (i + 1) (by omega) (by omega) hl (by omega)]
      simp
theorem piecesOk_f {k : Nat} (l : List S49) (hl : l.length ≤ 9223372036854775806) (hk : l.length + 20 ≤ k) : impl_piecesOk.f k l = some (okL l) := by
  unfold impl_piecesOk.f okL
  exact piecesOk_l l.length k l 0 (by omega) (by omega) hl hk
theorem okL_at {l : List S49} (h : okL l = true) : l.length ≤ 4000 ∧ ∀ p ∈ l, okP p.f0 p.f1 = true := by
  simp only [okL, Bool.and_eq_true, decide_eq_true_eq, List.all_eq_true] at h
  exact ⟨h.2, h.1⟩
theorem okL_fit {l : List S49} (h : okL l = true) : fitB l = true := by
  obtain ⟨h1, h2⟩ := okL_at h
  simp only [fitB, Bool.and_eq_true, decide_eq_true_eq, List.all_eq_true]
  refine ⟨h1, fun p hp => ?_⟩
  obtain ⟨x, m, e1, e2, h3, h4⟩ := okP_yes (h2 p hp)
  have := pow16 h3
  rw [e1, e2]
  omega
/-- All bits of a list of pieces. -/
def bitsOf (l : List S49) : List Bool := l.flatMap (fun p => nb p.f0.toNat p.f1.toNat)
def packI (l : List Bool) : List Int := (pack l).map (fun (n : Nat) => (n : Int))
theorem packI_length (l : List Bool) : (packI l).length = (l.length + 7) / 8 := by simp [packI, pack_length]

/-! ### The program's writer -/
theorem or_byte {x j : Nat} (hx : x < 2 ^ j) (hj : j < 8) (b : Bool) : Go.bits .or .u8 (x : Int) ((b.toNat * 2 ^ j : Nat) : Int) = ((x + b.toNat * 2 ^ j : Nat) : Int) := by
  have h8 : 2 ^ (j + 1) ≤ 2 ^ 8 := Nat.pow_le_pow_right (by decide) (by omega)
  have hb : b.toNat * 2 ^ j ≤ 2 ^ j := by cases b <;> simp
  rw [Nat.pow_succ] at h8
  rw [(bits_nat .u8 8 (by decide) wraps_u8 x (b.toNat * 2 ^ j) (by omega) (by omega)).2, Nat.or_comm, Nat.mul_comm, ← Nat.two_pow_add_eq_or_of_lt hx]
  congr 1
  omega
theorem one_bit (x k : Nat) (hx : x ≤ 65535) (L : List Bool) : one (x : Int) k (packI L, L.length) = (packI (L ++ [decide (x / 2 ^ k % 2 = 1)]), L.length + 1) := by
  obtain ⟨y, hy⟩ : ∃ y, y = x / 2 ^ k := ⟨_, rfl⟩
  have hyb : y ≤ 65535 := by rw [hy]; exact Nat.le_trans (Nat.div_le_self _ _) hx
  have e1 : ((x : Int) / 2 ^ k) = (y : Int) := by rw [hy]; simp
  obtain ⟨b, hb⟩ : ∃ b : Bool, b = decide (y % 2 = 1) := ⟨_, rfl⟩
  have hbn : y % 2 = b.toNat := by
    rw [hb]
    by_cases h : y % 2 = 1
    · simp [h]
    · simp [h]; omega
  have e2 : ∀ j, j < 8 → (wrap64 (Go.bits .and .i64 ((x : Int) / 2 ^ k) 1 * 2 ^ j)) % 256 = ((b.toNat * 2 ^ j : Nat) : Int) := by
    intro j hj
    have h8 : 2 ^ (j + 1) ≤ 2 ^ 8 := Nat.pow_le_pow_right (by decide) (by omega)
    rw [Nat.pow_succ] at h8
    have hbl : b.toNat * 2 ^ j ≤ 2 ^ j := by cases b <;> simp
    rw [e1, and1 y hyb, hbn, show (((b.toNat : Nat) : Int) * 2 ^ j) = ((b.toNat * 2 ^ j : Nat) : Int) by simp, w64 (by omega) (by omega)]
    omega
  have hd : ((L.length : Int) / 8).toNat = L.length / 8 := by omega
  rw [← hy, ← hb]
  unfold one
  simp only []
  by_cases h8 : L.length % 8 = 0
  · rw [if_pos h8, h8, e2 0 (by decide)]
    have hlen : (packI L).length = L.length / 8 := by rw [packI_length]; omega
    have hp : packI (L ++ [b]) = packI L ++ [((b.toNat : Nat) : Int)] := by
      unfold packI
      rw [pack_snoc_new h8]
      simp
    have hr : rd (packI L ++ [0]) ((L.length : Int) / 8) = ((0 : Nat) : Int) := by
      unfold rd
      rw [hd, ← hlen]
      simp
    rw [hr, or_byte (j := 0) (by decide) (by decide), hp, ← hlen]
    simp
  · rw [if_neg h8, e2 (L.length % 8) (by omega)]
    obtain ⟨z, hz1, hz2, hz3⟩ := pack_snoc_old h8 b
    have hr : rd (packI L) ((L.length : Int) / 8) = (z : Int) := by
      unfold rd packI
      rw [hd, List.getD_eq_getElem?_getD, List.getElem?_map, hz1]
      rfl
    rw [hr, or_byte hz2 (by omega)]
    unfold packI
    rw [hz3, List.map_set]
theorem ones_bits (x : Nat) (hx : x ≤ 65535) (L : List Bool) : ∀ n, ones (x : Int) n (packI L, L.length) = (packI (L ++ nb x n), (L ++ nb x n).length)
  | 0 => by simp [ones, nb]
  | n + 1 => by
    rw [ones, ones_bits x hx L n, one_bit x n hx, nb_snoc, List.append_assoc]
    simp
    omega
theorem implSt_bits {l : List S49} (h : ∀ p ∈ l, okP p.f0 p.f1 = true) : ∀ L : List Bool, implSt l (packI L, L.length) = (packI (L ++ bitsOf l), (L ++ bitsOf l).length) := by
  induction l with
  | nil => intro L; simp [implSt, bitsOf]
  | cons p l ih =>
    intro L
    obtain ⟨x, m, e1, e2, h3, h4⟩ := okP_yes (h p (List.mem_cons_self ..))
    have := pow16 h3
    have ho : ones p.f0 p.f1.toNat (packI L, L.length) = (packI (L ++ nb x m), (L ++ nb x m).length) := by
      rw [e1, e2, Int.toNat_natCast]; exact ones_bits x (by omega) L m
    have hb : bitsOf (p :: l) = nb x m ++ bitsOf l := by simp [bitsOf, e1, e2]
    unfold implSt
    rw [List.foldl_cons, ho]
    have := ih (fun q hq => h q (List.mem_cons_of_mem _ hq)) (L ++ nb x m)
    unfold implSt at this
    rw [this, hb, List.append_assoc]
theorem impl_BitsPut_f {k : Nat} (l : List S49) (hl : l.length ≤ 9223372036854775806) (hk : l.length + 20 ≤ k) :
    impl_BitsPut.f k l = some (if okL l then strOfNums (packI (bitsOf l)) else ⟨#[]⟩) := by
  unfold impl_BitsPut.f
  rw [piecesOk_f l hl hk, Option.bind_some]
  cases h : okL l with
  | false => simp
  | true =>
    rw [if_pos rfl, if_pos (okL_fit h)]
    have := implSt_bits (okL_at h).2 []
    rw [show packI [] = [] from rfl, List.nil_append] at this
    rw [show (([] : List Int), (0 : Nat)) = ([], ([] : List Bool).length) from rfl, this]
    rfl

end Go.Proofs.Ytcbehpemhkfieaa.My

namespace Go.Proofs.Ytcbehpemhkfieaa.My
open Go Go.RowKit Go.Proofs.YtcbehpemhkfieaaW.PrintWords Go.Proofs.YtcbehpemhkfieaaW.PrintLast Go.Proofs.YtcbehpemhkfieaaW.PrintMore Go.Proofs.Ytcbehpemhkfieaa.PAll
open Go.Proofs.Ytcbehpemhkfieaa.Bit

/-! ### How many bits pieces are together -/
def total (l : List S49) : Nat := (l.map (fun p => p.f1.toNat)).sum
theorem bitsOf_length (l : List S49) : (bitsOf l).length = total l := by
  induction l with
  | nil => rfl
  | cons p l ih => simp only [bitsOf, List.flatMap_cons, List.length_append, nb_length] at *; rw [ih]; simp [total]
end Go.Proofs.Ytcbehpemhkfieaa.My

namespace Go.Proofs.Ytcbehpemhkfieaa.My
open Go Go.RowKit Go.Proofs.YtcbehpemhkfieaaW.PrintWords Go.Proofs.YtcbehpemhkfieaaW.PrintLast Go.Proofs.YtcbehpemhkfieaaW.PrintMore

/-! ### Bytes of a text -/
def bys (s : ByteArray) : List Nat := s.data.toList.map UInt8.toNat
theorem bys_length (s : ByteArray) : (bys s).length = s.size := by simp [bys]
theorem bys_append (s t : ByteArray) : bys (s ++ t) = bys s ++ bys t := by simp [bys, ByteArray.data_append]
theorem bys_lt (s : ByteArray) : ∀ b ∈ bys s, b < 256 := by
  intro b hb
  obtain ⟨u, _, rfl⟩ := List.mem_map.1 hb
  exact u.toNat_lt
theorem bys_inj {s t : ByteArray} (h : bys s = bys t) : s = t := by
  unfold bys at h
  have h2 : s.data.toList = t.data.toList := by
    have hi : ∀ l m : List UInt8, l.map UInt8.toNat = m.map UInt8.toNat → l = m := by
      intro l
      induction l with
      | nil => intro m hm; cases m with
        | nil => rfl
        | cons a m => cases hm
      | cons a l ih => intro m hm; cases m with
        | nil => cases hm
        | cons b m =>
          simp only [List.map_cons, List.cons.injEq] at hm
          rw [ih m hm.2, UInt8.toNat_inj.1 hm.1]
    exact hi _ _ h
  cases s; cases t
  simp only [ByteArray.mk.injEq]
  exact Array.toList_inj.1 h2
theorem bt_get (s : ByteArray) (n : Nat) (h : n < s.size) : bt s (n : Int) = ((bys s)[n]'(by rw [bys_length]; exact h) : Nat) := by
  simp only [bt, Int.toNat_natCast, h, dif_pos, bys, List.getElem_map]
  rfl
theorem bys_drop (s : ByteArray) (n : Nat) (h : n < s.size) : (bys s).drop n = (bt s (n : Int)).toNat :: (bys s).drop (n + 1) := by
  rw [bt_get s n h, Int.toNat_natCast]
  exact List.drop_eq_getElem_cons (by rw [bys_length]; exact h)
theorem bys_extract (s : ByteArray) (a b : Nat) : bys (s.extract a b) = ((bys s).take b).drop a := by
  unfold bys
  rw [ByteArray.data_extract, Array.toList_extract, List.extract_eq_take_drop, List.map_take, List.map_drop, List.drop_take]
theorem bys_strOfNums (xs : List Int) (h : ∀ x ∈ xs, 0 ≤ x ∧ x ≤ 255) : bys (strOfNums xs) = xs.map Int.toNat := by
  unfold bys strOfNums
  simp only [List.map_map]
  apply List.map_congr_left
  intro x hx
  have := h x hx
  simp only [Function.comp_apply, UInt8.toNat_ofNat']
  omega
end Go.Proofs.Ytcbehpemhkfieaa.My

namespace Go.Proofs.Ytcbehpemhkfieaa.My
open Go Go.RowKit Go.Proofs.YtcbehpemhkfieaaW.PrintWords Go.Proofs.YtcbehpemhkfieaaW.PrintLast Go.Proofs.YtcbehpemhkfieaaW.PrintMore Go.Proofs.Ytcbehpemhkfieaa.PAll
open Go.Proofs.Ytcbehpemhkfieaa.Bit

/-- The text of some pieces. -/
def txt (l : List S49) : ByteArray := if okL l then strOfNums (packI (bitsOf l)) else ⟨#[]⟩
theorem strOfNums_size (l : List Int) : (strOfNums l).size = l.length := by simp [strOfNums, ByteArray.size]
theorem bys_packI (L : List Bool) : bys (strOfNums (packI L)) = pack L := by
  rw [bys_strOfNums _ (by
    intro x hx
    obtain ⟨n, hn, rfl⟩ := List.mem_map.1 hx
    have := pack_lt L n hn
    omega)]
  unfold packI
  rw [List.map_map]
  conv => rhs; rw [← List.map_id (pack L)]
  apply List.map_congr_left
  intro n _
  simp
theorem txt_ok {l : List S49} (h : okL l = true) : txt l = strOfNums (packI (bitsOf l)) := by unfold txt; rw [if_pos h]
theorem txt_no {l : List S49} (h : okL l = false) : txt l = ⟨#[]⟩ := by unfold txt; rw [h]; rfl
theorem bys_txt {l : List S49} (h : okL l = true) : bys (txt l) = pack (bitsOf l) := by rw [txt_ok h, bys_packI]
theorem txt_size {l : List S49} (h : okL l = true) : (txt l).size = (total l + 7) / 8 := by
  rw [txt_ok h, strOfNums_size, packI_length, bitsOf_length]
theorem total_le {l : List S49} (h : ∀ p ∈ l, okP p.f0 p.f1 = true) : total l ≤ 16 * l.length := by
  induction l with
  | nil => simp [total]
  | cons p l ih =>
    obtain ⟨x, m, e1, e2, h3, h4⟩ := okP_yes (h p (List.mem_cons_self ..))
    have := ih (fun q hq => h q (List.mem_cons_of_mem _ hq))
    simp only [total, List.map_cons, List.sum_cons, e2, Int.toNat_natCast, List.length_cons] at *
    omega
theorem txt_small (l : List S49) : (txt l).size ≤ 8000 := by
  cases h : okL l with
  | false => rw [txt_no h]; decide
  | true =>
    rw [txt_size h]
    have h2 := okL_at h
    have := total_le h2.2
    omega
theorem okL_append {a b : List S49} : okL (a ++ b) = true ↔ (∀ p ∈ a, okP p.f0 p.f1 = true) ∧ (∀ p ∈ b, okP p.f0 p.f1 = true) ∧ a.length + b.length ≤ 4000 := by
  simp only [okL, Bool.and_eq_true, decide_eq_true_eq, List.all_eq_true, List.mem_append, List.length_append]
  constructor
  · rintro ⟨h1, h2⟩
    exact ⟨fun p hp => h1 p (.inl hp), fun p hp => h1 p (.inr hp), h2⟩
  · rintro ⟨h1, h2, h3⟩
    refine ⟨fun p hp => ?_, h3⟩
    rcases hp with hp | hp
    · exact h1 p hp
    · exact h2 p hp
theorem okL_mk {l : List S49} (h : ∀ p ∈ l, okP p.f0 p.f1 = true) (hl : l.length ≤ 4000) : okL l = true := by
  simp only [okL, Bool.and_eq_true, decide_eq_true_eq, List.all_eq_true]
  exact ⟨h, hl⟩
theorem bitsOf_append (a b : List S49) : bitsOf (a ++ b) = bitsOf a ++ bitsOf b := by simp [bitsOf]
theorem total_append (a b : List S49) : total (a ++ b) = total a + total b := by simp [total]
end Go.Proofs.Ytcbehpemhkfieaa.My

namespace Go.Proofs.Ytcbehpemhkfieaa.My
open Go Go.RowKit Go.Proofs.YtcbehpemhkfieaaW.PrintWords Go.Proofs.YtcbehpemhkfieaaW.PrintLast Go.Proofs.YtcbehpemhkfieaaW.PrintMore Go.Proofs.Ytcbehpemhkfieaa.PAll
open Go.Proofs.Ytcbehpemhkfieaa.Bit

theorem bt_range (s : ByteArray) (i : Int) : 0 ≤ bt s i ∧ bt s i ≤ 255 := by
  unfold bt
  split
  · rename_i h
    have := (s[i.toNat]'h).toNat_lt
    omega
  · omega
/-! ### A text's bits -/
def tb (s : ByteArray) : List Bool := unpack (bys s)
theorem tb_length (s : ByteArray) : (tb s).length = 8 * s.size := by unfold tb; rw [unpack_length, bys_length]
theorem nb_get (x n : Nat) : ∀ i, i < n → (nb x n)[i]? = some (decide (x / 2 ^ i % 2 = 1)) := by
  induction n generalizing x with
  | zero => intro i hi; omega
  | succ n ih =>
    intro i hi
    cases i with
    | zero => simp [nb]
    | succ i =>
      simp only [nb, List.getElem?_cons_succ]
      rw [ih _ _ (by omega), Nat.div_div_eq_div_mul, Nat.pow_succ, Nat.mul_comm 2]
theorem unpack_get : ∀ (bs : List Nat) (p : Nat) (h : p / 8 < bs.length), (unpack bs)[p]? = some (decide (bs[p / 8] / 2 ^ (p % 8) % 2 = 1))
  | [], p, h => by simp at h
  | b :: t, p, h => by
    simp only [unpack]
    by_cases h8 : p < 8
    · rw [List.getElem?_append_left (by rw [nb_length]; exact h8), nb_get b 8 p h8]
      have h1 : p / 8 = 0 := by omega
      have h2 : p % 8 = p := by omega
      simp only [h1, h2, List.getElem_cons_zero]
    · rw [List.getElem?_append_right (by rw [nb_length]; omega), nb_length]
      have h1 : p / 8 = (p - 8) / 8 + 1 := by omega
      have h2 : p % 8 = (p - 8) % 8 := by omega
      simp only [h1, h2, List.getElem_cons_succ]
      exact unpack_get t (p - 8) (by simp at h; omega)
theorem tb_get (s : ByteArray) {p : Nat} (h : p < 8 * s.size) : ∃ b : Bool, (tb s)[p]? = some b ∧ (bt s ((p / 8 : Nat) : Int)) / 2 ^ (p % 8) % 2 = ((b.toNat : Nat) : Int) := by
  have hl : p / 8 < (bys s).length := by rw [bys_length]; omega
  refine ⟨_, unpack_get (bys s) p hl, ?_⟩
  rw [bt_get s (p / 8) (by rw [bys_length] at hl; exact hl)]
  generalize (bys s)[p / 8] = x
  have e : ((x : Int) / 2 ^ (p % 8)) = ((x / 2 ^ (p % 8) : Nat) : Int) := by simp
  rw [e]
  generalize x / 2 ^ (p % 8) = y
  by_cases h : y % 2 = 1
  · simp [h]; omega
  · simp [h]; omega
/-- One bit: it, where it goes on, and whether it was there. -/
def bit1 (s : ByteArray) (p : Nat) : Nat := (((tb s)[p]?).getD false).toNat
theorem bit1_lt (s : ByteArray) (p : Nat) : bit1 s p < 2 := by unfold bit1; cases ((tb s)[p]?).getD false <;> simp
theorem bit1_past (s : ByteArray) {p : Nat} (h : 8 * s.size ≤ p) : bit1 s p = 0 := by
  unfold bit1; rw [List.getElem?_eq_none (by rw [tb_length]; exact h)]; rfl
def nx (s : ByteArray) (p : Nat) : Nat := if p < 8 * s.size then p + 1 else p
def lost (s : ByteArray) (p : Nat) (b : Bool) : Bool := if p < 8 * s.size then b else true
theorem and1w {y : Int} (h0 : 0 ≤ y) (h1 : y ≤ 65535) : Go.bits .and .i64 y 1 = y % 2 := by
  obtain ⟨n, rfl⟩ := Int.eq_ofNat_of_zero_le h0
  rw [and1 n (by omega)]
  omega
theorem impl_bit (s : ByteArray) (hs : s.size ≤ 1099511627776) (p : Nat) (hp : p ≤ 8 * s.size) (b : Bool) :
    impl_reader_bit.f s (p : Int) b = some (((bit1 s p : Nat) : Int), s, ((nx s p : Nat) : Int), lost s p b) := by
  unfold impl_reader_bit.f nx lost
  rw [w64 (x := 8 * (s.size : Int)) (by omega) (by omega)]
  by_cases h : p < 8 * s.size
  · obtain ⟨c, hc, he⟩ := tb_get s h
    have hd : ((p : Int) / 8) = ((p / 8 : Nat) : Int) := by omega
    have hr := bt_range s ((p / 8 : Nat) : Int)
    have hmt : ((p : Int) % 8).toNat = p % 8 := by omega
    have hsh : shr .i64 (bt s ((p / 8 : Nat) : Int)) ((p : Int) % 8) = bt s ((p / 8 : Nat) : Int) / 2 ^ (p % 8) := by
      unfold shr
      rw [hmt, show min (p % 8) IntKind.i64.bits = p % 8 from Nat.min_eq_left (by show p % 8 ≤ 64; omega)]
    have h0 : 0 ≤ bt s ((p / 8 : Nat) : Int) / 2 ^ (p % 8) := Int.ediv_nonneg hr.1 (Int.pow_nonneg (by decide))
    have h1 : bt s ((p / 8 : Nat) : Int) / 2 ^ (p % 8) ≤ bt s ((p / 8 : Nat) : Int) := Int.ediv_le_self _ hr.1
    rw [if_neg (by omega), tdiv_pos (by omega), tmod_pos (by omega), hd, w64 (by omega) (by omega), if_pos (by omega), if_pos (by omega), if_pos (by omega), w64 (by omega) (by omega), hsh, and1w h0 (by omega), he, w64 (by omega) (by omega), if_pos h, if_pos h]
    have : bit1 s p = c.toNat := by unfold bit1; rw [hc]; rfl
    rw [this]
    simp
  · rw [if_pos (by omega), if_neg h, if_neg h, bit1_past s (by omega)]
    rfl
theorem nx_le (s : ByteArray) {p : Nat} (h : p ≤ 8 * s.size) : nx s p ≤ 8 * s.size := by unfold nx; split <;> omega
/-- What is read, in terms of the text's bits. -/
theorem bit1_eq (s : ByteArray) {p : Nat} (h : p < 8 * s.size) : (tb s)[p]'(by rw [tb_length]; exact h) = decide (bit1 s p = 1) := by
  unfold bit1
  rw [List.getElem?_eq_getElem (by rw [tb_length]; exact h)]
  cases (tb s)[p]'(by rw [tb_length]; exact h) <;> rfl
theorem bit1_toNat (s : ByteArray) {p : Nat} (h : p < 8 * s.size) : bit1 s p = ((tb s)[p]'(by rw [tb_length]; exact h)).toNat := by
  unfold bit1
  rw [List.getElem?_eq_getElem (by rw [tb_length]; exact h)]
  rfl
end Go.Proofs.Ytcbehpemhkfieaa.My
