/- Put together: Codes, CodesK, Prefix. -/
import Derived.Test.YtcbehpemhkfieaaPAllx0
import Derived.Test.YtcbehpemhkfieaaPAllx13
import Derived.Test.YtcbehpemhkfieaaPAllx18
import Derived.Test.YtcbehpemhkfieaaPAllx25
import Derived.Test.YtcbehpemhkfieaaMA
import Derived.Test.YtcbehpemhkfieaaML
namespace Go.Proofs.Ytcbehpemhkfieaa.My
open Go Go.RowKit Go.Proofs.YtcbehpemhkfieaaW.PrintWords Go.Proofs.YtcbehpemhkfieaaW.PrintLast Go.Proofs.YtcbehpemhkfieaaW.PrintMore Go.Proofs.Ytcbehpemhkfieaa.PAll

/-! ### Plain -/
def cnt (l : List Int) (n : Nat) : Nat := l.count (n : Int)
/-- The first code of n + 1 bits. -/
def fst (l : List Int) : Nat → Nat
  | 0 => 0
  | n + 1 => 2 * (fst l n + cnt l (n + 1))
def wtn (n : Nat) (x : Int) : Nat := if 0 < x ∧ x ≤ (n : Int) then 2 ^ (15 - x.toNat) else 0
def ksn (l : List Int) (n : Nat) : Nat := (l.map (wtn n)).sum
theorem ksn_zero (l : List Int) : ksn l 0 = 0 := by
  unfold ksn
  induction l with
  | nil => rfl
  | cons x l ih =>
    rw [List.map_cons, List.sum_cons, ih]
    unfold wtn
    rw [if_neg (by omega)]
theorem ksn_succ (l : List Int) (n : Nat) : ksn l (n + 1) = ksn l n + cnt l (n + 1) * 2 ^ (15 - (n + 1)) := by
  unfold ksn cnt
  induction l with
  | nil => simp
  | cons x l ih =>
    rw [List.map_cons, List.sum_cons, ih, List.map_cons, List.sum_cons, List.count_cons]
    by_cases h : x = ((n + 1 : Nat) : Int)
    · have h1 : wtn (n + 1) x = 2 ^ (15 - (n + 1)) := by unfold wtn; rw [if_pos (by omega), h]; rfl
      have h2 : wtn n x = 0 := by unfold wtn; rw [if_neg (by omega)]
      rw [h1, h2]
      simp only [h, BEq.rfl, if_true, Nat.add_mul, Nat.one_mul]
      omega
    · have h1 : wtn (n + 1) x = wtn n x := by
        unfold wtn
        by_cases h3 : 0 < x ∧ x ≤ (n : Int)
        · rw [if_pos h3, if_pos (by omega)]
        · rw [if_neg h3, if_neg (by omega)]
      have h2 : (x == ((n + 1 : Nat) : Int)) = false := by simpa using h
      rw [h1, h2]
      simp only [Bool.false_eq_true, if_false, Nat.add_zero]
      omega
theorem wtn_le (n : Nat) (x : Int) : wtn n x ≤ wt x := by
  unfold wtn wt
  by_cases h : 0 < x
  · rw [if_pos h]; split <;> simp
  · rw [if_neg h, if_neg (by omega)]; exact Nat.le_refl _
theorem ksn_le (l : List Int) (n : Nat) : ksn l n ≤ ks l := by
  unfold ksn ks
  induction l with
  | nil => simp
  | cons x l ih =>
    have := wtn_le n x
    simp only [List.map_cons, List.sum_cons]
    omega
theorem fst_ksn (l : List Int) : ∀ n, n ≤ 14 → fst l n * 2 ^ (15 - n) = 2 * ksn l n
  | 0, _ => by simp [fst, ksn_zero]
  | n + 1, h => by
    have ih := fst_ksn l n (by omega)
    have e : 15 - n = (15 - (n + 1)) + 1 := by omega
    rw [e, Nat.pow_succ] at ih
    rw [ksn_succ]
    unfold fst
    generalize 2 ^ (15 - (n + 1)) = z at *
    have h2 : fst l n * (z * 2) = 2 * (fst l n * z) := by rw [← Nat.mul_assoc, Nat.mul_comm]
    rw [Nat.mul_assoc, Nat.add_mul]
    omega
/-- No more codes of n + 1 bits than there are. -/
theorem fst_cnt {l : List Int} (hk : ks l ≤ 32768) {n : Nat} (hn : n ≤ 14) : fst l n + cnt l (n + 1) ≤ 2 ^ (n + 1) := by
  have h1 := fst_ksn l n hn
  have h2 := ksn_succ l n
  have h3 := ksn_le l (n + 1)
  have e : 15 - n = (15 - (n + 1)) + 1 := by omega
  rw [e, Nat.pow_succ] at h1
  have e2 : 2 ^ (n + 1) * 2 ^ (15 - (n + 1)) = 32768 := by rw [← Nat.pow_add, show n + 1 + (15 - (n + 1)) = 15 by omega]
  have hz : 0 < 2 ^ (15 - (n + 1)) := Nat.pow_pos (by decide)
  generalize 2 ^ (15 - (n + 1)) = z at *
  generalize 2 ^ (n + 1) = y at *
  have h4 : (fst l n + cnt l (n + 1)) * z ≤ y * z := by
    rw [Nat.add_mul]
    have : fst l n * (z * 2) = 2 * (fst l n * z) := by rw [← Nat.mul_assoc, Nat.mul_comm]
    omega
  exact Nat.le_of_mul_le_mul_right h4 hz
/-- The code of the j-th. -/
def code (l : List Int) (j : Nat) : Nat := fst l ((rd l j).toNat - 1) + (l.take j).count (rd l j)
def codeI (l : List Int) (j : Nat) : Int := if 1 ≤ rd l j then (code l j : Int) else 0
def codesL (l : List Int) : List Int := (List.range l.length).map (codeI l)
theorem count_take_lt {l : List Int} {j : Nat} (h : j < l.length) {x : Int} (hx : rd l j = x) : (l.take j).count x < l.count x := by
  have h2 : l = l.take j ++ l.drop j := (List.take_append_drop j l).symm
  have h3 : l.count x = (l.take j).count x + (l.drop j).count x := by
    conv => lhs; rw [h2]
    rw [List.count_append]
  rw [List.drop_eq_getElem_cons h, List.count_cons] at h3
  rw [rd_int_at h] at hx
  rw [hx] at h3
  simp at h3
  omega
theorem code_lt {l : List Int} (hr : rng l = true) (hk : ks l ≤ 32768) {j : Nat} (h : j < l.length) (h1 : 1 ≤ rd l j) : ∃ n : Nat, rd l j = n ∧ 1 ≤ n ∧ n ≤ 15 ∧ code l j < 2 ^ n := by
  have hm : rd l j ∈ l := by rw [rd_int_at h]; exact List.getElem_mem h
  unfold rng at hr
  rw [List.all_eq_true] at hr
  have := hr _ hm
  simp only [Bool.and_eq_true, decide_eq_true_eq] at this
  obtain ⟨n, hn⟩ := Int.eq_ofNat_of_zero_le this.1
  refine ⟨n, hn, by omega, by omega, ?_⟩
  have h2 := fst_cnt hk (n := n - 1) (by omega)
  have h3 := count_take_lt h hn
  unfold code
  rw [hn, Int.toNat_natCast]
  rw [show n - 1 + 1 = n by omega] at h2
  unfold cnt at h2
  omega

/-! ### The walk over the levels -/
def Inv (l arr : List Int) (n i : Nat) : Prop := arr.length = l.length ∧ ∀ j : Nat, j < l.length → rd arr j = if (1 ≤ rd l j ∧ rd l j < (n : Int)) ∨ (rd l j = (n : Int) ∧ j < i) then (code l j : Int) else 0
theorem rd_set {l : List Int} {i j : Nat} (h : i < l.length) (x : Int) : rd (l.set i x) (j : Int) = if j = i then x else rd l (j : Int) := by
  unfold rd
  rw [List.getD_eq_getElem?_getD, List.getD_eq_getElem?_getD, Int.toNat_natCast, List.getElem?_set]
  by_cases e : i = j
  · subst e; simp [h]
  · have : ¬ j = i := fun x => e x.symm
    simp [e, this]
theorem inv_step {l arr : List Int} {m i : Nat} (hi : i < l.length) (h : Inv l arr (m + 1) i) :
    Inv l (if rd l i = ((m + 1 : Nat) : Int) then arr.set i ((fst l m + (l.take i).count ((m + 1 : Nat) : Int) : Nat) : Int) else arr) (m + 1) (i + 1) := by
  obtain ⟨h1, h2⟩ := h
  by_cases hx : rd l i = ((m + 1 : Nat) : Int)
  · rw [if_pos hx]
    refine ⟨by simp [h1], fun j hj => ?_⟩
    rw [rd_set (by omega)]
    by_cases e : j = i
    · subst e
      rw [if_pos rfl, if_pos (.inr ⟨hx, by omega⟩)]
      unfold code
      rw [hx, Int.toNat_natCast, Nat.add_sub_cancel]
    · rw [if_neg e, h2 j hj]
      congr 1
      rw [eq_iff_iff]
      constructor
      · rintro (h | ⟨h, h'⟩)
        · exact .inl h
        · exact .inr ⟨h, by omega⟩
      · rintro (h | ⟨h, h'⟩)
        · exact .inl h
        · exact .inr ⟨h, by omega⟩
  · rw [if_neg hx]
    refine ⟨h1, fun j hj => ?_⟩
    rw [h2 j hj]
    congr 1
    rw [eq_iff_iff]
    constructor
    · rintro (h | ⟨h, h'⟩)
      · exact .inl h
      · exact .inr ⟨h, by omega⟩
    · rintro (h | ⟨h, h'⟩)
      · exact .inl h
      · by_cases e : j = i
        · subst e; exact absurd h hx
        · exact .inr ⟨h, by omega⟩
theorem inv_next {l arr : List Int} {m : Nat} (hm : 1 ≤ m) (h : Inv l arr m l.length) : Inv l arr (m + 1) 0 := by
  refine ⟨h.1, fun j hj => ?_⟩
  rw [h.2 j hj]
  congr 1
  rw [eq_iff_iff]
  constructor
  · rintro (h | ⟨h, h'⟩)
    · exact .inl ⟨h.1, by omega⟩
    · exact .inl ⟨by omega, by omega⟩
  · rintro (h | ⟨h, h'⟩)
    · by_cases e : rd l j = (m : Int)
      · exact .inr ⟨e, hj⟩
      · exact .inl ⟨h.1, by omega⟩
    · omega
theorem inv_first (l : List Int) : Inv l (List.replicate l.length 0) 1 0 := by
  refine ⟨by simp, fun j hj => ?_⟩
  rw [if_neg (by omega), rd_int_at (by simp; omega)]
  simp
theorem inv_last {l arr : List Int} (hr : rng l = true) (h : Inv l arr 16 0) : arr = codesL l := by
  refine List.ext_getElem (by rw [h.1]; simp [codesL]) fun j h1 h2 => ?_
  have hj : j < l.length := by rw [← h.1]; exact h1
  have hm : rd l j ∈ l := by rw [rd_int_at hj]; exact List.getElem_mem hj
  unfold rng at hr
  rw [List.all_eq_true] at hr
  have hx := hr _ hm
  simp only [Bool.and_eq_true, decide_eq_true_eq] at hx
  have := h.2 j hj
  rw [rd_int_at h1] at this
  have e : (codesL l)[j] = codeI l j := by simp [codesL]
  rw [this, e]
  unfold codeI
  by_cases h3 : 1 ≤ rd l j
  · rw [if_pos h3, if_pos (by omega)]
  · rw [if_neg h3, if_neg (by omega)]
theorem count_step {l : List Int} {i : Nat} (h : i < l.length) (x : Int) : (l.take (i + 1)).count x = (l.take i).count x + if rd l i = x then 1 else 0 := by
  rw [List.take_succ_eq_append_getElem h, List.count_append, rd_int_at h, List.count_cons]
  simp
theorem codes_in (l : List Int) (hl : l.length ≤ 300) (hk : ks l ≤ 32768) (m : Nat) (hm : m ≤ 14) (r : List Int) (K : Nat)
    (next : ∀ arr, Inv l arr (m + 2) 0 → ∀ k, K ≤ k → spec_l3Codes.l0 k l arr ((fst l (m + 1) : Nat) : Int) ((m + 2 : Nat) : Int) = some r) :
    ∀ (d : Nat) (arr : List Int) (i k : Nat), i ≤ l.length → l.length - i = d → Inv l arr (m + 1) i → K + d + 1 ≤ k →
      spec_l3Codes.l1 k l arr ((fst l m + (l.take i).count ((m + 1 : Nat) : Int) : Nat) : Int) ((m + 1 : Nat) : Int) (i : Int) = some r := by
  have hz := fst_cnt hk hm
  have hp : 2 ^ (m + 1) ≤ 2 ^ 15 := Nat.pow_le_pow_right (by decide) (by omega)
  intro d
  induction d with
  | zero =>
    intro arr i k hi hd hv hk'
    obtain ⟨k, rfl⟩ : ∃ m, k = m + 1 := ⟨k - 1, by omega⟩
    have e : i = l.length := by omega
    subst e
    rw [spec_l3Codes.l1, if_neg (by omega), List.take_length, show l.count ((m + 1 : Nat) : Int) = cnt l (m + 1) from rfl, w64 (by omega) (by omega), w64 (by omega) (by omega), ← next arr (inv_next (by omega) hv) k (by omega)]
    congr 1
  | succ d ih =>
    intro arr i k hi hd hv hk'
    obtain ⟨k, rfl⟩ : ∃ m, k = m + 1 := ⟨k - 1, by omega⟩
    have hil : i < l.length := by omega
    have hs := inv_step hil hv
    have hc := count_step hil ((m + 1 : Nat) : Int)
    have hle : (l.take i).count ((m + 1 : Nat) : Int) ≤ 300 := Nat.le_trans List.count_le_length (by rw [List.length_take]; omega)
    have hv1 := hv.1
    rw [spec_l3Codes.l1, if_pos (by omega), if_pos (by omega), w64 (x := (i : Int) + 1) (by omega) (by omega), show ((i : Int) + 1) = ((i + 1 : Nat) : Int) by omega]
    by_cases hx : rd l i = ((m + 1 : Nat) : Int)
    · rw [if_pos hx] at hs hc
      rw [if_pos hx, if_pos (by omega), Int.toNat_natCast, w64 (by omega) (by omega)]
      have := ih _ (i + 1) k (by omega) (by omega) hs (by omega)
      rw [hc] at this
      rw [← this]
      congr 1
    · rw [if_neg hx] at hs hc
      rw [if_neg hx]
      have := ih _ (i + 1) k (by omega) (by omega) hs (by omega)
      rw [hc, Nat.add_zero] at this
      exact this
theorem codes_all (l : List Int) (hl : l.length ≤ 300) (hr : rng l = true) (hk : ks l ≤ 32768) :
    ∀ (e m : Nat), m + e = 15 → ∀ arr, Inv l arr (m + 1) 0 → ∀ k, 400 * e + 2 ≤ k → spec_l3Codes.l0 k l arr ((fst l m : Nat) : Int) ((m + 1 : Nat) : Int) = some (codesL l) := by
  intro e
  induction e with
  | zero =>
    intro m hm arr hv k hk'
    obtain ⟨k, rfl⟩ : ∃ m, k = m + 1 := ⟨k - 1, by omega⟩
    have : m = 15 := by omega
    subst this
    rw [spec_l3Codes.l0, if_neg (by omega), inv_last hr hv]
  | succ e ih =>
    intro m hm arr hv k hk'
    obtain ⟨k, rfl⟩ : ∃ m, k = m + 1 := ⟨k - 1, by omega⟩
    rw [spec_l3Codes.l0, if_pos (by omega)]
    have := codes_in l hl hk m (by omega) (codesL l) (400 * e + 2) (fun arr hv k hk => ih (m + 1) (by omega) arr hv k hk) l.length arr 0 k (by omega) (by omega) hv (by omega)
    simpa using this
theorem spec_codes_f {k : Nat} (l : List Int) (h : okLens l = true) (hk : 7000 ≤ k) : spec_l3Codes.f k l = some (codesL l) := by
  have h1 : rng l = true ∧ l.length ≤ 300 ∧ ks l ≤ 32768 := by
    simp only [okLens, fits, Bool.and_eq_true, Bool.or_eq_true, decide_eq_true_eq] at h
    refine ⟨h.1, h.2.1, ?_⟩
    rcases h.2.2 with h | h
    · omega
    · omega
  unfold spec_l3Codes.f
  rw [if_pos (by omega), if_pos (by omega), Int.toNat_natCast]
  exact codes_all l h1.2.1 h1.1 h1.2.2 15 0 (by omega) _ (inv_first l) k (by omega)
theorem codes_same : ∀ k : Nat, (∀ (l arr : List Int) (c n : Int), impl_codes.l0 k l arr c n = spec_l3Codes.l0 k l arr c n) ∧ (∀ (l arr : List Int) (c n i : Int), impl_codes.l1 k l arr c n l (l.length : Int) i = spec_l3Codes.l1 k l arr c n i)
  | 0 => ⟨fun _ _ _ _ => rfl, fun _ _ _ _ _ => rfl⟩
  | k + 1 => by
    obtain ⟨h0, h1⟩ := codes_same k
    refine ⟨fun l arr c n => ?_, fun l arr c n i => ?_⟩
    · rw [impl_codes.l0, spec_l3Codes.l0, h1]
    · rw [impl_codes.l1, spec_l3Codes.l1, h0, h1, h1, Int.mul_comm c 2]
      by_cases h : i < (l.length : Int)
      · simp only [if_pos h]
      · simp only [if_neg h]
theorem impl_codes_f {k : Nat} (l : List Int) (h : okLens l = true) (hk : 7000 ≤ k) : impl_codes.f k l = some (codesL l) := by
  rw [← spec_codes_f l h hk]
  unfold impl_codes.f spec_l3Codes.f
  rw [(codes_same k).1]
end Go.Proofs.Ytcbehpemhkfieaa.My

namespace Go.Proofs.Ytcbehpemhkfieaa.My
open Go Go.RowKit Go.Proofs.YtcbehpemhkfieaaW.PrintWords Go.Proofs.YtcbehpemhkfieaaW.PrintLast Go.Proofs.YtcbehpemhkfieaaW.PrintMore Go.Proofs.Ytcbehpemhkfieaa.PAll

theorem okLens_at {l : List Int} (h : okLens l = true) : rng l = true ∧ l.length ≤ 300 ∧ ks l ≤ 32768 := by
  simp only [okLens, fits, Bool.and_eq_true, Bool.or_eq_true, decide_eq_true_eq] at h
  refine ⟨h.1, h.2.1, ?_⟩
  rcases h.2.2 with h | h
  · omega
  · omega
theorem codesL_length (l : List Int) : (codesL l).length = l.length := by simp [codesL]
theorem codesL_rd {l : List Int} {j : Nat} (h : j < l.length) : rd (codesL l) (j : Int) = codeI l j := by
  rw [rd_int_at (by rw [codesL_length]; exact h)]
  simp [codesL]
theorem sym_code {l : List Int} (h : okLens l = true) {j : Nat} (hj : j < l.length) (h0 : rd l j ≠ 0) :
    ∃ n c : Nat, rd l j = n ∧ 1 ≤ n ∧ n ≤ 15 ∧ rd (codesL l) (j : Int) = c ∧ c = code l j ∧ c < 2 ^ n := by
  obtain ⟨hr, _, hk⟩ := okLens_at h
  have hm : rd l j ∈ l := by rw [rd_int_at hj]; exact List.getElem_mem hj
  have hr2 := hr
  unfold rng at hr2
  rw [List.all_eq_true] at hr2
  have hx := hr2 _ hm
  simp only [Bool.and_eq_true, decide_eq_true_eq] at hx
  obtain ⟨n, h1, h2, h3, h4⟩ := code_lt hr hk hj (by omega)
  refine ⟨n, code l j, h1, h2, h3, ?_, rfl, h4⟩
  rw [codesL_rd hj]
  unfold codeI
  rw [if_pos (by omega)]
end Go.Proofs.Ytcbehpemhkfieaa.My

namespace Go.Proofs.Ytcbehpemhkfieaa.My
open Go Go.RowKit Go.Proofs.YtcbehpemhkfieaaW.PrintWords Go.Proofs.YtcbehpemhkfieaaW.PrintLast Go.Proofs.YtcbehpemhkfieaaW.PrintMore Go.Proofs.Ytcbehpemhkfieaa.PAll

theorem fst_grow (l : List Int) (m : Nat) : ∀ d, 2 ^ (d + 1) * (fst l m + cnt l (m + 1)) ≤ fst l (m + d + 1)
  | 0 => by
    rw [Nat.zero_add, Nat.pow_one]
    exact Nat.le_refl _
  | d + 1 => by
    have ih := fst_grow l m d
    have e : fst l (m + (d + 1) + 1) = 2 * (fst l (m + d + 1) + cnt l (m + d + 1 + 1)) := rfl
    rw [e, Nat.pow_succ, Nat.mul_comm (2 ^ (d + 1)) 2, Nat.mul_assoc]
    omega
theorem code_bound {l : List Int} {j n : Nat} (h : j < l.length) (hn : rd l j = (n : Int)) (_h1 : 1 ≤ n) : fst l (n - 1) ≤ code l j ∧ code l j < fst l (n - 1) + cnt l n := by
  have := count_take_lt h hn
  unfold code cnt
  rw [hn, Int.toNat_natCast]
  omega
/-- Of two of one length the later has the greater code. -/
theorem code_mono {l : List Int} {i j : Nat} (hi : i < l.length) (hij : i < j) (h : rd l i = rd l j) : code l i < code l j := by
  unfold code
  rw [h]
  have h2 := count_take_lt (l := l.take j) (j := i) (x := rd l j) (by rw [List.length_take]; omega) (by
    rw [← h]
    unfold rd
    rw [List.getD_eq_getElem?_getD, List.getD_eq_getElem?_getD, Int.toNat_natCast, List.getElem?_take_of_lt hij])
  rw [List.take_take, Nat.min_eq_left (by omega)] at h2
  omega
theorem code_inj {l : List Int} {i j : Nat} (hi : i < l.length) (hj : j < l.length) (h : rd l i = rd l j) (hc : code l i = code l j) : i = j := by
  rcases Nat.lt_trichotomy i j with h1 | h1 | h1
  · have := code_mono hi h1 h; omega
  · exact h1
  · have := code_mono hj h1 h.symm; omega
/-- A longer code, cut, is none of the shorter ones. -/
theorem code_prefix {l : List Int} {i j n m : Nat} (hi : i < l.length) (hj : j < l.length) (hn : rd l i = (n : Int)) (hm : rd l j = (m : Int)) (h1 : 1 ≤ n) (h : n < m) : code l i < code l j / 2 ^ (m - n) := by
  have b1 := code_bound hi hn h1
  have b2 := code_bound hj hm (by omega)
  have g := fst_grow l (n - 1) (m - n - 1)
  rw [show n - 1 + (m - n - 1) + 1 = m - 1 by omega, show m - n - 1 + 1 = m - n by omega, show n - 1 + 1 = n by omega] at g
  refine Nat.lt_of_lt_of_le b1.2 ?_
  rw [Nat.le_div_iff_mul_le (Nat.pow_pos (by decide)), Nat.mul_comm]
  omega
end Go.Proofs.Ytcbehpemhkfieaa.My
