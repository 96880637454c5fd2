/- The printed functions that draw: each answers, and what is drawn is within small bounds. -/
import Derived.Test.YthngbhjlikbbmaaPAllx4
import Derived.Test.YthngbhjlikbbmaaPAllx5
import Derived.Test.YthngbhjlikbbmaaPAllx8
import Derived.Test.YthngbhjlikbbmaaBase
namespace Go.Proofs.Ythngbhjlikbbmaa.My
open Go Go.RowKit Go.Proofs.YthngbhjlikbbmaaW.PrintWords Go.Proofs.YthngbhjlikbbmaaW.PrintLast Go.Proofs.YthngbhjlikbbmaaW.PrintMore Go.Proofs.Ythngbhjlikbbmaa.PAll

/-- A buffer of bytes, not too long. -/
def Buf (b : List Int) : Prop := (∀ x ∈ b, 0 ≤ x ∧ x ≤ 255) ∧ b.length ≤ 2000
theorem rd_range {b : List Int} (hb : Buf b) (i : Int) : 0 ≤ rd b i ∧ rd b i ≤ 255 := by
  unfold rd
  rw [List.getD_eq_getElem?_getD]
  rcases Nat.lt_or_ge i.toNat b.length with h | h
  · rw [List.getElem?_eq_getElem h]
    exact hb.1 _ (List.getElem_mem h)
  · rw [List.getElem?_eq_none h]
    exact ⟨by simp, by simp⟩
theorem pick_j {b : List Int} (hb : Buf b) (hne : (b.length : Int) ≠ 0) {p n : Int} (hp0 : 0 ≤ p) (hp1 : p ≤ 1000000) (hn : 1 ≤ n) :
    ∃ v, 0 ≤ v ∧ v < n ∧ ∀ k, 1 ≤ k → spec_l1Rd_pick.j0 k n false b (p + 1) = some (v, p + 1) := by
  have hw : wrap64 (p + 1 - 1) = p := by rw [w64 (by omega) (by omega)]; omega
  by_cases hlt : p < (b.length : Int)
  · have hr := rd_range hb p
    refine ⟨rd b p % n, Int.emod_nonneg _ (by omega), Int.emod_lt_of_pos _ (by omega), fun k hk => ?_⟩
    obtain ⟨k, rfl⟩ : ∃ m, k = m + 1 := ⟨k - 1, by omega⟩
    simp only [spec_l1Rd_pick.j0, hw, Bool.false_eq_true, if_false]
    rw [if_pos hlt, if_pos hp0, if_neg (by omega), w64 (by omega) (by omega), tmod_pos (by omega)]
  · have hl0 : 0 < (b.length : Int) := by omega
    have h7 : wrap64 (wrap64 (p * 7) + 3) = p * 7 + 3 := by rw [w64 (x := p * 7) (by omega) (by omega), w64 (by omega) (by omega)]
    have hA := rd_range hb (p % (b.length : Int))
    have hB := rd_range hb ((p * 7 + 3) % (b.length : Int))
    have hq : 0 ≤ p / (b.length : Int) := Int.ediv_nonneg hp0 (by omega)
    have hq2 : p / (b.length : Int) ≤ p := Int.ediv_le_self _ hp0
    generalize hAe : rd b (p % (b.length : Int)) = A at hA
    generalize hBe : rd b ((p * 7 + 3) % (b.length : Int)) = B at hB
    generalize hQe : p / (b.length : Int) = Q at hq hq2
    obtain ⟨m, hm, hm2⟩ := bits_xor64 (x := A * 131 + B * 1117 + p * 29 + Q * 53) (y := (A * 131 + B * 1117 + p * 29 + Q * 53) / 64) (by omega) (by omega) (by omega) (by omega)
    refine ⟨(m : Int) % n, Int.emod_nonneg _ (by omega), Int.emod_lt_of_pos _ (by omega), fun k hk => ?_⟩
    obtain ⟨k, rfl⟩ : ∃ m, k = m + 1 := ⟨k - 1, by omega⟩
    simp only [spec_l1Rd_pick.j0, hw, h7, Bool.false_eq_true, if_false]
    rw [if_neg hlt, if_neg (by omega), tmod_pos hp0, tmod_pos (x := p * 7 + 3) (by omega), tdiv_pos (x := p) hp0, hAe, hBe, hQe]
    rw [if_pos (Int.emod_nonneg _ (by omega)), if_pos (Int.emod_lt_of_pos _ (by omega)), if_pos (Int.emod_nonneg _ (by omega)), if_pos (Int.emod_lt_of_pos _ (by omega)), if_neg (by omega)]
    rw [w64 (x := A) (by omega) (by omega), w64 (x := B) (by omega) (by omega), w64 (x := A * 131) (by omega) (by omega), w64 (x := B * 1117) (by omega) (by omega), w64 (x := A * 131 + B * 1117) (by omega) (by omega),
      w64 (x := p * 29) (by omega) (by omega), w64 (x := A * 131 + B * 1117 + p * 29) (by omega) (by omega), w64 (x := Q) (by omega) (by omega), w64 (x := Q * 53) (by omega) (by omega), w64 (x := A * 131 + B * 1117 + p * 29 + Q * 53) (by omega) (by omega),
      tdiv_pos (by omega), w64 (x := (A * 131 + B * 1117 + p * 29 + Q * 53) / 64) (by omega) (by omega), hm, tmod_pos (by omega)]
/-- A number from 0 to n - 1, or 0 where n is below 1. -/
theorem pick_f {b : List Int} (hb : Buf b) {p : Int} (hp0 : 0 ≤ p) (hp1 : p ≤ 1000000) (n : Int) :
    ∃ v, 0 ≤ v ∧ (1 ≤ n → v < n) ∧ (n < 1 → v = 0) ∧ ∀ k, 1 ≤ k → spec_l1Rd_pick.f k b p n = some (v, p + 1) := by
  have hw : wrap64 (p + 1) = p + 1 := w64 (by omega) (by omega)
  by_cases hn : n < 1
  · refine ⟨0, by omega, fun h => by omega, fun _ => rfl, fun k hk => ?_⟩
    obtain ⟨k, rfl⟩ : ∃ m, k = m + 1 := ⟨k - 1, by omega⟩
    unfold spec_l1Rd_pick.f
    rw [if_pos hn, hw]
    simp [spec_l1Rd_pick.j0]
  · by_cases he : (b.length : Int) = 0
    · refine ⟨0, by omega, fun h => by omega, fun _ => rfl, fun k hk => ?_⟩
      obtain ⟨k, rfl⟩ : ∃ m, k = m + 1 := ⟨k - 1, by omega⟩
      unfold spec_l1Rd_pick.f
      rw [if_neg hn, hw, he]
      simp [spec_l1Rd_pick.j0]
    · obtain ⟨v, h0, h1, h⟩ := pick_j hb he hp0 hp1 (n := n) (by omega)
      refine ⟨v, h0, fun _ => h1, fun h => by omega, fun k hk => ?_⟩
      unfold spec_l1Rd_pick.f
      rw [if_neg hn, hw, show ((b.length : Int) == 0) = false from by simpa using he]
      exact h k hk
theorem pick_lt {b : List Int} (hb : Buf b) {p : Int} (hp0 : 0 ≤ p) (hp1 : p ≤ 1000000) (n : Int) (hn : 1 ≤ n) :
    ∃ v, 0 ≤ v ∧ v < n ∧ ∀ k, 1 ≤ k → spec_l1Rd_pick.f k b p n = some (v, p + 1) := by
  obtain ⟨v, h0, h1, _, h⟩ := pick_f hb hp0 hp1 n
  exact ⟨v, h0, h1 hn, h⟩
/-- One of a list. -/
theorem one_f {b : List Int} (hb : Buf b) {p : Int} (hp0 : 0 ≤ p) (hp1 : p ≤ 1000000) (l : List Int) (hl : l ≠ []) :
    ∃ v, v ∈ l ∧ ∀ k, 1 ≤ k → spec_l1Rd_one.f k b p l = some (v, p + 1) := by
  have hlen : 0 < l.length := List.length_pos_iff.2 hl
  obtain ⟨v, h0, h1, h⟩ := pick_lt hb hp0 hp1 (l.length : Int) (by omega)
  refine ⟨rd l v, ?_, fun k hk => ?_⟩
  · unfold rd
    rw [List.getD_eq_getElem?_getD, List.getElem?_eq_getElem (show v.toNat < l.length by omega)]
    exact List.getElem_mem _
  · unfold spec_l1Rd_one.f
    rw [h k hk]
    simp only [Option.bind_some]
    rw [if_pos h0, if_pos h1]
theorem of_f {b : List Int} (hb : Buf b) {p : Int} (hp0 : 0 ≤ p) (hp1 : p ≤ 1000000) (l : List ByteArray) (hl : l ≠ []) :
    ∃ v, v ∈ l ∧ ∀ k, 1 ≤ k → spec_l1Rd_of.f k b p l = some (v, p + 1) := by
  have hlen : 0 < l.length := List.length_pos_iff.2 hl
  obtain ⟨v, h0, h1, h⟩ := pick_lt hb hp0 hp1 (l.length : Int) (by omega)
  refine ⟨rdOf ByteArray.empty l v, ?_, fun k hk => ?_⟩
  · unfold rdOf
    rw [List.getD_eq_getElem?_getD, List.getElem?_eq_getElem (show v.toNat < l.length by omega)]
    exact List.getElem_mem _
  · unfold spec_l1Rd_of.f
    rw [h k hk]
    simp only [Option.bind_some]
    rw [if_pos h0, if_pos h1]
/-- A text n times: how long it is. -/
theorem many_l (m : Nat) : ∀ (x acc : ByteArray) (n : Nat), n ≤ 1099511627776 → n < 2 ^ m → x.size * 2 ^ m ≤ 1099511627776 → acc.size + n * x.size ≤ 1099511627776 →
    ∃ s : ByteArray, s.size = acc.size + n * x.size ∧ ∀ k, m < k → spec_l1Many.l0 k x (n : Int) acc = some s := by
  induction m with
  | zero =>
    intro x acc n hnb h1 hx ha
    have hn : n = 0 := by omega
    subst hn
    refine ⟨acc, by simp, fun k hk => ?_⟩
    obtain ⟨k, rfl⟩ : ∃ m, k = m + 1 := ⟨k - 1, by omega⟩
    simp only [spec_l1Many.l0]
    rw [if_neg (by omega)]
  | succ m ih =>
    intro x acc n hnb h1 hx ha
    have hx2 : x.size * 2 ^ (m + 1) = (x.size + x.size) * 2 ^ m := by rw [Nat.pow_succ]; grind
    have hxs : x.size + x.size ≤ 1099511627776 := by
      have h2 : (x.size + x.size) * 1 ≤ (x.size + x.size) * 2 ^ m := Nat.mul_le_mul_left _ Nat.one_le_two_pow
      omega
    have h1' : n < 2 * 2 ^ m := by rw [Nat.pow_succ] at h1; omega
    have hn2 : (n : Int) / 2 = ((n / 2 : Nat) : Int) := by omega
    by_cases hz : 0 < n
    · by_cases hodd : n % 2 = 1
      · have e : n * x.size = x.size + (n / 2) * (x.size + x.size) := by
          have : n = 2 * (n / 2) + 1 := by omega
          generalize n / 2 = q at this ⊢
          subst this
          grind
        obtain ⟨s, hs, h⟩ := ih (x ++ x) (acc ++ x) (n / 2) (by omega) (by omega) (by rw [ByteArray.size_append]; omega) (by rw [ByteArray.size_append, ByteArray.size_append]; omega)
        rw [ByteArray.size_append, ByteArray.size_append] at hs
        refine ⟨s, by omega, fun k hk => ?_⟩
        obtain ⟨k, rfl⟩ : ∃ m, k = m + 1 := ⟨k - 1, by omega⟩
        simp only [spec_l1Many.l0]
        have hxn : x.size ≤ n * x.size := Nat.le_mul_of_pos_left _ hz
        rw [if_pos (by omega), tmod_pos (by omega), if_pos (by omega), if_pos (by omega), if_pos (by omega), tdiv_pos (by omega), w64 (by omega) (by omega), hn2]
        exact h k (by omega)
      · have e : n * x.size = (n / 2) * (x.size + x.size) := by
          have : n = 2 * (n / 2) := by omega
          generalize n / 2 = q at this ⊢
          subst this
          grind
        obtain ⟨s, hs, h⟩ := ih (x ++ x) acc (n / 2) (by omega) (by omega) (by rw [ByteArray.size_append]; omega) (by rw [ByteArray.size_append]; omega)
        rw [ByteArray.size_append] at hs
        refine ⟨s, by omega, fun k hk => ?_⟩
        obtain ⟨k, rfl⟩ : ∃ m, k = m + 1 := ⟨k - 1, by omega⟩
        simp only [spec_l1Many.l0]
        rw [if_pos (by omega), tmod_pos (by omega), if_neg (by omega), if_pos (by omega), tdiv_pos (by omega), w64 (by omega) (by omega), hn2]
        exact h k (by omega)
    · obtain rfl : n = 0 := by omega
      refine ⟨acc, by simp, fun k hk => ?_⟩
      obtain ⟨k, rfl⟩ : ∃ m, k = m + 1 := ⟨k - 1, by omega⟩
      simp only [spec_l1Many.l0]
      rw [if_neg (by omega)]
theorem many_f (x : ByteArray) (hx : x.size ≤ 100) {n : Int} (h0 : 0 ≤ n) (h1 : n ≤ 1000) : ∃ s : ByteArray, s.size = n.toNat * x.size ∧ ∀ k, 11 ≤ k → spec_l1Many.f k x n = some s := by
  have hm : n.toNat * x.size ≤ 1000 * 100 := Nat.mul_le_mul (by omega) hx
  have h0s : (⟨#[]⟩ : ByteArray).size = 0 := rfl
  obtain ⟨s, hs, h⟩ := many_l 10 x (⟨#[]⟩ : ByteArray) n.toNat (by omega) (by omega) (by omega) (by omega)
  refine ⟨s, by omega, fun k hk => ?_⟩
  unfold spec_l1Many.f
  have := h k (by omega)
  rwa [show ((n.toNat : Nat) : Int) = n by omega] at this

/-! ### A drawn text: at most 300 bytes (301: a text that is too long) -/
theorem text_l0 (d : Nat) : ∀ (b : List Int) (p n : Int) (acc : List Int), Buf b → n = d → d ≤ 1000 → 0 ≤ p → p + d ≤ 1000000 → acc.length + d ≤ 1000000 →
    ∃ s q, s.size = acc.length + d ∧ p ≤ q ∧ q ≤ p + d ∧ ∀ k, d < k → spec_l11Text.l0 k acc n b p = some (s, q) := by
  induction d with
  | zero =>
    intro b p n acc hb hn _ hp _ _
    refine ⟨strOfNums acc, p, by simp [strOfNums, ByteArray.size], by omega, by omega, fun k hk => ?_⟩
    obtain ⟨k, rfl⟩ : ∃ m, k = m + 1 := ⟨k - 1, by omega⟩
    simp only [spec_l11Text.l0]
    rw [if_neg (by omega)]
  | succ d ih =>
    intro b p n acc hb hn hd hp hpd hacc
    obtain ⟨v, h0, h1, hv⟩ := pick_lt hb hp (by omega) 256 (by omega)
    obtain ⟨s, q, hs, h2, h3, h⟩ := ih b (p + 1) (n - 1) (acc ++ [v % 256]) hb (by omega) (by omega) (by omega) (by omega) (by simp; omega)
    refine ⟨s, q, by simp at hs; omega, by omega, by omega, fun k hk => ?_⟩
    obtain ⟨k, rfl⟩ : ∃ m, k = m + 1 := ⟨k - 1, by omega⟩
    simp only [spec_l11Text.l0]
    rw [if_pos (by omega), hv k (by omega)]
    simp only [Option.bind_some]
    rw [if_pos (by omega), w64 (by omega) (by omega)]
    exact h k (by omega)
theorem words_size : ∀ v ∈ ([(⟨#[116, 104, 101, 32]⟩ : ByteArray), (⟨#[115, 116, 111, 110, 101, 32]⟩ : ByteArray), (⟨#[116, 104, 97, 116, 32]⟩ : ByteArray), (⟨#[98, 101, 97, 114, 115, 32]⟩ : ByteArray), (⟨#[97, 32]⟩ : ByteArray), (⟨#[98, 101, 97, 109]⟩ : ByteArray), (⟨#[46, 32]⟩ : ByteArray)] : List ByteArray), v.size ≤ 6 := by decide
theorem bits_size : ∀ v ∈ ([(⟨#[97]⟩ : ByteArray), (⟨#[97, 98]⟩ : ByteArray), (⟨#[97, 98, 99]⟩ : ByteArray), (⟨#[120, 121, 122, 122, 121, 32]⟩ : ByteArray)] : List ByteArray), v.size ≤ 6 := by decide
theorem text_l1 (d : Nat) : ∀ (b : List Int) (p n : Int) (acc : ByteArray), Buf b → n = d → d ≤ 1000 → 0 ≤ p → p + d ≤ 1000000 → acc.size + 6 * d ≤ 1000000 →
    ∃ s q, s.size ≤ acc.size + 6 * d ∧ p ≤ q ∧ q ≤ p + d ∧ ∀ k, d < k → spec_l11Text.l1 k acc n b p = some (s, q) := by
  induction d with
  | zero =>
    intro b p n acc hb hn _ hp _ _
    refine ⟨acc, p, by omega, by omega, by omega, fun k hk => ?_⟩
    obtain ⟨k, rfl⟩ : ∃ m, k = m + 1 := ⟨k - 1, by omega⟩
    simp only [spec_l11Text.l1]
    rw [if_neg (by omega)]
  | succ d ih =>
    intro b p n acc hb hn hd hp hpd hacc
    obtain ⟨v, hmem, hv⟩ := of_f hb hp (by omega) _ (List.cons_ne_nil (⟨#[116, 104, 101, 32]⟩ : ByteArray) [(⟨#[115, 116, 111, 110, 101, 32]⟩ : ByteArray), (⟨#[116, 104, 97, 116, 32]⟩ : ByteArray), (⟨#[98, 101, 97, 114, 115, 32]⟩ : ByteArray), (⟨#[97, 32]⟩ : ByteArray), (⟨#[98, 101, 97, 109]⟩ : ByteArray), (⟨#[46, 32]⟩ : ByteArray)])
    have hvs := words_size v hmem
    obtain ⟨s, q, hs, h2, h3, h⟩ := ih b (p + 1) (n - 1) (acc ++ v) hb (by omega) (by omega) (by omega) (by omega) (by rw [ByteArray.size_append]; omega)
    rw [ByteArray.size_append] at hs
    refine ⟨s, q, by omega, by omega, by omega, fun k hk => ?_⟩
    obtain ⟨k, rfl⟩ : ∃ m, k = m + 1 := ⟨k - 1, by omega⟩
    simp only [spec_l11Text.l1]
    rw [if_pos (by omega), hv k (by omega)]
    simp only [Option.bind_some]
    rw [if_pos (by omega), w64 (by omega) (by omega)]
    exact h k (by omega)
theorem text_f {b : List Int} (hb : Buf b) {p : Int} (hp0 : 0 ≤ p) (hp1 : p ≤ 900000) :
    ∃ s q, s.size ≤ 300 ∧ p ≤ q ∧ q ≤ p + 100 ∧ ∀ k, 60 ≤ k → spec_l11Text.f k b p = some (s, q) := by
  obtain ⟨v, h0, h1, hv⟩ := pick_lt hb hp0 (by omega) 8 (by omega)
  by_cases v0 : v = 0
  · refine ⟨⟨#[]⟩, p + 1, by decide, by omega, by omega, fun k hk => ?_⟩
    unfold spec_l11Text.f
    rw [hv k (by omega)]
    simp only [Option.bind_some]
    rw [if_pos v0]
  by_cases v1 : v = 1
  · obtain ⟨x, hx, h⟩ := of_f hb (p := p + 1) (by omega) (by omega) _ (List.cons_ne_nil (⟨#[97]⟩ : ByteArray) [(⟨#[97, 98]⟩ : ByteArray), (⟨#[97, 98, 99]⟩ : ByteArray), (⟨#[120, 121, 122, 122, 121, 32]⟩ : ByteArray)])
    have hxs := bits_size x hx
    obtain ⟨n, n0, n1, hn⟩ := pick_lt hb (p := p + 1 + 1) (by omega) (by omega) 40 (by omega)
    obtain ⟨s, hs, hm⟩ := many_f x (by omega) (n := 1 + n) (by omega) (by omega)
    have hle : (1 + n).toNat * x.size ≤ 40 * 6 := Nat.mul_le_mul (by omega) hxs
    refine ⟨s, p + 1 + 1 + 1, by omega, by omega, by omega, fun k hk => ?_⟩
    unfold spec_l11Text.f
    rw [hv k (by omega)]
    simp only [Option.bind_some]
    rw [if_neg v0, if_pos v1, h k (by omega)]
    simp only [Option.bind_some]
    rw [hn k (by omega)]
    simp only [Option.bind_some]
    rw [w64 (by omega) (by omega), hm k (by omega)]
    rfl
  by_cases v2 : v = 2
  · obtain ⟨n, n0, n1, hn⟩ := pick_lt hb (p := p + 1) (by omega) (by omega) 40 (by omega)
    obtain ⟨s, q, hs, h2, h3, h⟩ := text_l0 n.toNat b (p + 1 + 1) n [] hb (by omega) (by omega) (by omega) (by omega) (by simp; omega)
    refine ⟨s, q, by simp at hs; omega, by omega, by omega, fun k hk => ?_⟩
    unfold spec_l11Text.f
    rw [hv k (by omega)]
    simp only [Option.bind_some]
    rw [if_neg v0, if_neg v1, if_pos v2, hn k (by omega)]
    simp only [Option.bind_some]
    exact h k (by omega)
  by_cases v3 : v = 3
  · obtain ⟨s, hs, hm⟩ := many_f (⟨#[113]⟩ : ByteArray) (by decide) (n := 300) (by omega) (by omega)
    refine ⟨s, p + 1, by rw [hs]; decide, by omega, by omega, fun k hk => ?_⟩
    unfold spec_l11Text.f
    rw [hv k (by omega)]
    simp only [Option.bind_some]
    rw [if_neg v0, if_neg v1, if_neg v2, if_pos v3, hm k (by omega)]
    rfl
  · obtain ⟨n, n0, n1, hn⟩ := pick_lt hb (p := p + 1) (by omega) (by omega) 12 (by omega)
    have hz : (⟨#[]⟩ : ByteArray).size = 0 := rfl
    obtain ⟨s, q, hs, h2, h3, h⟩ := text_l1 n.toNat b (p + 1 + 1) n (⟨#[]⟩ : ByteArray) hb (by omega) (by omega) (by omega) (by omega) (by omega)
    refine ⟨s, q, by omega, by omega, by omega, fun k hk => ?_⟩
    unfold spec_l11Text.f
    rw [hv k (by omega)]
    simp only [Option.bind_some]
    rw [if_neg v0, if_neg v1, if_neg v2, if_neg v3, hn k (by omega)]
    simp only [Option.bind_some]
    exact h k (by omega)
theorem anyText_f {b : List Int} (hb : Buf b) {p : Int} (hp0 : 0 ≤ p) (hp1 : p ≤ 800000) :
    ∃ s q, s.size ≤ 301 ∧ p ≤ q ∧ q ≤ p + 101 ∧ ∀ k, 60 ≤ k → spec_l11AnyText.f k b p = some (s, q) := by
  obtain ⟨v, h0, h1, hv⟩ := pick_lt hb hp0 (by omega) 16 (by omega)
  by_cases v0 : v = 0
  · obtain ⟨s, hs, hm⟩ := many_f (⟨#[113]⟩ : ByteArray) (by decide) (n := 301) (by omega) (by omega)
    refine ⟨s, p + 1, by rw [hs]; decide, by omega, by omega, fun k hk => ?_⟩
    unfold spec_l11AnyText.f
    rw [hv k (by omega)]
    simp only [Option.bind_some]
    rw [if_pos v0, hm k (by omega)]
    rfl
  · obtain ⟨s, q, hs, h2, h3, h⟩ := text_f hb (p := p + 1) (by omega) (by omega)
    refine ⟨s, q, by omega, by omega, by omega, fun k hk => ?_⟩
    unfold spec_l11AnyText.f
    rw [hv k (by omega)]
    simp only [Option.bind_some]
    rw [if_neg v0, h k (by omega)]
    rfl
theorem open_f {l : List Int} (h : ∀ x ∈ l, (Lit.int .u8 x).wf = true) : ∃ b, Buf b ∧ spec_l1Open.f l = some (b, 0) := by
  have hr : ∀ x ∈ l, 0 ≤ x ∧ x ≤ 255 := fun x hx => wf_u8 (h x hx)
  unfold spec_l1Open.f
  by_cases hl : (l.length : Int) > 2000
  · refine ⟨l.take 2000, ⟨fun x hx => hr x (List.mem_of_mem_take hx), by rw [List.length_take]; omega⟩, ?_⟩
    rw [if_pos hl, if_pos (by omega)]
  · exact ⟨l, ⟨hr, by omega⟩, by rw [if_neg hl]⟩
theorem DrawCrc_f {l : List Int} (h : ∀ x ∈ l, (Lit.int .u8 x).wf = true) : ∃ s, s.size ≤ 301 ∧ ∀ k, 60 ≤ k → spec_DrawCrc.f k l = some s := by
  obtain ⟨b, hb, ho⟩ := open_f h
  obtain ⟨s, q, hs, _, _, hk⟩ := anyText_f hb (p := 0) (by omega) (by omega)
  refine ⟨s, hs, fun k hk' => ?_⟩
  unfold spec_DrawCrc.f
  rw [ho]
  simp only [Option.bind_some]
  rw [hk k hk']
  rfl
theorem DrawAdler_f {l : List Int} (h : ∀ x ∈ l, (Lit.int .u8 x).wf = true) : ∃ s, s.size ≤ 301 ∧ ∀ k, 60 ≤ k → spec_DrawAdler.f k l = some s := by
  obtain ⟨b, hb, ho⟩ := open_f h
  obtain ⟨s, q, hs, _, _, hk⟩ := anyText_f hb (p := 0) (by omega) (by omega)
  refine ⟨s, hs, fun k hk' => ?_⟩
  unfold spec_DrawAdler.f
  rw [ho]
  simp only [Option.bind_some]
  rw [hk k hk']
  rfl
end Go.Proofs.Ythngbhjlikbbmaa.My
