/- The printed functions that draw: a number, one of a list, the begin; each answers, and what is drawn is within small bounds. -/
import Derived.Test.YtfpbdojbnomnmaaPAllx5
import Derived.Test.YtfpbdojbnomnmaaPAllx16
import Derived.Test.YtfpbdojbnomnmaaBase
namespace Go.Proofs.Ytfpbdojbnomnmaa.My
open Go Go.RowKit Go.Proofs.YtfpbdojbnomnmaaW.PrintWords Go.Proofs.YtfpbdojbnomnmaaW.PrintLast Go.Proofs.YtfpbdojbnomnmaaW.PrintMore Go.Proofs.Ytfpbdojbnomnmaa.PAll

/-- A buffer of bytes, not too long. -/
def Buf (b : List Int) : Prop := (∀ x ∈ b, 0 ≤ x ∧ x ≤ 255) ∧ b.length ≤ 2000
theorem rd_range {b : List Int} (hb : Buf b) (i : Int) : 0 ≤ rd b i ∧ rd b i ≤ 255 := by
  unfold rd
  rw [List.getD_eq_getElem?_getD]
  rcases Nat.lt_or_ge i.toNat b.length with h | h
  · rw [List.getElem?_eq_getElem h]
    exact hb.1 _ (List.getElem_mem h)
  · rw [List.getElem?_eq_none h]
    exact ⟨by simp, by simp⟩
theorem pick_j {b : List Int} (hb : Buf b) (hne : (b.length : Int) ≠ 0) {p n : Int} (hp0 : 0 ≤ p) (hp1 : p ≤ 1000000) (hn : 1 ≤ n) :
    ∃ v, 0 ≤ v ∧ v < n ∧ ∀ k, 1 ≤ k → spec_l1Rd_pick.j0 k n false b (p + 1) = some (v, p + 1) := by
  have hw : wrap64 (p + 1 - 1) = p := by rw [w64 (by omega) (by omega)]; omega
  by_cases hlt : p < (b.length : Int)
  · have hr := rd_range hb p
    refine ⟨rd b p % n, Int.emod_nonneg _ (by omega), Int.emod_lt_of_pos _ (by omega), fun k hk => ?_⟩
    obtain ⟨k, rfl⟩ : ∃ m, k = m + 1 := ⟨k - 1, by omega⟩
    simp only [spec_l1Rd_pick.j0, hw, Bool.false_eq_true, if_false]
    rw [if_pos hlt, if_pos hp0, if_neg (by omega), w64 (by omega) (by omega), tmod_pos (by omega)]
  · have hl0 : 0 < (b.length : Int) := by omega
    have h7 : wrap64 (wrap64 (p * 7) + 3) = p * 7 + 3 := by rw [w64 (x := p * 7) (by omega) (by omega), w64 (by omega) (by omega)]
    have hA := rd_range hb (p % (b.length : Int))
    have hB := rd_range hb ((p * 7 + 3) % (b.length : Int))
    have hq : 0 ≤ p / (b.length : Int) := Int.ediv_nonneg hp0 (by omega)
    have hq2 : p / (b.length : Int) ≤ p := Int.ediv_le_self _ hp0
    generalize hAe : rd b (p % (b.length : Int)) = A at hA
    generalize hBe : rd b ((p * 7 + 3) % (b.length : Int)) = B at hB
    generalize hQe : p / (b.length : Int) = Q at hq hq2
    obtain ⟨m, hm, hm2⟩ := bits_xor64 (x := A * 131 + B * 1117 + p * 29 + Q * 53) (y := (A * 131 + B * 1117 + p * 29 + Q * 53) / 64) (by omega) (by omega) (by omega) (by omega)
    refine ⟨(m : Int) % n, Int.emod_nonneg _ (by omega), Int.emod_lt_of_pos _ (by omega), fun k hk => ?_⟩
    obtain ⟨k, rfl⟩ : ∃ m, k = m + 1 := ⟨k - 1, by omega⟩
    simp only [spec_l1Rd_pick.j0, hw, h7, Bool.false_eq_true, if_false]
    rw [if_neg hlt, if_neg (by omega), tmod_pos hp0, tmod_pos (x := p * 7 + 3) (by omega), tdiv_pos (x := p) hp0, hAe, hBe, hQe]
    rw [if_pos (Int.emod_nonneg _ (by omega)), if_pos (Int.emod_lt_of_pos _ (by omega)), if_pos (Int.emod_nonneg _ (by omega)), if_pos (Int.emod_lt_of_pos _ (by omega)), if_neg (by omega)]
    rw [w64 (x := A) (by omega) (by omega), w64 (x := B) (by omega) (by omega), w64 (x := A * 131) (by omega) (by omega), w64 (x := B * 1117) (by omega) (by omega), w64 (x := A * 131 + B * 1117) (by omega) (by omega),
      w64 (x := p * 29) (by omega) (by omega), w64 (x := A * 131 + B * 1117 + p * 29) (by omega) (by omega), w64 (x := Q) (by omega) (by omega), w64 (x := Q * 53) (by omega) (by omega), w64 (x := A * 131 + B * 1117 + p * 29 + Q * 53) (by omega) (by omega),
      tdiv_pos (by omega), w64 (x := (A * 131 + B * 1117 + p * 29 + Q * 53) / 64) (by omega) (by omega), hm, tmod_pos (by omega)]
/-- A number from 0 to n - 1, or 0 where n is below 1. -/
theorem pick_f {b : List Int} (hb : Buf b) {p : Int} (hp0 : 0 ≤ p) (hp1 : p ≤ 1000000) (n : Int) :
    ∃ v, 0 ≤ v ∧ (1 ≤ n → v < n) ∧ (n < 1 → v = 0) ∧ ∀ k, 1 ≤ k → spec_l1Rd_pick.f k b p n = some (v, p + 1) := by
  have hw : wrap64 (p + 1) = p + 1 := w64 (by omega) (by omega)
  by_cases hn : n < 1
  · refine ⟨0, by omega, fun h => by omega, fun _ => rfl, fun k hk => ?_⟩
    obtain ⟨k, rfl⟩ : ∃ m, k = m + 1 := ⟨k - 1, by omega⟩
    unfold spec_l1Rd_pick.f
    rw [if_pos hn, hw]
    simp [spec_l1Rd_pick.j0]
  · by_cases he : (b.length : Int) = 0
    · refine ⟨0, by omega, fun h => by omega, fun _ => rfl, fun k hk => ?_⟩
      obtain ⟨k, rfl⟩ : ∃ m, k = m + 1 := ⟨k - 1, by omega⟩
      unfold spec_l1Rd_pick.f
      rw [if_neg hn, hw, he]
      simp [spec_l1Rd_pick.j0]
    · obtain ⟨v, h0, h1, h⟩ := pick_j hb he hp0 hp1 (n := n) (by omega)
      refine ⟨v, h0, fun _ => h1, fun h => by omega, fun k hk => ?_⟩
      unfold spec_l1Rd_pick.f
      rw [if_neg hn, hw, show ((b.length : Int) == 0) = false from by simpa using he]
      exact h k hk
theorem pick_lt {b : List Int} (hb : Buf b) {p : Int} (hp0 : 0 ≤ p) (hp1 : p ≤ 1000000) (n : Int) (hn : 1 ≤ n) :
    ∃ v, 0 ≤ v ∧ v < n ∧ ∀ k, 1 ≤ k → spec_l1Rd_pick.f k b p n = some (v, p + 1) := by
  obtain ⟨v, h0, h1, _, h⟩ := pick_f hb hp0 hp1 n
  exact ⟨v, h0, h1 hn, h⟩
/-- One of a list. -/
theorem one_f {b : List Int} (hb : Buf b) {p : Int} (hp0 : 0 ≤ p) (hp1 : p ≤ 1000000) (l : List Int) (hl : l ≠ []) :
    ∃ v, v ∈ l ∧ ∀ k, 1 ≤ k → spec_l1Rd_one.f k b p l = some (v, p + 1) := by
  have hlen : 0 < l.length := List.length_pos_iff.2 hl
  obtain ⟨v, h0, h1, h⟩ := pick_lt hb hp0 hp1 (l.length : Int) (by omega)
  refine ⟨rd l v, ?_, fun k hk => ?_⟩
  · unfold rd
    rw [List.getD_eq_getElem?_getD, List.getElem?_eq_getElem (show v.toNat < l.length by omega)]
    exact List.getElem_mem _
  · unfold spec_l1Rd_one.f
    rw [h k hk]
    simp only [Option.bind_some]
    rw [if_pos h0, if_pos h1]
theorem open_f {l : List Int} (h : ∀ x ∈ l, (Lit.int .u8 x).wf = true) : ∃ b, Buf b ∧ spec_l1Open.f l = some (b, 0) := by
  have hr : ∀ x ∈ l, 0 ≤ x ∧ x ≤ 255 := fun x hx => wf_u8 (h x hx)
  unfold spec_l1Open.f
  by_cases hl : (l.length : Int) > 2000
  · refine ⟨l.take 2000, ⟨fun x hx => hr x (List.mem_of_mem_take hx), by rw [List.length_take]; omega⟩, ?_⟩
    rw [if_pos hl, if_pos (by omega)]
  · exact ⟨l, ⟨hr, by omega⟩, by rw [if_neg hl]⟩
end Go.Proofs.Ytfpbdojbnomnmaa.My
