/- The law FnBitsGet: what is read is written so. -/
import Derived.Test.YtfpbdojbnomnmaaPAllx32
import Derived.Test.YtfpbdojbnomnmaaPAllx33
import Derived.Test.YtfpbdojbnomnmaaReadFacts
import Derived.Test.YtfpbdojbnomnmaaPutFacts
import Derived.Test.YtfpbdojbnomnmaaLinkGetS
import Derived.Test.YtfpbdojbnomnmaaDrawBits
import Derived.Test.YtfpbdojbnomnmaaCbInts
namespace Go.Proofs.Ytfpbdojbnomnmaa.My
open Go Go.RowKit Go.Proofs.YtfpbdojbnomnmaaW.PrintWords Go.Proofs.YtfpbdojbnomnmaaW.PrintLast Go.Proofs.YtfpbdojbnomnmaaW.PrintMore Go.Proofs.Ytfpbdojbnomnmaa.PAll
open Go.Proofs.Ytfpbdojbnomnmaa.Bit

/-! ### Two rows alike -/
theorem rdI2 {l : List Int} {i : Nat} (h : i < l.length) : rd l (i : Int) = l[i] := by simp [rd, List.getElem?_eq_getElem h]
/-! ### Read and written again -/
theorem DrawGet_l (b : List Int) (hb : Buf b) (p : Int) (hp0 : 0 ≤ p) (hp1 : p ≤ 900000) (l : List S47) (hl : l.length ≤ 12) : ∃ s r, s.size ≤ 9000 ∧ r.length ≤ 13 ∧ ∀ d k i, i ≤ l.length → l.length - i = d → d + 2000 < k →
    spec_DrawBitsGet.l0 k l ((l.take i).map (fun q => q.f1)) (i : Int) b p = some (s, r) := by
  obtain ⟨v, v0, v1, hv⟩ := pick_lt hb (p := p) (by omega) (by omega) 6 (by omega)
  obtain ⟨y, _, hy⟩ := one_f hb (p := p + 1) (by omega) (by omega) ([1, 7, 17, (-1)] : List Int) (by simp)
  have main : ∃ s r, s.size ≤ 9000 ∧ r.length ≤ 13 ∧ ∀ k i, i ≤ l.length → l.length - i = 0 → 2000 < k → spec_DrawBitsGet.l0 k l ((l.take i).map (fun q => q.f1)) (i : Int) b p = some (s, r) := by
    have z1 := txt_small l
    have z2 := txt_small (l ++ [(⟨1, 1⟩ : S47)])
    by_cases h0 : v = 0
    · refine ⟨txt l, l.map (fun q => q.f1) ++ [y], by omega, by simp; omega, fun k i hi hd hk => ?_⟩
      obtain ⟨k, rfl⟩ : ∃ m, k = m + 1 := ⟨k - 1, by omega⟩
      rw [spec_DrawBitsGet.l0, if_neg (by omega), List.take_of_length_le (by omega), hv k (by omega), Option.bind_some]
      simp only []
      rw [if_pos h0, hy k (by omega), Option.bind_some, if_pos (by simp; omega), Pput l (by omega) (by omega), Option.bind_some]
    by_cases h1 : v = 1
    · refine ⟨txt l ++ (⟨#[0]⟩ : ByteArray), l.map (fun q => q.f1), by rw [ByteArray.size_append, show (⟨#[0]⟩ : ByteArray).size = 1 from rfl]; omega, by simp; omega, fun k i hi hd hk => ?_⟩
      obtain ⟨k, rfl⟩ : ∃ m, k = m + 1 := ⟨k - 1, by omega⟩
      rw [spec_DrawBitsGet.l0, if_neg (by omega), List.take_of_length_le (by omega), hv k (by omega), Option.bind_some]
      simp only []
      rw [if_neg h0, if_pos h1, Pput l (by omega) (by omega), Option.bind_some, if_pos (by omega)]
    by_cases h2 : v = 2
    · refine ⟨txt (l ++ [(⟨1, 1⟩ : S47)]), l.map (fun q => q.f1), by omega, by simp; omega, fun k i hi hd hk => ?_⟩
      obtain ⟨k, rfl⟩ : ∃ m, k = m + 1 := ⟨k - 1, by omega⟩
      rw [spec_DrawBitsGet.l0, if_neg (by omega), List.take_of_length_le (by omega), hv k (by omega), Option.bind_some]
      simp only []
      rw [if_neg h0, if_neg h1, if_pos h2, if_pos (by omega), Pput _ (by simp; omega) (by omega), Option.bind_some]
    · refine ⟨txt l, l.map (fun q => q.f1), by omega, by simp; omega, fun k i hi hd hk => ?_⟩
      obtain ⟨k, rfl⟩ : ∃ m, k = m + 1 := ⟨k - 1, by omega⟩
      rw [spec_DrawBitsGet.l0, if_neg (by omega), List.take_of_length_le (by omega), hv k (by omega), Option.bind_some]
      simp only []
      rw [if_neg h0, if_neg h1, if_neg h2, Pput l (by omega) (by omega), Option.bind_some]
  obtain ⟨s, r, hs, hr, hk⟩ := main
  refine ⟨s, r, hs, hr, fun d => ?_⟩
  induction d with
  | zero => exact fun k i hi hd hk' => hk k i hi hd (by omega)
  | succ d ih =>
    intro k i hi hd hk'
    obtain ⟨k, rfl⟩ : ∃ m, k = m + 1 := ⟨k - 1, by omega⟩
    rw [spec_DrawBitsGet.l0, if_pos (by omega), if_pos (by omega), if_pos (by simp; omega), rd_at (by omega), w64 (by omega) (by omega), show ((i : Int) + 1) = ((i + 1 : Nat) : Int) by omega]
    have := ih k (i + 1) (by omega) (by omega) (by omega)
    rw [List.take_succ_eq_append_getElem (by omega), List.map_append] at this
    exact this
theorem DrawBitsGet_f {l : List Int} (h : ∀ x ∈ l, (Lit.int .u8 x).wf = true) : ∃ s r, s.size ≤ 9000 ∧ r.length ≤ 13 ∧ ∀ k, 2100 ≤ k → spec_DrawBitsGet.f k l = some (s, r) := by
  obtain ⟨b, hb, ho⟩ := open_f h
  obtain ⟨m, q, hm, _, h1, h2, hk⟩ := pieces_f hb (p := 0) (by omega) (by omega)
  obtain ⟨s, r, hs, hr, hd⟩ := DrawGet_l b hb q (by omega) (by omega) m hm
  refine ⟨s, r, hs, hr, fun k hk' => ?_⟩
  unfold spec_DrawBitsGet.f
  rw [ho, Option.bind_some, hk k (by omega), Option.bind_some]
  exact hd m.length k 0 (by omega) (by omega) (by omega)
theorem Get_l (s : ByteArray) (l : List S47) (hl : l.length ≤ 400) (ht : txt l = s) (d : Nat) : ∀ (k i : Nat), i ≤ l.length → l.length - i = d → d + 2000 < k →
    laws_FnBitsGet.l0 k s (l.map (fun q => q.f1)) (l.map (fun q => q.f0)) (l.take i) (i : Int) = some true := by
  induction d with
  | zero =>
    intro k i hi hd hk
    obtain ⟨k, rfl⟩ : ∃ m, k = m + 1 := ⟨k - 1, by omega⟩
    rw [laws_FnBitsGet.l0, if_neg (by simp; omega), List.take_of_length_le (by omega), Iput _ (by omega) (by omega), Option.bind_some, ht]
    simp
  | succ d ih =>
    intro k i hi hd hk
    obtain ⟨k, rfl⟩ : ∃ m, k = m + 1 := ⟨k - 1, by omega⟩
    rw [laws_FnBitsGet.l0, if_pos (by simp; omega), if_pos (by omega), if_pos (by simp; omega), if_pos (by simp; omega), rdI2 (by simp; omega), rdI2 (by simp; omega), w64 (by omega) (by omega), show ((i : Int) + 1) = ((i + 1 : Nat) : Int) by omega]
    have := ih k (i + 1) (by omega) (by omega) (by omega)
    rw [List.take_succ_eq_append_getElem (by omega)] at this
    rw [List.getElem_map, List.getElem_map]
    exact this
theorem LawBitsGet : laws_FnBitsGet.Pure := by
  intro l _ _ hl
  obtain ⟨s, r, hs, hr, hd⟩ := DrawBitsGet_f hl
  refine ⟨5001, ?_⟩
  unfold laws_FnBitsGet.f
  by_cases hz : (l.length : Int) > 1048576
  · rw [if_pos hz]
  have hlen := getR_len s r
  have htx := fun x h => txt_get (s := s) (r := r) (x := x) h
  rw [if_neg hz, hd _ (by omega), Option.bind_some]
  simp only []
  rw [impl_BitsGet_f s (by omega) r (by omega), Option.bind_some, spec_BitsGet_f s (by omega) r (by omega), Option.bind_some]
  generalize getR s r = z at *
  obtain ⟨x, b⟩ := z
  simp only [] at hlen ⊢
  rw [if_neg (by simp), cbInts_f x (by omega) (by omega), Option.bind_some, if_pos rfl, laws_FnBitsGet.j0]
  cases b with
  | false =>
    rw [if_pos (by simp), if_pos (by simp), cbInts_f x (by omega) (by omega), Option.bind_some]
  | true =>
    rw [if_neg (by simp)]
    obtain ⟨m, h1, h2, h3, h4⟩ := htx x rfl
    have hm : m.length ≤ 400 := by rw [h1, List.length_map] at hr; omega
    subst h1 h2
    exact Get_l s m hm h4 m.length 5000 0 (by omega) (by omega) (by omega)
end Go.Proofs.Ytfpbdojbnomnmaa.My
