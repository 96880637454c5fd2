/- The program's LensOf is the reference's. -/
import Derived.Test.YtdenepapeoiiiaaPAllx0
import Derived.Test.YtdenepapeoiiiaaPAllx10
import Derived.Test.YtdenepapeoiiiaaLensI
import Derived.Test.YtdenepapeoiiiaaHeap
namespace Go.Proofs.Ytdenepapeoiiiaa.My
open Go Go.RowKit Go.Proofs.YtdenepapeoiiiaaW.PrintWords Go.Proofs.YtdenepapeoiiiaaW.PrintLast Go.Proofs.YtdenepapeoiiiaaW.PrintMore Go.Proofs.Ytdenepapeoiiiaa.PAll

theorem iMost_l (most : Int) (c l : List Int) (hl : l.length ≤ 1000) (r : List Int) (K : Nat) (next : ∀ k, K ≤ k → (if mostL l 0 ≤ most then (some l) else (impl_LensOf.l3 k most c (c.length : Int) 0)) = some r) (d : Nat) :
    ∀ (k i : Nat) (m : Int), i ≤ l.length → l.length - i = d → mostL (l.drop i) m = mostL l 0 → K + d < k → impl_LensOf.l2 k most c l m (l.length : Int) (i : Int) = some r := by
  induction d with
  | zero =>
    intro k i m hi hd hm hk
    obtain ⟨k, rfl⟩ : ∃ m, k = m + 1 := ⟨k - 1, by omega⟩
    rw [List.drop_of_length_le (by omega), mostL] at hm
    rw [impl_LensOf.l2, if_neg (by omega), hm]
    exact next k (by omega)
  | succ d ih =>
    intro k i m hi hd hm hk
    obtain ⟨k, rfl⟩ : ∃ m, k = m + 1 := ⟨k - 1, by omega⟩
    have hil : i < l.length := by omega
    rw [List.drop_eq_getElem_cons hil, mostL] at hm
    rw [impl_LensOf.l2, if_pos (by omega), if_pos (by omega), if_pos (by omega), rdI hil, w64 (by omega) (by omega), show ((i : Int) + 1) = ((i + 1 : Nat) : Int) by omega]
    refine ih k (i + 1) _ (by omega) (by omega) ?_ (by omega)
    rw [← hm]
    congr 1
theorem iHalf_l (most : Int) (c : List Int) (hc : Cnt c) (r : List Int) (K : Nat) (next : ∀ k, K ≤ k → impl_LensOf.l1 k most (half c) = some r) (d : Nat) :
    ∀ (k i : Nat) (x : List Int), i ≤ c.length → c.length - i = d → x = (half c).take i ++ c.drop i → K + d + 1 ≤ k → impl_LensOf.l3 k most x (c.length : Int) (i : Int) = some r := by
  have hlen := hc.len
  have hh := hc.half
  induction d with
  | zero =>
    intro k i x hi hd hx hk
    obtain ⟨k, rfl⟩ : ∃ m, k = m + 1 := ⟨k - 1, by omega⟩
    have e : x = half c := by rw [hx, List.drop_of_length_le (by omega), List.take_of_length_le (by rw [half_length]; omega), List.append_nil]
    rw [impl_LensOf.l3, e, if_neg (by omega)]
    exact next k (by omega)
  | succ d ih =>
    intro k i x hi hd hx hk
    obtain ⟨k, rfl⟩ : ∃ m, k = m + 1 := ⟨k - 1, by omega⟩
    have hil : i < c.length := by omega
    have hhl : i < (half c).length := by rw [half_length]; exact hil
    have htl : ((half c).take i).length = i := by rw [List.length_take]; omega
    have hxl : x.length = c.length := by rw [hx, List.length_append, htl, List.length_drop]; omega
    have e1 : rd x i = c[i] := by
      rw [hx, rdI (by rw [List.length_append, htl, List.length_drop]; omega), List.getElem_append_right (by omega)]
      simp [htl]
    have h0 := hc.pos _ (List.getElem_mem hil)
    have h1 := hc.top _ (List.getElem_mem hil)
    rw [impl_LensOf.l3, if_pos (by omega), if_pos (by omega), if_pos (by omega), e1, w64 (x := (i : Int) + 1) (by omega) (by omega), show ((i : Int) + 1) = ((i + 1 : Nat) : Int) by omega, w64 (x := c[i] + 1) (by omega) (by omega), tdiv_pos (by omega), w64 (by omega) (by omega), Int.toNat_natCast]
    refine ih k (i + 1) _ (by omega) (by omega) ?_ (by omega)
    rw [hx, List.set_append_right _ _ (by omega), htl, Nat.sub_self, List.drop_eq_getElem_cons hil, List.set_cons_zero, List.take_succ_eq_append_getElem hhl, half_at hhl, List.append_assoc]
    rfl
theorem iFit_l (m : Nat) (j : Nat) : ∀ (c : List Int) (k K : Nat), Fit j c m → 1000 * j ≤ K → 132000 + K ≤ k → impl_LensOf.l1 k m c = some (fitR j c m) := by
  induction j with
  | zero =>
    intro c k K h hK hk
    obtain ⟨k, rfl⟩ : ∃ m, k = m + 1 := ⟨k - 1, by omega⟩
    have hl := lensL_length c
    have hc := h.cnt.len
    have := flat_most h.cnt h.u1 (fun x hx => by have := h.low x hx; simpa using this) h.m1 h.um
    rw [impl_LensOf.l1, depths_f h.cnt.len h.cnt.top (by omega), Option.bind_some, fitR]
    have := iMost_l m c (lensL c) (by omega) (lensL c) 0 (fun k _ => by rw [if_pos (by omega)]) (lensL c).length k 0 0 (by omega) (by omega) (by simp) (by omega)
    exact this
  | succ j ih =>
    intro c k K h hK hk
    obtain ⟨k, rfl⟩ : ∃ m, k = m + 1 := ⟨k - 1, by omega⟩
    have hl := lensL_length c
    have hc := h.cnt.len
    rw [impl_LensOf.l1, depths_f h.cnt.len h.cnt.top (by omega), Option.bind_some, fitR]
    refine iMost_l m c (lensL c) (by omega) _ (k - 350) (fun k' hk' => ?_) (lensL c).length k 0 0 (by omega) (by omega) (by simp) (by omega)
    by_cases hm : mostL (lensL c) 0 ≤ (m : Int)
    · rw [if_pos hm, if_pos hm]
    · rw [if_neg hm, if_neg hm]
      exact iHalf_l m c h.cnt _ (k' - 350) (fun k2 hk2 => ih (half c) k2 (K - 1000) h.half (by omega) (by omega)) c.length k' 0 c (by omega) (by omega) (by simp) (by omega)
theorem iLens_l (c : List Int) (m : Nat) (hm : 1 ≤ m ∧ m ≤ 15) (hc : c.length ≤ 300) (d : Nat) :
    ∀ (k i u : Nat), i ≤ c.length → c.length - i = d → inC (c.take i) = true → u + used (c.drop i) = used c → u ≤ i → 160000 + d ≤ k →
      impl_LensOf.l0 k m (c.take i) (u : Int) c (c.length : Int) (i : Int) = some (lensR c m) := by
  induction d with
  | zero =>
    intro k i u hi hd hin hu hui hk
    obtain ⟨k, rfl⟩ : ∃ m, k = m + 1 := ⟨k - 1, by omega⟩
    rw [List.take_of_length_le (by omega)] at hin
    have e : u = used c := by
      rw [List.drop_of_length_le (by omega)] at hu
      simpa [used] using hu
    subst e
    have hu2 : used c ≤ c.length := List.countP_le_length
    have hp : 2 ^ (m - 1) ≤ 2 ^ 15 := Nat.pow_le_pow_right (by decide) (by omega)
    rw [impl_LensOf.l0, if_neg (by omega), List.take_of_length_le (by omega), w64 (by omega) (by omega), show ((m : Int) - 1) = ((m - 1 : Nat) : Int) by omega, if_pos (by omega), shl_one (by omega), within_f, Option.bind_some]
    unfold lensR
    have e2 : (2 : Int) ^ ((m : Int).toNat - 1) = ((2 ^ (m - 1) : Nat) : Int) := by rw [Int.toNat_natCast]; simp
    by_cases h : 1 ≤ used c ∧ (used c : Int) ≤ ((2 ^ (m - 1) : Nat) : Int)
    · have e3 : (decide ((1 : Int) ≤ (used c : Int)) && decide ((used c : Int) ≤ ((2 ^ (m - 1) : Nat) : Int))) = true := by simp only [Bool.and_eq_true, decide_eq_true_eq]; omega
      have hf : fitOk c (m : Int) := ⟨hc, by omega, by omega, hin, h.1, by rw [e2]; exact h.2⟩
      rw [if_pos e3, if_pos hf]
      obtain ⟨m', hm', _, hfit⟩ := fitOk_fit hf
      have : m' = m := by omega
      subst this
      exact iFit_l m' 18 c k 18000 hfit (by omega) (by omega)
    · have e3 : ¬ (decide ((1 : Int) ≤ (used c : Int)) && decide ((used c : Int) ≤ ((2 ^ (m - 1) : Nat) : Int))) = true := by simp only [Bool.and_eq_true, decide_eq_true_eq]; omega
      rw [if_neg e3, if_neg (fun x => h ⟨x.2.2.2.2.1, by rw [← e2]; exact x.2.2.2.2.2⟩)]
  | succ d ih =>
    intro k i u hi hd hin hu hui hk
    obtain ⟨k, rfl⟩ : ∃ m, k = m + 1 := ⟨k - 1, by omega⟩
    have hil : i < c.length := by omega
    rw [List.drop_eq_getElem_cons hil, used_cons] at hu
    have htl : (c.take i).length = i := by rw [List.length_take]; omega
    rw [impl_LensOf.l0, if_pos (by omega), if_pos (by omega), if_pos (by omega), rdI hil, within_f, Option.bind_some, w64 (x := (i : Int) + 1) (by omega) (by omega), show ((i : Int) + 1) = ((i + 1 : Nat) : Int) by omega]
    by_cases h : (decide (0 ≤ c[i]) && decide (c[i] ≤ 100000)) = true
    · have hin2 : inC (c.take (i + 1)) = true := by
        rw [List.take_succ_eq_append_getElem hil, inC, List.all_append, Bool.and_eq_true]
        exact ⟨hin, by simpa using h⟩
      rw [if_pos h, ← List.take_succ_eq_append_getElem hil]
      by_cases hp : c[i] > 0
      · rw [if_pos hp, if_pos (by omega), w64 (by omega) (by omega), show ((u : Int) + 1) = ((u + 1 : Nat) : Int) by omega]
        exact ih k (i + 1) (u + 1) (by omega) (by omega) hin2 (by rw [if_pos (by omega)] at hu; omega) (by omega) (by omega)
      · rw [if_neg hp, if_pos (by omega)]
        exact ih k (i + 1) u (by omega) (by omega) hin2 (by rw [if_neg (by omega)] at hu; omega) (by omega) (by omega)
    · have h2 : ¬ inC c = true := by
        intro hc2
        unfold inC at hc2
        rw [List.all_eq_true] at hc2
        exact h (hc2 _ (List.getElem_mem hil))
      rw [if_neg h]
      unfold lensR
      rw [if_neg (fun x => h2 x.2.2.2.1)]
theorem impl_LensOf_all {k : Nat} (c : List Int) (most : Int) (hk : 161000 ≤ k) : impl_LensOf.f k c most = some (lensR c most) := by
  obtain ⟨k, rfl⟩ : ∃ m, k = m + 1 := ⟨k - 1, by omega⟩
  unfold impl_LensOf.f
  by_cases h : (c.length : Int) > 300
  · rw [if_pos h, impl_LensOf.j0, if_pos rfl]
    unfold lensR
    rw [if_neg (fun x => by have := x.1; omega)]
  · rw [if_neg h, within_f, Option.bind_some, impl_LensOf.j0]
    by_cases h2 : 1 ≤ most ∧ most ≤ 15
    · have e : ¬ (!(decide (1 ≤ most) && decide (most ≤ 15))) = true := by simp [h2]
      obtain ⟨m, rfl⟩ := Int.eq_ofNat_of_zero_le (show 0 ≤ most by omega)
      rw [if_neg e]
      have := iLens_l c m (by omega) (by omega) c.length k 0 0 (by omega) (by omega) (by simp [inC]) (by simp) (by omega) (by omega)
      simpa using this
    · have e : (!(decide (1 ≤ most) && decide (most ≤ 15))) = true := by
        simp only [Bool.not_eq_true', Bool.and_eq_false_iff, decide_eq_false_iff_not]
        omega
      rw [if_pos e]
      unfold lensR
      rw [if_neg (fun x => h2 ⟨x.2.1, x.2.2.1⟩)]
end Go.Proofs.Ytdenepapeoiiiaa.My
