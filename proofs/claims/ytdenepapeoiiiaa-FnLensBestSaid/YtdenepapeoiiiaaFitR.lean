/- Counts are halved as long as a length is too long: the reference's rounds end, and what they end with. -/
import Derived.Test.YtdenepapeoiiiaaPAllx0
import Derived.Test.YtdenepapeoiiiaaPAllx5
import Derived.Test.YtdenepapeoiiiaaPAllx6
import Derived.Test.YtdenepapeoiiiaaDeep3
namespace Go.Proofs.Ytdenepapeoiiiaa.My
open Go Go.RowKit Go.Proofs.YtdenepapeoiiiaaW.PrintWords Go.Proofs.YtdenepapeoiiiaaW.PrintLast Go.Proofs.YtdenepapeoiiiaaW.PrintMore Go.Proofs.Ytdenepapeoiiiaa.PAll

def half (c : List Int) : List Int := c.map (fun x => (x + 1) / 2)
theorem half_length (c : List Int) : (half c).length = c.length := by simp [half]
theorem half_at {c : List Int} {j : Nat} (h : j < (half c).length) : (half c)[j] = (c[j]'(by rw [← half_length c]; exact h) + 1) / 2 := by simp [half]
theorem half_used (c : List Int) (h : ∀ x ∈ c, 0 ≤ x) : used (half c) = used c := by
  unfold used half
  induction c with
  | nil => rfl
  | cons x r ih =>
    have h1 := h x (by simp)
    have h2 := ih (fun y hy => h y (by simp [hy]))
    rw [List.map_cons, List.countP_cons, List.countP_cons, h2]
    congr 1
    by_cases hx : 0 < x
    · have : 0 < (x + 1) / 2 := by omega
      simp [hx, this]
    · have : ¬ 0 < (x + 1) / 2 := by omega
      simp [hx, this]
theorem Cnt.half {c : List Int} (h : Cnt c) : Cnt (half c) where
  len := by rw [half_length]; exact h.len
  pos x hx := by
    obtain ⟨y, hy, rfl⟩ := List.mem_map.1 hx
    have := h.pos y hy
    omega
  top x hx := by
    obtain ⟨y, hy, rfl⟩ := List.mem_map.1 hx
    have := h.top y hy
    omega
def fitR : Nat → List Int → Int → List Int
  | 0, c, _ => lensL c
  | j + 1, c, most => if mostL (lensL c) 0 ≤ most then lensL c else fitR j (half c) most
/-- Counts that are enough for codes that are so long. -/
structure Fit (j : Nat) (c : List Int) (m : Nat) : Prop where
  cnt : Cnt c
  low : ∀ x ∈ c, x ≤ 2 ^ j
  m1 : 1 ≤ m
  u1 : 1 ≤ used c
  um : used c ≤ 2 ^ (m - 1)
theorem Fit.half {j : Nat} {c : List Int} {m : Nat} (h : Fit (j + 1) c m) : Fit j (half c) m where
  cnt := h.cnt.half
  low x hx := by
    obtain ⟨y, hy, rfl⟩ := List.mem_map.1 hx
    have := h.low y hy
    have e : (2 : Int) ^ (j + 1) = 2 * 2 ^ j := by rw [Int.pow_succ]; omega
    rw [e] at this
    generalize (2 : Int) ^ j = z at *
    omega
  m1 := h.m1
  u1 := by rw [half_used c h.cnt.pos]; exact h.u1
  um := by rw [half_used c h.cnt.pos]; exact h.um
/-- What is fitted are lengths of counts that come where those come. -/
theorem fitR_is : ∀ (j : Nat) (c : List Int) (m : Nat), Fit j c m → ∃ c', fitR j c m = lensL c' ∧ Cnt c' ∧ c'.length = c.length ∧ used c' = used c ∧ (∀ i : Nat, 0 < rd c' i ↔ 0 < rd c i) ∧ mostL (lensL c') 0 ≤ m
  | 0, c, m, h => ⟨c, rfl, h.cnt, rfl, rfl, fun _ => Iff.rfl, flat_most h.cnt h.u1 (fun x hx => by have := h.low x hx; simpa using this) h.m1 h.um⟩
  | j + 1, c, m, h => by
    rw [fitR]
    by_cases hm : mostL (lensL c) 0 ≤ (m : Int)
    · rw [if_pos hm]
      exact ⟨c, rfl, h.cnt, rfl, rfl, fun _ => Iff.rfl, hm⟩
    · rw [if_neg hm]
      obtain ⟨c', h1, h2, h3, h4, h5, h6⟩ := fitR_is j (My.half c) m h.half
      refine ⟨c', h1, h2, by rw [h3, half_length], by rw [h4, half_used c h.cnt.pos], fun i => (h5 i).trans ?_, h6⟩
      by_cases hi : i < c.length
      · rw [rdI hi, rdI (by rw [half_length]; exact hi), half_at (by rw [half_length]; exact hi)]
        have := h.cnt.pos _ (List.getElem_mem hi)
        omega
      · have e : ∀ l : List Int, l.length ≤ i → rd l (i : Int) = 0 := fun l hl => by unfold rd; simp [List.getElem?_eq_none hl]
        rw [e c (by omega), e _ (by rw [half_length]; omega)]
theorem fit_l1 (most : Int) (c : List Int) (hc : Cnt c) (r : List Int) (K : Nat) (hK : 130000 ≤ K) (next : ∀ k, K ≤ k → spec_l3Fit.l0 k most (half c) (lensL (half c)) = some r) (d : Nat) :
    ∀ (k i : Nat) (x : List Int), i ≤ c.length → c.length - i = d → x = (half c).take i ++ c.drop i → K + d + 1 ≤ k → spec_l3Fit.l1 k most x (i : Int) = some r := by
  have hlen := hc.len
  have hh := hc.half
  induction d with
  | zero =>
    intro k i x hi hd hx hk
    obtain ⟨k, rfl⟩ : ∃ m, k = m + 1 := ⟨k - 1, by omega⟩
    have e : x = half c := by rw [hx, List.drop_of_length_le (by omega), List.take_of_length_le (by rw [half_length]; omega), List.append_nil]
    have hl := half_length c
    rw [spec_l3Fit.l1, e, if_neg (by omega), l3Lens_f hh.len hh.top (by omega), Option.bind_some]
    exact next k (by omega)
  | succ d ih =>
    intro k i x hi hd hx hk
    obtain ⟨k, rfl⟩ : ∃ m, k = m + 1 := ⟨k - 1, by omega⟩
    have hil : i < c.length := by omega
    have hhl : i < (half c).length := by rw [half_length]; exact hil
    have htl : ((half c).take i).length = i := by rw [List.length_take]; omega
    have hxl : x.length = c.length := by rw [hx, List.length_append, htl, List.length_drop]; omega
    have e1 : rd x i = c[i] := by
      rw [hx, rdI (by rw [List.length_append, htl, List.length_drop]; omega), List.getElem_append_right (by omega)]
      simp [htl]
    have h0 := hc.pos _ (List.getElem_mem hil)
    have h1 := hc.top _ (List.getElem_mem hil)
    rw [spec_l3Fit.l1, if_pos (by omega), if_pos (by omega), e1, w64 (x := (i : Int) + 1) (by omega) (by omega), show ((i : Int) + 1) = ((i + 1 : Nat) : Int) by omega, w64 (x := c[i] + 1) (by omega) (by omega), tdiv_pos (by omega), w64 (by omega) (by omega), Int.toNat_natCast]
    refine ih k (i + 1) _ (by omega) (by omega) ?_ (by omega)
    rw [hx, List.set_append_right _ _ (by omega), htl, Nat.sub_self, List.drop_eq_getElem_cons hil, List.set_cons_zero, List.take_succ_eq_append_getElem hhl, half_at hhl, List.append_assoc]
    rfl
theorem fit_l0 (m : Nat) (j : Nat) : ∀ (c : List Int) (k K : Nat), Fit j c m → 400 * j ≤ K → 131000 + K ≤ k → spec_l3Fit.l0 k m c (lensL c) = some (fitR j c m) := by
  induction j with
  | zero =>
    intro c k K h hK hk
    obtain ⟨k, rfl⟩ : ∃ m, k = m + 1 := ⟨k - 1, by omega⟩
    have hl := lensL_length c
    have hc := h.cnt.len
    have := flat_most h.cnt h.u1 (fun x hx => by have := h.low x hx; simpa using this) h.m1 h.um
    rw [spec_l3Fit.l0, l3Most_f (by omega) (by omega), Option.bind_some, if_neg (by omega), fitR]
  | succ j ih =>
    intro c k K h hK hk
    obtain ⟨k, rfl⟩ : ∃ m, k = m + 1 := ⟨k - 1, by omega⟩
    have hl := lensL_length c
    have hc := h.cnt.len
    rw [spec_l3Fit.l0, l3Most_f (by omega) (by omega), Option.bind_some, fitR]
    by_cases hm : mostL (lensL c) 0 ≤ (m : Int)
    · rw [if_neg (by omega), if_pos hm]
    · rw [if_pos (by omega), if_neg hm]
      refine fit_l1 m c h.cnt _ (k - 350) (by omega) (fun k' hk' => ih (half c) k' (K - 400) h.half (by omega) (by omega)) c.length k 0 c (by omega) (by omega) (by simp) (by omega)
theorem fit_f {k : Nat} {c : List Int} {m : Nat} (h : Fit 18 c m) (hk : 140000 ≤ k) : spec_l3Fit.f k c m = some (fitR 18 c m) := by
  have hc := h.cnt.len
  unfold spec_l3Fit.f
  simp only [Option.bind_some, List.nil_append, List.length_nil, Nat.zero_add]
  rw [if_pos (by omega), l3Lens_f h.cnt.len h.cnt.top (by omega), Option.bind_some]
  exact fit_l0 m 18 c k 7200 h (by omega) (by omega)
theorem fitOk_fit {c : List Int} {most : Int} (h : fitOk c most) : ∃ m : Nat, most = m ∧ m ≤ 15 ∧ Fit 18 c m := by
  obtain ⟨h1, h2, h3, h4, h5, h6⟩ := h
  obtain ⟨m, rfl⟩ := Int.eq_ofNat_of_zero_le (show 0 ≤ most by omega)
  unfold inC at h4
  rw [List.all_eq_true] at h4
  have h7 : ∀ x ∈ c, 0 ≤ x ∧ x ≤ 100000 := fun x hx => by
    have := h4 x hx
    simp only [Bool.and_eq_true, decide_eq_true_eq] at this
    exact this
  refine ⟨m, rfl, by omega, ⟨h1, fun x hx => (h7 x hx).1, fun x hx => by have := (h7 x hx).2; omega⟩, fun x hx => ?_, by omega, h5, ?_⟩
  · have := (h7 x hx).2
    have e : (2 : Int) ^ 18 = 262144 := by decide
    rw [e]; omega
  · rw [Int.toNat_natCast] at h6
    have e : ((2 ^ (m - 1) : Nat) : Int) = (2 : Int) ^ (m - 1) := by simp
    rw [← e] at h6
    omega
/-- LensOf. -/
def lensR (c : List Int) (most : Int) : List Int := if fitOk c most then fitR 18 c most else []
theorem spec_LensOf_all {k : Nat} (c : List Int) (most : Int) (hk : 142000 ≤ k) : spec_LensOf.f k c most = some (lensR c most) := by
  refine spec_LensOf_f (K := 140000) (fun h k hk => ?_) (by omega)
  obtain ⟨m, rfl, _, hf⟩ := fitOk_fit h
  exact fit_f hf hk
theorem lensR_length (c : List Int) (most : Int) : (lensR c most).length ≤ c.length := by
  unfold lensR
  split
  · rename_i h
    obtain ⟨m, rfl, _, hf⟩ := fitOk_fit h
    obtain ⟨c', h1, h2, h3, _⟩ := fitR_is 18 c m hf
    rw [h1, lensL_length, h3]
    omega
  · simp
end Go.Proofs.Ytdenepapeoiiiaa.My
