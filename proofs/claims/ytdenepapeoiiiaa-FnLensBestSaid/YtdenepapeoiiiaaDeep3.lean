/- Lengths that are made of counts: a code, none deeper than may be, the more often the shorter. Plain. -/
import Derived.Test.YtdenepapeoiiiaaPAllx0
import Derived.Test.YtdenepapeoiiiaaDeep2
namespace Go.Proofs.Ytdenepapeoiiiaa.My
open Go Go.RowKit Go.Proofs.YtdenepapeoiiiaaW.PrintWords Go.Proofs.YtdenepapeoiiiaaW.PrintLast Go.Proofs.YtdenepapeoiiiaaW.PrintMore Go.Proofs.Ytdenepapeoiiiaa.PAll

/-- Counts that make lengths. -/
structure Cnt (c : List Int) : Prop where
  len : c.length ≤ 300
  pos : ∀ x ∈ c, 0 ≤ x
  top : ∀ x ∈ c, x ≤ 200000
theorem Cnt.ok {c : List Int} (h : Cnt c) : Ok c.length (ini c 0) := ini_ok h.len h.top
theorem ini_used : ∀ (c : List Int) (i : Nat), (ini c i).length = used c
  | [], _ => by simp [ini, used]
  | x :: r, i => by
    rw [ini, used_cons]
    by_cases h : 0 < x
    · rw [if_pos h, if_pos h, List.length_cons, ini_used r]; omega
    · rw [if_neg h, if_neg h, ini_used r]; omega
theorem ini_at {c : List Int} {j : Nat} (hj : j < c.length) (h : 0 < c[j]) : (⟨c[j], (j : Int), [(j : Int)]⟩ : S48) ∈ ini c 0 := (ini_mem c 0 _).2 ⟨j, hj, h, by simp⟩
theorem not_sym {c : List Int} {j : Nat} (hj : j < c.length) (h : ¬ 0 < c[j]) : (j : Int) ∉ syms (ini c 0) := by
  intro hm
  obtain ⟨t, ht, hs⟩ := List.mem_flatMap.1 hm
  obtain ⟨i, hi, hp, rfl⟩ := (ini_mem c 0 t).1 ht
  simp only [List.mem_singleton] at hs
  have : i = j := by omega
  subst this
  exact h hp
theorem lenOf_two {c : List Int} (h : 2 ≤ used c) (j : Nat) : lenOf c j = dp (ini c 0) j := by
  unfold lenOf dp
  rw [ini_used, if_neg (fun x => by have := x.1; omega)]
  omega
theorem lenOf_none {c : List Int} (hc : Cnt c) {j : Nat} (hj : j < c.length) (h : ¬ 0 < c[j]) : lenOf c j = 0 := by
  have h1 := dp_none _ _ rfl hc.ok _ (not_sym hj h)
  unfold lenOf
  rw [show dep (ini c 0).length (ini c 0) (j : Int) = dp (ini c 0) j from rfl, h1, if_neg]
  rintro ⟨e1, e2⟩
  have hm : (ini c 0).getD 0 z48 ∈ ini c 0 := by
    rw [List.getD_eq_getElem?_getD, List.getElem?_eq_getElem (show 0 < (ini c 0).length by omega)]
    exact List.getElem_mem _
  have := (hc.ok.low _ hm).1
  rw [← e2] at this
  exact not_sym hj h (syms_mem hm this)
theorem lenOf_one {c : List Int} (_hc : Cnt c) (h : used c = 1) {j : Nat} (hj : j < c.length) (hp : 0 < c[j]) : lenOf c j = 1 := by
  have hl : (ini c 0).length = 1 := by rw [ini_used]; exact h
  have hm := ini_at hj hp
  unfold lenOf
  rw [show dep (ini c 0).length (ini c 0) (j : Int) = dp (ini c 0) j from rfl, dp_one (by omega)]
  match hi : ini c 0, hl with
  | [t], _ =>
    rw [hi] at hm
    have e := List.mem_singleton.1 hm
    rw [if_pos ⟨rfl, by rw [← e]; rfl⟩]
theorem lenOf_pos {c : List Int} (hc : Cnt c) (hu : 1 ≤ used c) {j : Nat} (hj : j < c.length) : 0 < lenOf c j ↔ 0 < c[j] := by
  by_cases h : 0 < c[j]
  · refine ⟨fun _ => h, fun _ => ?_⟩
    by_cases h1 : used c = 1
    · rw [lenOf_one hc h1 hj h]; omega
    · rw [lenOf_two (by omega)]
      exact deep _ _ rfl (by rw [ini_used]; omega) hc.ok _ (ini_at hj h)
  · rw [lenOf_none hc hj h]
    omega
/-! ### A list of values of places -/
def tab (g : Nat → Nat) : Nat → Nat → List Int
  | _, 0 => []
  | i, n + 1 => (g i : Int) :: tab g (i + 1) n
theorem tab_length (g : Nat → Nat) : ∀ n i, (tab g i n).length = n
  | 0, _ => rfl
  | n + 1, i => by rw [tab, List.length_cons, tab_length g n]
theorem tab_get (g : Nat → Nat) : ∀ n i j (h : j < (tab g i n).length), (tab g i n)[j] = (g (i + j) : Int)
  | 0, _, _, h => by simp [tab] at h
  | n + 1, i, 0, _ => by simp [tab]
  | n + 1, i, j + 1, h => by
    simp only [tab, List.getElem_cons_succ]
    rw [tab_get g n (i + 1) j, show i + 1 + j = i + (j + 1) by omega]
theorem lensL_tab {c : List Int} (hc : Cnt c) : lensL c = tab (lenOf c) 0 c.length := by
  refine List.ext_getElem (by rw [lensL_length, tab_length]) fun j h1 h2 => ?_
  rw [lensL_length] at h1
  have := lensL_rd hc.len hc.top h1
  rw [rdI (by rw [lensL_length]; exact h1)] at this
  rw [this, tab_get, Nat.zero_add]
theorem tab_ks {g : Nat → Nat} : ∀ (c : List Int) (i : Nat), (∀ j (h : j < c.length), g (i + j) ≤ 15 ∧ (0 < g (i + j) ↔ 0 < c[j])) → ks (tab g i c.length) = ksum 15 (fun t => g t.f1.toNat) (ini c i)
  | [], i, _ => by simp [tab, ks, ini, ksum]
  | x :: r, i, h => by
    obtain ⟨h15, h0⟩ := h 0 (by simp)
    simp only [Nat.add_zero, List.getElem_cons_zero] at h15 h0
    have ih := tab_ks r (i + 1) (fun j hj => by
      have := h (j + 1) (by simp; omega)
      simp only [List.getElem_cons_succ] at this
      rwa [show i + 1 + j = i + (j + 1) by omega])
    rw [List.length_cons, tab, ks_cons, ih, ini]
    by_cases hx : 0 < x
    · have := h0.2 hx
      rw [if_pos hx, ksum]
      unfold wt
      rw [if_pos (by omega)]
      simp
    · have : ¬ 0 < g i := fun z => hx (h0.1 z)
      rw [if_neg hx]
      unfold wt
      rw [if_neg (by omega)]
      omega
theorem tab_used {g : Nat → Nat} : ∀ (c : List Int) (i : Nat), (∀ j (h : j < c.length), (0 < g (i + j) ↔ 0 < c[j])) → used (tab g i c.length) = used c
  | [], i, _ => by simp [tab, used]
  | x :: r, i, h => by
    have h0 := h 0 (by simp)
    simp only [Nat.add_zero, List.getElem_cons_zero] at h0
    have ih := tab_used r (i + 1) (fun j hj => by
      have := h (j + 1) (by simp; omega)
      simp only [List.getElem_cons_succ] at this
      rwa [show i + 1 + j = i + (j + 1) by omega])
    rw [List.length_cons, tab, used_cons, used_cons, ih]
    by_cases hx : 0 < x
    · have := h0.2 hx
      rw [if_pos hx, if_pos (by omega)]
    · have : ¬ 0 < g i := fun z => hx (h0.1 z)
      rw [if_neg hx, if_neg (by omega)]
theorem lensL_used {c : List Int} (hc : Cnt c) (hu : 1 ≤ used c) : used (lensL c) = used c := by
  rw [lensL_tab hc]
  refine tab_used c 0 (fun j hj => ?_)
  rw [Nat.zero_add]
  exact lenOf_pos hc hu hj
/-- Kraft's sum of lengths that are no longer than 15. -/
theorem lensL_ks {c : List Int} (hc : Cnt c) (hu : 2 ≤ used c) (h15 : ∀ j, j < c.length → lenOf c j ≤ 15) : ks (lensL c) = 32768 := by
  have hok := hc.ok
  rw [lensL_tab hc, tab_ks c 0 (fun j hj => ⟨by rw [Nat.zero_add]; exact h15 j hj, by rw [Nat.zero_add]; exact lenOf_pos hc (by omega) hj⟩)]
  have hne : ini c 0 ≠ [] := by intro e; have := ini_used c 0; rw [e] at this; simp at this; omega
  have e : ∀ t ∈ ini c 0, lenOf c t.f1.toNat = dp (ini c 0) t.f1 := fun t ht => by
    obtain ⟨j, hj, hp, rfl⟩ := (ini_mem c 0 t).1 ht
    simp only [Nat.zero_add, Int.toNat_natCast]
    exact lenOf_two hu j
  rw [ksum_congr e, kraft _ _ rfl hne hok 15 (fun t ht => by
    rw [← e t ht]
    obtain ⟨j, hj, hp, rfl⟩ := (ini_mem c 0 t).1 ht
    simp only [Nat.zero_add, Int.toNat_natCast]
    exact h15 j hj)]
theorem lensL_mem {c : List Int} (hc : Cnt c) {x : Int} (hx : x ∈ lensL c) : ∃ j, j < c.length ∧ x = lenOf c j := by
  obtain ⟨j, hj, rfl⟩ := List.mem_iff_getElem.1 hx
  have hj2 := hj
  rw [lensL_length] at hj2
  refine ⟨j, hj2, ?_⟩
  have := lensL_rd hc.len hc.top hj2
  rwa [rdI hj] at this
theorem lenOf_most {c : List Int} (hc : Cnt c) {B : Int} (h : mostL (lensL c) 0 ≤ B) {j : Nat} (hj : j < c.length) : (lenOf c j : Int) ≤ B := by
  have h1 := (le_mostL (lensL c) 0).2 (rd (lensL c) j) (by rw [rdI (by rw [lensL_length]; exact hj)]; exact List.getElem_mem _)
  rw [lensL_rd hc.len hc.top hj] at h1
  omega
/-- Lengths that are made make a code. -/
theorem lensL_ok {c : List Int} (hc : Cnt c) (hu : 1 ≤ used c) (h : mostL (lensL c) 0 ≤ 15) : okLens (lensL c) = true := by
  have h15 : ∀ j, j < c.length → lenOf c j ≤ 15 := fun j hj => by have := lenOf_most hc h hj; omega
  have hr : rng (lensL c) = true := by
    unfold rng
    rw [List.all_eq_true]
    intro x hx
    obtain ⟨j, hj, rfl⟩ := lensL_mem hc hx
    have := h15 j hj
    simp only [Bool.and_eq_true, decide_eq_true_eq]
    omega
  have hl := hc.len
  unfold okLens fits
  rw [hr, lensL_length, lensL_used hc hu]
  by_cases h1 : used c = 1
  · have e : ks (lensL c) = 16384 := by
      rw [lensL_tab hc, tab_ks c 0 (fun j hj => ⟨by rw [Nat.zero_add]; exact h15 j hj, by rw [Nat.zero_add]; exact lenOf_pos hc hu hj⟩)]
      have hi := ini_used c 0
      match hm : ini c 0 with
      | [] => rw [hm] at hi; simp at hi; omega
      | [t] =>
        obtain ⟨j, hj, hp, e⟩ := (ini_mem c 0 t).1 (by rw [hm]; simp)
        simp only [ksum]
        have e2 : t.f1.toNat = j := by rw [e]; simp
        rw [e2, lenOf_one hc h1 hj hp]
      | t :: u :: l => rw [hm] at hi; simp at hi; omega
    rw [e, h1]
    simp [hl]
  · rw [lensL_ks hc (by omega) h15]
    simp [hl]
/-! ### The more often, the shorter -/
theorem len_more {c : List Int} (hc : Cnt c) (hu : 1 ≤ used c) {i j : Nat} (hi : i < c.length) (hj : j < c.length) (h0 : 0 < c[j]) (h : c[j] < c[i]) : lenOf c i ≤ lenOf c j := by
  by_cases h1 : used c = 1
  · rw [lenOf_one hc h1 hi (by omega), lenOf_one hc h1 hj h0]; omega
  · rw [lenOf_two (by omega), lenOf_two (by omega)]
    exact (heavy _ _ rfl hc.ok).m1 _ (ini_at hi (by omega)) _ (ini_at hj h0) h
theorem len_same {c : List Int} (hc : Cnt c) (hu : 1 ≤ used c) {i j : Nat} (hi : i < c.length) (hj : j < c.length) (h0 : 0 < c[j]) (h : c[j] ≤ c[i]) : lenOf c i ≤ lenOf c j + 1 := by
  by_cases h1 : used c = 1
  · rw [lenOf_one hc h1 hi (by omega), lenOf_one hc h1 hj h0]; omega
  · rw [lenOf_two (by omega), lenOf_two (by omega)]
    refine (heavy _ _ rfl hc.ok).m3 _ (ini_at hi (by omega)) _ (ini_at hj h0) (fun x hx _ => ?_)
    have := hc.ok.pos x hx
    show c[j] < c[i] + x.f0
    omega
/-- Of as many as 2 to m - 1 at most, all of one count, none is longer than m. -/
theorem flat_most {c : List Int} (hc : Cnt c) (hu : 1 ≤ used c) (h1 : ∀ x ∈ c, x ≤ 1) {m : Nat} (hm : 1 ≤ m) (hum : used c ≤ 2 ^ (m - 1)) : mostL (lensL c) 0 ≤ m := by
  refine mostL_le _ _ (fun x hx => ?_) (by omega)
  obtain ⟨j, hj, rfl⟩ := lensL_mem hc hx
  by_cases hj0 : 0 < c[j]
  · by_cases hu1 : used c = 1
    · rw [lenOf_one hc hu1 hj hj0]; omega
    · apply Classical.byContradiction
      intro hgt
      have hok := hc.ok
      have hb := dep_le (ini c 0).length (ini c 0)
      have hlen := ini_used c 0
      have hne : ini c 0 ≠ [] := by intro e; rw [e] at hlen; simp at hlen; omega
      rw [lenOf_two (by omega)] at hgt
      -- all lie as deep as m at least
      have all : ∀ t ∈ ini c 0, m ≤ dp (ini c 0) t.f1 := fun t ht => by
        obtain ⟨i, hi, hp, rfl⟩ := (ini_mem c 0 t).1 ht
        have := len_same hc hu (i := j) (j := i) hj hi hp (by have := h1 c[i] (List.getElem_mem hi); omega)
        rw [lenOf_two (by omega), lenOf_two (by omega)] at this
        simp only [Nat.zero_add]
        omega
      have hk := kraft _ _ rfl hne hok (used c) (fun t ht => by
        have := hb t.f1
        unfold dp
        omega)
      have hmu : m ≤ used c := by
        have := hb (j : Int)
        have e : dp (ini c 0) (j : Int) = dep (ini c 0).length (ini c 0) (j : Int) := rfl
        omega
      have small : ∀ l : List S48, (∀ t ∈ l, m ≤ dp (ini c 0) t.f1) → ksum (used c) (fun t => dp (ini c 0) t.f1) l ≤ l.length * 2 ^ (used c - m) := by
        intro l
        induction l with
        | nil => intro _; simp [ksum]
        | cons t l ih =>
          intro hl
          have i1 := ih (fun x hx => hl x (by simp [hx]))
          have i2 : 2 ^ (used c - dp (ini c 0) t.f1) ≤ 2 ^ (used c - m) := Nat.pow_le_pow_right (by decide) (by have := hl t (by simp); omega)
          rw [ksum, List.length_cons, Nat.add_mul]
          omega
      have hs := small _ all
      rw [hk, hlen] at hs
      have e1 : used c * 2 ^ (used c - m) ≤ 2 ^ (m - 1) * 2 ^ (used c - m) := Nat.mul_le_mul_right _ hum
      rw [← Nat.pow_add] at e1
      have e2 : 2 ^ (m - 1 + (used c - m)) < 2 ^ used c := Nat.pow_lt_pow_right (by decide) (by omega)
      omega
  · rw [lenOf_none hc hj hj0]; omega
end Go.Proofs.Ytdenepapeoiiiaa.My
