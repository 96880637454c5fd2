/- The law FnCodesFirst. -/
import Derived.Test.YtopkembjkoljgaaPAllx0
import Derived.Test.YtopkembjkoljgaaPAllx14
import Derived.Test.YtopkembjkoljgaaPAllx15
import Derived.Test.YtopkembjkoljgaaPAllx16
import Derived.Test.YtopkembjkoljgaaPAllx19
import Derived.Test.YtopkembjkoljgaaDrawM
import Derived.Test.YtopkembjkoljgaaML
import Derived.Test.YtopkembjkoljgaaCodesR
import Derived.Test.YtopkembjkoljgaaCbInts
import Derived.Test.YtopkembjkoljgaaPow
import Derived.Test.YtopkembjkoljgaaCbUsed
import Derived.Test.YtopkembjkoljgaaCodesAt
namespace Go.Proofs.Ytopkembjkoljgaa.My
open Go Go.RowKit Go.Proofs.YtopkembjkoljgaaW.PrintWords Go.Proofs.YtopkembjkoljgaaW.PrintLast Go.Proofs.YtopkembjkoljgaaW.PrintMore Go.Proofs.Ytopkembjkoljgaa.PAll

/-! ### The first of the shortest, the last of the longest -/
def FInv (l : List Int) (first last : Int) (i : Nat) : Prop :=
  (first = -1 ∧ last = -1 ∧ ∀ j : Nat, j < i → rd l j ≤ 0) ∨
  (∃ f la : Nat, first = f ∧ last = la ∧ f < i ∧ la < i ∧ 1 ≤ rd l f ∧ 1 ≤ rd l la ∧ (∀ j : Nat, j < i → 1 ≤ rd l j → rd l f ≤ rd l j ∧ rd l j ≤ rd l la) ∧
    (∀ j : Nat, j < f → 1 ≤ rd l j → rd l f < rd l j) ∧ (∀ j : Nat, la < j → j < i → 1 ≤ rd l j → rd l j < rd l la))
theorem cnt_zero {l : List Int} {n : Nat} (h : ∀ j : Nat, j < l.length → rd l j ≠ (n : Int)) : cnt l n = 0 := by
  unfold cnt
  rw [List.count_eq_zero]
  intro hm
  obtain ⟨j, hj, e⟩ := List.mem_iff_getElem.1 hm
  exact h j hj (by rw [rd_int_at hj, e])
theorem fst_zero (l : List Int) : ∀ n, (∀ m, m < n → cnt l (m + 1) = 0) → fst l n = 0
  | 0, _ => rfl
  | n + 1, h => by
    rw [fst, fst_zero l n (fun m hm => h m (by omega)), h n (by omega)]
theorem count_take_zero {l : List Int} {f : Nat} {x : Int} (hf : f ≤ l.length) (h : ∀ j : Nat, j < f → rd l j ≠ x) : (l.take f).count x = 0 := by
  rw [List.count_eq_zero]
  intro hm
  obtain ⟨j, hj, e⟩ := List.mem_iff_getElem.1 hm
  rw [List.length_take] at hj
  rw [List.getElem_take] at e
  exact h j (by omega) (by rw [rd_int_at (by omega), e])
theorem count_last {l : List Int} {la : Nat} {x : Int} (hla : la < l.length) (hx : rd l la = x) (h : ∀ j : Nat, la < j → j < l.length → rd l j ≠ x) : (l.take la).count x + 1 = l.count x := by
  have h2 : l = l.take la ++ l.drop la := (List.take_append_drop la l).symm
  have h3 : l.count x = (l.take la).count x + (l.drop la).count x := by
    conv => lhs; rw [h2]
    rw [List.count_append]
  rw [List.drop_eq_getElem_cons hla, List.count_cons] at h3
  have h4 : (l.drop (la + 1)).count x = 0 := by
    rw [List.count_eq_zero]
    intro hm
    obtain ⟨j, hj, e⟩ := List.mem_iff_getElem.1 hm
    rw [List.length_drop] at hj
    rw [List.getElem_drop] at e
    exact h (la + 1 + j) (by omega) (by omega) (by rw [rd_int_at (by omega), e])
  rw [rd_int_at hla] at hx
  rw [hx, h4] at h3
  simp at h3
  omega
theorem ksn_all {l : List Int} {n : Nat} (h : ∀ j : Nat, j < l.length → rd l j ≤ (n : Int)) : ksn l n = ks l := by
  unfold ksn ks
  congr 1
  refine List.map_congr_left (fun x hx => ?_)
  obtain ⟨j, hj, e⟩ := List.mem_iff_getElem.1 hx
  have := h j hj
  rw [rd_int_at hj, e] at this
  unfold wtn wt
  by_cases h0 : 0 < x
  · rw [if_pos ⟨h0, this⟩, if_pos h0]
  · rw [if_neg h0, if_neg (fun y => h0 y.1)]
theorem code_first {l : List Int} {f : Nat} (hf : f < l.length) (h1 : 1 ≤ rd l f) (h2 : ∀ j : Nat, j < l.length → 1 ≤ rd l j → rd l f ≤ rd l j) (h3 : ∀ j : Nat, j < f → 1 ≤ rd l j → rd l f < rd l j) : code l f = 0 := by
  unfold code
  rw [count_take_zero (by omega) (fun j hj e => by have := h3 j hj (by omega); omega), fst_zero]
  intro m hm
  refine cnt_zero (fun j hj e => ?_)
  have := h2 j hj (by omega)
  omega
theorem code_last {l : List Int} (hs : ks l = 32768) {la : Nat} (hla : la < l.length) {n : Nat} (hn : rd l la = n) (n1 : 1 ≤ n) (n2 : n ≤ 15) (h2 : ∀ j : Nat, j < l.length → 1 ≤ rd l j → rd l j ≤ rd l la) (h3 : ∀ j : Nat, la < j → j < l.length → 1 ≤ rd l j → rd l j < rd l la) : code l la + 1 = 2 ^ n := by
  have e1 := count_last hla hn (fun j hj hj2 e => by have := h3 j hj hj2 (by omega); omega)
  have e2 := fst_ksn l (n - 1) (by omega)
  have e3 := ksn_succ l (n - 1)
  have e4 : ksn l n = ks l := ksn_all (fun j hj => by
    by_cases h : 1 ≤ rd l j
    · have := h2 j hj h; omega
    · omega)
  rw [show n - 1 + 1 = n by omega] at e3
  have e5 : 15 - (n - 1) = (15 - n) + 1 := by omega
  rw [e5, Nat.pow_succ] at e2
  have e6 : 2 ^ n * 2 ^ (15 - n) = 32768 := by rw [← Nat.pow_add, show n + (15 - n) = 15 by omega]
  have hz : 0 < 2 ^ (15 - n) := Nat.pow_pos (by decide)
  unfold code
  rw [hn, Int.toNat_natCast]
  unfold cnt at e3
  generalize 2 ^ (15 - n) = z at *
  have e7 : fst l (n - 1) * (z * 2) = 2 * (fst l (n - 1) * z) := by rw [← Nat.mul_assoc, Nat.mul_comm]
  have e8 : (fst l (n - 1) + l.count (n : Int)) * z = 2 ^ n * z := by rw [Nat.add_mul]; omega
  have := Nat.eq_of_mul_eq_mul_right hz e8
  omega
theorem first_l (l : List Int) (hk : okLens l = true) (hl : l.length ≤ 300) (d : Nat) : ∀ (k i : Nat) (first last : Int), i ≤ l.length → l.length - i = d → FInv l first last i → 2 * d + 2000 ≤ k → laws_FnCodesFirst.l0 k l (codesL l) first last (i : Int) = some true := by
  have hcl := codesL_length l
  induction d with
  | zero =>
    intro k i first last hi hd hv hk2
    obtain ⟨k, rfl⟩ : ∃ m, k = m + 1 := ⟨k - 1, by omega⟩
    have e : i = l.length := by omega
    subst e
    have hpos : ∃ j : Nat, j < l.length ∧ 1 ≤ rd l j := by
      apply Classical.byContradiction
      intro hno
      have h2 := hk
      simp only [okLens, fits, Bool.and_eq_true, Bool.or_eq_true, decide_eq_true_eq] at h2
      have h3 : ks l = 0 := by
        have := ksn_all (l := l) (n := 0) (fun j hj => by
          apply Classical.byContradiction
          intro hx
          exact hno ⟨j, hj, by omega⟩)
        rw [ksn_zero] at this
        omega
      omega
    rcases hv with ⟨_, _, h⟩ | ⟨f, la, rfl, rfl, hf, hla, f1, la1, hall, hfst, hlst⟩
    · obtain ⟨j, hj, hj1⟩ := hpos
      have := h j hj
      omega
    obtain ⟨n, hn, n1, n2, hcn, hbn⟩ := codes_at hk hf (by omega)
    obtain ⟨m, hm, m1, m2, hcm, hbm⟩ := codes_at hk hla (by omega)
    have c0 := code_first hf f1 (fun j hj hj1 => (hall j hj hj1).1) hfst
    have pm : 2 ^ m ≤ 2 ^ 15 := Nat.pow_le_pow_right (by decide) m2
    rw [laws_FnCodesFirst.l0, if_neg (by omega), if_pos (by omega), if_pos (by omega), hcn, c0, if_pos (by rfl), cbUsed_f l (by omega) (by omega), Option.bind_some]
    by_cases hu : (used l : Int) = 1
    · rw [if_pos hu]
    · have h2 := hk
      simp only [okLens, fits, Bool.and_eq_true, Bool.or_eq_true, decide_eq_true_eq] at h2
      have hs : ks l = 32768 := by rcases h2.2.2 with h | h <;> omega
      have cl := code_last hs hla hm m1 m2 (fun j hj hj1 => (hall j hj hj1).2) hlst
      rw [if_neg hu, if_pos (by omega), if_pos (by omega), if_pos (by omega), hm, cbPow_f (by omega) (by omega), Option.bind_some, hcm, w64 (by omega) (by omega)]
      have : ((code l la : Nat) : Int) = ((2 ^ m : Nat) : Int) - 1 := by omega
      rw [this]
      simp
  | succ d ih =>
    intro k i first last hi hd hv hk2
    obtain ⟨k, rfl⟩ : ∃ m, k = m + 2 := ⟨k - 2, by omega⟩
    have hil : i < l.length := by omega
    have w1 : wrap64 ((i : Int) + 1) = ((i + 1 : Nat) : Int) := by rw [w64 (by omega) (by omega)]; omega
    have go : ∀ a b, FInv l a b (i + 1) → laws_FnCodesFirst.l0 k l (codesL l) a b (wrap64 ((i : Int) + 1)) = some true := fun a b hab => by rw [w1]; exact ih k (i + 1) a b (by omega) (by omega) hab (by omega)
    have lt1 : ∀ {j : Nat}, j < i + 1 → j < i ∨ j = i := fun h => by omega
    rw [laws_FnCodesFirst.l0, if_pos (by omega), if_pos (by omega)]
    by_cases hp : rd l i > 0
    · rw [if_pos hp]
      rcases hv with ⟨rfl, rfl, h⟩ | ⟨f, la, rfl, rfl, hf, hla, f1, la1, hall, hfst, hlst⟩
      · rw [if_pos (by omega), laws_FnCodesFirst.j2, if_pos rfl, if_pos (by omega), if_pos (by omega), if_pos hp, if_pos (by omega)]
        refine go _ _ (.inr ⟨i, i, rfl, rfl, by omega, by omega, by omega, by omega, fun j hj hj1 => ?_, fun j hj hj1 => ?_, fun j hj hj2 => by omega⟩)
        · rcases lt1 hj with h2 | rfl
          · have := h j h2; omega
          · omega
        · have := h j hj; omega
      · have hla2 : la < l.length := by omega
        have hf2 : f < l.length := by omega
        rw [if_neg (by omega), if_pos (by omega), if_pos (by omega)]
        by_cases hlt : rd l i < rd l f
        · rw [decide_eq_true hlt, laws_FnCodesFirst.j2, if_pos rfl, if_pos (by omega), if_pos (by omega), if_pos hp, if_neg (by omega), if_pos (by omega), if_pos (by omega)]
          have hfl := (hall f hf f1).2
          rw [if_neg (by omega)]
          refine go _ _ (.inr ⟨i, la, rfl, rfl, by omega, by omega, by omega, la1, fun j hj hj1 => ?_, fun j hj hj1 => ?_, fun j hj hj2 hj1 => ?_⟩)
          · rcases lt1 hj with h2 | rfl
            · have := hall j h2 hj1; omega
            · omega
          · have := hall j hj hj1; omega
          · rcases lt1 hj2 with h2 | rfl
            · exact hlst j hj h2 hj1
            · omega
        · rw [decide_eq_false hlt, laws_FnCodesFirst.j2, if_neg (by simp), if_pos (by omega), if_pos (by omega), if_pos hp, if_neg (by omega), if_pos (by omega), if_pos (by omega)]
          by_cases hge : rd l i ≥ rd l la
          · rw [if_pos hge]
            refine go _ _ (.inr ⟨f, i, rfl, rfl, by omega, by omega, f1, by omega, fun j hj hj1 => ?_, hfst, fun j hj hj2 => by omega⟩)
            rcases lt1 hj with h2 | rfl
            · have := hall j h2 hj1; omega
            · omega
          · rw [if_neg hge]
            refine go _ _ (.inr ⟨f, la, rfl, rfl, by omega, by omega, f1, la1, fun j hj hj1 => ?_, hfst, fun j hj hj2 hj1 => ?_⟩)
            · rcases lt1 hj with h2 | rfl
              · exact hall j h2 hj1
              · omega
            · rcases lt1 hj2 with h2 | rfl
              · exact hlst j hj h2 hj1
              · omega
    · rw [if_neg hp, laws_FnCodesFirst.j2, if_neg (by simp), if_pos (by omega), if_pos (by omega), if_neg hp]
      refine go _ _ ?_
      rcases hv with ⟨rfl, rfl, h⟩ | ⟨f, la, rfl, rfl, hf, hla, f1, la1, hall, hfst, hlst⟩
      · refine .inl ⟨rfl, rfl, fun j hj => ?_⟩
        rcases lt1 hj with h2 | rfl
        · exact h j h2
        · omega
      · refine .inr ⟨f, la, rfl, rfl, by omega, by omega, f1, la1, fun j hj hj1 => ?_, hfst, fun j hj hj2 hj1 => ?_⟩
        · rcases lt1 hj with h2 | rfl
          · exact hall j h2 hj1
          · omega
        · rcases lt1 hj2 with h2 | rfl
          · exact hlst j hj h2 hj1
          · omega
theorem LawCodesFirst : laws_FnCodesFirst.Pure := by
  intro l0 _ _ hl0
  obtain ⟨b, hb, ho⟩ := open_f hl0
  obtain ⟨l, q, hl1, hl2, _, _, hd⟩ := lens_f hb (p := 0) (by omega) (by omega)
  refine ⟨400001, ?_⟩
  have C : ∀ k, 100000 ≤ k → impl_CodesOf.f k l = some (codesR l) := fun k hk => impl_CodesOf_f l (by omega)
  have P : ∀ k, 100000 ≤ k → spec_CodesOf.f k l = some (codesR l) := fun k hk => spec_CodesOf_f l (by omega) (by omega)
  have hcl := codesR_length l
  have E : ∀ k, 100000 ≤ k → laws_cbInts.f k (codesR l) (codesR l) = some true := fun k hk => cbInts_f _ (by omega) (by omega)
  have D : spec_DrawCodesOf.f 400001 l0 = some l := by unfold spec_DrawCodesOf.f; rw [ho, Option.bind_some, hd _ (by omega), Option.bind_some]
  unfold laws_FnCodesFirst.f
  by_cases hz : (l0.length : Int) > 1048576
  · rw [if_pos hz]
  rw [if_neg hz, D, Option.bind_some, C _ (by omega), Option.bind_some, P _ (by omega), Option.bind_some, E _ (by omega), Option.bind_some, if_pos rfl, laws_FnCodesFirst.j0]
  cases hk : okLens l with
  | false =>
    have e : codesR l = [] := by unfold codesR; rw [if_neg (by simp [hk])]
    have E2 := E 400000 (by omega)
    rw [e] at E2
    rw [if_pos (by rw [e]; rfl), P _ (by omega), Option.bind_some, e, E2, Option.bind_some]
  | true =>
    have e : codesR l = codesL l := by unfold codesR; rw [if_pos hk]
    have hcl2 := codesL_length l
    have e2 : ((((codesR l).length : Nat) : Int) == 0) = false := by rw [e]; simp only [beq_eq_false_iff_ne]; omega
    rw [e2, if_neg (by simp), e]
    exact first_l l hk (by omega) l.length 400000 0 (-1) (-1) (by omega) (by omega) (.inl ⟨rfl, rfl, fun j hj => by omega⟩) (by omega)
end Go.Proofs.Ytopkembjkoljgaa.My
