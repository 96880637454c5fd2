/- The law FnLensBest. -/
import Derived.Test.YtdenepapeoiiiaaPAllx0
import Derived.Test.YtdenepapeoiiiaaPAllx6
import Derived.Test.YtdenepapeoiiiaaPAllx10
import Derived.Test.YtdenepapeoiiiaaPAllx16
import Derived.Test.YtdenepapeoiiiaaPAllx26
import Derived.Test.YtdenepapeoiiiaaDrawC
import Derived.Test.YtdenepapeoiiiaaCbInts
import Derived.Test.YtdenepapeoiiiaaCbUsed
import Derived.Test.YtdenepapeoiiiaaPow
namespace Go.Proofs.Ytdenepapeoiiiaa.My
open Go Go.RowKit Go.Proofs.YtdenepapeoiiiaaW.PrintWords Go.Proofs.YtdenepapeoiiiaaW.PrintLast Go.Proofs.YtdenepapeoiiiaaW.PrintMore Go.Proofs.Ytdenepapeoiiiaa.PAll

/-- What counts cost by lengths of places. -/
def tot (g : Nat → Nat) : Nat → List Int → Int
  | _, [] => 0
  | i, x :: r => x * (g i : Int) + tot g (i + 1) r
theorem tot_cost (g : Nat → Nat) : ∀ (c : List Int) (i : Nat), (∀ x ∈ c, 0 ≤ x) → tot g i c = cost (fun t => g t.f1.toNat) (ini c i)
  | [], _, _ => rfl
  | x :: r, i, h => by
    have ih := tot_cost g r (i + 1) (fun y hy => h y (by simp [hy]))
    have hx := h x (by simp)
    rw [tot, ih, ini]
    by_cases h0 : 0 < x
    · rw [if_pos h0, cost]
      simp
    · rw [if_neg h0]
      have : x = 0 := by omega
      rw [this, Int.zero_mul, Int.zero_add]
theorem cost_const (f : Nat) : ∀ l : List S48, cost (fun _ => f) l = (f : Int) * wsum l
  | [] => by simp [cost, wsum]
  | t :: l => by rw [cost, wsum, cost_const f l, Int.mul_add, Int.mul_comm t.f0]
theorem best_l1 (c lens : List Int) (f : Nat) (hl : lens.length = c.length) (hc : c.length ≤ 16) (hr : ∀ x ∈ c, 0 ≤ x ∧ x ≤ 100000) (g : Nat → Nat) (hg : ∀ i : Nat, i < c.length → rd lens i = g i ∧ g i ≤ 15) (hf : f ≤ 15) (hle : tot g 0 c ≤ tot (fun _ => f) 0 c) (d : Nat) :
    ∀ (k i : Nat) (own even : Int), i ≤ c.length → c.length - i = d → 0 ≤ own → own ≤ 1500000 * i → 0 ≤ even → even ≤ 1500000 * i → own + tot g i (c.drop i) = tot g 0 c → even + tot (fun _ => f) i (c.drop i) = tot (fun _ => f) 0 c → d < k → laws_FnLensBest.l1 k c lens (f : Int) own even (i : Int) = some true := by
  induction d with
  | zero =>
    intro k i own even hi hd o1 o2 e1 e2 ho he hk
    obtain ⟨k, rfl⟩ : ∃ m, k = m + 1 := ⟨k - 1, by omega⟩
    rw [List.drop_of_length_le (by omega), tot] at ho he
    rw [laws_FnLensBest.l1, if_neg (by omega), decide_eq_true (by omega)]
  | succ d ih =>
    intro k i own even hi hd o1 o2 e1 e2 ho he hk
    obtain ⟨k, rfl⟩ : ∃ m, k = m + 1 := ⟨k - 1, by omega⟩
    have hil : i < c.length := by omega
    obtain ⟨g1, g2⟩ := hg i hil
    obtain ⟨r0, r1⟩ := hr _ (List.getElem_mem hil)
    rw [List.drop_eq_getElem_cons hil, tot] at ho he
    have b1 : 0 ≤ c[i] * (g i : Int) ∧ c[i] * (g i : Int) ≤ 1500000 := by
      refine ⟨Int.mul_nonneg r0 (by omega), ?_⟩
      have : c[i] * (g i : Int) ≤ 100000 * 15 := Int.mul_le_mul r1 (by omega) (by omega) (by omega)
      omega
    have b2 : 0 ≤ c[i] * (f : Int) ∧ c[i] * (f : Int) ≤ 1500000 := by
      refine ⟨Int.mul_nonneg r0 (by omega), ?_⟩
      have : c[i] * (f : Int) ≤ 100000 * 15 := Int.mul_le_mul r1 (by omega) (by omega) (by omega)
      omega
    rw [laws_FnLensBest.l1, if_pos (by omega), if_pos (by omega), if_pos (by omega), rdI hil, g1]
    generalize c[i] * (g i : Int) = x at *
    generalize c[i] * (f : Int) = y at *
    rw [w64 (x := x) (by omega) (by omega), w64 (x := y) (by omega) (by omega), w64 (x := own + x) (by omega) (by omega), w64 (x := even + y) (by omega) (by omega), w64 (by omega) (by omega), show ((i : Int) + 1) = ((i + 1 : Nat) : Int) by omega]
    exact ih k (i + 1) (own + x) (even + y) (by omega) (by omega) (by omega) (by omega) (by omega) (by omega) (by omega) (by omega) (by omega)
theorem best_l0 (c lens : List Int) (hc : c.length ≤ 13) (hu : used c ≤ 13) (next : ∀ (f k : Nat), 1 ≤ f → f ≤ 4 → used c ≤ 2 ^ f → 1000 ≤ k → laws_FnLensBest.l1 k c lens (f : Int) 0 0 0 = some true) (d : Nat) :
    ∀ (k f : Nat), f + d = 4 → 1 ≤ f → 2000 + d ≤ k → laws_FnLensBest.l0 k c lens (f : Int) = some true := by
  induction d with
  | zero =>
    intro k f hf h1 hk
    obtain ⟨k, rfl⟩ : ∃ m, k = m + 1 := ⟨k - 1, by omega⟩
    have : f = 4 := by omega
    subst this
    rw [laws_FnLensBest.l0, cbPow_f (by omega) (by omega), Option.bind_some, cbUsed_f c (by omega) (by omega), Option.bind_some, if_neg (by omega)]
    exact next 4 k (by omega) (by omega) (by omega) (by omega)
  | succ d ih =>
    intro k f hf h1 hk
    obtain ⟨k, rfl⟩ : ∃ m, k = m + 1 := ⟨k - 1, by omega⟩
    rw [laws_FnLensBest.l0, cbPow_f (by omega) (by omega), Option.bind_some, cbUsed_f c (by omega) (by omega), Option.bind_some]
    by_cases h : ((2 ^ f : Nat) : Int) < (used c : Int)
    · rw [if_pos h, w64 (by omega) (by omega), show ((f : Int) + 1) = ((f + 1 : Nat) : Int) by omega]
      exact ih k (f + 1) (by omega) (by omega) (by omega)
    · rw [if_neg h]
      exact next f k h1 (by omega) (by omega) (by omega)
theorem LawLensBest : laws_FnLensBest.Pure := by
  intro l0 _ _ hl0
  obtain ⟨c, most, hc1, hc2, hc3, hd⟩ := drawLensOf_f hl0
  refine ⟨400001, ?_⟩
  have hn := lensR_length c 15
  have I : ∀ k, 200000 ≤ k → impl_LensOf.f k c 15 = some (lensR c 15) := fun k hk => impl_LensOf_all c 15 (by omega)
  have P : ∀ k, 200000 ≤ k → spec_LensOf.f k c 15 = some (lensR c 15) := fun k hk => spec_LensOf_all c 15 (by omega)
  have E : ∀ k, 200000 ≤ k → laws_cbInts.f k (lensR c 15) (lensR c 15) = some true := fun k hk => cbInts_f _ (by omega) (by omega)
  unfold laws_FnLensBest.f
  by_cases hz : (l0.length : Int) > 1048576
  · rw [if_pos hz]
  rw [if_neg hz, hd _ (by omega), Option.bind_some, I _ (by omega), Option.bind_some, P _ (by omega), Option.bind_some, E _ (by omega), Option.bind_some, if_pos rfl]
  by_cases h : fitOk c 15
  · have e : lensR c 15 = lensL c := by rw [lensR_few (by omega), if_pos h]
    obtain ⟨h2, hu⟩ := fitOk_few h
    have hl := lensL_length c
    have hul : used c ≤ c.length := List.countP_le_length
    have hnow := few_now (by omega) h2
    rw [e, if_neg (by omega), decide_eq_false (show ¬ (((c, most).1.length : Int) > 16) by show ¬ ((c.length : Int) > 16); omega), laws_FnLensBest.j0, if_neg (by simp)]
    refine best_l0 c (lensL c) hc2 (by omega) (fun f k f1 f4 hf hk => ?_) 3 400000 1 (by omega) (by omega) (by omega)
    refine best_l1 c (lensL c) f hl (by omega) (inR h) (lenOf c) (fun i hi => ⟨lensL_rd h2.len h2.top hi, by have := lenOf_most h2 hnow hi; omega⟩) (by omega) ?_ c.length k 0 0 0 (by omega) (by omega) (by omega) (by omega) (by omega) (by omega) (by simp) (by simp) (by omega)
    rw [tot_cost _ c 0 h2.pos, tot_cost _ c 0 h2.pos, cost_const]
    have hw := wsum_nonneg _ h2.ok.pos
    by_cases h1 : used c = 1
    · rw [cost_congr (g := fun _ => 1) (fun t ht => by
        obtain ⟨j, hj, hp, rfl⟩ := (ini_mem c 0 t).1 ht
        simp only [Nat.zero_add, Int.toNat_natCast]
        exact lenOf_one h2 h1 hj hp), cost_const]
      exact Int.mul_le_mul_of_nonneg_right (by omega) hw
    · rw [cost_congr (g := fun t => dp (ini c 0) t.f1) (fun t ht => by
        obtain ⟨j, hj, hp, rfl⟩ := (ini_mem c 0 t).1 ht
        simp only [Nat.zero_add, Int.toNat_natCast]
        exact lenOf_two (by omega) j)]
      exact cost_one h2.ok (by rw [ini_used]; exact hf)
  · have e : lensR c 15 = [] := by unfold lensR; rw [if_neg h]
    have E2 := E 400000 (by omega)
    rw [e] at E2
    rw [e, if_pos (by rfl), laws_FnLensBest.j0, if_pos rfl, P _ (by omega), Option.bind_some, e, E2, Option.bind_some]
end Go.Proofs.Ytdenepapeoiiiaa.My
