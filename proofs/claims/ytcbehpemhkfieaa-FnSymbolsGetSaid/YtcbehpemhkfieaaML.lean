/- Put together: LensS, LensI, Lens. -/
import Derived.Test.YtcbehpemhkfieaaPAllx0
import Derived.Test.YtcbehpemhkfieaaPAllx12
import Derived.Test.YtcbehpemhkfieaaPAllx17
import Derived.Test.YtcbehpemhkfieaaPAllx38
import Derived.Test.YtcbehpemhkfieaaMA
namespace Go.Proofs.Ytcbehpemhkfieaa.My
open Go Go.RowKit Go.Proofs.YtcbehpemhkfieaaW.PrintWords Go.Proofs.YtcbehpemhkfieaaW.PrintLast Go.Proofs.YtcbehpemhkfieaaW.PrintMore Go.Proofs.Ytcbehpemhkfieaa.PAll

theorem spec_LensOk_l (d : Nat) : ∀ (k : Nat) (l : List Int) (a i : Nat), i ≤ l.length → l.length - i = d → l.length ≤ 1048576 → a ≤ 32768 * i → d + l.length + 40 < k →
    spec_LensOk.l0 k l (a : Int) (i : Int) = some (rng (l.drop i) && fits l.length (used l) (a + ks (l.drop i))) := by
  induction d with
  | zero =>
    intro k l a i hi hd hl ha hk
    obtain ⟨k, rfl⟩ : ∃ m, k = m + 1 := ⟨k - 1, by omega⟩
    rw [spec_LensOk.l0, if_neg (by omega), List.drop_of_length_le (by omega), l3Used_f l (by omega) (by omega), Option.bind_some]
    have p14 : spec_l1Pow.f k 14 = some 16384 := l1Pow_f (n := 14) (by omega) (by omega)
    have p15 : spec_l1Pow.f k 15 = some 32768 := l1Pow_f (n := 15) (by omega) (by omega)
    rw [p14, p15, Option.bind_some, Option.bind_some]
    simp only [rng, ks, List.all_nil, List.map_nil, List.sum_nil, Nat.add_zero, Bool.true_and, fits, Option.bind_some]
    by_cases h1 : (used l : Int) = 1
    · rw [if_pos h1]
      have e : used l = 1 := by omega
      by_cases h2 : (l.length : Int) ≤ 300
      · rw [if_pos h2]
        have e2 : l.length ≤ 300 := by omega
        by_cases h3 : (a : Int) = 32768
        · rw [if_pos h3]
          have : a = 32768 := by omega
          simp [e2, this]
        · rw [if_neg h3]
          have : ¬ a = 32768 := by omega
          simp only [e2, e, this, decide_true, decide_false, Bool.true_and, Bool.false_or]
          by_cases h4 : a = 16384
          · simp [h4]
          · have : ¬ (a : Int) = 16384 := by omega
            simp [h4, this]
      · rw [if_neg h2]
        have e2 : ¬ l.length ≤ 300 := by omega
        simp [e2]
    · rw [if_neg h1]
      have e : ¬ used l = 1 := by omega
      by_cases h2 : (l.length : Int) ≤ 300
      · rw [if_pos h2]
        have e2 : l.length ≤ 300 := by omega
        by_cases h3 : (a : Int) = 32768
        · rw [if_pos h3]
          have : a = 32768 := by omega
          simp [e2, this]
        · rw [if_neg h3]
          have : ¬ a = 32768 := by omega
          simp [e2, e, this]
      · rw [if_neg h2]
        have e2 : ¬ l.length ≤ 300 := by omega
        simp [e2]
  | succ d ih =>
    intro k l a i hi hd hl ha hk
    obtain ⟨k, rfl⟩ : ∃ m, k = m + 1 := ⟨k - 1, by omega⟩
    rw [spec_LensOk.l0, if_pos (by omega), if_pos (by omega), rd_int_at (by omega), List.drop_eq_getElem_cons (show i < l.length by omega), rng_cons, ks_cons, l1In_f, Option.bind_some]
    have hw := wt_le (l[i]'(by omega))
    generalize l[i]'(by omega) = x at *
    cases hx : (decide (0 ≤ x) && decide (x ≤ 15)) with
    | false => simp
    | true =>
      simp only [Bool.and_eq_true, decide_eq_true_eq] at hx
      obtain ⟨n, rfl⟩ := Int.eq_ofNat_of_zero_le hx.1
      rw [if_pos rfl, w64 (x := (i : Int) + 1) (by omega) (by omega), show ((i : Int) + 1) = ((i + 1 : Nat) : Int) by omega, Bool.true_and]
      by_cases h : (n : Int) > 0
      · have hwt : wt (n : Int) = 2 ^ (15 - n) := by unfold wt; rw [if_pos (by omega), Int.toNat_natCast]
        rw [hwt] at hw ⊢
        rw [if_pos h, w64 (x := 15 - (n : Int)) (by omega) (by omega), show (15 - (n : Int)) = ((15 - n : Nat) : Int) by omega, l1Pow_f (by omega) (by omega), Option.bind_some]
        generalize 2 ^ (15 - n) = z at *
        rw [w64 (by omega) (by omega), show ((a : Int) + (z : Int)) = ((a + z : Nat) : Int) by omega, ih k l (a + z) (i + 1) (by omega) (by omega) hl (by omega) (by omega), Nat.add_assoc]
      · have hwt : wt (n : Int) = 0 := by unfold wt; rw [if_neg (by omega)]
        rw [hwt, if_neg h, ih k l a (i + 1) (by omega) (by omega) hl (by omega) (by omega), Nat.zero_add]
theorem spec_LensOk_f {k : Nat} (l : List Int) (hl : l.length ≤ 1048576) (hk : 2 * l.length + 50 ≤ k) : spec_LensOk.f k l = some (okLens l) := by
  unfold spec_LensOk.f okLens
  have := spec_LensOk_l l.length k l 0 0 (by omega) (by omega) hl (by omega) (by omega)
  simpa using this
end Go.Proofs.Ytcbehpemhkfieaa.My

namespace Go.Proofs.Ytcbehpemhkfieaa.My
open Go Go.RowKit Go.Proofs.YtcbehpemhkfieaaW.PrintWords Go.Proofs.YtcbehpemhkfieaaW.PrintLast Go.Proofs.YtcbehpemhkfieaaW.PrintMore Go.Proofs.Ytcbehpemhkfieaa.PAll

theorem half_only : ∀ v : Fin 16, ((v : Nat) = 1 ↔ 2 ^ (15 - (v : Nat)) = 16384) := by decide
theorem shl_one {n : Nat} (hn : n ≤ 15) : shl .i64 1 (n : Int) = ((2 ^ n : Nat) : Int) := by
  have hp : 2 ^ n ≤ 2 ^ 15 := Nat.pow_le_pow_right (by decide) hn
  unfold shl
  rw [Int.toNat_natCast, show min n IntKind.i64.bits = n from Nat.min_eq_left (by show n ≤ 64; omega), Int.one_mul, show ((2 : Int) ^ n) = ((2 ^ n : Nat) : Int) by simp, IntKind.wrap_i64]
  generalize 2 ^ n = z at *
  omega
theorem impl_LensOk_l (d : Nat) : ∀ (k : Nat) (l : List Int) (a c v i : Nat), i ≤ l.length → l.length - i = d → l.length ≤ 300 → a ≤ 32768 * i → c ≤ i → (c = 0 → a = 0) → (c = 1 → v ≤ 15 ∧ a = 2 ^ (15 - v)) → d < k →
    impl_LensOk.l0 k (a : Int) (c : Int) (v : Int) l (l.length : Int) (i : Int) = some (rng (l.drop i) && fits l.length (c + used (l.drop i)) (a + ks (l.drop i))) := by
  induction d with
  | zero =>
    intro k l a c v i hi hd hl ha hc h0 h1 hk
    obtain ⟨k, rfl⟩ : ∃ m, k = m + 1 := ⟨k - 1, by omega⟩
    rw [impl_LensOk.l0, if_neg (by omega), List.drop_of_length_le (by omega)]
    simp only [rng, ks, used, List.all_nil, List.map_nil, List.sum_nil, Nat.add_zero, Bool.true_and, fits, hl, decide_true, List.countP_nil]
    by_cases h3 : (a : Int) = 32768
    · rw [if_pos h3]
      have : a = 32768 := by omega
      simp [this]
    · have h3' : ¬ a = 32768 := by omega
      rw [if_neg h3]
      by_cases h4 : (c : Int) = 1
      · have h4' : c = 1 := by omega
        obtain ⟨hv, e⟩ := h1 h4'
        have := half_only ⟨v, by omega⟩
        simp only [] at this
        rw [← e] at this
        rw [if_pos h4]
        simp only [h3', h4', decide_false, decide_true, Bool.true_and, Bool.false_or, Option.some.injEq]
        rw [Bool.eq_iff_iff]
        simp only [beq_iff_eq, decide_eq_true_eq]
        omega
      · rw [if_neg h4]
        have h4' : ¬ c = 1 := by omega
        simp [h3', h4']
  | succ d ih =>
    intro k l a c v i hi hd hl ha hc h0 h1 hk
    obtain ⟨k, rfl⟩ : ∃ m, k = m + 1 := ⟨k - 1, by omega⟩
    rw [impl_LensOk.l0, if_pos (by omega), if_pos (by omega), if_pos (by omega), rd_int_at (by omega), List.drop_eq_getElem_cons (show i < l.length by omega), rng_cons, ks_cons, used_cons, within_f, Option.bind_some]
    have hw := wt_le (l[i]'(by omega))
    generalize l[i]'(by omega) = x at *
    cases hx : (decide (0 ≤ x) && decide (x ≤ 15)) with
    | false => simp
    | true =>
      simp only [Bool.and_eq_true, decide_eq_true_eq] at hx
      obtain ⟨n, rfl⟩ := Int.eq_ofNat_of_zero_le hx.1
      rw [if_pos rfl, w64 (x := (i : Int) + 1) (by omega) (by omega), show ((i : Int) + 1) = ((i + 1 : Nat) : Int) by omega, Bool.true_and]
      by_cases h : (n : Int) > 0
      · have hwt : wt (n : Int) = 2 ^ (15 - n) := by unfold wt; rw [if_pos (by omega), Int.toNat_natCast]
        obtain ⟨z, hz⟩ : ∃ z, z = 2 ^ (15 - n) := ⟨_, rfl⟩
        rw [← hz] at hwt
        rw [hwt] at hw ⊢
        rw [if_pos h, w64 (x := 15 - (n : Int)) (by omega) (by omega), show (15 - (n : Int)) = ((15 - n : Nat) : Int) by omega, if_pos (by omega), shl_one (by omega), if_pos h, ← hz]
        rw [w64 (by omega) (by omega), w64 (by omega) (by omega), show ((a : Int) + (z : Int)) = ((a + z : Nat) : Int) by omega, show ((c : Int) + 1) = ((c + 1 : Nat) : Int) by omega]
        rw [ih k l (a + z) (c + 1) n (i + 1) (by omega) (by omega) hl (by omega) (by omega) (by omega) (fun e => ⟨by omega, by have := h0 (by omega); omega⟩) (by omega), Nat.add_assoc, Nat.add_assoc]
      · have hwt : wt (n : Int) = 0 := by unfold wt; rw [if_neg (by omega)]
        rw [hwt, if_neg h, if_neg h, ih k l a c v (i + 1) (by omega) (by omega) hl (by omega) (by omega) h0 h1 (by omega), Nat.zero_add, Nat.zero_add]
theorem impl_LensOk_f {k : Nat} (l : List Int) (hk : l.length + 5 ≤ k) : impl_LensOk.f k l = some (okLens l) := by
  unfold impl_LensOk.f okLens
  by_cases h : (l.length : Int) > 300
  · have : ¬ l.length ≤ 300 := by omega
    rw [if_pos h]
    simp [fits, this]
  · rw [if_neg h]
    have := impl_LensOk_l l.length k l 0 0 0 0 (by omega) (by omega) (by omega) (by omega) (by omega) (fun _ => rfl) (fun e => by omega) (by omega)
    simpa using this
end Go.Proofs.Ytcbehpemhkfieaa.My
