/- Symbols are read bit by bit: plain, and the printed functions of both packages told by it. -/
import Derived.Test.YtcbehpemhkfieaaPAllx0
import Derived.Test.YtcbehpemhkfieaaPAllx22
import Derived.Test.YtcbehpemhkfieaaMK
import Derived.Test.YtcbehpemhkfieaaML
import Derived.Test.YtcbehpemhkfieaaMF
namespace Go.Proofs.Ytcbehpemhkfieaa.My
open Go Go.RowKit Go.Proofs.YtcbehpemhkfieaaW.PrintWords Go.Proofs.YtcbehpemhkfieaaW.PrintLast Go.Proofs.YtcbehpemhkfieaaW.PrintMore Go.Proofs.Ytcbehpemhkfieaa.PAll
open Go.Proofs.Ytcbehpemhkfieaa.Bit

/-- Symbol j has the code c of n bits. -/
def hit (l : List Int) (c n j : Nat) : Prop := j < l.length ∧ rd l (j : Int) = (n : Int) ∧ code l j = c
instance (l : List Int) (c n j : Nat) : Decidable (hit l c n j) := by unfold hit; infer_instance
def hitL (l : List Int) (c n : Nat) : Option Nat := (List.range l.length).find? (fun j => decide (hit l c n j))
theorem hitL_some {l : List Int} {c n j : Nat} (h : hitL l c n = some j) : hit l c n j := by
  have := List.find?_some h
  simpa using this
theorem hitL_none {l : List Int} {c n : Nat} (h : hitL l c n = none) (j : Nat) : ¬ hit l c n j := by
  intro hj
  unfold hitL at h
  rw [List.find?_eq_none] at h
  exact h j (List.mem_range.2 hj.1) (by simpa using hj)
theorem hitL_eq {l : List Int} {c n j : Nat} (h : hit l c n j) : hitL l c n = some j := by
  cases e : hitL l c n with
  | none => exact absurd h (hitL_none e j)
  | some i =>
    have hi := hitL_some e
    rw [code_inj hi.1 h.1 (by rw [hi.2.1, h.2.1]) (by rw [hi.2.2, h.2.2])]
/-- The next symbol of a text from bit p on: so many rounds are left, c are the bits so far, n is how many there will be with the next. -/
def symN (l : List Int) (s : ByteArray) : Nat → Nat → Nat → Nat → Option (Nat × Nat)
  | 0, _, _, _ => none
  | d + 1, c, n, p => if p < 8 * s.size then (match hitL l (2 * c + bit1 s p) n with
    | some j => some (j, p + 1)
    | none => symN l s d (2 * c + bit1 s p) (n + 1) (p + 1)) else none
theorem symN_le (l : List Int) (s : ByteArray) : ∀ d c n p j q, symN l s d c n p = some (j, q) → q ≤ 8 * s.size ∧ j < l.length ∧ (1 ≤ n → rd l (j : Int) ≠ 0)
  | 0, _, _, _, _, _, h => by cases h
  | d + 1, c, n, p, j, q, h => by
    rw [symN] at h
    by_cases hp : p < 8 * s.size
    · rw [if_pos hp] at h
      cases e : hitL l (2 * c + bit1 s p) n with
      | some i =>
        rw [e] at h
        simp only [Option.some.injEq, Prod.mk.injEq] at h
        obtain ⟨rfl, rfl⟩ := h
        have := hitL_some e
        exact ⟨by omega, this.1, fun hn => by rw [this.2.1]; omega⟩
      | none =>
        rw [e] at h
        obtain ⟨h1, h2, h3⟩ := symN_le l s d _ _ _ j q h
        exact ⟨h1, h2, fun hn => h3 (by omega)⟩
    · rw [if_neg hp] at h; cases h

/-! ### The program's -/
theorem findB_is {l : List Int} (hk : okLens l = true) {c n : Nat} (hn : 1 ≤ n) : ∀ m : Nat, m ≤ l.length →
    (∀ v, findB (codesL l) l (c : Int) (n : Int) m = some v → ∃ j : Nat, v = (j : Int) ∧ hit l c n j) ∧ (findB (codesL l) l (c : Int) (n : Int) m = none → ∀ j, j < m → ¬ hit l c n j)
  | 0, _ => ⟨fun v h => (by cases h), fun _ j hj => by omega⟩
  | m + 1, hm => by
    obtain ⟨i1, i2⟩ := findB_is hk (c := c) hn m (by omega)
    rw [findB]
    by_cases hp : rd l (m : Int) > 0
    · obtain ⟨n', c', e1, e2, e3, e4, e5, e6⟩ := sym_code hk (show m < l.length by omega) (by omega)
      rw [if_pos hp, e4]
      by_cases he : ((c' : Nat) : Int) = (c : Int) ∧ rd l (m : Int) = (n : Int)
      · rw [if_pos he]
        refine ⟨fun v hv => ⟨m, (Option.some.inj hv).symm, by omega, he.2, by omega⟩, fun h => by cases h⟩
      · rw [if_neg he]
        refine ⟨i1, fun h j hj => ?_⟩
        by_cases e : j = m
        · subst e
          intro hh
          exact he ⟨by rw [e5, hh.2.2], hh.2.1⟩
        · exact i2 h j (by omega)
    · rw [if_neg hp]
      refine ⟨i1, fun h j hj => ?_⟩
      by_cases e : j = m
      · subst e
        intro hh
        have := hh.2.1
        omega
      · exact i2 h j (by omega)
theorem findX_is {l : List Int} (hk : okLens l = true) {c n : Nat} (hn : 1 ≤ n) : findX (codesL l ++ l) (c : Int) (n : Int) = (hitL l c n).map (fun j => (j : Int)) := by
  have hl := codesL_length l
  have e : (codesL l ++ l).length / 2 = (codesL l).length := by rw [List.length_append]; omega
  unfold findX
  rw [e, List.take_left, List.drop_left, hl]
  obtain ⟨i1, i2⟩ := findB_is hk (c := c) hn l.length (Nat.le_refl _)
  cases hf : findB (codesL l) l (c : Int) (n : Int) l.length with
  | some v =>
    obtain ⟨j, rfl, hj⟩ := i1 v hf
    rw [hitL_eq hj]
    rfl
  | none =>
    cases e2 : hitL l c n with
    | none => rfl
    | some j => exact absurd (hitL_some e2) (i2 hf j (hitL_some e2).1)
theorem code_next {c n p : Nat} {s : ByteArray} (hn : n ≤ 15) (hc : c < 2 ^ (n - 1)) : wrap64 (wrap64 (2 * (c : Int)) + ((bit1 s p : Nat) : Int)) = ((2 * c + bit1 s p : Nat) : Int) ∧ 2 * c + bit1 s p < 2 ^ n ∨ n = 0 := by
  by_cases h0 : n = 0
  · exact .inr h0
  · left
    have hb := bit1_lt s p
    have h2 : 2 ^ n = 2 * 2 ^ (n - 1) := by rw [show n = (n - 1) + 1 by omega, Nat.pow_succ]; simp; omega
    have h3 : 2 ^ (n - 1) ≤ 2 ^ 15 := Nat.pow_le_pow_right (by decide) (by omega)
    rw [w64 (x := 2 * (c : Int)) (by omega) (by omega), w64 (by omega) (by omega)]
    exact ⟨by omega, by omega⟩
theorem symB_bad {l : List Int} (hk : okLens l = true) (s : ByteArray) (hs : s.size ≤ 1099511627776) : ∀ (d c n p : Nat), 1 ≤ n → n + d = 16 → c < 2 ^ (n - 1) → p ≤ 8 * s.size → ∃ q : Int, symB (codesL l ++ l) d (c : Int) (n : Int) s (p : Int) true = some (0, s, q, true)
  | 0, c, n, p, _, _, _, _ => ⟨_, rfl⟩
  | d + 1, c, n, p, h1, h2, h3, h4 => by
    obtain ⟨e1, e2⟩ := (code_next (p := p) (s := s) (show n ≤ 15 by omega) h3).resolve_right (by omega)
    have hlost : lost s p true = true := by unfold lost; split <;> rfl
    obtain ⟨q, hq⟩ := symB_bad hk s hs d (2 * c + bit1 s p) (n + 1) (nx s p) (by omega) (by omega) (by rw [Nat.add_sub_cancel]; exact e2) (nx_le s h4)
    refine ⟨q, ?_⟩
    rw [symB, impl_bit s hs p h4 true, Option.bind_some]
    simp only []
    rw [e1, hlost, w64 (x := (n : Int) + 1) (by omega) (by omega), show ((n : Int) + 1) = ((n + 1 : Nat) : Int) by omega]
    split
    · rw [if_pos rfl]; exact hq
    · exact hq
theorem symB_is {l : List Int} (hk : okLens l = true) (s : ByteArray) (hs : s.size ≤ 1099511627776) : ∀ (d c n p : Nat), 1 ≤ n → n + d = 16 → c < 2 ^ (n - 1) → p ≤ 8 * s.size →
    (∀ j q, symN l s d c n p = some (j, q) → symB (codesL l ++ l) d (c : Int) (n : Int) s (p : Int) false = some ((j : Int), s, (q : Int), false)) ∧
    (symN l s d c n p = none → ∃ q : Int, symB (codesL l ++ l) d (c : Int) (n : Int) s (p : Int) false = some (0, s, q, true))
  | 0, c, n, p, _, _, _, _ => ⟨fun j q h => (by cases h), fun _ => ⟨_, rfl⟩⟩
  | d + 1, c, n, p, h1, h2, h3, h4 => by
    obtain ⟨e1, e2⟩ := (code_next (p := p) (s := s) (show n ≤ 15 by omega) h3).resolve_right (by omega)
    have hb : symB (codesL l ++ l) (d + 1) (c : Int) (n : Int) s (p : Int) false = (if ((hitL l (2 * c + bit1 s p) n).map (fun j => (j : Int))).isSome = true then (if lost s p false = true then symB (codesL l ++ l) d ((2 * c + bit1 s p : Nat) : Int) ((n + 1 : Nat) : Int) s ((nx s p : Nat) : Int) (lost s p false) else some (((hitL l (2 * c + bit1 s p) n).map (fun j => (j : Int))).getD 0, s, ((nx s p : Nat) : Int), lost s p false)) else symB (codesL l ++ l) d ((2 * c + bit1 s p : Nat) : Int) ((n + 1 : Nat) : Int) s ((nx s p : Nat) : Int) (lost s p false)) := by
      rw [symB, impl_bit s hs p h4 false, Option.bind_some]
      simp only []
      rw [e1, findX_is hk h1, w64 (x := (n : Int) + 1) (by omega) (by omega), show ((n : Int) + 1) = ((n + 1 : Nat) : Int) by omega]
    rw [hb, symN]
    by_cases hp : p < 8 * s.size
    · have hnx : nx s p = p + 1 := by unfold nx; rw [if_pos hp]
      have hlo : lost s p false = false := by unfold lost; rw [if_pos hp]
      rw [if_pos hp, hnx, hlo]
      cases e : hitL l (2 * c + bit1 s p) n with
      | some j =>
        refine ⟨fun j' q h => ?_, fun h => by cases h⟩
        simp only [Option.some.injEq, Prod.mk.injEq] at h
        obtain ⟨rfl, rfl⟩ := h
        simp
      | none =>
        have ih := symB_is hk s hs d (2 * c + bit1 s p) (n + 1) (p + 1) (by omega) (by omega) (by rw [Nat.add_sub_cancel]; exact e2) (by omega)
        simpa using ih
    · have hnx : nx s p = p := by unfold nx; rw [if_neg hp]
      have hlo : lost s p false = true := by unfold lost; rw [if_neg hp]
      rw [if_neg hp, hnx, hlo]
      obtain ⟨q, hq⟩ := symB_bad hk s hs d (2 * c + bit1 s p) (n + 1) p (by omega) (by omega) (by rw [Nat.add_sub_cancel]; exact e2) h4
      refine ⟨fun j q h => (by cases h), fun _ => ⟨q, ?_⟩⟩
      rw [hq, if_pos rfl]
      split <;> rfl

end Go.Proofs.Ytcbehpemhkfieaa.My
