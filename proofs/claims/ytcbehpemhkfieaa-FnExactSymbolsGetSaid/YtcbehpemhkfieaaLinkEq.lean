/- The laws' own helpers on lists of numbers: a copy, a comparison, marks. -/
import Derived.Test.YtcbehpemhkfieaaPAllx0
import Derived.Test.YtcbehpemhkfieaaPAllx34
import Derived.Test.YtcbehpemhkfieaaPAllx35
import Derived.Test.YtcbehpemhkfieaaMA
namespace Go.Proofs.Ytcbehpemhkfieaa.My
open Go Go.RowKit Go.Proofs.YtcbehpemhkfieaaW.PrintWords Go.Proofs.YtcbehpemhkfieaaW.PrintLast Go.Proofs.YtcbehpemhkfieaaW.PrintMore Go.Proofs.Ytcbehpemhkfieaa.PAll

theorem rd_eq_at {l : List Int} {i : Nat} (h : i < l.length) : rd l (i : Int) = l[i] := by simp [rd, List.getElem?_eq_getElem h]
theorem toIntS_l (d : Nat) : ∀ (k : Nat) (l out : List Int) (i : Nat), i ≤ l.length → l.length - i = d → l.length ≤ 1099511627776 → out.length = l.length → out.take i = l.take i → d < k →
    laws_toIntS.l0 k l out (i : Int) = some l := by
  induction d with
  | zero =>
    intro k l out i hi hd hl ho ht hk
    obtain ⟨k, rfl⟩ : ∃ m, k = m + 1 := ⟨k - 1, by omega⟩
    simp only [laws_toIntS.l0]
    rw [if_neg (by omega)]
    rw [List.take_of_length_le (by omega), List.take_of_length_le (by omega)] at ht
    rw [ht]
  | succ d ih =>
    intro k l out i hi hd hl ho ht hk
    obtain ⟨k, rfl⟩ : ∃ m, k = m + 1 := ⟨k - 1, by omega⟩
    simp only [laws_toIntS.l0]
    rw [if_pos (by omega), if_pos (by omega), if_pos (by omega), w64 (by omega) (by omega), show ((i : Int) + 1) = ((i + 1 : Nat) : Int) by omega, rd_eq_at (by omega), Int.toNat_natCast]
    refine ih k l _ (i + 1) (by omega) (by omega) hl (by simp; omega) ?_ (by omega)
    rw [List.take_succ_eq_append_getElem (by simp; omega), List.take_succ_eq_append_getElem (show i < l.length by omega), List.getElem_set_self, List.take_set_of_le (Nat.le_refl _), ht]
theorem toIntS_f {k : Nat} (l : List Int) (hl : l.length ≤ 1099511627776) (hk : l.length + 1 ≤ k) : laws_toIntS.f k l = some l := by
  unfold laws_toIntS.f
  rw [if_pos (by omega), if_pos (by omega)]
  exact toIntS_l l.length k l _ 0 (by omega) (by omega) hl (by simp) (by simp) (by omega)
theorem eqIntS_l (d : Nat) : ∀ (k : Nat) (a b : List Int) (i : Nat), i ≤ a.length → a.length - i = d → a.length ≤ 1099511627776 → a.length = b.length → d < k →
    laws_eqIntS.l0 k a b (i : Int) = some (decide (a.drop i = b.drop i)) := by
  induction d with
  | zero =>
    intro k a b i hi hd hl hab hk
    obtain ⟨k, rfl⟩ : ∃ m, k = m + 1 := ⟨k - 1, by omega⟩
    simp only [laws_eqIntS.l0]
    rw [if_neg (by omega), List.drop_of_length_le (by omega), List.drop_of_length_le (by omega)]
    simp
  | succ d ih =>
    intro k a b i hi hd hl hab hk
    obtain ⟨k, rfl⟩ : ∃ m, k = m + 1 := ⟨k - 1, by omega⟩
    simp only [laws_eqIntS.l0]
    rw [if_pos (by omega), if_pos (by omega), if_pos (by omega), rd_eq_at (by omega), rd_eq_at (by omega), w64 (by omega) (by omega), show ((i : Int) + 1) = ((i + 1 : Nat) : Int) by omega, ih k a b (i + 1) (by omega) (by omega) hl hab (by omega)]
    have hiff : (a.drop i = b.drop i) ↔ (a[i]'(by omega) = b[i]'(by omega) ∧ a.drop (i + 1) = b.drop (i + 1)) := by
      rw [List.drop_eq_getElem_cons (show i < a.length by omega), List.drop_eq_getElem_cons (show i < b.length by omega), List.cons.injEq]
    by_cases h : a[i]'(by omega) = b[i]'(by omega)
    · rw [if_pos h]
      congr 1
      rw [decide_eq_decide, hiff]
      exact ⟨fun x => ⟨h, x⟩, fun x => x.2⟩
    · rw [if_neg h]
      congr 1
      exact (decide_eq_false (fun x => h (hiff.1 x).1)).symm
theorem eqIntS_f {k : Nat} (a b : List Int) (hl : a.length ≤ 1099511627776) (hk : a.length + 1 ≤ k) : laws_eqIntS.f k a b = some (decide (a = b)) := by
  unfold laws_eqIntS.f
  by_cases h : a.length = b.length
  · rw [if_pos (by omega)]
    exact eqIntS_l a.length k a b 0 (by omega) (by omega) hl h (by omega)
  · rw [if_neg (by omega)]
    have : ¬ a = b := fun e => h (by rw [e])
    simp [this]
/-- m, m + 1, .. -/
def marks : Nat → Nat → List Int
  | 0, _ => []
  | n + 1, m => (m : Int) :: marks n (m + 1)
theorem marks_length (n : Nat) : ∀ m, (marks n m).length = n := by
  induction n with
  | zero => intro m; rfl
  | succ n ih => intro m; simp [marks, ih]
theorem markIntS_l (d : Nat) : ∀ (k : Nat) (l : List Int) (m i : Nat), i ≤ l.length → l.length - i = d → l.length ≤ 1099511627776 → m ≤ 1 + i → d < k →
    laws_markIntS.l0 k l (m : Int) (i : Int) = some (((m + d : Nat) : Int), l.take i ++ marks d m) := by
  induction d with
  | zero =>
    intro k l m i hi hd hl hm hk
    obtain ⟨k, rfl⟩ : ∃ m, k = m + 1 := ⟨k - 1, by omega⟩
    simp only [laws_markIntS.l0]
    rw [if_neg (by omega), List.take_of_length_le (by omega)]
    simp [marks]
  | succ d ih =>
    intro k l m i hi hd hl hm hk
    obtain ⟨k, rfl⟩ : ∃ m, k = m + 1 := ⟨k - 1, by omega⟩
    simp only [laws_markIntS.l0]
    rw [if_pos (by omega), if_pos (by omega), w64 (by omega) (by omega), w64 (by omega) (by omega), show ((i : Int) + 1) = ((i + 1 : Nat) : Int) by omega, show ((m : Int) + 1) = ((m + 1 : Nat) : Int) by omega, Int.toNat_natCast,
      ih k _ (m + 1) (i + 1) (by simp; omega) (by simp; omega) (by simp; omega) (by omega) (by omega), List.take_succ_eq_append_getElem (by simp; omega), List.getElem_set_self, List.take_set_of_le (Nat.le_refl _)]
    simp only [marks, List.append_assoc, List.cons_append, List.nil_append]
    congr 2
    omega
theorem markIntS_f {k : Nat} (l : List Int) (hl : l.length ≤ 1099511627776) (hk : l.length + 1 ≤ k) : laws_markIntS.f k l 1 = some (((1 + l.length : Nat) : Int), marks l.length 1) := by
  unfold laws_markIntS.f
  have := markIntS_l l.length k l 1 0 (by omega) (by omega) hl (by omega) (by omega)
  simpa using this
theorem heldIntS_l (d : Nat) : ∀ (k : Nat) (l : List Int) (m i : Nat), i ≤ l.length → l.length - i = d → l.length ≤ 1099511627776 → m ≤ 1 + i → l.drop i = marks d m → d < k →
    laws_heldIntS.l0 k l (m : Int) (i : Int) = some ((m + d : Nat) : Int) := by
  induction d with
  | zero =>
    intro k l m i hi hd hl hm hh hk
    obtain ⟨k, rfl⟩ : ∃ m, k = m + 1 := ⟨k - 1, by omega⟩
    simp only [laws_heldIntS.l0]
    rw [if_neg (by omega)]
    simp
  | succ d ih =>
    intro k l m i hi hd hl hm hh hk
    obtain ⟨k, rfl⟩ : ∃ m, k = m + 1 := ⟨k - 1, by omega⟩
    simp only [laws_heldIntS.l0]
    rw [List.drop_eq_getElem_cons (show i < l.length by omega)] at hh
    simp only [marks, List.cons.injEq] at hh
    rw [if_pos (by omega), if_pos (by omega), rd_eq_at (by omega), if_pos hh.1, w64 (by omega) (by omega), w64 (by omega) (by omega), show ((i : Int) + 1) = ((i + 1 : Nat) : Int) by omega, show ((m : Int) + 1) = ((m + 1 : Nat) : Int) by omega,
      ih k l (m + 1) (i + 1) (by omega) (by omega) hl (by omega) hh.2 (by omega)]
    congr 2
    omega
theorem heldIntS_f {k : Nat} (n : Nat) (hl : n ≤ 1099511627776) (hk : n + 1 ≤ k) : laws_heldIntS.f k (marks n 1) 1 = some ((1 + n : Nat) : Int) := by
  unfold laws_heldIntS.f
  exact heldIntS_l n k (marks n 1) 1 0 (by omega) (by rw [marks_length]; omega) (by rw [marks_length]; omega) (by omega) rfl (by omega)
end Go.Proofs.Ytcbehpemhkfieaa.My
