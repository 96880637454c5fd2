/- The law FnExactSymbolsPut. -/
import Derived.Test.YtlmpgihimbechaaPAllx11
import Derived.Test.YtlmpgihimbechaaPAllx16
import Derived.Test.YtlmpgihimbechaaPAllx17
import Derived.Test.YtlmpgihimbechaaPAllx27
import Derived.Test.YtlmpgihimbechaaPAllx29
import Derived.Test.YtlmpgihimbechaaPAllx30
import Derived.Test.YtlmpgihimbechaaPAllx31
import Derived.Test.YtlmpgihimbechaaPAllx32
import Derived.Test.YtlmpgihimbechaaLawsC2
import Derived.Test.YtlmpgihimbechaaLinkEq
namespace Go.Proofs.Ytlmpgihimbechaa.My
open Go Go.RowKit Go.Proofs.YtlmpgihimbechaaW.PrintWords Go.Proofs.YtlmpgihimbechaaW.PrintLast Go.Proofs.YtlmpgihimbechaaW.PrintMore Go.Proofs.Ytlmpgihimbechaa.PAll

theorem rd57 {l : List S57} {i : Nat} (h : i < l.length) : rd_T57 l (i : Int) = l[i] := by simp [rd_T57, List.getElem?_eq_getElem h]
theorem eqPieceS_l (d : Nat) : ∀ (k : Nat) (l : List S57) (i : Nat), i ≤ l.length → l.length - i = d → l.length ≤ 1099511627776 → d < k → laws_eqPieceS.l0 k l l (i : Int) = some true := by
  induction d with
  | zero =>
    intro k l i hi hd hl hk
    obtain ⟨k, rfl⟩ : ∃ m, k = m + 1 := ⟨k - 1, by omega⟩
    rw [laws_eqPieceS.l0, if_neg (by omega)]
  | succ d ih =>
    intro k l i hi hd hl hk
    obtain ⟨k, rfl⟩ : ∃ m, k = m + 1 := ⟨k - 1, by omega⟩
    rw [laws_eqPieceS.l0, if_pos (by omega), if_pos (by omega), if_pos (by omega)]
    unfold laws_eqPiece.f
    rw [if_pos rfl, if_pos rfl, Option.bind_some, if_pos rfl, w64 (by omega) (by omega), show ((i : Int) + 1) = ((i + 1 : Nat) : Int) by omega]
    exact ih k l (i + 1) (by omega) (by omega) hl (by omega)
theorem eqPieceS_f {k : Nat} (l : List S57) (hl : l.length ≤ 1048576) (hk : l.length + 1 ≤ k) : laws_eqPieceS.f k l l = some true := by
  unfold laws_eqPieceS.f
  rw [if_pos rfl]
  exact eqPieceS_l l.length k l 0 (by omega) (by omega) (by omega) (by omega)
def marks2 : Nat → Nat → List S57
  | 0, _ => []
  | n + 1, m => ⟨(m : Int), ((m + 1 : Nat) : Int)⟩ :: marks2 n (m + 2)
theorem marks2_length : ∀ n m, (marks2 n m).length = n
  | 0, _ => rfl
  | n + 1, m => by simp [marks2, marks2_length n]
theorem markPieceS_l (d : Nat) : ∀ (k : Nat) (l : List S57) (m i : Nat), i ≤ l.length → l.length - i = d → l.length ≤ 1048576 → m ≤ 1 + 2 * i → d < k →
    laws_markPieceS.l0 k l (m : Int) (i : Int) = some (((m + 2 * d : Nat) : Int), l.take i ++ marks2 d m) := by
  induction d with
  | zero =>
    intro k l m i hi hd hl hm hk
    obtain ⟨k, rfl⟩ : ∃ m, k = m + 1 := ⟨k - 1, by omega⟩
    rw [laws_markPieceS.l0, if_neg (by omega), List.take_of_length_le (by omega)]
    simp [marks2]
  | succ d ih =>
    intro k l m i hi hd hl hm hk
    obtain ⟨k, rfl⟩ : ∃ m, k = m + 1 := ⟨k - 1, by omega⟩
    rw [laws_markPieceS.l0, if_pos (by omega), if_pos (by omega), Option.bind_some, Int.toNat_natCast, rd57 (show i < l.length by omega), rd57 (by rw [List.length_set]; omega), List.getElem_set_self, List.set_set, w64 (x := (m : Int) + 1) (by omega) (by omega), w64 (by omega) (by omega), w64 (by omega) (by omega), show ((i : Int) + 1) = ((i + 1 : Nat) : Int) by omega, show ((m : Int) + 1 + 1) = ((m + 2 : Nat) : Int) by omega, show ((m : Int) + 1) = ((m + 1 : Nat) : Int) by omega,
      ih k _ (m + 2) (i + 1) (by simp; omega) (by simp; omega) (by simp; omega) (by omega) (by omega), List.take_succ_eq_append_getElem (by simp; omega), List.getElem_set_self, List.take_set_of_le (Nat.le_refl _)]
    simp only [marks2, List.append_assoc, List.cons_append, List.nil_append]
    congr 2
    omega
theorem markPieceS_f {k : Nat} (l : List S57) (hl : l.length ≤ 1048576) (hk : l.length + 1 ≤ k) : laws_markPieceS.f k l 1 = some (((1 + 2 * l.length : Nat) : Int), marks2 l.length 1) := by
  unfold laws_markPieceS.f
  have := markPieceS_l l.length k l 1 0 (by omega) (by omega) hl (by omega) (by omega)
  simpa using this
theorem heldPieceS_l (d : Nat) : ∀ (k : Nat) (l : List S57) (m i : Nat), i ≤ l.length → l.length - i = d → l.length ≤ 1048576 → m ≤ 1 + 2 * i → l.drop i = marks2 d m → d < k →
    laws_heldPieceS.l0 k l (m : Int) (i : Int) = some ((m + 2 * d : Nat) : Int) := by
  induction d with
  | zero =>
    intro k l m i hi hd hl hm hh hk
    obtain ⟨k, rfl⟩ : ∃ m, k = m + 1 := ⟨k - 1, by omega⟩
    rw [laws_heldPieceS.l0, if_neg (by omega)]
    simp
  | succ d ih =>
    intro k l m i hi hd hl hm hh hk
    obtain ⟨k, rfl⟩ : ∃ m, k = m + 1 := ⟨k - 1, by omega⟩
    rw [List.drop_eq_getElem_cons (show i < l.length by omega)] at hh
    simp only [marks2, List.cons.injEq] at hh
    rw [laws_heldPieceS.l0, if_pos (by omega), if_pos (by omega), rd57 (by omega), hh.1, if_pos rfl, w64 (x := (m : Int) + 1) (by omega) (by omega), if_pos (by simp), w64 (by omega) (by omega), w64 (by omega) (by omega), show ((i : Int) + 1) = ((i + 1 : Nat) : Int) by omega, show ((m : Int) + 1 + 1) = ((m + 2 : Nat) : Int) by omega,
      ih k l (m + 2) (i + 1) (by omega) (by omega) hl (by omega) hh.2 (by omega)]
    congr 2
    omega
theorem heldPieceS_f {k : Nat} (n : Nat) (hl : n ≤ 1048576) (hk : n + 1 ≤ k) : laws_heldPieceS.f k (marks2 n 1) 1 = some ((1 + 2 * n : Nat) : Int) := by
  unfold laws_heldPieceS.f
  exact heldPieceS_l n k (marks2 n 1) 1 0 (by omega) (by rw [marks2_length]; omega) (by rw [marks2_length]; omega) (by omega) rfl (by omega)
theorem markIntS_g (d : Nat) : ∀ (k : Nat) (l : List Int) (m i : Nat), i ≤ l.length → l.length - i = d → l.length ≤ 1048576 → m ≤ 1048577 + i → d < k → ∃ z, laws_markIntS.l0 k l (m : Int) (i : Int) = some (((m + d : Nat) : Int), z) := by
  induction d with
  | zero =>
    intro k l m i hi hd hl hm hk
    obtain ⟨k, rfl⟩ : ∃ m, k = m + 1 := ⟨k - 1, by omega⟩
    rw [laws_markIntS.l0, if_neg (by omega)]
    exact ⟨l, rfl⟩
  | succ d ih =>
    intro k l m i hi hd hl hm hk
    obtain ⟨k, rfl⟩ : ∃ m, k = m + 1 := ⟨k - 1, by omega⟩
    rw [laws_markIntS.l0, if_pos (by omega), if_pos (by omega), w64 (by omega) (by omega), w64 (by omega) (by omega), show ((i : Int) + 1) = ((i + 1 : Nat) : Int) by omega, show ((m : Int) + 1) = ((m + 1 : Nat) : Int) by omega, Int.toNat_natCast]
    obtain ⟨z, hz⟩ := ih k (l.set i (m : Int)) (m + 1) (i + 1) (by simp; omega) (by simp; omega) (by simp; omega) (by omega) (by omega)
    refine ⟨z, hz.trans ?_⟩
    congr 3
    omega
theorem ExactSymbolsPut : laws_FnExactSymbolsPut.Pure := by
  intro l s _ _ _ _ _ _
  refine ⟨8000001, ?_⟩
  unfold laws_FnExactSymbolsPut.f
  by_cases hz : (l.length : Int) > 1048576
  · rw [if_pos hz]
  by_cases hy : (s.length : Int) > 1048576
  · rw [if_neg hz, if_pos hy]
  have hc := putR_length l s
  have e : ∀ a : List Int, decide (a = a) = true := fun a => by simp
  have T : ∀ k, 4000000 ≤ k → laws_toIntS.f k l = some l := fun k hk => toIntS_f l (by omega) (by omega)
  have U : ∀ k, 4000000 ≤ k → laws_toIntS.f k s = some s := fun k hk => toIntS_f s (by omega) (by omega)
  have I : ∀ k, 4000000 ≤ k → impl_SymbolsPut.f k l s = some (putR l s) := fun k hk => impl_SymbolsPut_f l s (by omega) (by omega)
  have P : ∀ k, 4000000 ≤ k → spec_SymbolsPut.f k l s = some (putR l s) := fun k hk => spec_SymbolsPut_f l s (by omega) (by omega) (by omega)
  obtain ⟨z, hm⟩ := markIntS_g s.length 8000001 s (1 + l.length) 0 (by omega) (by omega) (by omega) (by omega) (by omega)
  have M : laws_markIntS.f 8000001 s ((1 + l.length : Nat) : Int) = some (((1 + l.length + s.length : Nat) : Int), z) := hm
  have hj : laws_FnExactSymbolsPut.j0 8000001 l s (putR l s) (putR l s) false = some true := by
    rw [laws_FnExactSymbolsPut.j0]
    generalize putR l s = c at *
    rw [if_neg (by simp), markPieceS_f c (by omega) (by omega), Option.bind_some]
    simp only []
    rw [heldPieceS_f c.length (by omega) (by omega), Option.bind_some, if_neg (by omega), if_pos rfl, T _ (by omega), Option.bind_some, U _ (by omega), Option.bind_some, I _ (by omega), Option.bind_some, eqPieceS_f c (by omega) (by omega), Option.bind_some, if_pos rfl, Option.bind_some, if_neg (by omega), if_pos rfl]
  rw [if_neg hz, if_neg hy, T _ (by omega), Option.bind_some, U _ (by omega), Option.bind_some, P _ (by omega), Option.bind_some, Option.bind_some, Option.bind_some, I _ (by omega), Option.bind_some, eqPieceS_f _ (by omega) (by omega), Option.bind_some, if_pos rfl, Option.bind_some, eqIntS_f l l (by omega) (by omega), Option.bind_some, if_pos (e _), Option.bind_some, eqIntS_f s s (by omega) (by omega), Option.bind_some, if_pos (e _), markIntS_f l (by omega) (by omega), Option.bind_some]
  simp only []
  rw [M, Option.bind_some]
  simp only []
  rw [if_neg (by omega), Option.bind_some]
  exact hj
end Go.Proofs.Ytlmpgihimbechaa.My
