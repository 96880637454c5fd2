/- The laws' own helpers on lists of pieces: the size, a copy, a comparison. -/
import Derived.Test.YtfpbdojbnomnmaaPAllx7
import Derived.Test.YtfpbdojbnomnmaaPAllx8
import Derived.Test.YtfpbdojbnomnmaaBase
namespace Go.Proofs.Ytfpbdojbnomnmaa.My
open Go Go.RowKit Go.Proofs.YtfpbdojbnomnmaaW.PrintWords Go.Proofs.YtfpbdojbnomnmaaW.PrintLast Go.Proofs.YtfpbdojbnomnmaaW.PrintMore Go.Proofs.Ytfpbdojbnomnmaa.PAll

def conv (p : S65) : S47 := ⟨p.f0, p.f1⟩
theorem rd65 {l : List S65} {i : Nat} (h : i < l.length) : rd_T65 l (i : Int) = l[i] := by simp [rd_T65, List.getElem?_eq_getElem h]
theorem toPieceS_l (d : Nat) : ∀ (k : Nat) (l : List S65) (out : List S47) (i : Nat), i ≤ l.length → l.length - i = d → l.length ≤ 1099511627776 → out.length = l.length → out.take i = (l.map conv).take i → d < k →
    laws_toPieceS.l0 k l out (i : Int) = some (l.map conv) := by
  induction d with
  | zero =>
    intro k l out i hi hd hl ho ht hk
    obtain ⟨k, rfl⟩ : ∃ m, k = m + 1 := ⟨k - 1, by omega⟩
    rw [laws_toPieceS.l0, if_neg (by omega)]
    rw [List.take_of_length_le (by omega), List.take_of_length_le (by simp; omega)] at ht
    rw [ht]
  | succ d ih =>
    intro k l out i hi hd hl ho ht hk
    obtain ⟨k, rfl⟩ : ∃ m, k = m + 1 := ⟨k - 1, by omega⟩
    rw [laws_toPieceS.l0, if_pos (by omega), if_pos (by omega)]
    unfold laws_toPiece.f
    rw [Option.bind_some]
    rw [if_pos (by omega), w64 (by omega) (by omega), show ((i : Int) + 1) = ((i + 1 : Nat) : Int) by omega, rd65 (by omega), Int.toNat_natCast]
    refine ih k l _ (i + 1) (by omega) (by omega) hl (by simp; omega) ?_ (by omega)
    rw [List.take_succ_eq_append_getElem (by simp; omega), List.take_succ_eq_append_getElem (show i < (l.map conv).length by simp; omega), List.getElem_set_self, List.take_set_of_le (Nat.le_refl _), ht, List.getElem_map]
    rfl
theorem toPieceS_f {k : Nat} (l : List S65) (hl : l.length ≤ 1048576) (hk : l.length + 1 ≤ k) : laws_toPieceS.f k l = some (l.map conv) := by
  unfold laws_toPieceS.f
  rw [if_pos (by omega), if_pos (by omega)]
  exact toPieceS_l l.length k l _ 0 (by omega) (by omega) (by omega) (by simp) (by simp) (by omega)
theorem rd47 {l : List S47} {i : Nat} (h : i < l.length) : rd_T47 l (i : Int) = l[i] := by simp [rd_T47, List.getElem?_eq_getElem h]
theorem eqPieceS_l (d : Nat) : ∀ (k : Nat) (l : List S47) (i : Nat), i ≤ l.length → l.length - i = d → l.length ≤ 1099511627776 → d < k → laws_eqPieceS.l0 k l l (i : Int) = some true := by
  induction d with
  | zero =>
    intro k l i hi hd hl hk
    obtain ⟨k, rfl⟩ : ∃ m, k = m + 1 := ⟨k - 1, by omega⟩
    rw [laws_eqPieceS.l0, if_neg (by omega)]
  | succ d ih =>
    intro k l i hi hd hl hk
    obtain ⟨k, rfl⟩ : ∃ m, k = m + 1 := ⟨k - 1, by omega⟩
    rw [laws_eqPieceS.l0, if_pos (by omega), if_pos (by omega), if_pos (by omega)]
    unfold laws_eqPiece.f
    rw [if_pos rfl, if_pos rfl, Option.bind_some, if_pos rfl, w64 (by omega) (by omega), show ((i : Int) + 1) = ((i + 1 : Nat) : Int) by omega]
    exact ih k l (i + 1) (by omega) (by omega) hl (by omega)
theorem eqPieceS_f {k : Nat} (l : List S47) (hl : l.length ≤ 1048576) (hk : l.length + 1 ≤ k) : laws_eqPieceS.f k l l = some true := by
  unfold laws_eqPieceS.f
  rw [if_pos rfl]
  exact eqPieceS_l l.length k l 0 (by omega) (by omega) (by omega) (by omega)
theorem szPieceS_f (l : List S65) (hl : l.length ≤ 9223372036854775807) : ∃ z : Int, laws_szPieceS.f l 1048576 = some z ∧ (¬ z < 0 → l.length ≤ 1048576) := by
  unfold laws_szPieceS.f
  rw [w64 (by omega) (by omega)]
  by_cases h : (1048576 : Int) - (l.length : Int) < 0
  · exact ⟨-1, by rw [if_pos h], fun h => absurd h (by decide)⟩
  · exact ⟨_, by rw [if_neg h], fun _ => by omega⟩
end Go.Proofs.Ytfpbdojbnomnmaa.My
