/- The laws' own comparison of two rows that are alike. -/
import Derived.Test.YtcbehpemhkfieaaPAllx0
import Derived.Test.YtcbehpemhkfieaaPAllx26
import Derived.Test.YtcbehpemhkfieaaMA
namespace Go.Proofs.Ytcbehpemhkfieaa.My
open Go Go.RowKit Go.Proofs.YtcbehpemhkfieaaW.PrintWords Go.Proofs.YtcbehpemhkfieaaW.PrintLast Go.Proofs.YtcbehpemhkfieaaW.PrintMore Go.Proofs.Ytcbehpemhkfieaa.PAll

theorem cbInts_l (d : Nat) : ∀ (k : Nat) (l : List Int) (i : Nat), i ≤ l.length → l.length - i = d → l.length ≤ 100000 → d < k → laws_cbInts.l0 k l l (i : Int) = some true := by
  induction d with
  | zero =>
    intro k l i hi hd hl hk
    obtain ⟨k, rfl⟩ : ∃ m, k = m + 1 := ⟨k - 1, by omega⟩
    rw [laws_cbInts.l0, if_neg (by omega)]
  | succ d ih =>
    intro k l i hi hd hl hk
    obtain ⟨k, rfl⟩ : ∃ m, k = m + 1 := ⟨k - 1, by omega⟩
    rw [laws_cbInts.l0, if_pos (by omega), if_pos (by omega), if_pos (by omega), if_pos rfl, w64 (by omega) (by omega), show ((i : Int) + 1) = ((i + 1 : Nat) : Int) by omega]
    exact ih k l (i + 1) (by omega) (by omega) hl (by omega)
theorem cbInts_f {k : Nat} (l : List Int) (hl : l.length ≤ 100000) (hk : l.length < k) : laws_cbInts.f k l l = some true := by
  unfold laws_cbInts.f
  rw [if_pos rfl]
  exact cbInts_l l.length k l 0 (by omega) (by omega) hl hk

end Go.Proofs.Ytcbehpemhkfieaa.My
