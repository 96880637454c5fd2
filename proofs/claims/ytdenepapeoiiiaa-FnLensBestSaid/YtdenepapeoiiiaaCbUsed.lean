/- How many lengths are used, and lengths put together. -/
import Derived.Test.YtdenepapeoiiiaaPAllx0
import Derived.Test.YtdenepapeoiiiaaPAllx19
import Derived.Test.YtdenepapeoiiiaaMA
namespace Go.Proofs.Ytdenepapeoiiiaa.My
open Go Go.RowKit Go.Proofs.YtdenepapeoiiiaaW.PrintWords Go.Proofs.YtdenepapeoiiiaaW.PrintLast Go.Proofs.YtdenepapeoiiiaaW.PrintMore Go.Proofs.Ytdenepapeoiiiaa.PAll

theorem cbUsed_l (d : Nat) : ∀ (k : Nat) (l : List Int) (n i : Nat), i ≤ l.length → l.length - i = d → l.length ≤ 1099511627776 → n ≤ i → d < k →
    laws_cbUsed.l0 k l (n : Int) (i : Int) = some ((n + used (l.drop i) : Nat) : Int) := by
  induction d with
  | zero =>
    intro k l n i hi hd hl hn hk
    obtain ⟨k, rfl⟩ : ∃ m, k = m + 1 := ⟨k - 1, by omega⟩
    rw [laws_cbUsed.l0, if_neg (by omega), List.drop_of_length_le (by omega)]
    simp [used]
  | succ d ih =>
    intro k l n i hi hd hl hn hk
    obtain ⟨k, rfl⟩ : ∃ m, k = m + 1 := ⟨k - 1, by omega⟩
    rw [laws_cbUsed.l0, if_pos (by omega), if_pos (by omega), rd_int_at (by omega), List.drop_eq_getElem_cons (show i < l.length by omega), used_cons, w64 (x := (i : Int) + 1) (by omega) (by omega), show ((i : Int) + 1) = ((i + 1 : Nat) : Int) by omega]
    by_cases h : l[i]'(by omega) > 0
    · rw [if_pos h, if_pos h, w64 (by omega) (by omega), show ((n : Int) + 1) = ((n + 1 : Nat) : Int) by omega, ih k l (n + 1) (i + 1) (by omega) (by omega) hl (by omega) (by omega)]
      congr 2
      omega
    · rw [if_neg h, if_neg h, ih k l n (i + 1) (by omega) (by omega) hl (by omega) (by omega)]
      congr 2
      omega
theorem cbUsed_f {k : Nat} (l : List Int) (hl : l.length ≤ 1099511627776) (hk : l.length < k) : laws_cbUsed.f k l = some (used l : Int) := by
  unfold laws_cbUsed.f
  have := cbUsed_l l.length k l 0 0 (by omega) (by omega) hl (by omega) hk
  simpa using this
theorem rng_append (l m : List Int) : rng (l ++ m) = (rng l && rng m) := by unfold rng; rw [List.all_append]
theorem used_append (l m : List Int) : used (l ++ m) = used l + used m := by unfold used; rw [List.countP_append]
theorem ks_append (l m : List Int) : ks (l ++ m) = ks l + ks m := by unfold ks; rw [List.map_append, List.sum_append]
end Go.Proofs.Ytdenepapeoiiiaa.My
