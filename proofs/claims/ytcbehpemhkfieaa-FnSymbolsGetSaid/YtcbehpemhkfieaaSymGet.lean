/- Symbols that are read of a text: the reference's functions, told by the plain one. -/
import Derived.Test.YtcbehpemhkfieaaPAllx0
import Derived.Test.YtcbehpemhkfieaaPAllx25
import Derived.Test.YtcbehpemhkfieaaPAllx31
import Derived.Test.YtcbehpemhkfieaaPAllx32
import Derived.Test.YtcbehpemhkfieaaSymGetI
import Derived.Test.YtcbehpemhkfieaaSymS
namespace Go.Proofs.Ytcbehpemhkfieaa.My
open Go Go.RowKit Go.Proofs.YtcbehpemhkfieaaW.PrintWords Go.Proofs.YtcbehpemhkfieaaW.PrintLast Go.Proofs.YtcbehpemhkfieaaW.PrintMore Go.Proofs.Ytcbehpemhkfieaa.PAll
open Go.Proofs.Ytcbehpemhkfieaa.Bit

/-! ### The reference's -/
theorem specGet_bad {l : List Int} {k : Nat} (hk2 : 1 ≤ k) (out : List Int) (m i : Int) (s : ByteArray) (p : Int) : spec_SymbolsGet.l0 k l m out (codesL l) i s p true = some ([], false) := by
  obtain ⟨k, rfl⟩ : ∃ m, k = m + 1 := ⟨k - 1, by omega⟩
  rw [spec_SymbolsGet.l0]
  by_cases h : i < m
  · rw [if_pos h, if_pos rfl]
  · rw [if_neg h, if_pos rfl]
theorem specGet_l {l : List Int} (hk : okLens l = true) (s : ByteArray) (hs : s.size ≤ 1099511627776) : ∀ (d k i p : Nat) (out : List Int), out.length ≤ i → i + d ≤ 4000 → p ≤ 8 * s.size → d + 7000 < k →
    spec_SymbolsGet.l0 k l ((i + d : Nat) : Int) out (codesL l) (i : Int) s (p : Int) false = some (endS out (getS l s d p))
  | 0, k, i, p, out, ho, hm, hp, hk2 => by
    obtain ⟨k, rfl⟩ : ∃ m, k = m + 1 := ⟨k - 1, by omega⟩
    rw [spec_SymbolsGet.l0, if_neg (by omega), if_neg (by decide), getS, endS, List.append_nil]
  | d + 1, k, i, p, out, ho, hm, hp, hk2 => by
    obtain ⟨k, rfl⟩ : ∃ m, k = m + 1 := ⟨k - 1, by omega⟩
    have hb := sS_is hk (okLens_at hk).2.1 s hs 15 0 1 p k (Nat.le_refl _) (by omega) (by omega) hp (by rw [need15]; omega)
    rw [spec_SymbolsGet.l0, if_pos (by omega), if_neg (by decide), getS]
    unfold spec_l1Src_symbol.f
    cases e : symN l s 15 0 1 p with
    | none =>
      rw [e] at hb
      obtain ⟨v, q, hq⟩ := hb
      have hq : spec_l1Src_symbol.l0 k l (codesL l) 0 1 s (p : Int) false = some (v, s, q, true) := hq
      rw [hq, Option.bind_some]
      simp only []
      rw [if_pos (by omega), specGet_bad (by omega)]
      rfl
    | some jq =>
      obtain ⟨j, q⟩ := jq
      rw [e] at hb
      have hq : spec_l1Src_symbol.l0 k l (codesL l) 0 1 s (p : Int) false = some ((j : Int), s, (q : Int), false) := hb
      rw [hq, Option.bind_some]
      simp only []
      rw [if_pos (by omega), w64 (by omega) (by omega), show ((i : Int) + 1) = ((i + 1 : Nat) : Int) by omega, show i + (d + 1) = (i + 1) + d by omega,
        specGet_l hk s hs d k (i + 1) q (out ++ [(j : Int)]) (by simp; omega) (by omega) (symN_le l s 15 0 1 p j q e).1 (by omega)]
      cases getS l s d q with
      | none => rfl
      | some o => simp [endS]
theorem spec_SymbolsGet_f {k : Nat} (l : List Int) (hl : l.length ≤ 1048576) (s : ByteArray) (hs : s.size ≤ 1099511627776) (m : Int) (hk : 15000 + 2 * l.length ≤ k) : spec_SymbolsGet.f k l s m = some (symGetR l s m) := by
  unfold spec_SymbolsGet.f symGetR
  obtain ⟨k, rfl⟩ : ∃ m, k = m + 1 := ⟨k - 1, by omega⟩
  rw [Option.bind_some, spec_LensOk_f l hl (by omega), Option.bind_some]
  cases h : okLens l with
  | false => rw [if_neg (by decide), if_neg (by simp), spec_SymbolsGet.j0, if_pos rfl]
  | true =>
    rw [if_pos rfl, l1In_f, Option.bind_some, spec_SymbolsGet.j0]
    cases hm : (decide (0 ≤ m) && decide (m ≤ 4000)) with
    | false =>
      simp only [Bool.and_eq_false_iff, decide_eq_false_iff_not] at hm
      rw [if_pos (by decide), if_neg (by omega)]
    | true =>
      simp only [Bool.and_eq_true, decide_eq_true_eq] at hm
      obtain ⟨n, rfl⟩ := Int.eq_ofNat_of_zero_le hm.1
      rw [if_neg (by decide), if_pos ⟨rfl, hm⟩, spec_codes_f l h (by omega), Option.bind_some]
      have := specGet_l h s hs n k 0 0 [] (by simp) (by omega) (by omega) (by omega)
      rw [Nat.zero_add] at this
      exact this
end Go.Proofs.Ytcbehpemhkfieaa.My
