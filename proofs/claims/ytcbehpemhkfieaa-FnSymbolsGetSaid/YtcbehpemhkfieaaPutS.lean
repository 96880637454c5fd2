/- Symbols put: plain, and the reference's function told by it. -/
import Derived.Test.YtcbehpemhkfieaaPAllx0
import Derived.Test.YtcbehpemhkfieaaPAllx19
import Derived.Test.YtcbehpemhkfieaaPAllx20
import Derived.Test.YtcbehpemhkfieaaMK
import Derived.Test.YtcbehpemhkfieaaMC
namespace Go.Proofs.Ytcbehpemhkfieaa.My
open Go Go.RowKit Go.Proofs.YtcbehpemhkfieaaW.PrintWords Go.Proofs.YtcbehpemhkfieaaW.PrintLast Go.Proofs.YtcbehpemhkfieaaW.PrintMore Go.Proofs.Ytcbehpemhkfieaa.PAll

def isSym (l : List Int) (v : Int) : Bool := decide (0 ≤ v) && decide (v ≤ (l.length : Int) - 1)
def piece (l : List Int) (v : Int) : S49 := ⟨turnI (rd (codesL l) v) (rd l v), rd l v⟩
def putL (l : List Int) : List Int → List S49 → List S49
  | [], out => out
  | v :: r, out => if isSym l v then (if rd l v = 0 then [] else putL l r (out ++ [piece l v])) else []
def putR (l s : List Int) : List S49 := if okLens l then putL l s [] else []
theorem putL_length (l : List Int) : ∀ (s : List Int) (out : List S49), (putL l s out).length ≤ out.length + s.length
  | [], out => by simp [putL]
  | v :: r, out => by
    unfold putL
    split
    · split
      · simp
      · have := putL_length l r (out ++ [piece l v])
        simp at this ⊢
        omega
    · simp
theorem putR_length (l s : List Int) : (putR l s).length ≤ s.length := by
  unfold putR
  split
  · have := putL_length l s []
    simpa using this
  · simp
theorem specPut_l (l : List Int) (h : okLens l = true) (d : Nat) : ∀ (k : Nat) (s : List Int) (out : List S49) (i : Nat), i ≤ s.length → s.length - i = d → s.length ≤ 1048576 → out.length ≤ i → d + 40 < k →
    spec_SymbolsPut.l0 k l s out (codesL l) (i : Int) = some (putL l (s.drop i) out) := by
  have hl := (okLens_at h).2.1
  have hcl := codesL_length l
  induction d with
  | zero =>
    intro k s out i hi hd hs ho hk
    obtain ⟨k, rfl⟩ : ∃ m, k = m + 1 := ⟨k - 1, by omega⟩
    rw [spec_SymbolsPut.l0, if_neg (by omega), List.drop_of_length_le (by omega)]
    rfl
  | succ d ih =>
    intro k s out i hi hd hs ho hk
    obtain ⟨k, rfl⟩ : ∃ m, k = m + 1 := ⟨k - 1, by omega⟩
    rw [spec_SymbolsPut.l0, if_pos (by omega), if_pos (by omega), rd_int_at (show i < s.length by omega), List.drop_eq_getElem_cons (show i < s.length by omega), l1In_f, Option.bind_some, w64 (x := (l.length : Int) - 1) (by omega) (by omega)]
    generalize s[i]'(by omega) = v
    rw [putL, isSym]
    cases hv : (decide (0 ≤ v) && decide (v ≤ (l.length : Int) - 1)) with
    | false => rfl
    | true =>
      simp only [Bool.and_eq_true, decide_eq_true_eq] at hv
      rw [if_pos rfl, if_pos rfl, if_pos hv.1, if_pos (by omega)]
      by_cases h0 : rd l v = 0
      · rw [if_pos h0, if_pos h0]
      · obtain ⟨j, rfl⟩ := Int.eq_ofNat_of_zero_le hv.1
        obtain ⟨n, c, e1, h1, h2, e2, _, h3⟩ := sym_code h (j := j) (by omega) h0
        have e3 : spec_l3Piece.f k l (codesL l) (j : Int) = some ((piece l j).f0, (piece l j).f1) := by
          unfold spec_l3Piece.f piece
          rw [if_pos (by omega), if_pos (by omega), if_pos (by omega), e1, e2, l1Turn_f (by omega) h3 (by omega), Option.bind_some, turnI_ok (by omega) h3]
        rw [if_neg h0, if_neg h0, e3, Option.bind_some, if_pos (by omega), w64 (by omega) (by omega), show ((i : Int) + 1) = ((i + 1 : Nat) : Int) by omega]
        exact ih k s _ (i + 1) (by omega) (by omega) hs (by simp; omega) (by omega)
theorem spec_SymbolsPut_f {k : Nat} (l s : List Int) (hl : l.length ≤ 1048576) (hs : s.length ≤ 1048576) (hk : 8000 + 2 * l.length + s.length ≤ k) : spec_SymbolsPut.f k l s = some (putR l s) := by
  unfold spec_SymbolsPut.f putR
  rw [Option.bind_some, spec_LensOk_f l hl (by omega), Option.bind_some]
  cases h : okLens l with
  | false => rfl
  | true =>
    rw [if_pos rfl, spec_codes_f l h (by omega), Option.bind_some]
    exact specPut_l l h s.length k s [] 0 (by omega) (by omega) hs (by simp) (by omega)
end Go.Proofs.Ytcbehpemhkfieaa.My
