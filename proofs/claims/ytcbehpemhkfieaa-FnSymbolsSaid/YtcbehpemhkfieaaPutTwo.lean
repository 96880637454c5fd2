/- Symbols put: of two lists. -/
import Derived.Test.YtcbehpemhkfieaaPAllx0
import Derived.Test.YtcbehpemhkfieaaPAllx16
import Derived.Test.YtcbehpemhkfieaaLawsC2
namespace Go.Proofs.Ytcbehpemhkfieaa.My
open Go Go.RowKit Go.Proofs.YtcbehpemhkfieaaW.PrintWords Go.Proofs.YtcbehpemhkfieaaW.PrintLast Go.Proofs.YtcbehpemhkfieaaW.PrintMore Go.Proofs.Ytcbehpemhkfieaa.PAll

/-! ### Symbols put -/
def symOk (l : List Int) (v : Int) : Prop := isSym l v = true ∧ rd l v ≠ 0
theorem putL_ok (l : List Int) : ∀ (s : List Int) (out : List S49), (∀ v ∈ s, symOk l v) → putL l s out = out ++ s.map (piece l)
  | [], out, _ => by simp [putL]
  | v :: r, out, h => by
    obtain ⟨h1, h2⟩ := h v (by simp)
    rw [putL, if_pos h1, if_neg h2, putL_ok l r _ (fun x hx => h x (by simp [hx]))]
    simp
theorem putL_bad (l : List Int) : ∀ (s : List Int) (out : List S49), ¬ (∀ v ∈ s, symOk l v) → putL l s out = []
  | [], out, h => absurd (fun v hv => by cases hv) h
  | v :: r, out, h => by
    rw [putL]
    by_cases h1 : isSym l v = true
    · rw [if_pos h1]
      by_cases h2 : rd l v = 0
      · rw [if_pos h2]
      · rw [if_neg h2]
        refine putL_bad l r _ (fun hx => h (fun x hm => ?_))
        rcases List.mem_cons.1 hm with rfl | hm
        · exact ⟨h1, h2⟩
        · exact hx x hm
    · rw [if_neg h1]
theorem putR_twice {l s : List Int} (h : (putR l s).length = s.length) : putR l (s ++ s) = putR l s ++ putR l s := by
  unfold putR at h ⊢
  by_cases hk : okLens l = true
  · rw [if_pos hk] at h ⊢
    rw [if_pos hk]
    by_cases hs : ∀ v ∈ s, symOk l v
    · rw [putL_ok l s _ hs, putL_ok l (s ++ s) _ (fun v hv => hs v (by simpa using hv))]
      simp
    · rw [putL_bad l s _ hs] at h
      have : s = [] := List.eq_nil_of_length_eq_zero (by simpa using h.symm)
      subst this
      exact absurd (fun v hv => by cases hv) hs
  · rw [if_neg hk, if_neg hk]
    rfl
theorem rd57P {l : List S49} {i : Nat} (h : i < l.length) : rd_T49 l (i : Int) = l[i] := by simp [rd_T49, List.getElem?_eq_getElem h]
theorem cbPieces_l (d : Nat) : ∀ (k : Nat) (l : List S49) (i : Nat), i ≤ l.length → l.length - i = d → l.length ≤ 100000 → d < k → laws_cbPieces.l0 k l l (i : Int) = some true := by
  induction d with
  | zero =>
    intro k l i hi hd hl hk
    obtain ⟨k, rfl⟩ : ∃ m, k = m + 1 := ⟨k - 1, by omega⟩
    rw [laws_cbPieces.l0, if_neg (by omega)]
  | succ d ih =>
    intro k l i hi hd hl hk
    obtain ⟨k, rfl⟩ : ∃ m, k = m + 1 := ⟨k - 1, by omega⟩
    rw [laws_cbPieces.l0, if_pos (by omega), if_pos (by omega), if_pos (by omega), if_neg (by simp), w64 (by omega) (by omega), show ((i : Int) + 1) = ((i + 1 : Nat) : Int) by omega]
    exact ih k l (i + 1) (by omega) (by omega) hl (by omega)
theorem cbPieces_f {k : Nat} (l : List S49) (hl : l.length ≤ 100000) (hk : l.length < k) : laws_cbPieces.f k l l = some true := by
  unfold laws_cbPieces.f
  rw [if_pos rfl]
  exact cbPieces_l l.length k l 0 (by omega) (by omega) hl hk
end Go.Proofs.Ytcbehpemhkfieaa.My
