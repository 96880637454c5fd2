/- Put together: PutTwo, LawsSymbolsTwo. -/
import Derived.Test.YtopkembjkoljgaaPAllx0
import Derived.Test.YtopkembjkoljgaaPAllx20
import Derived.Test.YtopkembjkoljgaaPAllx22
import Derived.Test.YtopkembjkoljgaaPAllx23
import Derived.Test.YtopkembjkoljgaaPAllx25
import Derived.Test.YtopkembjkoljgaaPAllx26
import Derived.Test.YtopkembjkoljgaaLawsC2
import Derived.Test.YtopkembjkoljgaaDrawS
namespace Go.Proofs.Ytopkembjkoljgaa.My
open Go Go.RowKit Go.Proofs.YtopkembjkoljgaaW.PrintWords Go.Proofs.YtopkembjkoljgaaW.PrintLast Go.Proofs.YtopkembjkoljgaaW.PrintMore Go.Proofs.Ytopkembjkoljgaa.PAll

/-! ### Symbols put -/
def symOk (l : List Int) (v : Int) : Prop := isSym l v = true ∧ rd l v ≠ 0
theorem putL_ok (l : List Int) : ∀ (s : List Int) (out : List S43), (∀ v ∈ s, symOk l v) → putL l s out = out ++ s.map (piece l)
  | [], out, _ => by simp [putL]
  | v :: r, out, h => by
    obtain ⟨h1, h2⟩ := h v (by simp)
    rw [putL, if_pos h1, if_neg h2, putL_ok l r _ (fun x hx => h x (by simp [hx]))]
    simp
theorem putL_bad (l : List Int) : ∀ (s : List Int) (out : List S43), ¬ (∀ v ∈ s, symOk l v) → putL l s out = []
  | [], out, h => absurd (fun v hv => by cases hv) h
  | v :: r, out, h => by
    rw [putL]
    by_cases h1 : isSym l v = true
    · rw [if_pos h1]
      by_cases h2 : rd l v = 0
      · rw [if_pos h2]
      · rw [if_neg h2]
        refine putL_bad l r _ (fun hx => h (fun x hm => ?_))
        rcases List.mem_cons.1 hm with rfl | hm
        · exact ⟨h1, h2⟩
        · exact hx x hm
    · rw [if_neg h1]
theorem putR_twice {l s : List Int} (h : (putR l s).length = s.length) : putR l (s ++ s) = putR l s ++ putR l s := by
  unfold putR at h ⊢
  by_cases hk : okLens l = true
  · rw [if_pos hk] at h ⊢
    rw [if_pos hk]
    by_cases hs : ∀ v ∈ s, symOk l v
    · rw [putL_ok l s _ hs, putL_ok l (s ++ s) _ (fun v hv => hs v (by simpa using hv))]
      simp
    · rw [putL_bad l s _ hs] at h
      have : s = [] := List.eq_nil_of_length_eq_zero (by simpa using h.symm)
      subst this
      exact absurd (fun v hv => by cases hv) hs
  · rw [if_neg hk, if_neg hk]
    rfl
theorem rd57P {l : List S43} {i : Nat} (h : i < l.length) : rd_T43 l (i : Int) = l[i] := by simp [rd_T43, List.getElem?_eq_getElem h]
theorem cbPieces_l (d : Nat) : ∀ (k : Nat) (l : List S43) (i : Nat), i ≤ l.length → l.length - i = d → l.length ≤ 100000 → d < k → laws_cbPieces.l0 k l l (i : Int) = some true := by
  induction d with
  | zero =>
    intro k l i hi hd hl hk
    obtain ⟨k, rfl⟩ : ∃ m, k = m + 1 := ⟨k - 1, by omega⟩
    rw [laws_cbPieces.l0, if_neg (by omega)]
  | succ d ih =>
    intro k l i hi hd hl hk
    obtain ⟨k, rfl⟩ : ∃ m, k = m + 1 := ⟨k - 1, by omega⟩
    rw [laws_cbPieces.l0, if_pos (by omega), if_pos (by omega), if_pos (by omega), if_neg (by simp), w64 (by omega) (by omega), show ((i : Int) + 1) = ((i + 1 : Nat) : Int) by omega]
    exact ih k l (i + 1) (by omega) (by omega) hl (by omega)
theorem cbPieces_f {k : Nat} (l : List S43) (hl : l.length ≤ 100000) (hk : l.length < k) : laws_cbPieces.f k l l = some true := by
  unfold laws_cbPieces.f
  rw [if_pos rfl]
  exact cbPieces_l l.length k l 0 (by omega) (by omega) hl hk
end Go.Proofs.Ytopkembjkoljgaa.My

namespace Go.Proofs.Ytopkembjkoljgaa.My
open Go Go.RowKit Go.Proofs.YtopkembjkoljgaaW.PrintWords Go.Proofs.YtopkembjkoljgaaW.PrintLast Go.Proofs.YtopkembjkoljgaaW.PrintMore Go.Proofs.Ytopkembjkoljgaa.PAll

theorem LawSymbolsTwo : laws_FnSymbolsTwo.Pure := by
  intro l0 _ _ hl0
  obtain ⟨b, hb, ho⟩ := open_f hl0
  obtain ⟨l, q, hl1, hl2, hq1, hq2, hd⟩ := lens_f hb (p := 0) (by omega) (by omega)
  obtain ⟨s, q2, hs, _, _, hd2⟩ := syms_f hb (p := q) (by omega) (by omega) hl1 (by omega)
  refine ⟨200001, ?_⟩
  have I : ∀ x : List Int, x.length ≤ 300 → ∀ k, 100000 ≤ k → impl_SymbolsPut.f k l x = some (putR l x) := fun x hx k hk => impl_SymbolsPut_f l x (by omega) (by omega)
  have P : ∀ k, 100000 ≤ k → spec_SymbolsPut.f k l s = some (putR l s) := fun k hk => spec_SymbolsPut_f l s (by omega) (by omega) (by omega)
  have hp := putR_length l s
  have D : spec_DrawSymbolsPut.f 200001 l0 = some (l, s) := by
    unfold spec_DrawSymbolsPut.f
    rw [ho, Option.bind_some, hd _ (by omega), Option.bind_some, hd2 _ (by omega), Option.bind_some]
  unfold laws_FnSymbolsTwo.f
  by_cases hz : (l0.length : Int) > 1048576
  · rw [if_pos hz]
  rw [if_neg hz, D, Option.bind_some, I s (by omega) _ (by omega), Option.bind_some, P _ (by omega), Option.bind_some, cbPieces_f _ (by omega) (by omega), Option.bind_some, if_pos rfl]
  by_cases he : (putR l s).length = s.length
  · have e : (((putR l s).length : Int) != (s.length : Int)) = false := by simp [he]
    simp only []
    rw [e, laws_FnSymbolsTwo.j0, if_neg (by simp)]
    simp only [Option.bind_some, List.nil_append, List.length_nil, Nat.zero_add]
    rw [if_pos (by omega), if_pos (by omega), I _ (by simp; omega) _ (by omega), Option.bind_some, if_pos (by omega), if_pos (by omega), putR_twice he, cbPieces_f _ (by simp; omega) (by simp; omega)]
    rfl
  · have e : (((putR l s).length : Int) != (s.length : Int)) = true := by simp; omega
    simp only []
    rw [e, laws_FnSymbolsTwo.j0, if_pos rfl, P _ (by omega), Option.bind_some, cbPieces_f _ (by omega) (by omega)]
    rfl
end Go.Proofs.Ytopkembjkoljgaa.My
