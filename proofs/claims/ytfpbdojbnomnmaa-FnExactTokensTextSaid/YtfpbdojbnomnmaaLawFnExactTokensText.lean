-- Written by a program of this session, after the kit's print. Not trusted: Lean checks it.
/- The law FnExactTokensText returns true, for every slice of tokens. No condition but what the row reads. -/
import Derived.Test.YtfpbdojbnomnmaaRows
import Derived.Test.YtfpbdojbnomnmaaPAllx0
import Derived.Test.YtfpbdojbnomnmaaLawsB15
import Derived.Test.YtfpbdojbnomnmaaRowTokenS
import Derived.WalkKit
import Derived.ProofKit
import Derived.OpenShut
import Derived.ShutString
import Derived.ChangeOld
import Derived.Below
import Derived.SizedLaws
import Derived.Test.YtfpbdojbnomnmaaWSized
namespace Go.Proofs.Ytfpbdojbnomnmaa.fnExactTokensText
open Go.ChangeShapes Go.WideShapes Go.ChangeAt Go.RowKit
set_option linter.unusedVariables false
theorem own : ownKnob Try.prog.godebug = none := by kernel_rfl
theorem laidOut : laidOutB Try.prog = true := by kernel_rfl
set_option maxRecDepth 100000 in
theorem lifted (os : Os) (started : os.Started) (H : Type) (enc : TypeId × Value → H) :
    ReturnsInHanded {} Try.checked os 7 .any (Rows.fnExactTokensTextSpec.pre6 enc Try.prog Try.f7 Rows.fnExactTokensTextRow.domain false) (Rows.fnExactTokensTextSpec.post enc Try.prog Try.f7 false true false false) := by
  refine returnsInHanded_of_change_sized (C := Try.checked) own started (by kernel_rfl) Try.func7
    (ChangeSpec.witness6 (enc := enc) (C := Try.checked) false ⟨#[], #[.slice none 0 0], []⟩ 8 (by kernel_rfl) (by kernel_rfl) (by kernel_rfl) (by kernel_rfl)) ?_
  intro W base args ds gs before hval0 hW hcnd hsz0 _
  have hval : ∀ (j : Nat) t v, Try.f7.params[j]? = some t → args[j]? = some v → Value.okWide Try.prog W .any base t v := hval0
  have hW' := hW
  obtain ⟨p, q, hA0, hV, rfl, hfz, hnd⟩ := hW
  have hA : DataW.TrodAll enc Try.prog W 0 (fun _ => true) true Try.f7.params.toList args.toList ds p := hA0
  rw [Try.params7] at hA hval
  obtain ⟨v0, vs0, d0, ds0, p0, q0, hargs, rfl, rfl, h0, r0⟩ := trodAll_cons hA
  obtain ⟨rfl, rfl, rfl⟩ := trodAll_nil r0
  obtain rfl : args = #[v0] := by cases args; simp_all
  obtain ⟨rfl, rfl⟩ := trodVars_none hV
  obtain ⟨a0, len0, cap0, rfl⟩ := okWide_slice Try.underlying37 (hval 0 37 v0 rfl rfl)
  have k0 := h0
  have lt0 : ∀ x ∈ p0, x.block < W.heap.size := by obtain ⟨m, hm⟩ := k0; exact DataW.trod_lt m _ _ _ hm
  obtain ⟨l, rfl, hl, hr, hc⟩ : ∃ l : List PAll.S72, l.length = len0 ∧ len0 ≤ 9223372036854775807 ∧ Go.Proofs.YtfpbdojbnomnmaaW.PrintWords.Kd.C PAll.k72 W a0 len0 l ∧ len0 ≤ cap0 := by
    obtain ⟨fuel, hf⟩ := h0
    have hf' : DataW.trod enc Try.prog W 0 (fun _ => true) true fuel 37 [.slice a0 len0 cap0] = some (d0, p0) := by simpa [Value.cells] using hf
    exact My.open_tokens Try.underlying37 Try.underlying72 (by kernel_rfl) rfl rfl rfl (by kernel_rfl) (by kernel_rfl) (by kernel_rfl) Try.underlying3 Try.underlying3 Try.underlying3 hf'
  clear hA0 hval0 hsz0
  obtain ⟨k, hk⟩ := My.ExactTokensText l hl
  refine (PAll.laws_FnExactTokensText.calls k a0 cap0 l true W hr hc hk).mono fun e W' ⟨he, bel⟩ => ?_
  subst he
  exact ⟨_, rfl, _, _, _, [], _, [], hW', trodAll_mk1 (shut_bool Try.underlying4 _), (trodAll_cons_mk (Below.trod laidOut (by kernel_rfl) (of_decide_eq_true (by kernel_rfl)) k0 bel lt0) trodAll_mk0), rfl, bel.frame _, fun h => by cases h⟩
theorem jf0 : (Rows.fnExactTokensTextRow.wf (OpenSpec.ofChange Rows.fnExactTokensTextSpec)) = true := by kernel_rfl
theorem jf1 : (laidOutB Try.prog) = true := by kernel_rfl
theorem jf2 : (mapsRowed Try.prog) = true := by kernel_rfl
theorem jf3 : (namedTie Try.prog Rows.fnExactTokensTextRow.named Rows.fnExactTokensTextSpec.vars) = true := by kernel_rfl
theorem jf4 : ((Try.prog.stops == [])) = true := by kernel_rfl
theorem jf5 : ((Try.prog.stopKnobs == [])) = true := by kernel_rfl
theorem jf6 : ((Rows.fnExactTokensTextRow.inPlace == Try.prog.inPlace 7)) = true := by kernel_rfl
theorem jf7 : ((Rows.fnExactTokensTextRow.unfollowed == Try.prog.unfollowed 7)) = true := by kernel_rfl
theorem jf8 : ((Rows.fnExactTokensTextRow.recurses == Try.prog.recurses 7)) = true := by kernel_rfl
theorem jf9 : ((Rows.fnExactTokensTextRow.named == Try.prog.varsNamed 7)) = true := by kernel_rfl
theorem jf10 : ((Rows.fnExactTokensTextRow.plainKeys == Try.prog.plainKeys)) = true := by kernel_rfl
theorem jf11 : (Try.prog.stopsHeard) = true := by kernel_rfl
theorem facts : joinedFacts Try.prog 7 Try.f7 Rows.fnExactTokensTextSpec Rows.fnExactTokensTextRow = true := by
  unfold joinedFacts
  rw [jf0, jf1, jf2, jf3, jf4, jf5, jf6, jf7, jf8, jf9, jf10, jf11]
  kernel_rfl
theorem over : Rows.fnExactTokensTextRow.holds Try.pinned (OpenSpec.ofChange Rows.fnExactTokensTextSpec) :=
  OpenClaim.holds_of_wide 7 Try.f7 rfl rfl rfl rfl rfl rfl rfl ⟨rfl, rfl, rfl, rfl, rfl⟩ rfl rfl rfl rfl rfl (by kernel_rfl) Try.func7 facts
    (of_decide_eq_true (by kernel_rfl)) (by unfold Func.isWrapper; first | (rw [if_pos (by decide +kernel)]; kernel_rfl) | (rw [if_neg (by decide +kernel)]; exact ⟨rfl, rfl⟩))
    (fun os started H enc _ => lifted os started H enc)
theorem proved : Rows.FnExactTokensTextSaid := over
#print axioms proved
end Go.Proofs.Ytfpbdojbnomnmaa.fnExactTokensText
namespace Go.Proofs.Ytfpbdojbnomnmaa
/-- The row, under a short name, for the claim. -/
theorem fnExactTokensText_holds : Rows.FnExactTokensTextSaid := fnExactTokensText.proved
end Go.Proofs.Ytfpbdojbnomnmaa
