/- The codes of lengths, told by one plain list. -/
import Derived.Test.YtopkembjkoljgaaPAllx0
import Derived.Test.YtopkembjkoljgaaPAllx14
import Derived.Test.YtopkembjkoljgaaPAllx16
import Derived.Test.YtopkembjkoljgaaCodes
namespace Go.Proofs.Ytopkembjkoljgaa.My
open Go Go.RowKit Go.Proofs.YtopkembjkoljgaaW.PrintWords Go.Proofs.YtopkembjkoljgaaW.PrintLast Go.Proofs.YtopkembjkoljgaaW.PrintMore Go.Proofs.Ytopkembjkoljgaa.PAll

def codesR (l : List Int) : List Int := if okLens l then codesL l else []
theorem spec_CodesOf_f {k : Nat} (l : List Int) (hl : l.length ≤ 1048576) (hk : 2 * l.length + 8000 ≤ k) : spec_CodesOf.f k l = some (codesR l) := by
  unfold spec_CodesOf.f codesR
  rw [spec_LensOk_f l hl (by omega), Option.bind_some]
  cases h : okLens l with
  | false => rfl
  | true => rw [if_pos rfl, spec_codes_f l h (by omega), Option.bind_some]; rfl
theorem impl_CodesOf_f {k : Nat} (l : List Int) (hk : l.length + 8000 ≤ k) : impl_CodesOf.f k l = some (codesR l) := by
  unfold impl_CodesOf.f codesR
  rw [impl_LensOk_f l (by omega), Option.bind_some]
  cases h : okLens l with
  | false => rfl
  | true => rw [if_pos rfl, impl_codes_f l h (by omega), Option.bind_some]; rfl
theorem codesR_length (l : List Int) : (codesR l).length ≤ l.length := by
  unfold codesR
  split
  · simp [codesL]
  · simp
end Go.Proofs.Ytopkembjkoljgaa.My
