/-
  No cell of these rows narrows 'for every input' (looked for: loops, veiled, ifaces, maps, wideKeys, modest, calm, conditions, laid).
  DERIVED. THE GIVEN ROWS OF THIS SEAT. 7 by the template 'for every input the law returns true; each argument reads behind the call as it read before'; 0 by the template 'total and deterministic' (their statements: YtdenepapeoiiiaaTotals.lean).
  GIVEN WITH THE SEED: the statements are not yours to turn. If you find one false, say at which input.
  Laid BY PROGRAM, IN A SANDBOX (cutbox-rows.mjs): the forced cells as the released guide's own fill.sh prints them over the translation f054e635107ac671… (all of the seat's roots in one cut). By AI agents, Wed Nov 11 2026. No macro, syntax, notation, axiom, sorry.
-/
import Derived.Test.YtdenepapeoiiiaaChecked
import GoSem.Claim
import GoSem.ClaimJoined
import GoSem.ClaimMapViews
import Derived.JoinedTies
import Derived.KernelRfl
namespace Go.Proofs.Ytdenepapeoiiiaa
/- THE CELL 'sum', in the pinned program and in every row, IS THE sha256 OF THE DUMP (.gsa) THAT YtdenepapeoiiiaaProg.lean LOADS. Nothing in Lean hashes anything: it is a label: what it is worth is what the hold of that sum in a sandbox is worth. -/
noncomputable def Try.pinned : Pinned := { name := "ytdenepapeoiiiaa", sum := "f054e635107ac671a5117593aa75d9ebf19584b5b8d372a3a7f4a4d435c2d333", checked := Try.checked }
namespace Rows
def none {H : Type} : Left H := { results := [], args := [] }

/-- 'laws.FnExactLensOf': WHATEVER THE INPUT: true; the input reads as it did. -/
def fnExactLensOfSpec : ChangeSpec := { name := "fnExactLensOf", fn := fun _ => fun
  | [d1, d2] => { results := [.lit (.bool true)], args := [d1, d2] }
  | _ => none }
def fnExactLensOfRow : OpenClaim := { program := "ytdenepapeoiiiaa", sum := "f054e635107ac671a5117593aa75d9ebf19584b5b8d372a3a7f4a4d435c2d333", func := "loop.example/corbel/laws.FnExactLensOf", spec := "fnExactLensOf", apart := false }
def FnExactLensOfSaid : Prop := fnExactLensOfRow.holds Try.pinned (OpenSpec.ofChange fnExactLensOfSpec)

/-- ITS FALSE NEIGHBOUR: 'it returns false'. Refute it at one input. -/
def fnExactLensOfWrong : ChangeSpec := { name := "fnExactLensOf", fn := fun _ => fun
  | [d1, d2] => { results := [.lit (.bool false)], args := [d1, d2] }
  | _ => none }
def FnExactLensOfWrongFalsely : Prop := fnExactLensOfRow.holds Try.pinned (OpenSpec.ofChange fnExactLensOfWrong)

/-- 'laws.FnLens': WHATEVER THE INPUT: true; the input reads as it did. -/
def fnLensSpec : ChangeSpec := { name := "fnLens", fn := fun _ => fun
  | [d] => { results := [.lit (.bool true)], args := [d] }
  | _ => none }
def fnLensRow : OpenClaim := { program := "ytdenepapeoiiiaa", sum := "f054e635107ac671a5117593aa75d9ebf19584b5b8d372a3a7f4a4d435c2d333", func := "loop.example/corbel/laws.FnLens", spec := "fnLens", apart := false }
def FnLensSaid : Prop := fnLensRow.holds Try.pinned (OpenSpec.ofChange fnLensSpec)

/-- ITS FALSE NEIGHBOUR: 'it returns false'. Refute it at one input. -/
def fnLensWrong : ChangeSpec := { name := "fnLens", fn := fun _ => fun
  | [d] => { results := [.lit (.bool false)], args := [d] }
  | _ => none }
def FnLensWrongFalsely : Prop := fnLensRow.holds Try.pinned (OpenSpec.ofChange fnLensWrong)

/-- 'laws.FnLensMore': WHATEVER THE INPUT: true; the input reads as it did. -/
def fnLensMoreSpec : ChangeSpec := { name := "fnLensMore", fn := fun _ => fun
  | [d] => { results := [.lit (.bool true)], args := [d] }
  | _ => none }
def fnLensMoreRow : OpenClaim := { program := "ytdenepapeoiiiaa", sum := "f054e635107ac671a5117593aa75d9ebf19584b5b8d372a3a7f4a4d435c2d333", func := "loop.example/corbel/laws.FnLensMore", spec := "fnLensMore", apart := false }
def FnLensMoreSaid : Prop := fnLensMoreRow.holds Try.pinned (OpenSpec.ofChange fnLensMoreSpec)

/-- ITS FALSE NEIGHBOUR: 'it returns false'. Refute it at one input. -/
def fnLensMoreWrong : ChangeSpec := { name := "fnLensMore", fn := fun _ => fun
  | [d] => { results := [.lit (.bool false)], args := [d] }
  | _ => none }
def FnLensMoreWrongFalsely : Prop := fnLensMoreRow.holds Try.pinned (OpenSpec.ofChange fnLensMoreWrong)

/-- 'laws.FnLensSame': WHATEVER THE INPUT: true; the input reads as it did. -/
def fnLensSameSpec : ChangeSpec := { name := "fnLensSame", fn := fun _ => fun
  | [d] => { results := [.lit (.bool true)], args := [d] }
  | _ => none }
def fnLensSameRow : OpenClaim := { program := "ytdenepapeoiiiaa", sum := "f054e635107ac671a5117593aa75d9ebf19584b5b8d372a3a7f4a4d435c2d333", func := "loop.example/corbel/laws.FnLensSame", spec := "fnLensSame", apart := false }
def FnLensSameSaid : Prop := fnLensSameRow.holds Try.pinned (OpenSpec.ofChange fnLensSameSpec)

/-- ITS FALSE NEIGHBOUR: 'it returns false'. Refute it at one input. -/
def fnLensSameWrong : ChangeSpec := { name := "fnLensSame", fn := fun _ => fun
  | [d] => { results := [.lit (.bool false)], args := [d] }
  | _ => none }
def FnLensSameWrongFalsely : Prop := fnLensSameRow.holds Try.pinned (OpenSpec.ofChange fnLensSameWrong)

/-- 'laws.FnLensTwice': WHATEVER THE INPUT: true; the input reads as it did. -/
def fnLensTwiceSpec : ChangeSpec := { name := "fnLensTwice", fn := fun _ => fun
  | [d] => { results := [.lit (.bool true)], args := [d] }
  | _ => none }
def fnLensTwiceRow : OpenClaim := { program := "ytdenepapeoiiiaa", sum := "f054e635107ac671a5117593aa75d9ebf19584b5b8d372a3a7f4a4d435c2d333", func := "loop.example/corbel/laws.FnLensTwice", spec := "fnLensTwice", apart := false }
def FnLensTwiceSaid : Prop := fnLensTwiceRow.holds Try.pinned (OpenSpec.ofChange fnLensTwiceSpec)

/-- ITS FALSE NEIGHBOUR: 'it returns false'. Refute it at one input. -/
def fnLensTwiceWrong : ChangeSpec := { name := "fnLensTwice", fn := fun _ => fun
  | [d] => { results := [.lit (.bool false)], args := [d] }
  | _ => none }
def FnLensTwiceWrongFalsely : Prop := fnLensTwiceRow.holds Try.pinned (OpenSpec.ofChange fnLensTwiceWrong)

/-- 'laws.FnLensOne': WHATEVER THE INPUT: true; the input reads as it did. -/
def fnLensOneSpec : ChangeSpec := { name := "fnLensOne", fn := fun _ => fun
  | [d] => { results := [.lit (.bool true)], args := [d] }
  | _ => none }
def fnLensOneRow : OpenClaim := { program := "ytdenepapeoiiiaa", sum := "f054e635107ac671a5117593aa75d9ebf19584b5b8d372a3a7f4a4d435c2d333", func := "loop.example/corbel/laws.FnLensOne", spec := "fnLensOne", apart := false }
def FnLensOneSaid : Prop := fnLensOneRow.holds Try.pinned (OpenSpec.ofChange fnLensOneSpec)

/-- ITS FALSE NEIGHBOUR: 'it returns false'. Refute it at one input. -/
def fnLensOneWrong : ChangeSpec := { name := "fnLensOne", fn := fun _ => fun
  | [d] => { results := [.lit (.bool false)], args := [d] }
  | _ => none }
def FnLensOneWrongFalsely : Prop := fnLensOneRow.holds Try.pinned (OpenSpec.ofChange fnLensOneWrong)

/-- 'laws.FnLensBest': WHATEVER THE INPUT: true; the input reads as it did. -/
def fnLensBestSpec : ChangeSpec := { name := "fnLensBest", fn := fun _ => fun
  | [d] => { results := [.lit (.bool true)], args := [d] }
  | _ => none }
def fnLensBestRow : OpenClaim := { program := "ytdenepapeoiiiaa", sum := "f054e635107ac671a5117593aa75d9ebf19584b5b8d372a3a7f4a4d435c2d333", func := "loop.example/corbel/laws.FnLensBest", spec := "fnLensBest", apart := false }
def FnLensBestSaid : Prop := fnLensBestRow.holds Try.pinned (OpenSpec.ofChange fnLensBestSpec)

/-- ITS FALSE NEIGHBOUR: 'it returns false'. Refute it at one input. -/
def fnLensBestWrong : ChangeSpec := { name := "fnLensBest", fn := fun _ => fun
  | [d] => { results := [.lit (.bool false)], args := [d] }
  | _ => none }
def FnLensBestWrongFalsely : Prop := fnLensBestRow.holds Try.pinned (OpenSpec.ofChange fnLensBestWrong)

/- THE SECOND FORM. 'bulk': how many values and letters a reading holds, each counted each time it is reached (what is shared counts as often as it is met; a slice's spare places count too). A statement '..UptoSaid' is the law's where the arguments, and the package variables that the reading takes, are together of bulk at most 1048576: NARROWER than '..Said'. Prove '..Said' where nothing that the law and all that it calls make is longer than what came in: it says more and counts as full. Else prove '..UptoSaid'. A law counts once. -/
mutual
def uptoBulk {H : Type} : DataW H → Nat
  | .lit (.string bytes) => bytes.length + 1
  | .lit _ => 1
  | .nil => 1
  | .ptr d => uptoBulk d + 1
  | .slice elems spare => uptoBulkAll elems + uptoBulkAll spare + 1
  | .agg parts => uptoBulkAll parts + 1
  | .iface _ d => uptoBulk d + 1
  | .map entries => uptoBulkEntries entries + 1
  | .held _ => 1
def uptoBulkAll {H : Type} : List (DataW H) → Nat
  | [] => 0
  | d :: r => uptoBulk d + uptoBulkAll r
def uptoBulkEntries {H : Type} : List (Lit × DataW H) → Nat
  | [] => 0
  | x :: r => uptoBulkEntry x + uptoBulkEntries r
def uptoBulkEntry {H : Type} : Lit × DataW H → Nat
  | (.string bytes, d) => bytes.length + uptoBulk d + 1
  | (_, d) => uptoBulk d + 1
 end
def uptoSmall : (H : Type) → List (DataW H) → Bool := fun _ ds => decide (uptoBulkAll ds ≤ 1048576)
def OpenSpec.upto (s : _root_.Go.ChangeSpec) : _root_.Go.OpenSpec := { _root_.Go.OpenSpec.ofChange s with cond := some uptoSmall }

/-- 'laws.FnExactLensOf', WHERE WHAT IT READS IS OF BULK AT MOST 1048576: true; the input reads as it did. -/
def fnExactLensOfUptoRow : OpenClaim := { program := "ytdenepapeoiiiaa", sum := "f054e635107ac671a5117593aa75d9ebf19584b5b8d372a3a7f4a4d435c2d333", func := "loop.example/corbel/laws.FnExactLensOf", spec := "fnExactLensOf", apart := false, narrowed := true }
def FnExactLensOfUptoSaid : Prop := fnExactLensOfUptoRow.holds Try.pinned (OpenSpec.upto fnExactLensOfSpec)

/-- 'laws.FnLens', WHERE WHAT IT READS IS OF BULK AT MOST 1048576: true; the input reads as it did. -/
def fnLensUptoRow : OpenClaim := { program := "ytdenepapeoiiiaa", sum := "f054e635107ac671a5117593aa75d9ebf19584b5b8d372a3a7f4a4d435c2d333", func := "loop.example/corbel/laws.FnLens", spec := "fnLens", apart := false, narrowed := true }
def FnLensUptoSaid : Prop := fnLensUptoRow.holds Try.pinned (OpenSpec.upto fnLensSpec)

/-- 'laws.FnLensMore', WHERE WHAT IT READS IS OF BULK AT MOST 1048576: true; the input reads as it did. -/
def fnLensMoreUptoRow : OpenClaim := { program := "ytdenepapeoiiiaa", sum := "f054e635107ac671a5117593aa75d9ebf19584b5b8d372a3a7f4a4d435c2d333", func := "loop.example/corbel/laws.FnLensMore", spec := "fnLensMore", apart := false, narrowed := true }
def FnLensMoreUptoSaid : Prop := fnLensMoreUptoRow.holds Try.pinned (OpenSpec.upto fnLensMoreSpec)

/-- 'laws.FnLensSame', WHERE WHAT IT READS IS OF BULK AT MOST 1048576: true; the input reads as it did. -/
def fnLensSameUptoRow : OpenClaim := { program := "ytdenepapeoiiiaa", sum := "f054e635107ac671a5117593aa75d9ebf19584b5b8d372a3a7f4a4d435c2d333", func := "loop.example/corbel/laws.FnLensSame", spec := "fnLensSame", apart := false, narrowed := true }
def FnLensSameUptoSaid : Prop := fnLensSameUptoRow.holds Try.pinned (OpenSpec.upto fnLensSameSpec)

/-- 'laws.FnLensTwice', WHERE WHAT IT READS IS OF BULK AT MOST 1048576: true; the input reads as it did. -/
def fnLensTwiceUptoRow : OpenClaim := { program := "ytdenepapeoiiiaa", sum := "f054e635107ac671a5117593aa75d9ebf19584b5b8d372a3a7f4a4d435c2d333", func := "loop.example/corbel/laws.FnLensTwice", spec := "fnLensTwice", apart := false, narrowed := true }
def FnLensTwiceUptoSaid : Prop := fnLensTwiceUptoRow.holds Try.pinned (OpenSpec.upto fnLensTwiceSpec)

/-- 'laws.FnLensOne', WHERE WHAT IT READS IS OF BULK AT MOST 1048576: true; the input reads as it did. -/
def fnLensOneUptoRow : OpenClaim := { program := "ytdenepapeoiiiaa", sum := "f054e635107ac671a5117593aa75d9ebf19584b5b8d372a3a7f4a4d435c2d333", func := "loop.example/corbel/laws.FnLensOne", spec := "fnLensOne", apart := false, narrowed := true }
def FnLensOneUptoSaid : Prop := fnLensOneUptoRow.holds Try.pinned (OpenSpec.upto fnLensOneSpec)

/-- 'laws.FnLensBest', WHERE WHAT IT READS IS OF BULK AT MOST 1048576: true; the input reads as it did. -/
def fnLensBestUptoRow : OpenClaim := { program := "ytdenepapeoiiiaa", sum := "f054e635107ac671a5117593aa75d9ebf19584b5b8d372a3a7f4a4d435c2d333", func := "loop.example/corbel/laws.FnLensBest", spec := "fnLensBest", apart := false, narrowed := true }
def FnLensBestUptoSaid : Prop := fnLensBestUptoRow.holds Try.pinned (OpenSpec.upto fnLensBestSpec)

end Rows
end Go.Proofs.Ytdenepapeoiiiaa
