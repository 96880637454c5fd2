/-
  No cell of these rows narrows 'for every input' (looked for: loops, veiled, ifaces, maps, wideKeys, modest, calm, conditions, laid).
  DERIVED. THE GIVEN ROWS OF THIS SEAT. 17 by the template 'for every input the law returns true; each argument reads behind the call as it read before'; 0 by the template 'total and deterministic' (their statements: YthngbhjlikbbmaaTotals.lean).
  GIVEN WITH THE SEED: the statements are not yours to turn. If you find one false, say at which input.
  Laid BY PROGRAM, IN A SANDBOX (cutbox-rows.mjs): the forced cells as the released guide's own fill.sh prints them over the translation 6555140a598c3b2b… (all of the seat's roots in one cut). By AI agents, Wed Nov 11 2026. No macro, syntax, notation, axiom, sorry.
-/
import Derived.Test.YthngbhjlikbbmaaChecked
import GoSem.Claim
import GoSem.ClaimJoined
import GoSem.ClaimMapViews
import Derived.JoinedTies
import Derived.KernelRfl
namespace Go.Proofs.Ythngbhjlikbbmaa
/- THE CELL 'sum', in the pinned program and in every row, IS THE sha256 OF THE DUMP (.gsa) THAT YthngbhjlikbbmaaProg.lean LOADS. Nothing in Lean hashes anything: it is a label: what it is worth is what the hold of that sum in a sandbox is worth. -/
noncomputable def Try.pinned : Pinned := { name := "ythngbhjlikbbmaa", sum := "6555140a598c3b2b0af0db801f58256d532c53a579a7e2b0ad81b269cbf01145", checked := Try.checked }
namespace Rows
def none {H : Type} : Left H := { results := [], args := [] }

/-- 'laws.FnExactConstants': WHATEVER THE INPUT: true; the input reads as it did. -/
def fnExactConstantsSpec : ChangeSpec := { name := "fnExactConstants", fn := fun _ => fun
  | [] => { results := [.lit (.bool true)], args := [] }
  | _ => none }
def fnExactConstantsRow : OpenClaim := { program := "ythngbhjlikbbmaa", sum := "6555140a598c3b2b0af0db801f58256d532c53a579a7e2b0ad81b269cbf01145", func := "loop.example/corbel/laws.FnExactConstants", spec := "fnExactConstants", apart := false }
def FnExactConstantsSaid : Prop := fnExactConstantsRow.holds Try.pinned (OpenSpec.ofChange fnExactConstantsSpec)

/-- ITS FALSE NEIGHBOUR: 'it returns false'. Refute it at one input. -/
def fnExactConstantsWrong : ChangeSpec := { name := "fnExactConstants", fn := fun _ => fun
  | [] => { results := [.lit (.bool false)], args := [] }
  | _ => none }
def FnExactConstantsWrongFalsely : Prop := fnExactConstantsRow.holds Try.pinned (OpenSpec.ofChange fnExactConstantsWrong)

/-- 'laws.FnExactAdler': WHATEVER THE INPUT: true; the input reads as it did. -/
def fnExactAdlerSpec : ChangeSpec := { name := "fnExactAdler", fn := fun _ => fun
  | [d] => { results := [.lit (.bool true)], args := [d] }
  | _ => none }
def fnExactAdlerRow : OpenClaim := { program := "ythngbhjlikbbmaa", sum := "6555140a598c3b2b0af0db801f58256d532c53a579a7e2b0ad81b269cbf01145", func := "loop.example/corbel/laws.FnExactAdler", spec := "fnExactAdler", apart := false }
def FnExactAdlerSaid : Prop := fnExactAdlerRow.holds Try.pinned (OpenSpec.ofChange fnExactAdlerSpec)

/-- ITS FALSE NEIGHBOUR: 'it returns false'. Refute it at one input. -/
def fnExactAdlerWrong : ChangeSpec := { name := "fnExactAdler", fn := fun _ => fun
  | [d] => { results := [.lit (.bool false)], args := [d] }
  | _ => none }
def FnExactAdlerWrongFalsely : Prop := fnExactAdlerRow.holds Try.pinned (OpenSpec.ofChange fnExactAdlerWrong)

/-- 'laws.FnExactCrc': WHATEVER THE INPUT: true; the input reads as it did. -/
def fnExactCrcSpec : ChangeSpec := { name := "fnExactCrc", fn := fun _ => fun
  | [d] => { results := [.lit (.bool true)], args := [d] }
  | _ => none }
def fnExactCrcRow : OpenClaim := { program := "ythngbhjlikbbmaa", sum := "6555140a598c3b2b0af0db801f58256d532c53a579a7e2b0ad81b269cbf01145", func := "loop.example/corbel/laws.FnExactCrc", spec := "fnExactCrc", apart := false }
def FnExactCrcSaid : Prop := fnExactCrcRow.holds Try.pinned (OpenSpec.ofChange fnExactCrcSpec)

/-- ITS FALSE NEIGHBOUR: 'it returns false'. Refute it at one input. -/
def fnExactCrcWrong : ChangeSpec := { name := "fnExactCrc", fn := fun _ => fun
  | [d] => { results := [.lit (.bool false)], args := [d] }
  | _ => none }
def FnExactCrcWrongFalsely : Prop := fnExactCrcRow.holds Try.pinned (OpenSpec.ofChange fnExactCrcWrong)

/-- 'laws.FnExactAdlerJoin': WHATEVER THE INPUT: true; the input reads as it did. -/
def fnExactAdlerJoinSpec : ChangeSpec := { name := "fnExactAdlerJoin", fn := fun _ => fun
  | [d1, d2, d3] => { results := [.lit (.bool true)], args := [d1, d2, d3] }
  | _ => none }
def fnExactAdlerJoinRow : OpenClaim := { program := "ythngbhjlikbbmaa", sum := "6555140a598c3b2b0af0db801f58256d532c53a579a7e2b0ad81b269cbf01145", func := "loop.example/corbel/laws.FnExactAdlerJoin", spec := "fnExactAdlerJoin", apart := false }
def FnExactAdlerJoinSaid : Prop := fnExactAdlerJoinRow.holds Try.pinned (OpenSpec.ofChange fnExactAdlerJoinSpec)

/-- ITS FALSE NEIGHBOUR: 'it returns false'. Refute it at one input. -/
def fnExactAdlerJoinWrong : ChangeSpec := { name := "fnExactAdlerJoin", fn := fun _ => fun
  | [d1, d2, d3] => { results := [.lit (.bool false)], args := [d1, d2, d3] }
  | _ => none }
def FnExactAdlerJoinWrongFalsely : Prop := fnExactAdlerJoinRow.holds Try.pinned (OpenSpec.ofChange fnExactAdlerJoinWrong)

/-- 'laws.FnExactCrcJoin': WHATEVER THE INPUT: true; the input reads as it did. -/
def fnExactCrcJoinSpec : ChangeSpec := { name := "fnExactCrcJoin", fn := fun _ => fun
  | [d1, d2, d3] => { results := [.lit (.bool true)], args := [d1, d2, d3] }
  | _ => none }
def fnExactCrcJoinRow : OpenClaim := { program := "ythngbhjlikbbmaa", sum := "6555140a598c3b2b0af0db801f58256d532c53a579a7e2b0ad81b269cbf01145", func := "loop.example/corbel/laws.FnExactCrcJoin", spec := "fnExactCrcJoin", apart := false }
def FnExactCrcJoinSaid : Prop := fnExactCrcJoinRow.holds Try.pinned (OpenSpec.ofChange fnExactCrcJoinSpec)

/-- ITS FALSE NEIGHBOUR: 'it returns false'. Refute it at one input. -/
def fnExactCrcJoinWrong : ChangeSpec := { name := "fnExactCrcJoin", fn := fun _ => fun
  | [d1, d2, d3] => { results := [.lit (.bool false)], args := [d1, d2, d3] }
  | _ => none }
def FnExactCrcJoinWrongFalsely : Prop := fnExactCrcJoinRow.holds Try.pinned (OpenSpec.ofChange fnExactCrcJoinWrong)

/-- 'laws.FnExactCrcMore': WHATEVER THE INPUT: true; the input reads as it did. -/
def fnExactCrcMoreSpec : ChangeSpec := { name := "fnExactCrcMore", fn := fun _ => fun
  | [d1, d2] => { results := [.lit (.bool true)], args := [d1, d2] }
  | _ => none }
def fnExactCrcMoreRow : OpenClaim := { program := "ythngbhjlikbbmaa", sum := "6555140a598c3b2b0af0db801f58256d532c53a579a7e2b0ad81b269cbf01145", func := "loop.example/corbel/laws.FnExactCrcMore", spec := "fnExactCrcMore", apart := false }
def FnExactCrcMoreSaid : Prop := fnExactCrcMoreRow.holds Try.pinned (OpenSpec.ofChange fnExactCrcMoreSpec)

/-- ITS FALSE NEIGHBOUR: 'it returns false'. Refute it at one input. -/
def fnExactCrcMoreWrong : ChangeSpec := { name := "fnExactCrcMore", fn := fun _ => fun
  | [d1, d2] => { results := [.lit (.bool false)], args := [d1, d2] }
  | _ => none }
def FnExactCrcMoreWrongFalsely : Prop := fnExactCrcMoreRow.holds Try.pinned (OpenSpec.ofChange fnExactCrcMoreWrong)

/-- 'laws.FnAdlerByte': WHATEVER THE INPUT: true; the input reads as it did. -/
def fnAdlerByteSpec : ChangeSpec := { name := "fnAdlerByte", fn := fun _ => fun
  | [d] => { results := [.lit (.bool true)], args := [d] }
  | _ => none }
def fnAdlerByteRow : OpenClaim := { program := "ythngbhjlikbbmaa", sum := "6555140a598c3b2b0af0db801f58256d532c53a579a7e2b0ad81b269cbf01145", func := "loop.example/corbel/laws.FnAdlerByte", spec := "fnAdlerByte", apart := false }
def FnAdlerByteSaid : Prop := fnAdlerByteRow.holds Try.pinned (OpenSpec.ofChange fnAdlerByteSpec)

/-- ITS FALSE NEIGHBOUR: 'it returns false'. Refute it at one input. -/
def fnAdlerByteWrong : ChangeSpec := { name := "fnAdlerByte", fn := fun _ => fun
  | [d] => { results := [.lit (.bool false)], args := [d] }
  | _ => none }
def FnAdlerByteWrongFalsely : Prop := fnAdlerByteRow.holds Try.pinned (OpenSpec.ofChange fnAdlerByteWrong)

/-- 'laws.FnCrc': WHATEVER THE INPUT: true; the input reads as it did. -/
def fnCrcSpec : ChangeSpec := { name := "fnCrc", fn := fun _ => fun
  | [d] => { results := [.lit (.bool true)], args := [d] }
  | _ => none }
def fnCrcRow : OpenClaim := { program := "ythngbhjlikbbmaa", sum := "6555140a598c3b2b0af0db801f58256d532c53a579a7e2b0ad81b269cbf01145", func := "loop.example/corbel/laws.FnCrc", spec := "fnCrc", apart := false }
def FnCrcSaid : Prop := fnCrcRow.holds Try.pinned (OpenSpec.ofChange fnCrcSpec)

/-- ITS FALSE NEIGHBOUR: 'it returns false'. Refute it at one input. -/
def fnCrcWrong : ChangeSpec := { name := "fnCrc", fn := fun _ => fun
  | [d] => { results := [.lit (.bool false)], args := [d] }
  | _ => none }
def FnCrcWrongFalsely : Prop := fnCrcRow.holds Try.pinned (OpenSpec.ofChange fnCrcWrong)

/-- 'laws.FnCrcByte': WHATEVER THE INPUT: true; the input reads as it did. -/
def fnCrcByteSpec : ChangeSpec := { name := "fnCrcByte", fn := fun _ => fun
  | [d1, d2] => { results := [.lit (.bool true)], args := [d1, d2] }
  | _ => none }
def fnCrcByteRow : OpenClaim := { program := "ythngbhjlikbbmaa", sum := "6555140a598c3b2b0af0db801f58256d532c53a579a7e2b0ad81b269cbf01145", func := "loop.example/corbel/laws.FnCrcByte", spec := "fnCrcByte", apart := false }
def FnCrcByteSaid : Prop := fnCrcByteRow.holds Try.pinned (OpenSpec.ofChange fnCrcByteSpec)

/-- ITS FALSE NEIGHBOUR: 'it returns false'. Refute it at one input. -/
def fnCrcByteWrong : ChangeSpec := { name := "fnCrcByte", fn := fun _ => fun
  | [d1, d2] => { results := [.lit (.bool false)], args := [d1, d2] }
  | _ => none }
def FnCrcByteWrongFalsely : Prop := fnCrcByteRow.holds Try.pinned (OpenSpec.ofChange fnCrcByteWrong)

/-- 'laws.FnCrcEnd': WHATEVER THE INPUT: true; the input reads as it did. -/
def fnCrcEndSpec : ChangeSpec := { name := "fnCrcEnd", fn := fun _ => fun
  | [d] => { results := [.lit (.bool true)], args := [d] }
  | _ => none }
def fnCrcEndRow : OpenClaim := { program := "ythngbhjlikbbmaa", sum := "6555140a598c3b2b0af0db801f58256d532c53a579a7e2b0ad81b269cbf01145", func := "loop.example/corbel/laws.FnCrcEnd", spec := "fnCrcEnd", apart := false }
def FnCrcEndSaid : Prop := fnCrcEndRow.holds Try.pinned (OpenSpec.ofChange fnCrcEndSpec)

/-- ITS FALSE NEIGHBOUR: 'it returns false'. Refute it at one input. -/
def fnCrcEndWrong : ChangeSpec := { name := "fnCrcEnd", fn := fun _ => fun
  | [d] => { results := [.lit (.bool false)], args := [d] }
  | _ => none }
def FnCrcEndWrongFalsely : Prop := fnCrcEndRow.holds Try.pinned (OpenSpec.ofChange fnCrcEndWrong)

/-- 'laws.FnAdler': WHATEVER THE INPUT: true; the input reads as it did. -/
def fnAdlerSpec : ChangeSpec := { name := "fnAdler", fn := fun _ => fun
  | [d1, d2] => { results := [.lit (.bool true)], args := [d1, d2] }
  | _ => none }
def fnAdlerRow : OpenClaim := { program := "ythngbhjlikbbmaa", sum := "6555140a598c3b2b0af0db801f58256d532c53a579a7e2b0ad81b269cbf01145", func := "loop.example/corbel/laws.FnAdler", spec := "fnAdler", apart := false }
def FnAdlerSaid : Prop := fnAdlerRow.holds Try.pinned (OpenSpec.ofChange fnAdlerSpec)

/-- ITS FALSE NEIGHBOUR: 'it returns false'. Refute it at one input. -/
def fnAdlerWrong : ChangeSpec := { name := "fnAdler", fn := fun _ => fun
  | [d1, d2] => { results := [.lit (.bool false)], args := [d1, d2] }
  | _ => none }
def FnAdlerWrongFalsely : Prop := fnAdlerRow.holds Try.pinned (OpenSpec.ofChange fnAdlerWrong)

/-- 'laws.FnAdlerThree': WHATEVER THE INPUT: true; the input reads as it did. -/
def fnAdlerThreeSpec : ChangeSpec := { name := "fnAdlerThree", fn := fun _ => fun
  | [d1, d2] => { results := [.lit (.bool true)], args := [d1, d2] }
  | _ => none }
def fnAdlerThreeRow : OpenClaim := { program := "ythngbhjlikbbmaa", sum := "6555140a598c3b2b0af0db801f58256d532c53a579a7e2b0ad81b269cbf01145", func := "loop.example/corbel/laws.FnAdlerThree", spec := "fnAdlerThree", apart := false }
def FnAdlerThreeSaid : Prop := fnAdlerThreeRow.holds Try.pinned (OpenSpec.ofChange fnAdlerThreeSpec)

/-- ITS FALSE NEIGHBOUR: 'it returns false'. Refute it at one input. -/
def fnAdlerThreeWrong : ChangeSpec := { name := "fnAdlerThree", fn := fun _ => fun
  | [d1, d2] => { results := [.lit (.bool false)], args := [d1, d2] }
  | _ => none }
def FnAdlerThreeWrongFalsely : Prop := fnAdlerThreeRow.holds Try.pinned (OpenSpec.ofChange fnAdlerThreeWrong)

/-- 'laws.FnAdlerJoin': WHATEVER THE INPUT: true; the input reads as it did. -/
def fnAdlerJoinSpec : ChangeSpec := { name := "fnAdlerJoin", fn := fun _ => fun
  | [d] => { results := [.lit (.bool true)], args := [d] }
  | _ => none }
def fnAdlerJoinRow : OpenClaim := { program := "ythngbhjlikbbmaa", sum := "6555140a598c3b2b0af0db801f58256d532c53a579a7e2b0ad81b269cbf01145", func := "loop.example/corbel/laws.FnAdlerJoin", spec := "fnAdlerJoin", apart := false }
def FnAdlerJoinSaid : Prop := fnAdlerJoinRow.holds Try.pinned (OpenSpec.ofChange fnAdlerJoinSpec)

/-- ITS FALSE NEIGHBOUR: 'it returns false'. Refute it at one input. -/
def fnAdlerJoinWrong : ChangeSpec := { name := "fnAdlerJoin", fn := fun _ => fun
  | [d] => { results := [.lit (.bool false)], args := [d] }
  | _ => none }
def FnAdlerJoinWrongFalsely : Prop := fnAdlerJoinRow.holds Try.pinned (OpenSpec.ofChange fnAdlerJoinWrong)

/-- 'laws.FnCrcThree': WHATEVER THE INPUT: true; the input reads as it did. -/
def fnCrcThreeSpec : ChangeSpec := { name := "fnCrcThree", fn := fun _ => fun
  | [d1, d2] => { results := [.lit (.bool true)], args := [d1, d2] }
  | _ => none }
def fnCrcThreeRow : OpenClaim := { program := "ythngbhjlikbbmaa", sum := "6555140a598c3b2b0af0db801f58256d532c53a579a7e2b0ad81b269cbf01145", func := "loop.example/corbel/laws.FnCrcThree", spec := "fnCrcThree", apart := false }
def FnCrcThreeSaid : Prop := fnCrcThreeRow.holds Try.pinned (OpenSpec.ofChange fnCrcThreeSpec)

/-- ITS FALSE NEIGHBOUR: 'it returns false'. Refute it at one input. -/
def fnCrcThreeWrong : ChangeSpec := { name := "fnCrcThree", fn := fun _ => fun
  | [d1, d2] => { results := [.lit (.bool false)], args := [d1, d2] }
  | _ => none }
def FnCrcThreeWrongFalsely : Prop := fnCrcThreeRow.holds Try.pinned (OpenSpec.ofChange fnCrcThreeWrong)

/-- 'laws.FnCrcWord': WHATEVER THE INPUT: true; the input reads as it did. -/
def fnCrcWordSpec : ChangeSpec := { name := "fnCrcWord", fn := fun _ => fun
  | [d] => { results := [.lit (.bool true)], args := [d] }
  | _ => none }
def fnCrcWordRow : OpenClaim := { program := "ythngbhjlikbbmaa", sum := "6555140a598c3b2b0af0db801f58256d532c53a579a7e2b0ad81b269cbf01145", func := "loop.example/corbel/laws.FnCrcWord", spec := "fnCrcWord", apart := false }
def FnCrcWordSaid : Prop := fnCrcWordRow.holds Try.pinned (OpenSpec.ofChange fnCrcWordSpec)

/-- ITS FALSE NEIGHBOUR: 'it returns false'. Refute it at one input. -/
def fnCrcWordWrong : ChangeSpec := { name := "fnCrcWord", fn := fun _ => fun
  | [d] => { results := [.lit (.bool false)], args := [d] }
  | _ => none }
def FnCrcWordWrongFalsely : Prop := fnCrcWordRow.holds Try.pinned (OpenSpec.ofChange fnCrcWordWrong)

/-- 'laws.FnCrcMore': WHATEVER THE INPUT: true; the input reads as it did. -/
def fnCrcMoreSpec : ChangeSpec := { name := "fnCrcMore", fn := fun _ => fun
  | [d1, d2] => { results := [.lit (.bool true)], args := [d1, d2] }
  | _ => none }
def fnCrcMoreRow : OpenClaim := { program := "ythngbhjlikbbmaa", sum := "6555140a598c3b2b0af0db801f58256d532c53a579a7e2b0ad81b269cbf01145", func := "loop.example/corbel/laws.FnCrcMore", spec := "fnCrcMore", apart := false }
def FnCrcMoreSaid : Prop := fnCrcMoreRow.holds Try.pinned (OpenSpec.ofChange fnCrcMoreSpec)

/-- ITS FALSE NEIGHBOUR: 'it returns false'. Refute it at one input. -/
def fnCrcMoreWrong : ChangeSpec := { name := "fnCrcMore", fn := fun _ => fun
  | [d1, d2] => { results := [.lit (.bool false)], args := [d1, d2] }
  | _ => none }
def FnCrcMoreWrongFalsely : Prop := fnCrcMoreRow.holds Try.pinned (OpenSpec.ofChange fnCrcMoreWrong)

/-- 'laws.FnCrcJoin': WHATEVER THE INPUT: true; the input reads as it did. -/
def fnCrcJoinSpec : ChangeSpec := { name := "fnCrcJoin", fn := fun _ => fun
  | [d1, d2] => { results := [.lit (.bool true)], args := [d1, d2] }
  | _ => none }
def fnCrcJoinRow : OpenClaim := { program := "ythngbhjlikbbmaa", sum := "6555140a598c3b2b0af0db801f58256d532c53a579a7e2b0ad81b269cbf01145", func := "loop.example/corbel/laws.FnCrcJoin", spec := "fnCrcJoin", apart := false }
def FnCrcJoinSaid : Prop := fnCrcJoinRow.holds Try.pinned (OpenSpec.ofChange fnCrcJoinSpec)

/-- ITS FALSE NEIGHBOUR: 'it returns false'. Refute it at one input. -/
def fnCrcJoinWrong : ChangeSpec := { name := "fnCrcJoin", fn := fun _ => fun
  | [d1, d2] => { results := [.lit (.bool false)], args := [d1, d2] }
  | _ => none }
def FnCrcJoinWrongFalsely : Prop := fnCrcJoinRow.holds Try.pinned (OpenSpec.ofChange fnCrcJoinWrong)

/- THE SECOND FORM. 'bulk': how many values and letters a reading holds, each counted each time it is reached (what is shared counts as often as it is met; a slice's spare places count too). A statement '..UptoSaid' is the law's where the arguments, and the package variables that the reading takes, are together of bulk at most 1048576: NARROWER than '..Said'. Prove '..Said' where nothing that the law and all that it calls make is longer than what came in: it says more and counts as full. Else prove '..UptoSaid'. A law counts once. -/
mutual
def uptoBulk {H : Type} : DataW H → Nat
  | .lit (.string bytes) => bytes.length + 1
  | .lit _ => 1
  | .nil => 1
  | .ptr d => uptoBulk d + 1
  | .slice elems spare => uptoBulkAll elems + uptoBulkAll spare + 1
  | .agg parts => uptoBulkAll parts + 1
  | .iface _ d => uptoBulk d + 1
  | .map entries => uptoBulkEntries entries + 1
  | .held _ => 1
def uptoBulkAll {H : Type} : List (DataW H) → Nat
  | [] => 0
  | d :: r => uptoBulk d + uptoBulkAll r
def uptoBulkEntries {H : Type} : List (Lit × DataW H) → Nat
  | [] => 0
  | x :: r => uptoBulkEntry x + uptoBulkEntries r
def uptoBulkEntry {H : Type} : Lit × DataW H → Nat
  | (.string bytes, d) => bytes.length + uptoBulk d + 1
  | (_, d) => uptoBulk d + 1
 end
def uptoSmall : (H : Type) → List (DataW H) → Bool := fun _ ds => decide (uptoBulkAll ds ≤ 1048576)
def OpenSpec.upto (s : _root_.Go.ChangeSpec) : _root_.Go.OpenSpec := { _root_.Go.OpenSpec.ofChange s with cond := some uptoSmall }

/-- 'laws.FnExactConstants', WHERE WHAT IT READS IS OF BULK AT MOST 1048576: true; the input reads as it did. -/
def fnExactConstantsUptoRow : OpenClaim := { program := "ythngbhjlikbbmaa", sum := "6555140a598c3b2b0af0db801f58256d532c53a579a7e2b0ad81b269cbf01145", func := "loop.example/corbel/laws.FnExactConstants", spec := "fnExactConstants", apart := false, narrowed := true }
def FnExactConstantsUptoSaid : Prop := fnExactConstantsUptoRow.holds Try.pinned (OpenSpec.upto fnExactConstantsSpec)

/-- 'laws.FnExactAdler', WHERE WHAT IT READS IS OF BULK AT MOST 1048576: true; the input reads as it did. -/
def fnExactAdlerUptoRow : OpenClaim := { program := "ythngbhjlikbbmaa", sum := "6555140a598c3b2b0af0db801f58256d532c53a579a7e2b0ad81b269cbf01145", func := "loop.example/corbel/laws.FnExactAdler", spec := "fnExactAdler", apart := false, narrowed := true }
def FnExactAdlerUptoSaid : Prop := fnExactAdlerUptoRow.holds Try.pinned (OpenSpec.upto fnExactAdlerSpec)

/-- 'laws.FnExactCrc', WHERE WHAT IT READS IS OF BULK AT MOST 1048576: true; the input reads as it did. -/
def fnExactCrcUptoRow : OpenClaim := { program := "ythngbhjlikbbmaa", sum := "6555140a598c3b2b0af0db801f58256d532c53a579a7e2b0ad81b269cbf01145", func := "loop.example/corbel/laws.FnExactCrc", spec := "fnExactCrc", apart := false, narrowed := true }
def FnExactCrcUptoSaid : Prop := fnExactCrcUptoRow.holds Try.pinned (OpenSpec.upto fnExactCrcSpec)

/-- 'laws.FnExactAdlerJoin', WHERE WHAT IT READS IS OF BULK AT MOST 1048576: true; the input reads as it did. -/
def fnExactAdlerJoinUptoRow : OpenClaim := { program := "ythngbhjlikbbmaa", sum := "6555140a598c3b2b0af0db801f58256d532c53a579a7e2b0ad81b269cbf01145", func := "loop.example/corbel/laws.FnExactAdlerJoin", spec := "fnExactAdlerJoin", apart := false, narrowed := true }
def FnExactAdlerJoinUptoSaid : Prop := fnExactAdlerJoinUptoRow.holds Try.pinned (OpenSpec.upto fnExactAdlerJoinSpec)

/-- 'laws.FnExactCrcJoin', WHERE WHAT IT READS IS OF BULK AT MOST 1048576: true; the input reads as it did. -/
def fnExactCrcJoinUptoRow : OpenClaim := { program := "ythngbhjlikbbmaa", sum := "6555140a598c3b2b0af0db801f58256d532c53a579a7e2b0ad81b269cbf01145", func := "loop.example/corbel/laws.FnExactCrcJoin", spec := "fnExactCrcJoin", apart := false, narrowed := true }
def FnExactCrcJoinUptoSaid : Prop := fnExactCrcJoinUptoRow.holds Try.pinned (OpenSpec.upto fnExactCrcJoinSpec)

/-- 'laws.FnExactCrcMore', WHERE WHAT IT READS IS OF BULK AT MOST 1048576: true; the input reads as it did. -/
def fnExactCrcMoreUptoRow : OpenClaim := { program := "ythngbhjlikbbmaa", sum := "6555140a598c3b2b0af0db801f58256d532c53a579a7e2b0ad81b269cbf01145", func := "loop.example/corbel/laws.FnExactCrcMore", spec := "fnExactCrcMore", apart := false, narrowed := true }
def FnExactCrcMoreUptoSaid : Prop := fnExactCrcMoreUptoRow.holds Try.pinned (OpenSpec.upto fnExactCrcMoreSpec)

/-- 'laws.FnAdlerByte', WHERE WHAT IT READS IS OF BULK AT MOST 1048576: true; the input reads as it did. -/
def fnAdlerByteUptoRow : OpenClaim := { program := "ythngbhjlikbbmaa", sum := "6555140a598c3b2b0af0db801f58256d532c53a579a7e2b0ad81b269cbf01145", func := "loop.example/corbel/laws.FnAdlerByte", spec := "fnAdlerByte", apart := false, narrowed := true }
def FnAdlerByteUptoSaid : Prop := fnAdlerByteUptoRow.holds Try.pinned (OpenSpec.upto fnAdlerByteSpec)

/-- 'laws.FnCrc', WHERE WHAT IT READS IS OF BULK AT MOST 1048576: true; the input reads as it did. -/
def fnCrcUptoRow : OpenClaim := { program := "ythngbhjlikbbmaa", sum := "6555140a598c3b2b0af0db801f58256d532c53a579a7e2b0ad81b269cbf01145", func := "loop.example/corbel/laws.FnCrc", spec := "fnCrc", apart := false, narrowed := true }
def FnCrcUptoSaid : Prop := fnCrcUptoRow.holds Try.pinned (OpenSpec.upto fnCrcSpec)

/-- 'laws.FnCrcByte', WHERE WHAT IT READS IS OF BULK AT MOST 1048576: true; the input reads as it did. -/
def fnCrcByteUptoRow : OpenClaim := { program := "ythngbhjlikbbmaa", sum := "6555140a598c3b2b0af0db801f58256d532c53a579a7e2b0ad81b269cbf01145", func := "loop.example/corbel/laws.FnCrcByte", spec := "fnCrcByte", apart := false, narrowed := true }
def FnCrcByteUptoSaid : Prop := fnCrcByteUptoRow.holds Try.pinned (OpenSpec.upto fnCrcByteSpec)

/-- 'laws.FnCrcEnd', WHERE WHAT IT READS IS OF BULK AT MOST 1048576: true; the input reads as it did. -/
def fnCrcEndUptoRow : OpenClaim := { program := "ythngbhjlikbbmaa", sum := "6555140a598c3b2b0af0db801f58256d532c53a579a7e2b0ad81b269cbf01145", func := "loop.example/corbel/laws.FnCrcEnd", spec := "fnCrcEnd", apart := false, narrowed := true }
def FnCrcEndUptoSaid : Prop := fnCrcEndUptoRow.holds Try.pinned (OpenSpec.upto fnCrcEndSpec)

/-- 'laws.FnAdler', WHERE WHAT IT READS IS OF BULK AT MOST 1048576: true; the input reads as it did. -/
def fnAdlerUptoRow : OpenClaim := { program := "ythngbhjlikbbmaa", sum := "6555140a598c3b2b0af0db801f58256d532c53a579a7e2b0ad81b269cbf01145", func := "loop.example/corbel/laws.FnAdler", spec := "fnAdler", apart := false, narrowed := true }
def FnAdlerUptoSaid : Prop := fnAdlerUptoRow.holds Try.pinned (OpenSpec.upto fnAdlerSpec)

/-- 'laws.FnAdlerThree', WHERE WHAT IT READS IS OF BULK AT MOST 1048576: true; the input reads as it did. -/
def fnAdlerThreeUptoRow : OpenClaim := { program := "ythngbhjlikbbmaa", sum := "6555140a598c3b2b0af0db801f58256d532c53a579a7e2b0ad81b269cbf01145", func := "loop.example/corbel/laws.FnAdlerThree", spec := "fnAdlerThree", apart := false, narrowed := true }
def FnAdlerThreeUptoSaid : Prop := fnAdlerThreeUptoRow.holds Try.pinned (OpenSpec.upto fnAdlerThreeSpec)

/-- 'laws.FnAdlerJoin', WHERE WHAT IT READS IS OF BULK AT MOST 1048576: true; the input reads as it did. -/
def fnAdlerJoinUptoRow : OpenClaim := { program := "ythngbhjlikbbmaa", sum := "6555140a598c3b2b0af0db801f58256d532c53a579a7e2b0ad81b269cbf01145", func := "loop.example/corbel/laws.FnAdlerJoin", spec := "fnAdlerJoin", apart := false, narrowed := true }
def FnAdlerJoinUptoSaid : Prop := fnAdlerJoinUptoRow.holds Try.pinned (OpenSpec.upto fnAdlerJoinSpec)

/-- 'laws.FnCrcThree', WHERE WHAT IT READS IS OF BULK AT MOST 1048576: true; the input reads as it did. -/
def fnCrcThreeUptoRow : OpenClaim := { program := "ythngbhjlikbbmaa", sum := "6555140a598c3b2b0af0db801f58256d532c53a579a7e2b0ad81b269cbf01145", func := "loop.example/corbel/laws.FnCrcThree", spec := "fnCrcThree", apart := false, narrowed := true }
def FnCrcThreeUptoSaid : Prop := fnCrcThreeUptoRow.holds Try.pinned (OpenSpec.upto fnCrcThreeSpec)

/-- 'laws.FnCrcWord', WHERE WHAT IT READS IS OF BULK AT MOST 1048576: true; the input reads as it did. -/
def fnCrcWordUptoRow : OpenClaim := { program := "ythngbhjlikbbmaa", sum := "6555140a598c3b2b0af0db801f58256d532c53a579a7e2b0ad81b269cbf01145", func := "loop.example/corbel/laws.FnCrcWord", spec := "fnCrcWord", apart := false, narrowed := true }
def FnCrcWordUptoSaid : Prop := fnCrcWordUptoRow.holds Try.pinned (OpenSpec.upto fnCrcWordSpec)

/-- 'laws.FnCrcMore', WHERE WHAT IT READS IS OF BULK AT MOST 1048576: true; the input reads as it did. -/
def fnCrcMoreUptoRow : OpenClaim := { program := "ythngbhjlikbbmaa", sum := "6555140a598c3b2b0af0db801f58256d532c53a579a7e2b0ad81b269cbf01145", func := "loop.example/corbel/laws.FnCrcMore", spec := "fnCrcMore", apart := false, narrowed := true }
def FnCrcMoreUptoSaid : Prop := fnCrcMoreUptoRow.holds Try.pinned (OpenSpec.upto fnCrcMoreSpec)

/-- 'laws.FnCrcJoin', WHERE WHAT IT READS IS OF BULK AT MOST 1048576: true; the input reads as it did. -/
def fnCrcJoinUptoRow : OpenClaim := { program := "ythngbhjlikbbmaa", sum := "6555140a598c3b2b0af0db801f58256d532c53a579a7e2b0ad81b269cbf01145", func := "loop.example/corbel/laws.FnCrcJoin", spec := "fnCrcJoin", apart := false, narrowed := true }
def FnCrcJoinUptoSaid : Prop := fnCrcJoinUptoRow.holds Try.pinned (OpenSpec.upto fnCrcJoinSpec)

end Rows
end Go.Proofs.Ythngbhjlikbbmaa
