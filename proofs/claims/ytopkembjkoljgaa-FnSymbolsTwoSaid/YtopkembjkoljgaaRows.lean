/-
  No cell of these rows narrows 'for every input' (looked for: loops, veiled, ifaces, maps, wideKeys, modest, calm, conditions, laid).
  DERIVED. THE GIVEN ROWS OF THIS SEAT. 5 by the template 'for every input the law returns true; each argument reads behind the call as it read before'; 0 by the template 'total and deterministic' (their statements: YtopkembjkoljgaaTotals.lean).
  GIVEN WITH THE SEED: the statements are not yours to turn. If you find one false, say at which input.
  Laid BY PROGRAM, IN A SANDBOX (cutbox-rows.mjs): the forced cells as the released guide's own fill.sh prints them over the translation 4346b6583bb40e5c… (all of the seat's roots in one cut). By AI agents, Wed Nov 11 2026. No macro, syntax, notation, axiom, sorry.
-/
import Derived.Test.YtopkembjkoljgaaChecked
import GoSem.Claim
import GoSem.ClaimJoined
import GoSem.ClaimMapViews
import Derived.JoinedTies
import Derived.KernelRfl
namespace Go.Proofs.Ytopkembjkoljgaa
/- THE CELL 'sum', in the pinned program and in every row, IS THE sha256 OF THE DUMP (.gsa) THAT YtopkembjkoljgaaProg.lean LOADS. Nothing in Lean hashes anything: it is a label: what it is worth is what the hold of that sum in a sandbox is worth. -/
noncomputable def Try.pinned : Pinned := { name := "ytopkembjkoljgaa", sum := "4346b6583bb40e5c147dd1d3877f3906fd762390dad5a3954fae5e55ff2b1a8b", checked := Try.checked }
namespace Rows
def none {H : Type} : Left H := { results := [], args := [] }

/-- 'laws.FnLensBad': WHATEVER THE INPUT: true; the input reads as it did. -/
def fnLensBadSpec : ChangeSpec := { name := "fnLensBad", fn := fun _ => fun
  | [d] => { results := [.lit (.bool true)], args := [d] }
  | _ => none }
def fnLensBadRow : OpenClaim := { program := "ytopkembjkoljgaa", sum := "4346b6583bb40e5c147dd1d3877f3906fd762390dad5a3954fae5e55ff2b1a8b", func := "loop.example/corbel/laws.FnLensBad", spec := "fnLensBad", apart := false }
def FnLensBadSaid : Prop := fnLensBadRow.holds Try.pinned (OpenSpec.ofChange fnLensBadSpec)

/-- ITS FALSE NEIGHBOUR: 'it returns false'. Refute it at one input. -/
def fnLensBadWrong : ChangeSpec := { name := "fnLensBad", fn := fun _ => fun
  | [d] => { results := [.lit (.bool false)], args := [d] }
  | _ => none }
def FnLensBadWrongFalsely : Prop := fnLensBadRow.holds Try.pinned (OpenSpec.ofChange fnLensBadWrong)

/-- 'laws.FnCodes': WHATEVER THE INPUT: true; the input reads as it did. -/
def fnCodesSpec : ChangeSpec := { name := "fnCodes", fn := fun _ => fun
  | [d] => { results := [.lit (.bool true)], args := [d] }
  | _ => none }
def fnCodesRow : OpenClaim := { program := "ytopkembjkoljgaa", sum := "4346b6583bb40e5c147dd1d3877f3906fd762390dad5a3954fae5e55ff2b1a8b", func := "loop.example/corbel/laws.FnCodes", spec := "fnCodes", apart := false }
def FnCodesSaid : Prop := fnCodesRow.holds Try.pinned (OpenSpec.ofChange fnCodesSpec)

/-- ITS FALSE NEIGHBOUR: 'it returns false'. Refute it at one input. -/
def fnCodesWrong : ChangeSpec := { name := "fnCodes", fn := fun _ => fun
  | [d] => { results := [.lit (.bool false)], args := [d] }
  | _ => none }
def FnCodesWrongFalsely : Prop := fnCodesRow.holds Try.pinned (OpenSpec.ofChange fnCodesWrong)

/-- 'laws.FnCodesFirst': WHATEVER THE INPUT: true; the input reads as it did. -/
def fnCodesFirstSpec : ChangeSpec := { name := "fnCodesFirst", fn := fun _ => fun
  | [d] => { results := [.lit (.bool true)], args := [d] }
  | _ => none }
def fnCodesFirstRow : OpenClaim := { program := "ytopkembjkoljgaa", sum := "4346b6583bb40e5c147dd1d3877f3906fd762390dad5a3954fae5e55ff2b1a8b", func := "loop.example/corbel/laws.FnCodesFirst", spec := "fnCodesFirst", apart := false }
def FnCodesFirstSaid : Prop := fnCodesFirstRow.holds Try.pinned (OpenSpec.ofChange fnCodesFirstSpec)

/-- ITS FALSE NEIGHBOUR: 'it returns false'. Refute it at one input. -/
def fnCodesFirstWrong : ChangeSpec := { name := "fnCodesFirst", fn := fun _ => fun
  | [d] => { results := [.lit (.bool false)], args := [d] }
  | _ => none }
def FnCodesFirstWrongFalsely : Prop := fnCodesFirstRow.holds Try.pinned (OpenSpec.ofChange fnCodesFirstWrong)

/-- 'laws.FnSymbolsTwo': WHATEVER THE INPUT: true; the input reads as it did. -/
def fnSymbolsTwoSpec : ChangeSpec := { name := "fnSymbolsTwo", fn := fun _ => fun
  | [d] => { results := [.lit (.bool true)], args := [d] }
  | _ => none }
def fnSymbolsTwoRow : OpenClaim := { program := "ytopkembjkoljgaa", sum := "4346b6583bb40e5c147dd1d3877f3906fd762390dad5a3954fae5e55ff2b1a8b", func := "loop.example/corbel/laws.FnSymbolsTwo", spec := "fnSymbolsTwo", apart := false }
def FnSymbolsTwoSaid : Prop := fnSymbolsTwoRow.holds Try.pinned (OpenSpec.ofChange fnSymbolsTwoSpec)

/-- ITS FALSE NEIGHBOUR: 'it returns false'. Refute it at one input. -/
def fnSymbolsTwoWrong : ChangeSpec := { name := "fnSymbolsTwo", fn := fun _ => fun
  | [d] => { results := [.lit (.bool false)], args := [d] }
  | _ => none }
def FnSymbolsTwoWrongFalsely : Prop := fnSymbolsTwoRow.holds Try.pinned (OpenSpec.ofChange fnSymbolsTwoWrong)

/-- 'laws.FnSymbolsNone': WHATEVER THE INPUT: true; the input reads as it did. -/
def fnSymbolsNoneSpec : ChangeSpec := { name := "fnSymbolsNone", fn := fun _ => fun
  | [d] => { results := [.lit (.bool true)], args := [d] }
  | _ => none }
def fnSymbolsNoneRow : OpenClaim := { program := "ytopkembjkoljgaa", sum := "4346b6583bb40e5c147dd1d3877f3906fd762390dad5a3954fae5e55ff2b1a8b", func := "loop.example/corbel/laws.FnSymbolsNone", spec := "fnSymbolsNone", apart := false }
def FnSymbolsNoneSaid : Prop := fnSymbolsNoneRow.holds Try.pinned (OpenSpec.ofChange fnSymbolsNoneSpec)

/-- ITS FALSE NEIGHBOUR: 'it returns false'. Refute it at one input. -/
def fnSymbolsNoneWrong : ChangeSpec := { name := "fnSymbolsNone", fn := fun _ => fun
  | [d] => { results := [.lit (.bool false)], args := [d] }
  | _ => none }
def FnSymbolsNoneWrongFalsely : Prop := fnSymbolsNoneRow.holds Try.pinned (OpenSpec.ofChange fnSymbolsNoneWrong)

/- THE SECOND FORM. 'bulk': how many values and letters a reading holds, each counted each time it is reached (what is shared counts as often as it is met; a slice's spare places count too). A statement '..UptoSaid' is the law's where the arguments, and the package variables that the reading takes, are together of bulk at most 1048576: NARROWER than '..Said'. Prove '..Said' where nothing that the law and all that it calls make is longer than what came in: it says more and counts as full. Else prove '..UptoSaid'. A law counts once. -/
mutual
def uptoBulk {H : Type} : DataW H → Nat
  | .lit (.string bytes) => bytes.length + 1
  | .lit _ => 1
  | .nil => 1
  | .ptr d => uptoBulk d + 1
  | .slice elems spare => uptoBulkAll elems + uptoBulkAll spare + 1
  | .agg parts => uptoBulkAll parts + 1
  | .iface _ d => uptoBulk d + 1
  | .map entries => uptoBulkEntries entries + 1
  | .held _ => 1
def uptoBulkAll {H : Type} : List (DataW H) → Nat
  | [] => 0
  | d :: r => uptoBulk d + uptoBulkAll r
def uptoBulkEntries {H : Type} : List (Lit × DataW H) → Nat
  | [] => 0
  | x :: r => uptoBulkEntry x + uptoBulkEntries r
def uptoBulkEntry {H : Type} : Lit × DataW H → Nat
  | (.string bytes, d) => bytes.length + uptoBulk d + 1
  | (_, d) => uptoBulk d + 1
 end
def uptoSmall : (H : Type) → List (DataW H) → Bool := fun _ ds => decide (uptoBulkAll ds ≤ 1048576)
def OpenSpec.upto (s : _root_.Go.ChangeSpec) : _root_.Go.OpenSpec := { _root_.Go.OpenSpec.ofChange s with cond := some uptoSmall }

/-- 'laws.FnLensBad', WHERE WHAT IT READS IS OF BULK AT MOST 1048576: true; the input reads as it did. -/
def fnLensBadUptoRow : OpenClaim := { program := "ytopkembjkoljgaa", sum := "4346b6583bb40e5c147dd1d3877f3906fd762390dad5a3954fae5e55ff2b1a8b", func := "loop.example/corbel/laws.FnLensBad", spec := "fnLensBad", apart := false, narrowed := true }
def FnLensBadUptoSaid : Prop := fnLensBadUptoRow.holds Try.pinned (OpenSpec.upto fnLensBadSpec)

/-- 'laws.FnCodes', WHERE WHAT IT READS IS OF BULK AT MOST 1048576: true; the input reads as it did. -/
def fnCodesUptoRow : OpenClaim := { program := "ytopkembjkoljgaa", sum := "4346b6583bb40e5c147dd1d3877f3906fd762390dad5a3954fae5e55ff2b1a8b", func := "loop.example/corbel/laws.FnCodes", spec := "fnCodes", apart := false, narrowed := true }
def FnCodesUptoSaid : Prop := fnCodesUptoRow.holds Try.pinned (OpenSpec.upto fnCodesSpec)

/-- 'laws.FnCodesFirst', WHERE WHAT IT READS IS OF BULK AT MOST 1048576: true; the input reads as it did. -/
def fnCodesFirstUptoRow : OpenClaim := { program := "ytopkembjkoljgaa", sum := "4346b6583bb40e5c147dd1d3877f3906fd762390dad5a3954fae5e55ff2b1a8b", func := "loop.example/corbel/laws.FnCodesFirst", spec := "fnCodesFirst", apart := false, narrowed := true }
def FnCodesFirstUptoSaid : Prop := fnCodesFirstUptoRow.holds Try.pinned (OpenSpec.upto fnCodesFirstSpec)

/-- 'laws.FnSymbolsTwo', WHERE WHAT IT READS IS OF BULK AT MOST 1048576: true; the input reads as it did. -/
def fnSymbolsTwoUptoRow : OpenClaim := { program := "ytopkembjkoljgaa", sum := "4346b6583bb40e5c147dd1d3877f3906fd762390dad5a3954fae5e55ff2b1a8b", func := "loop.example/corbel/laws.FnSymbolsTwo", spec := "fnSymbolsTwo", apart := false, narrowed := true }
def FnSymbolsTwoUptoSaid : Prop := fnSymbolsTwoUptoRow.holds Try.pinned (OpenSpec.upto fnSymbolsTwoSpec)

/-- 'laws.FnSymbolsNone', WHERE WHAT IT READS IS OF BULK AT MOST 1048576: true; the input reads as it did. -/
def fnSymbolsNoneUptoRow : OpenClaim := { program := "ytopkembjkoljgaa", sum := "4346b6583bb40e5c147dd1d3877f3906fd762390dad5a3954fae5e55ff2b1a8b", func := "loop.example/corbel/laws.FnSymbolsNone", spec := "fnSymbolsNone", apart := false, narrowed := true }
def FnSymbolsNoneUptoSaid : Prop := fnSymbolsNoneUptoRow.holds Try.pinned (OpenSpec.upto fnSymbolsNoneSpec)

end Rows
end Go.Proofs.Ytopkembjkoljgaa
