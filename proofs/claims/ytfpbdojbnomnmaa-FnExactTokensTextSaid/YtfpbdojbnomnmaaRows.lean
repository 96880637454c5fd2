/-
  No cell of these rows narrows 'for every input' (looked for: loops, veiled, ifaces, maps, wideKeys, modest, calm, conditions, laid).
  DERIVED. THE GIVEN ROWS OF THIS SEAT. 15 by the template 'for every input the law returns true; each argument reads behind the call as it read before'; 0 by the template 'total and deterministic' (their statements: YtfpbdojbnomnmaaTotals.lean).
  GIVEN WITH THE SEED: the statements are not yours to turn. If you find one false, say at which input.
  Laid BY PROGRAM, IN A SANDBOX (cutbox-rows.mjs): the forced cells as the released guide's own fill.sh prints them over the translation 9325c9aa53e79672… (all of the seat's roots in one cut). By AI agents, Wed Nov 11 2026. No macro, syntax, notation, axiom, sorry.
-/
import Derived.Test.YtfpbdojbnomnmaaChecked
import GoSem.Claim
import GoSem.ClaimJoined
import GoSem.ClaimMapViews
import Derived.JoinedTies
import Derived.KernelRfl
namespace Go.Proofs.Ytfpbdojbnomnmaa
/- THE CELL 'sum', in the pinned program and in every row, IS THE sha256 OF THE DUMP (.gsa) THAT YtfpbdojbnomnmaaProg.lean LOADS. Nothing in Lean hashes anything: it is a label: what it is worth is what the hold of that sum in a sandbox is worth. -/
noncomputable def Try.pinned : Pinned := { name := "ytfpbdojbnomnmaa", sum := "9325c9aa53e79672b3214818d123ba428b66e4f82be7e2ce93cb0e2dba030f54", checked := Try.checked }
namespace Rows
def none {H : Type} : Left H := { results := [], args := [] }

/-- 'laws.FnExactBitsTurn': WHATEVER THE INPUT: true; the input reads as it did. -/
def fnExactBitsTurnSpec : ChangeSpec := { name := "fnExactBitsTurn", fn := fun _ => fun
  | [d1, d2] => { results := [.lit (.bool true)], args := [d1, d2] }
  | _ => none }
def fnExactBitsTurnRow : OpenClaim := { program := "ytfpbdojbnomnmaa", sum := "9325c9aa53e79672b3214818d123ba428b66e4f82be7e2ce93cb0e2dba030f54", func := "loop.example/corbel/laws.FnExactBitsTurn", spec := "fnExactBitsTurn", apart := false }
def FnExactBitsTurnSaid : Prop := fnExactBitsTurnRow.holds Try.pinned (OpenSpec.ofChange fnExactBitsTurnSpec)

/-- ITS FALSE NEIGHBOUR: 'it returns false'. Refute it at one input. -/
def fnExactBitsTurnWrong : ChangeSpec := { name := "fnExactBitsTurn", fn := fun _ => fun
  | [d1, d2] => { results := [.lit (.bool false)], args := [d1, d2] }
  | _ => none }
def FnExactBitsTurnWrongFalsely : Prop := fnExactBitsTurnRow.holds Try.pinned (OpenSpec.ofChange fnExactBitsTurnWrong)

/-- 'laws.FnBitsTurnAll': WHATEVER THE INPUT: true; the input reads as it did. -/
def fnBitsTurnAllSpec : ChangeSpec := { name := "fnBitsTurnAll", fn := fun _ => fun
  | [d] => { results := [.lit (.bool true)], args := [d] }
  | _ => none }
def fnBitsTurnAllRow : OpenClaim := { program := "ytfpbdojbnomnmaa", sum := "9325c9aa53e79672b3214818d123ba428b66e4f82be7e2ce93cb0e2dba030f54", func := "loop.example/corbel/laws.FnBitsTurnAll", spec := "fnBitsTurnAll", apart := false }
def FnBitsTurnAllSaid : Prop := fnBitsTurnAllRow.holds Try.pinned (OpenSpec.ofChange fnBitsTurnAllSpec)

/-- ITS FALSE NEIGHBOUR: 'it returns false'. Refute it at one input. -/
def fnBitsTurnAllWrong : ChangeSpec := { name := "fnBitsTurnAll", fn := fun _ => fun
  | [d] => { results := [.lit (.bool false)], args := [d] }
  | _ => none }
def FnBitsTurnAllWrongFalsely : Prop := fnBitsTurnAllRow.holds Try.pinned (OpenSpec.ofChange fnBitsTurnAllWrong)

/-- 'laws.FnBitsTurn': WHATEVER THE INPUT: true; the input reads as it did. -/
def fnBitsTurnSpec : ChangeSpec := { name := "fnBitsTurn", fn := fun _ => fun
  | [d] => { results := [.lit (.bool true)], args := [d] }
  | _ => none }
def fnBitsTurnRow : OpenClaim := { program := "ytfpbdojbnomnmaa", sum := "9325c9aa53e79672b3214818d123ba428b66e4f82be7e2ce93cb0e2dba030f54", func := "loop.example/corbel/laws.FnBitsTurn", spec := "fnBitsTurn", apart := false }
def FnBitsTurnSaid : Prop := fnBitsTurnRow.holds Try.pinned (OpenSpec.ofChange fnBitsTurnSpec)

/-- ITS FALSE NEIGHBOUR: 'it returns false'. Refute it at one input. -/
def fnBitsTurnWrong : ChangeSpec := { name := "fnBitsTurn", fn := fun _ => fun
  | [d] => { results := [.lit (.bool false)], args := [d] }
  | _ => none }
def FnBitsTurnWrongFalsely : Prop := fnBitsTurnRow.holds Try.pinned (OpenSpec.ofChange fnBitsTurnWrong)

/-- 'laws.FnExactBitsLong': WHATEVER THE INPUT: true; the input reads as it did. -/
def fnExactBitsLongSpec : ChangeSpec := { name := "fnExactBitsLong", fn := fun _ => fun
  | [d] => { results := [.lit (.bool true)], args := [d] }
  | _ => none }
def fnExactBitsLongRow : OpenClaim := { program := "ytfpbdojbnomnmaa", sum := "9325c9aa53e79672b3214818d123ba428b66e4f82be7e2ce93cb0e2dba030f54", func := "loop.example/corbel/laws.FnExactBitsLong", spec := "fnExactBitsLong", apart := false }
def FnExactBitsLongSaid : Prop := fnExactBitsLongRow.holds Try.pinned (OpenSpec.ofChange fnExactBitsLongSpec)

/-- ITS FALSE NEIGHBOUR: 'it returns false'. Refute it at one input. -/
def fnExactBitsLongWrong : ChangeSpec := { name := "fnExactBitsLong", fn := fun _ => fun
  | [d] => { results := [.lit (.bool false)], args := [d] }
  | _ => none }
def FnExactBitsLongWrongFalsely : Prop := fnExactBitsLongRow.holds Try.pinned (OpenSpec.ofChange fnExactBitsLongWrong)

/-- 'laws.FnExactTokensText': WHATEVER THE INPUT: true; the input reads as it did. -/
def fnExactTokensTextSpec : ChangeSpec := { name := "fnExactTokensText", fn := fun _ => fun
  | [d] => { results := [.lit (.bool true)], args := [d] }
  | _ => none }
def fnExactTokensTextRow : OpenClaim := { program := "ytfpbdojbnomnmaa", sum := "9325c9aa53e79672b3214818d123ba428b66e4f82be7e2ce93cb0e2dba030f54", func := "loop.example/corbel/laws.FnExactTokensText", spec := "fnExactTokensText", apart := false }
def FnExactTokensTextSaid : Prop := fnExactTokensTextRow.holds Try.pinned (OpenSpec.ofChange fnExactTokensTextSpec)

/-- ITS FALSE NEIGHBOUR: 'it returns false'. Refute it at one input. -/
def fnExactTokensTextWrong : ChangeSpec := { name := "fnExactTokensText", fn := fun _ => fun
  | [d] => { results := [.lit (.bool false)], args := [d] }
  | _ => none }
def FnExactTokensTextWrongFalsely : Prop := fnExactTokensTextRow.holds Try.pinned (OpenSpec.ofChange fnExactTokensTextWrong)

/-- 'laws.FnBitsOver': WHATEVER THE INPUT: true; the input reads as it did. -/
def fnBitsOverSpec : ChangeSpec := { name := "fnBitsOver", fn := fun _ => fun
  | [d] => { results := [.lit (.bool true)], args := [d] }
  | _ => none }
def fnBitsOverRow : OpenClaim := { program := "ytfpbdojbnomnmaa", sum := "9325c9aa53e79672b3214818d123ba428b66e4f82be7e2ce93cb0e2dba030f54", func := "loop.example/corbel/laws.FnBitsOver", spec := "fnBitsOver", apart := false }
def FnBitsOverSaid : Prop := fnBitsOverRow.holds Try.pinned (OpenSpec.ofChange fnBitsOverSpec)

/-- ITS FALSE NEIGHBOUR: 'it returns false'. Refute it at one input. -/
def fnBitsOverWrong : ChangeSpec := { name := "fnBitsOver", fn := fun _ => fun
  | [d] => { results := [.lit (.bool false)], args := [d] }
  | _ => none }
def FnBitsOverWrongFalsely : Prop := fnBitsOverRow.holds Try.pinned (OpenSpec.ofChange fnBitsOverWrong)

/-- 'laws.FnBitsTwo': WHATEVER THE INPUT: true; the input reads as it did. -/
def fnBitsTwoSpec : ChangeSpec := { name := "fnBitsTwo", fn := fun _ => fun
  | [d1, d2] => { results := [.lit (.bool true)], args := [d1, d2] }
  | _ => none }
def fnBitsTwoRow : OpenClaim := { program := "ytfpbdojbnomnmaa", sum := "9325c9aa53e79672b3214818d123ba428b66e4f82be7e2ce93cb0e2dba030f54", func := "loop.example/corbel/laws.FnBitsTwo", spec := "fnBitsTwo", apart := false }
def FnBitsTwoSaid : Prop := fnBitsTwoRow.holds Try.pinned (OpenSpec.ofChange fnBitsTwoSpec)

/-- ITS FALSE NEIGHBOUR: 'it returns false'. Refute it at one input. -/
def fnBitsTwoWrong : ChangeSpec := { name := "fnBitsTwo", fn := fun _ => fun
  | [d1, d2] => { results := [.lit (.bool false)], args := [d1, d2] }
  | _ => none }
def FnBitsTwoWrongFalsely : Prop := fnBitsTwoRow.holds Try.pinned (OpenSpec.ofChange fnBitsTwoWrong)

/-- 'laws.FnExactBitsPut': WHATEVER THE INPUT: true; the input reads as it did. -/
def fnExactBitsPutSpec : ChangeSpec := { name := "fnExactBitsPut", fn := fun _ => fun
  | [d] => { results := [.lit (.bool true)], args := [d] }
  | _ => none }
def fnExactBitsPutRow : OpenClaim := { program := "ytfpbdojbnomnmaa", sum := "9325c9aa53e79672b3214818d123ba428b66e4f82be7e2ce93cb0e2dba030f54", func := "loop.example/corbel/laws.FnExactBitsPut", spec := "fnExactBitsPut", apart := false }
def FnExactBitsPutSaid : Prop := fnExactBitsPutRow.holds Try.pinned (OpenSpec.ofChange fnExactBitsPutSpec)

/-- ITS FALSE NEIGHBOUR: 'it returns false'. Refute it at one input. -/
def fnExactBitsPutWrong : ChangeSpec := { name := "fnExactBitsPut", fn := fun _ => fun
  | [d] => { results := [.lit (.bool false)], args := [d] }
  | _ => none }
def FnExactBitsPutWrongFalsely : Prop := fnExactBitsPutRow.holds Try.pinned (OpenSpec.ofChange fnExactBitsPutWrong)

/-- 'laws.FnBitsByte': WHATEVER THE INPUT: true; the input reads as it did. -/
def fnBitsByteSpec : ChangeSpec := { name := "fnBitsByte", fn := fun _ => fun
  | [d] => { results := [.lit (.bool true)], args := [d] }
  | _ => none }
def fnBitsByteRow : OpenClaim := { program := "ytfpbdojbnomnmaa", sum := "9325c9aa53e79672b3214818d123ba428b66e4f82be7e2ce93cb0e2dba030f54", func := "loop.example/corbel/laws.FnBitsByte", spec := "fnBitsByte", apart := false }
def FnBitsByteSaid : Prop := fnBitsByteRow.holds Try.pinned (OpenSpec.ofChange fnBitsByteSpec)

/-- ITS FALSE NEIGHBOUR: 'it returns false'. Refute it at one input. -/
def fnBitsByteWrong : ChangeSpec := { name := "fnBitsByte", fn := fun _ => fun
  | [d] => { results := [.lit (.bool false)], args := [d] }
  | _ => none }
def FnBitsByteWrongFalsely : Prop := fnBitsByteRow.holds Try.pinned (OpenSpec.ofChange fnBitsByteWrong)

/-- 'laws.FnExactBitsGet': WHATEVER THE INPUT: true; the input reads as it did. -/
def fnExactBitsGetSpec : ChangeSpec := { name := "fnExactBitsGet", fn := fun _ => fun
  | [d1, d2] => { results := [.lit (.bool true)], args := [d1, d2] }
  | _ => none }
def fnExactBitsGetRow : OpenClaim := { program := "ytfpbdojbnomnmaa", sum := "9325c9aa53e79672b3214818d123ba428b66e4f82be7e2ce93cb0e2dba030f54", func := "loop.example/corbel/laws.FnExactBitsGet", spec := "fnExactBitsGet", apart := false }
def FnExactBitsGetSaid : Prop := fnExactBitsGetRow.holds Try.pinned (OpenSpec.ofChange fnExactBitsGetSpec)

/-- ITS FALSE NEIGHBOUR: 'it returns false'. Refute it at one input. -/
def fnExactBitsGetWrong : ChangeSpec := { name := "fnExactBitsGet", fn := fun _ => fun
  | [d1, d2] => { results := [.lit (.bool false)], args := [d1, d2] }
  | _ => none }
def FnExactBitsGetWrongFalsely : Prop := fnExactBitsGetRow.holds Try.pinned (OpenSpec.ofChange fnExactBitsGetWrong)

/-- 'laws.FnBitsNone': WHATEVER THE INPUT: true; the input reads as it did. -/
def fnBitsNoneSpec : ChangeSpec := { name := "fnBitsNone", fn := fun _ => fun
  | [d] => { results := [.lit (.bool true)], args := [d] }
  | _ => none }
def fnBitsNoneRow : OpenClaim := { program := "ytfpbdojbnomnmaa", sum := "9325c9aa53e79672b3214818d123ba428b66e4f82be7e2ce93cb0e2dba030f54", func := "loop.example/corbel/laws.FnBitsNone", spec := "fnBitsNone", apart := false }
def FnBitsNoneSaid : Prop := fnBitsNoneRow.holds Try.pinned (OpenSpec.ofChange fnBitsNoneSpec)

/-- ITS FALSE NEIGHBOUR: 'it returns false'. Refute it at one input. -/
def fnBitsNoneWrong : ChangeSpec := { name := "fnBitsNone", fn := fun _ => fun
  | [d] => { results := [.lit (.bool false)], args := [d] }
  | _ => none }
def FnBitsNoneWrongFalsely : Prop := fnBitsNoneRow.holds Try.pinned (OpenSpec.ofChange fnBitsNoneWrong)

/-- 'laws.FnBitsHalves': WHATEVER THE INPUT: true; the input reads as it did. -/
def fnBitsHalvesSpec : ChangeSpec := { name := "fnBitsHalves", fn := fun _ => fun
  | [d] => { results := [.lit (.bool true)], args := [d] }
  | _ => none }
def fnBitsHalvesRow : OpenClaim := { program := "ytfpbdojbnomnmaa", sum := "9325c9aa53e79672b3214818d123ba428b66e4f82be7e2ce93cb0e2dba030f54", func := "loop.example/corbel/laws.FnBitsHalves", spec := "fnBitsHalves", apart := false }
def FnBitsHalvesSaid : Prop := fnBitsHalvesRow.holds Try.pinned (OpenSpec.ofChange fnBitsHalvesSpec)

/-- ITS FALSE NEIGHBOUR: 'it returns false'. Refute it at one input. -/
def fnBitsHalvesWrong : ChangeSpec := { name := "fnBitsHalves", fn := fun _ => fun
  | [d] => { results := [.lit (.bool false)], args := [d] }
  | _ => none }
def FnBitsHalvesWrongFalsely : Prop := fnBitsHalvesRow.holds Try.pinned (OpenSpec.ofChange fnBitsHalvesWrong)

/-- 'laws.FnBitsCut': WHATEVER THE INPUT: true; the input reads as it did. -/
def fnBitsCutSpec : ChangeSpec := { name := "fnBitsCut", fn := fun _ => fun
  | [d] => { results := [.lit (.bool true)], args := [d] }
  | _ => none }
def fnBitsCutRow : OpenClaim := { program := "ytfpbdojbnomnmaa", sum := "9325c9aa53e79672b3214818d123ba428b66e4f82be7e2ce93cb0e2dba030f54", func := "loop.example/corbel/laws.FnBitsCut", spec := "fnBitsCut", apart := false }
def FnBitsCutSaid : Prop := fnBitsCutRow.holds Try.pinned (OpenSpec.ofChange fnBitsCutSpec)

/-- ITS FALSE NEIGHBOUR: 'it returns false'. Refute it at one input. -/
def fnBitsCutWrong : ChangeSpec := { name := "fnBitsCut", fn := fun _ => fun
  | [d] => { results := [.lit (.bool false)], args := [d] }
  | _ => none }
def FnBitsCutWrongFalsely : Prop := fnBitsCutRow.holds Try.pinned (OpenSpec.ofChange fnBitsCutWrong)

/-- 'laws.FnBits': WHATEVER THE INPUT: true; the input reads as it did. -/
def fnBitsSpec : ChangeSpec := { name := "fnBits", fn := fun _ => fun
  | [d] => { results := [.lit (.bool true)], args := [d] }
  | _ => none }
def fnBitsRow : OpenClaim := { program := "ytfpbdojbnomnmaa", sum := "9325c9aa53e79672b3214818d123ba428b66e4f82be7e2ce93cb0e2dba030f54", func := "loop.example/corbel/laws.FnBits", spec := "fnBits", apart := false }
def FnBitsSaid : Prop := fnBitsRow.holds Try.pinned (OpenSpec.ofChange fnBitsSpec)

/-- ITS FALSE NEIGHBOUR: 'it returns false'. Refute it at one input. -/
def fnBitsWrong : ChangeSpec := { name := "fnBits", fn := fun _ => fun
  | [d] => { results := [.lit (.bool false)], args := [d] }
  | _ => none }
def FnBitsWrongFalsely : Prop := fnBitsRow.holds Try.pinned (OpenSpec.ofChange fnBitsWrong)

/-- 'laws.FnBitsGet': WHATEVER THE INPUT: true; the input reads as it did. -/
def fnBitsGetSpec : ChangeSpec := { name := "fnBitsGet", fn := fun _ => fun
  | [d] => { results := [.lit (.bool true)], args := [d] }
  | _ => none }
def fnBitsGetRow : OpenClaim := { program := "ytfpbdojbnomnmaa", sum := "9325c9aa53e79672b3214818d123ba428b66e4f82be7e2ce93cb0e2dba030f54", func := "loop.example/corbel/laws.FnBitsGet", spec := "fnBitsGet", apart := false }
def FnBitsGetSaid : Prop := fnBitsGetRow.holds Try.pinned (OpenSpec.ofChange fnBitsGetSpec)

/-- ITS FALSE NEIGHBOUR: 'it returns false'. Refute it at one input. -/
def fnBitsGetWrong : ChangeSpec := { name := "fnBitsGet", fn := fun _ => fun
  | [d] => { results := [.lit (.bool false)], args := [d] }
  | _ => none }
def FnBitsGetWrongFalsely : Prop := fnBitsGetRow.holds Try.pinned (OpenSpec.ofChange fnBitsGetWrong)

/- THE SECOND FORM. 'bulk': how many values and letters a reading holds, each counted each time it is reached (what is shared counts as often as it is met; a slice's spare places count too). A statement '..UptoSaid' is the law's where the arguments, and the package variables that the reading takes, are together of bulk at most 1048576: NARROWER than '..Said'. Prove '..Said' where nothing that the law and all that it calls make is longer than what came in: it says more and counts as full. Else prove '..UptoSaid'. A law counts once. -/
mutual
def uptoBulk {H : Type} : DataW H → Nat
  | .lit (.string bytes) => bytes.length + 1
  | .lit _ => 1
  | .nil => 1
  | .ptr d => uptoBulk d + 1
  | .slice elems spare => uptoBulkAll elems + uptoBulkAll spare + 1
  | .agg parts => uptoBulkAll parts + 1
  | .iface _ d => uptoBulk d + 1
  | .map entries => uptoBulkEntries entries + 1
  | .held _ => 1
def uptoBulkAll {H : Type} : List (DataW H) → Nat
  | [] => 0
  | d :: r => uptoBulk d + uptoBulkAll r
def uptoBulkEntries {H : Type} : List (Lit × DataW H) → Nat
  | [] => 0
  | x :: r => uptoBulkEntry x + uptoBulkEntries r
def uptoBulkEntry {H : Type} : Lit × DataW H → Nat
  | (.string bytes, d) => bytes.length + uptoBulk d + 1
  | (_, d) => uptoBulk d + 1
 end
def uptoSmall : (H : Type) → List (DataW H) → Bool := fun _ ds => decide (uptoBulkAll ds ≤ 1048576)
def OpenSpec.upto (s : _root_.Go.ChangeSpec) : _root_.Go.OpenSpec := { _root_.Go.OpenSpec.ofChange s with cond := some uptoSmall }

/-- 'laws.FnExactBitsTurn', WHERE WHAT IT READS IS OF BULK AT MOST 1048576: true; the input reads as it did. -/
def fnExactBitsTurnUptoRow : OpenClaim := { program := "ytfpbdojbnomnmaa", sum := "9325c9aa53e79672b3214818d123ba428b66e4f82be7e2ce93cb0e2dba030f54", func := "loop.example/corbel/laws.FnExactBitsTurn", spec := "fnExactBitsTurn", apart := false, narrowed := true }
def FnExactBitsTurnUptoSaid : Prop := fnExactBitsTurnUptoRow.holds Try.pinned (OpenSpec.upto fnExactBitsTurnSpec)

/-- 'laws.FnBitsTurnAll', WHERE WHAT IT READS IS OF BULK AT MOST 1048576: true; the input reads as it did. -/
def fnBitsTurnAllUptoRow : OpenClaim := { program := "ytfpbdojbnomnmaa", sum := "9325c9aa53e79672b3214818d123ba428b66e4f82be7e2ce93cb0e2dba030f54", func := "loop.example/corbel/laws.FnBitsTurnAll", spec := "fnBitsTurnAll", apart := false, narrowed := true }
def FnBitsTurnAllUptoSaid : Prop := fnBitsTurnAllUptoRow.holds Try.pinned (OpenSpec.upto fnBitsTurnAllSpec)

/-- 'laws.FnBitsTurn', WHERE WHAT IT READS IS OF BULK AT MOST 1048576: true; the input reads as it did. -/
def fnBitsTurnUptoRow : OpenClaim := { program := "ytfpbdojbnomnmaa", sum := "9325c9aa53e79672b3214818d123ba428b66e4f82be7e2ce93cb0e2dba030f54", func := "loop.example/corbel/laws.FnBitsTurn", spec := "fnBitsTurn", apart := false, narrowed := true }
def FnBitsTurnUptoSaid : Prop := fnBitsTurnUptoRow.holds Try.pinned (OpenSpec.upto fnBitsTurnSpec)

/-- 'laws.FnExactBitsLong', WHERE WHAT IT READS IS OF BULK AT MOST 1048576: true; the input reads as it did. -/
def fnExactBitsLongUptoRow : OpenClaim := { program := "ytfpbdojbnomnmaa", sum := "9325c9aa53e79672b3214818d123ba428b66e4f82be7e2ce93cb0e2dba030f54", func := "loop.example/corbel/laws.FnExactBitsLong", spec := "fnExactBitsLong", apart := false, narrowed := true }
def FnExactBitsLongUptoSaid : Prop := fnExactBitsLongUptoRow.holds Try.pinned (OpenSpec.upto fnExactBitsLongSpec)

/-- 'laws.FnExactTokensText', WHERE WHAT IT READS IS OF BULK AT MOST 1048576: true; the input reads as it did. -/
def fnExactTokensTextUptoRow : OpenClaim := { program := "ytfpbdojbnomnmaa", sum := "9325c9aa53e79672b3214818d123ba428b66e4f82be7e2ce93cb0e2dba030f54", func := "loop.example/corbel/laws.FnExactTokensText", spec := "fnExactTokensText", apart := false, narrowed := true }
def FnExactTokensTextUptoSaid : Prop := fnExactTokensTextUptoRow.holds Try.pinned (OpenSpec.upto fnExactTokensTextSpec)

/-- 'laws.FnBitsOver', WHERE WHAT IT READS IS OF BULK AT MOST 1048576: true; the input reads as it did. -/
def fnBitsOverUptoRow : OpenClaim := { program := "ytfpbdojbnomnmaa", sum := "9325c9aa53e79672b3214818d123ba428b66e4f82be7e2ce93cb0e2dba030f54", func := "loop.example/corbel/laws.FnBitsOver", spec := "fnBitsOver", apart := false, narrowed := true }
def FnBitsOverUptoSaid : Prop := fnBitsOverUptoRow.holds Try.pinned (OpenSpec.upto fnBitsOverSpec)

/-- 'laws.FnBitsTwo', WHERE WHAT IT READS IS OF BULK AT MOST 1048576: true; the input reads as it did. -/
def fnBitsTwoUptoRow : OpenClaim := { program := "ytfpbdojbnomnmaa", sum := "9325c9aa53e79672b3214818d123ba428b66e4f82be7e2ce93cb0e2dba030f54", func := "loop.example/corbel/laws.FnBitsTwo", spec := "fnBitsTwo", apart := false, narrowed := true }
def FnBitsTwoUptoSaid : Prop := fnBitsTwoUptoRow.holds Try.pinned (OpenSpec.upto fnBitsTwoSpec)

/-- 'laws.FnExactBitsPut', WHERE WHAT IT READS IS OF BULK AT MOST 1048576: true; the input reads as it did. -/
def fnExactBitsPutUptoRow : OpenClaim := { program := "ytfpbdojbnomnmaa", sum := "9325c9aa53e79672b3214818d123ba428b66e4f82be7e2ce93cb0e2dba030f54", func := "loop.example/corbel/laws.FnExactBitsPut", spec := "fnExactBitsPut", apart := false, narrowed := true }
def FnExactBitsPutUptoSaid : Prop := fnExactBitsPutUptoRow.holds Try.pinned (OpenSpec.upto fnExactBitsPutSpec)

/-- 'laws.FnBitsByte', WHERE WHAT IT READS IS OF BULK AT MOST 1048576: true; the input reads as it did. -/
def fnBitsByteUptoRow : OpenClaim := { program := "ytfpbdojbnomnmaa", sum := "9325c9aa53e79672b3214818d123ba428b66e4f82be7e2ce93cb0e2dba030f54", func := "loop.example/corbel/laws.FnBitsByte", spec := "fnBitsByte", apart := false, narrowed := true }
def FnBitsByteUptoSaid : Prop := fnBitsByteUptoRow.holds Try.pinned (OpenSpec.upto fnBitsByteSpec)

/-- 'laws.FnExactBitsGet', WHERE WHAT IT READS IS OF BULK AT MOST 1048576: true; the input reads as it did. -/
def fnExactBitsGetUptoRow : OpenClaim := { program := "ytfpbdojbnomnmaa", sum := "9325c9aa53e79672b3214818d123ba428b66e4f82be7e2ce93cb0e2dba030f54", func := "loop.example/corbel/laws.FnExactBitsGet", spec := "fnExactBitsGet", apart := false, narrowed := true }
def FnExactBitsGetUptoSaid : Prop := fnExactBitsGetUptoRow.holds Try.pinned (OpenSpec.upto fnExactBitsGetSpec)

/-- 'laws.FnBitsNone', WHERE WHAT IT READS IS OF BULK AT MOST 1048576: true; the input reads as it did. -/
def fnBitsNoneUptoRow : OpenClaim := { program := "ytfpbdojbnomnmaa", sum := "9325c9aa53e79672b3214818d123ba428b66e4f82be7e2ce93cb0e2dba030f54", func := "loop.example/corbel/laws.FnBitsNone", spec := "fnBitsNone", apart := false, narrowed := true }
def FnBitsNoneUptoSaid : Prop := fnBitsNoneUptoRow.holds Try.pinned (OpenSpec.upto fnBitsNoneSpec)

/-- 'laws.FnBitsHalves', WHERE WHAT IT READS IS OF BULK AT MOST 1048576: true; the input reads as it did. -/
def fnBitsHalvesUptoRow : OpenClaim := { program := "ytfpbdojbnomnmaa", sum := "9325c9aa53e79672b3214818d123ba428b66e4f82be7e2ce93cb0e2dba030f54", func := "loop.example/corbel/laws.FnBitsHalves", spec := "fnBitsHalves", apart := false, narrowed := true }
def FnBitsHalvesUptoSaid : Prop := fnBitsHalvesUptoRow.holds Try.pinned (OpenSpec.upto fnBitsHalvesSpec)

/-- 'laws.FnBitsCut', WHERE WHAT IT READS IS OF BULK AT MOST 1048576: true; the input reads as it did. -/
def fnBitsCutUptoRow : OpenClaim := { program := "ytfpbdojbnomnmaa", sum := "9325c9aa53e79672b3214818d123ba428b66e4f82be7e2ce93cb0e2dba030f54", func := "loop.example/corbel/laws.FnBitsCut", spec := "fnBitsCut", apart := false, narrowed := true }
def FnBitsCutUptoSaid : Prop := fnBitsCutUptoRow.holds Try.pinned (OpenSpec.upto fnBitsCutSpec)

/-- 'laws.FnBits', WHERE WHAT IT READS IS OF BULK AT MOST 1048576: true; the input reads as it did. -/
def fnBitsUptoRow : OpenClaim := { program := "ytfpbdojbnomnmaa", sum := "9325c9aa53e79672b3214818d123ba428b66e4f82be7e2ce93cb0e2dba030f54", func := "loop.example/corbel/laws.FnBits", spec := "fnBits", apart := false, narrowed := true }
def FnBitsUptoSaid : Prop := fnBitsUptoRow.holds Try.pinned (OpenSpec.upto fnBitsSpec)

/-- 'laws.FnBitsGet', WHERE WHAT IT READS IS OF BULK AT MOST 1048576: true; the input reads as it did. -/
def fnBitsGetUptoRow : OpenClaim := { program := "ytfpbdojbnomnmaa", sum := "9325c9aa53e79672b3214818d123ba428b66e4f82be7e2ce93cb0e2dba030f54", func := "loop.example/corbel/laws.FnBitsGet", spec := "fnBitsGet", apart := false, narrowed := true }
def FnBitsGetUptoSaid : Prop := fnBitsGetUptoRow.holds Try.pinned (OpenSpec.upto fnBitsGetSpec)

end Rows
end Go.Proofs.Ytfpbdojbnomnmaa
