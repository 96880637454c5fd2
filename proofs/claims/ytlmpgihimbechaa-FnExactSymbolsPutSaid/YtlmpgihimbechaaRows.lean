/-
  No cell of these rows narrows 'for every input' (looked for: loops, veiled, ifaces, maps, wideKeys, modest, calm, conditions, laid).
  DERIVED. THE GIVEN ROWS OF THIS SEAT. 18 by the template 'for every input the law returns true; each argument reads behind the call as it read before'; 0 by the template 'total and deterministic' (their statements: YtlmpgihimbechaaTotals.lean).
  GIVEN WITH THE SEED: the statements are not yours to turn. If you find one false, say at which input.
  Laid BY PROGRAM, IN A SANDBOX (cutbox-rows.mjs): the forced cells as the released guide's own fill.sh prints them over the translation dddcef0562b6e546… (all of the seat's roots in one cut). By AI agents, Wed Nov 11 2026. No macro, syntax, notation, axiom, sorry.
-/
import Derived.Test.YtlmpgihimbechaaChecked
import GoSem.Claim
import GoSem.ClaimJoined
import GoSem.ClaimMapViews
import Derived.JoinedTies
import Derived.KernelRfl
namespace Go.Proofs.Ytlmpgihimbechaa
/- THE CELL 'sum', in the pinned program and in every row, IS THE sha256 OF THE DUMP (.gsa) THAT YtlmpgihimbechaaProg.lean LOADS. Nothing in Lean hashes anything: it is a label: what it is worth is what the hold of that sum in a sandbox is worth. -/
noncomputable def Try.pinned : Pinned := { name := "ytlmpgihimbechaa", sum := "dddcef0562b6e546805d70c8d6df71e5f3a02c74d3458a1e06b39e9185bb15ed", checked := Try.checked }
namespace Rows
def none {H : Type} : Left H := { results := [], args := [] }

/-- 'laws.FnSymbolsTwo': WHATEVER THE INPUT: true; the input reads as it did. -/
def fnSymbolsTwoSpec : ChangeSpec := { name := "fnSymbolsTwo", fn := fun _ => fun
  | [d] => { results := [.lit (.bool true)], args := [d] }
  | _ => none }
def fnSymbolsTwoRow : OpenClaim := { program := "ytlmpgihimbechaa", sum := "dddcef0562b6e546805d70c8d6df71e5f3a02c74d3458a1e06b39e9185bb15ed", func := "loop.example/corbel/laws.FnSymbolsTwo", spec := "fnSymbolsTwo", plainKeys := false, apart := false }
def FnSymbolsTwoSaid : Prop := fnSymbolsTwoRow.holds Try.pinned (OpenSpec.ofChange fnSymbolsTwoSpec)

/-- ITS FALSE NEIGHBOUR: 'it returns false'. Refute it at one input. -/
def fnSymbolsTwoWrong : ChangeSpec := { name := "fnSymbolsTwo", fn := fun _ => fun
  | [d] => { results := [.lit (.bool false)], args := [d] }
  | _ => none }
def FnSymbolsTwoWrongFalsely : Prop := fnSymbolsTwoRow.holds Try.pinned (OpenSpec.ofChange fnSymbolsTwoWrong)

/-- 'laws.FnExactLensOk': WHATEVER THE INPUT: true; the input reads as it did. -/
def fnExactLensOkSpec : ChangeSpec := { name := "fnExactLensOk", fn := fun _ => fun
  | [d] => { results := [.lit (.bool true)], args := [d] }
  | _ => none }
def fnExactLensOkRow : OpenClaim := { program := "ytlmpgihimbechaa", sum := "dddcef0562b6e546805d70c8d6df71e5f3a02c74d3458a1e06b39e9185bb15ed", func := "loop.example/corbel/laws.FnExactLensOk", spec := "fnExactLensOk", plainKeys := false, apart := false }
def FnExactLensOkSaid : Prop := fnExactLensOkRow.holds Try.pinned (OpenSpec.ofChange fnExactLensOkSpec)

/-- ITS FALSE NEIGHBOUR: 'it returns false'. Refute it at one input. -/
def fnExactLensOkWrong : ChangeSpec := { name := "fnExactLensOk", fn := fun _ => fun
  | [d] => { results := [.lit (.bool false)], args := [d] }
  | _ => none }
def FnExactLensOkWrongFalsely : Prop := fnExactLensOkRow.holds Try.pinned (OpenSpec.ofChange fnExactLensOkWrong)

/-- 'laws.FnSymbols': WHATEVER THE INPUT: true; the input reads as it did. -/
def fnSymbolsSpec : ChangeSpec := { name := "fnSymbols", fn := fun _ => fun
  | [d] => { results := [.lit (.bool true)], args := [d] }
  | _ => none }
def fnSymbolsRow : OpenClaim := { program := "ytlmpgihimbechaa", sum := "dddcef0562b6e546805d70c8d6df71e5f3a02c74d3458a1e06b39e9185bb15ed", func := "loop.example/corbel/laws.FnSymbols", spec := "fnSymbols", plainKeys := false, apart := false }
def FnSymbolsSaid : Prop := fnSymbolsRow.holds Try.pinned (OpenSpec.ofChange fnSymbolsSpec)

/-- ITS FALSE NEIGHBOUR: 'it returns false'. Refute it at one input. -/
def fnSymbolsWrong : ChangeSpec := { name := "fnSymbols", fn := fun _ => fun
  | [d] => { results := [.lit (.bool false)], args := [d] }
  | _ => none }
def FnSymbolsWrongFalsely : Prop := fnSymbolsRow.holds Try.pinned (OpenSpec.ofChange fnSymbolsWrong)

/-- 'laws.FnSymbolsGet': WHATEVER THE INPUT: true; the input reads as it did. -/
def fnSymbolsGetSpec : ChangeSpec := { name := "fnSymbolsGet", fn := fun _ => fun
  | [d1, d2] => { results := [.lit (.bool true)], args := [d1, d2] }
  | _ => none }
def fnSymbolsGetRow : OpenClaim := { program := "ytlmpgihimbechaa", sum := "dddcef0562b6e546805d70c8d6df71e5f3a02c74d3458a1e06b39e9185bb15ed", func := "loop.example/corbel/laws.FnSymbolsGet", spec := "fnSymbolsGet", plainKeys := false, apart := false }
def FnSymbolsGetSaid : Prop := fnSymbolsGetRow.holds Try.pinned (OpenSpec.ofChange fnSymbolsGetSpec)

/-- ITS FALSE NEIGHBOUR: 'it returns false'. Refute it at one input. -/
def fnSymbolsGetWrong : ChangeSpec := { name := "fnSymbolsGet", fn := fun _ => fun
  | [d1, d2] => { results := [.lit (.bool false)], args := [d1, d2] }
  | _ => none }
def FnSymbolsGetWrongFalsely : Prop := fnSymbolsGetRow.holds Try.pinned (OpenSpec.ofChange fnSymbolsGetWrong)

/-- 'laws.FnExactCodesOf': WHATEVER THE INPUT: true; the input reads as it did. -/
def fnExactCodesOfSpec : ChangeSpec := { name := "fnExactCodesOf", fn := fun _ => fun
  | [d] => { results := [.lit (.bool true)], args := [d] }
  | _ => none }
def fnExactCodesOfRow : OpenClaim := { program := "ytlmpgihimbechaa", sum := "dddcef0562b6e546805d70c8d6df71e5f3a02c74d3458a1e06b39e9185bb15ed", func := "loop.example/corbel/laws.FnExactCodesOf", spec := "fnExactCodesOf", plainKeys := false, apart := false }
def FnExactCodesOfSaid : Prop := fnExactCodesOfRow.holds Try.pinned (OpenSpec.ofChange fnExactCodesOfSpec)

/-- ITS FALSE NEIGHBOUR: 'it returns false'. Refute it at one input. -/
def fnExactCodesOfWrong : ChangeSpec := { name := "fnExactCodesOf", fn := fun _ => fun
  | [d] => { results := [.lit (.bool false)], args := [d] }
  | _ => none }
def FnExactCodesOfWrongFalsely : Prop := fnExactCodesOfRow.holds Try.pinned (OpenSpec.ofChange fnExactCodesOfWrong)

/-- 'laws.FnExactSymbolsGet': WHATEVER THE INPUT: true; the input reads as it did. -/
def fnExactSymbolsGetSpec : ChangeSpec := { name := "fnExactSymbolsGet", fn := fun _ => fun
  | [d1, d2, d3] => { results := [.lit (.bool true)], args := [d1, d2, d3] }
  | _ => none }
def fnExactSymbolsGetRow : OpenClaim := { program := "ytlmpgihimbechaa", sum := "dddcef0562b6e546805d70c8d6df71e5f3a02c74d3458a1e06b39e9185bb15ed", func := "loop.example/corbel/laws.FnExactSymbolsGet", spec := "fnExactSymbolsGet", plainKeys := false, apart := false }
def FnExactSymbolsGetSaid : Prop := fnExactSymbolsGetRow.holds Try.pinned (OpenSpec.ofChange fnExactSymbolsGetSpec)

/-- ITS FALSE NEIGHBOUR: 'it returns false'. Refute it at one input. -/
def fnExactSymbolsGetWrong : ChangeSpec := { name := "fnExactSymbolsGet", fn := fun _ => fun
  | [d1, d2, d3] => { results := [.lit (.bool false)], args := [d1, d2, d3] }
  | _ => none }
def FnExactSymbolsGetWrongFalsely : Prop := fnExactSymbolsGetRow.holds Try.pinned (OpenSpec.ofChange fnExactSymbolsGetWrong)

/-- 'laws.FnExactSymbolsPut': WHATEVER THE INPUT: true; the input reads as it did. -/
def fnExactSymbolsPutSpec : ChangeSpec := { name := "fnExactSymbolsPut", fn := fun _ => fun
  | [d1, d2] => { results := [.lit (.bool true)], args := [d1, d2] }
  | _ => none }
def fnExactSymbolsPutRow : OpenClaim := { program := "ytlmpgihimbechaa", sum := "dddcef0562b6e546805d70c8d6df71e5f3a02c74d3458a1e06b39e9185bb15ed", func := "loop.example/corbel/laws.FnExactSymbolsPut", spec := "fnExactSymbolsPut", plainKeys := false, apart := false }
def FnExactSymbolsPutSaid : Prop := fnExactSymbolsPutRow.holds Try.pinned (OpenSpec.ofChange fnExactSymbolsPutSpec)

/-- ITS FALSE NEIGHBOUR: 'it returns false'. Refute it at one input. -/
def fnExactSymbolsPutWrong : ChangeSpec := { name := "fnExactSymbolsPut", fn := fun _ => fun
  | [d1, d2] => { results := [.lit (.bool false)], args := [d1, d2] }
  | _ => none }
def FnExactSymbolsPutWrongFalsely : Prop := fnExactSymbolsPutRow.holds Try.pinned (OpenSpec.ofChange fnExactSymbolsPutWrong)

/-- 'laws.FnLensBad': WHATEVER THE INPUT: true; the input reads as it did. -/
def fnLensBadSpec : ChangeSpec := { name := "fnLensBad", fn := fun _ => fun
  | [d] => { results := [.lit (.bool true)], args := [d] }
  | _ => none }
def fnLensBadRow : OpenClaim := { program := "ytlmpgihimbechaa", sum := "dddcef0562b6e546805d70c8d6df71e5f3a02c74d3458a1e06b39e9185bb15ed", func := "loop.example/corbel/laws.FnLensBad", spec := "fnLensBad", plainKeys := false, apart := false }
def FnLensBadSaid : Prop := fnLensBadRow.holds Try.pinned (OpenSpec.ofChange fnLensBadSpec)

/-- ITS FALSE NEIGHBOUR: 'it returns false'. Refute it at one input. -/
def fnLensBadWrong : ChangeSpec := { name := "fnLensBad", fn := fun _ => fun
  | [d] => { results := [.lit (.bool false)], args := [d] }
  | _ => none }
def FnLensBadWrongFalsely : Prop := fnLensBadRow.holds Try.pinned (OpenSpec.ofChange fnLensBadWrong)

/-- 'laws.FnExactLensOf': WHATEVER THE INPUT: true; the input reads as it did. -/
def fnExactLensOfSpec : ChangeSpec := { name := "fnExactLensOf", fn := fun _ => fun
  | [d1, d2] => { results := [.lit (.bool true)], args := [d1, d2] }
  | _ => none }
def fnExactLensOfRow : OpenClaim := { program := "ytlmpgihimbechaa", sum := "dddcef0562b6e546805d70c8d6df71e5f3a02c74d3458a1e06b39e9185bb15ed", func := "loop.example/corbel/laws.FnExactLensOf", spec := "fnExactLensOf", plainKeys := false, apart := false }
def FnExactLensOfSaid : Prop := fnExactLensOfRow.holds Try.pinned (OpenSpec.ofChange fnExactLensOfSpec)

/-- ITS FALSE NEIGHBOUR: 'it returns false'. Refute it at one input. -/
def fnExactLensOfWrong : ChangeSpec := { name := "fnExactLensOf", fn := fun _ => fun
  | [d1, d2] => { results := [.lit (.bool false)], args := [d1, d2] }
  | _ => none }
def FnExactLensOfWrongFalsely : Prop := fnExactLensOfRow.holds Try.pinned (OpenSpec.ofChange fnExactLensOfWrong)

/-- 'laws.FnLensTwice': WHATEVER THE INPUT: true; the input reads as it did. -/
def fnLensTwiceSpec : ChangeSpec := { name := "fnLensTwice", fn := fun _ => fun
  | [d] => { results := [.lit (.bool true)], args := [d] }
  | _ => none }
def fnLensTwiceRow : OpenClaim := { program := "ytlmpgihimbechaa", sum := "dddcef0562b6e546805d70c8d6df71e5f3a02c74d3458a1e06b39e9185bb15ed", func := "loop.example/corbel/laws.FnLensTwice", spec := "fnLensTwice", plainKeys := false, apart := false }
def FnLensTwiceSaid : Prop := fnLensTwiceRow.holds Try.pinned (OpenSpec.ofChange fnLensTwiceSpec)

/-- ITS FALSE NEIGHBOUR: 'it returns false'. Refute it at one input. -/
def fnLensTwiceWrong : ChangeSpec := { name := "fnLensTwice", fn := fun _ => fun
  | [d] => { results := [.lit (.bool false)], args := [d] }
  | _ => none }
def FnLensTwiceWrongFalsely : Prop := fnLensTwiceRow.holds Try.pinned (OpenSpec.ofChange fnLensTwiceWrong)

/-- 'laws.FnLensOne': WHATEVER THE INPUT: true; the input reads as it did. -/
def fnLensOneSpec : ChangeSpec := { name := "fnLensOne", fn := fun _ => fun
  | [d] => { results := [.lit (.bool true)], args := [d] }
  | _ => none }
def fnLensOneRow : OpenClaim := { program := "ytlmpgihimbechaa", sum := "dddcef0562b6e546805d70c8d6df71e5f3a02c74d3458a1e06b39e9185bb15ed", func := "loop.example/corbel/laws.FnLensOne", spec := "fnLensOne", plainKeys := false, apart := false }
def FnLensOneSaid : Prop := fnLensOneRow.holds Try.pinned (OpenSpec.ofChange fnLensOneSpec)

/-- ITS FALSE NEIGHBOUR: 'it returns false'. Refute it at one input. -/
def fnLensOneWrong : ChangeSpec := { name := "fnLensOne", fn := fun _ => fun
  | [d] => { results := [.lit (.bool false)], args := [d] }
  | _ => none }
def FnLensOneWrongFalsely : Prop := fnLensOneRow.holds Try.pinned (OpenSpec.ofChange fnLensOneWrong)

/-- 'laws.FnLensMore': WHATEVER THE INPUT: true; the input reads as it did. -/
def fnLensMoreSpec : ChangeSpec := { name := "fnLensMore", fn := fun _ => fun
  | [d] => { results := [.lit (.bool true)], args := [d] }
  | _ => none }
def fnLensMoreRow : OpenClaim := { program := "ytlmpgihimbechaa", sum := "dddcef0562b6e546805d70c8d6df71e5f3a02c74d3458a1e06b39e9185bb15ed", func := "loop.example/corbel/laws.FnLensMore", spec := "fnLensMore", plainKeys := false, apart := false }
def FnLensMoreSaid : Prop := fnLensMoreRow.holds Try.pinned (OpenSpec.ofChange fnLensMoreSpec)

/-- ITS FALSE NEIGHBOUR: 'it returns false'. Refute it at one input. -/
def fnLensMoreWrong : ChangeSpec := { name := "fnLensMore", fn := fun _ => fun
  | [d] => { results := [.lit (.bool false)], args := [d] }
  | _ => none }
def FnLensMoreWrongFalsely : Prop := fnLensMoreRow.holds Try.pinned (OpenSpec.ofChange fnLensMoreWrong)

/-- 'laws.FnSymbolsNone': WHATEVER THE INPUT: true; the input reads as it did. -/
def fnSymbolsNoneSpec : ChangeSpec := { name := "fnSymbolsNone", fn := fun _ => fun
  | [d] => { results := [.lit (.bool true)], args := [d] }
  | _ => none }
def fnSymbolsNoneRow : OpenClaim := { program := "ytlmpgihimbechaa", sum := "dddcef0562b6e546805d70c8d6df71e5f3a02c74d3458a1e06b39e9185bb15ed", func := "loop.example/corbel/laws.FnSymbolsNone", spec := "fnSymbolsNone", plainKeys := false, apart := false }
def FnSymbolsNoneSaid : Prop := fnSymbolsNoneRow.holds Try.pinned (OpenSpec.ofChange fnSymbolsNoneSpec)

/-- ITS FALSE NEIGHBOUR: 'it returns false'. Refute it at one input. -/
def fnSymbolsNoneWrong : ChangeSpec := { name := "fnSymbolsNone", fn := fun _ => fun
  | [d] => { results := [.lit (.bool false)], args := [d] }
  | _ => none }
def FnSymbolsNoneWrongFalsely : Prop := fnSymbolsNoneRow.holds Try.pinned (OpenSpec.ofChange fnSymbolsNoneWrong)

/-- 'laws.FnLens': WHATEVER THE INPUT: true; the input reads as it did. -/
def fnLensSpec : ChangeSpec := { name := "fnLens", fn := fun _ => fun
  | [d] => { results := [.lit (.bool true)], args := [d] }
  | _ => none }
def fnLensRow : OpenClaim := { program := "ytlmpgihimbechaa", sum := "dddcef0562b6e546805d70c8d6df71e5f3a02c74d3458a1e06b39e9185bb15ed", func := "loop.example/corbel/laws.FnLens", spec := "fnLens", plainKeys := false, apart := false }
def FnLensSaid : Prop := fnLensRow.holds Try.pinned (OpenSpec.ofChange fnLensSpec)

/-- ITS FALSE NEIGHBOUR: 'it returns false'. Refute it at one input. -/
def fnLensWrong : ChangeSpec := { name := "fnLens", fn := fun _ => fun
  | [d] => { results := [.lit (.bool false)], args := [d] }
  | _ => none }
def FnLensWrongFalsely : Prop := fnLensRow.holds Try.pinned (OpenSpec.ofChange fnLensWrong)

/-- 'laws.FnLensSame': WHATEVER THE INPUT: true; the input reads as it did. -/
def fnLensSameSpec : ChangeSpec := { name := "fnLensSame", fn := fun _ => fun
  | [d] => { results := [.lit (.bool true)], args := [d] }
  | _ => none }
def fnLensSameRow : OpenClaim := { program := "ytlmpgihimbechaa", sum := "dddcef0562b6e546805d70c8d6df71e5f3a02c74d3458a1e06b39e9185bb15ed", func := "loop.example/corbel/laws.FnLensSame", spec := "fnLensSame", plainKeys := false, apart := false }
def FnLensSameSaid : Prop := fnLensSameRow.holds Try.pinned (OpenSpec.ofChange fnLensSameSpec)

/-- ITS FALSE NEIGHBOUR: 'it returns false'. Refute it at one input. -/
def fnLensSameWrong : ChangeSpec := { name := "fnLensSame", fn := fun _ => fun
  | [d] => { results := [.lit (.bool false)], args := [d] }
  | _ => none }
def FnLensSameWrongFalsely : Prop := fnLensSameRow.holds Try.pinned (OpenSpec.ofChange fnLensSameWrong)

/-- 'laws.FnLensBest': WHATEVER THE INPUT: true; the input reads as it did. -/
def fnLensBestSpec : ChangeSpec := { name := "fnLensBest", fn := fun _ => fun
  | [d] => { results := [.lit (.bool true)], args := [d] }
  | _ => none }
def fnLensBestRow : OpenClaim := { program := "ytlmpgihimbechaa", sum := "dddcef0562b6e546805d70c8d6df71e5f3a02c74d3458a1e06b39e9185bb15ed", func := "loop.example/corbel/laws.FnLensBest", spec := "fnLensBest", plainKeys := false, apart := false }
def FnLensBestSaid : Prop := fnLensBestRow.holds Try.pinned (OpenSpec.ofChange fnLensBestSpec)

/-- ITS FALSE NEIGHBOUR: 'it returns false'. Refute it at one input. -/
def fnLensBestWrong : ChangeSpec := { name := "fnLensBest", fn := fun _ => fun
  | [d] => { results := [.lit (.bool false)], args := [d] }
  | _ => none }
def FnLensBestWrongFalsely : Prop := fnLensBestRow.holds Try.pinned (OpenSpec.ofChange fnLensBestWrong)

/-- 'laws.FnCodes': WHATEVER THE INPUT: true; the input reads as it did. -/
def fnCodesSpec : ChangeSpec := { name := "fnCodes", fn := fun _ => fun
  | [d] => { results := [.lit (.bool true)], args := [d] }
  | _ => none }
def fnCodesRow : OpenClaim := { program := "ytlmpgihimbechaa", sum := "dddcef0562b6e546805d70c8d6df71e5f3a02c74d3458a1e06b39e9185bb15ed", func := "loop.example/corbel/laws.FnCodes", spec := "fnCodes", plainKeys := false, apart := false }
def FnCodesSaid : Prop := fnCodesRow.holds Try.pinned (OpenSpec.ofChange fnCodesSpec)

/-- ITS FALSE NEIGHBOUR: 'it returns false'. Refute it at one input. -/
def fnCodesWrong : ChangeSpec := { name := "fnCodes", fn := fun _ => fun
  | [d] => { results := [.lit (.bool false)], args := [d] }
  | _ => none }
def FnCodesWrongFalsely : Prop := fnCodesRow.holds Try.pinned (OpenSpec.ofChange fnCodesWrong)

/-- 'laws.FnCodesFirst': WHATEVER THE INPUT: true; the input reads as it did. -/
def fnCodesFirstSpec : ChangeSpec := { name := "fnCodesFirst", fn := fun _ => fun
  | [d] => { results := [.lit (.bool true)], args := [d] }
  | _ => none }
def fnCodesFirstRow : OpenClaim := { program := "ytlmpgihimbechaa", sum := "dddcef0562b6e546805d70c8d6df71e5f3a02c74d3458a1e06b39e9185bb15ed", func := "loop.example/corbel/laws.FnCodesFirst", spec := "fnCodesFirst", plainKeys := false, apart := false }
def FnCodesFirstSaid : Prop := fnCodesFirstRow.holds Try.pinned (OpenSpec.ofChange fnCodesFirstSpec)

/-- ITS FALSE NEIGHBOUR: 'it returns false'. Refute it at one input. -/
def fnCodesFirstWrong : ChangeSpec := { name := "fnCodesFirst", fn := fun _ => fun
  | [d] => { results := [.lit (.bool false)], args := [d] }
  | _ => none }
def FnCodesFirstWrongFalsely : Prop := fnCodesFirstRow.holds Try.pinned (OpenSpec.ofChange fnCodesFirstWrong)

/- THE SECOND FORM. 'bulk': how many values and letters a reading holds, each counted each time it is reached (what is shared counts as often as it is met; a slice's spare places count too). A statement '..UptoSaid' is the law's where the arguments, and the package variables that the reading takes, are together of bulk at most 1048576: NARROWER than '..Said'. Prove '..Said' where nothing that the law and all that it calls make is longer than what came in: it says more and counts as full. Else prove '..UptoSaid'. A law counts once. -/
mutual
def uptoBulk {H : Type} : DataW H → Nat
  | .lit (.string bytes) => bytes.length + 1
  | .lit _ => 1
  | .nil => 1
  | .ptr d => uptoBulk d + 1
  | .slice elems spare => uptoBulkAll elems + uptoBulkAll spare + 1
  | .agg parts => uptoBulkAll parts + 1
  | .iface _ d => uptoBulk d + 1
  | .map entries => uptoBulkEntries entries + 1
  | .held _ => 1
def uptoBulkAll {H : Type} : List (DataW H) → Nat
  | [] => 0
  | d :: r => uptoBulk d + uptoBulkAll r
def uptoBulkEntries {H : Type} : List (Lit × DataW H) → Nat
  | [] => 0
  | x :: r => uptoBulkEntry x + uptoBulkEntries r
def uptoBulkEntry {H : Type} : Lit × DataW H → Nat
  | (.string bytes, d) => bytes.length + uptoBulk d + 1
  | (_, d) => uptoBulk d + 1
 end
def uptoSmall : (H : Type) → List (DataW H) → Bool := fun _ ds => decide (uptoBulkAll ds ≤ 1048576)
def OpenSpec.upto (s : _root_.Go.ChangeSpec) : _root_.Go.OpenSpec := { _root_.Go.OpenSpec.ofChange s with cond := some uptoSmall }

/-- 'laws.FnSymbolsTwo', WHERE WHAT IT READS IS OF BULK AT MOST 1048576: true; the input reads as it did. -/
def fnSymbolsTwoUptoRow : OpenClaim := { program := "ytlmpgihimbechaa", sum := "dddcef0562b6e546805d70c8d6df71e5f3a02c74d3458a1e06b39e9185bb15ed", func := "loop.example/corbel/laws.FnSymbolsTwo", spec := "fnSymbolsTwo", plainKeys := false, apart := false, narrowed := true }
def FnSymbolsTwoUptoSaid : Prop := fnSymbolsTwoUptoRow.holds Try.pinned (OpenSpec.upto fnSymbolsTwoSpec)

/-- 'laws.FnExactLensOk', WHERE WHAT IT READS IS OF BULK AT MOST 1048576: true; the input reads as it did. -/
def fnExactLensOkUptoRow : OpenClaim := { program := "ytlmpgihimbechaa", sum := "dddcef0562b6e546805d70c8d6df71e5f3a02c74d3458a1e06b39e9185bb15ed", func := "loop.example/corbel/laws.FnExactLensOk", spec := "fnExactLensOk", plainKeys := false, apart := false, narrowed := true }
def FnExactLensOkUptoSaid : Prop := fnExactLensOkUptoRow.holds Try.pinned (OpenSpec.upto fnExactLensOkSpec)

/-- 'laws.FnSymbols', WHERE WHAT IT READS IS OF BULK AT MOST 1048576: true; the input reads as it did. -/
def fnSymbolsUptoRow : OpenClaim := { program := "ytlmpgihimbechaa", sum := "dddcef0562b6e546805d70c8d6df71e5f3a02c74d3458a1e06b39e9185bb15ed", func := "loop.example/corbel/laws.FnSymbols", spec := "fnSymbols", plainKeys := false, apart := false, narrowed := true }
def FnSymbolsUptoSaid : Prop := fnSymbolsUptoRow.holds Try.pinned (OpenSpec.upto fnSymbolsSpec)

/-- 'laws.FnSymbolsGet', WHERE WHAT IT READS IS OF BULK AT MOST 1048576: true; the input reads as it did. -/
def fnSymbolsGetUptoRow : OpenClaim := { program := "ytlmpgihimbechaa", sum := "dddcef0562b6e546805d70c8d6df71e5f3a02c74d3458a1e06b39e9185bb15ed", func := "loop.example/corbel/laws.FnSymbolsGet", spec := "fnSymbolsGet", plainKeys := false, apart := false, narrowed := true }
def FnSymbolsGetUptoSaid : Prop := fnSymbolsGetUptoRow.holds Try.pinned (OpenSpec.upto fnSymbolsGetSpec)

/-- 'laws.FnExactCodesOf', WHERE WHAT IT READS IS OF BULK AT MOST 1048576: true; the input reads as it did. -/
def fnExactCodesOfUptoRow : OpenClaim := { program := "ytlmpgihimbechaa", sum := "dddcef0562b6e546805d70c8d6df71e5f3a02c74d3458a1e06b39e9185bb15ed", func := "loop.example/corbel/laws.FnExactCodesOf", spec := "fnExactCodesOf", plainKeys := false, apart := false, narrowed := true }
def FnExactCodesOfUptoSaid : Prop := fnExactCodesOfUptoRow.holds Try.pinned (OpenSpec.upto fnExactCodesOfSpec)

/-- 'laws.FnExactSymbolsGet', WHERE WHAT IT READS IS OF BULK AT MOST 1048576: true; the input reads as it did. -/
def fnExactSymbolsGetUptoRow : OpenClaim := { program := "ytlmpgihimbechaa", sum := "dddcef0562b6e546805d70c8d6df71e5f3a02c74d3458a1e06b39e9185bb15ed", func := "loop.example/corbel/laws.FnExactSymbolsGet", spec := "fnExactSymbolsGet", plainKeys := false, apart := false, narrowed := true }
def FnExactSymbolsGetUptoSaid : Prop := fnExactSymbolsGetUptoRow.holds Try.pinned (OpenSpec.upto fnExactSymbolsGetSpec)

/-- 'laws.FnExactSymbolsPut', WHERE WHAT IT READS IS OF BULK AT MOST 1048576: true; the input reads as it did. -/
def fnExactSymbolsPutUptoRow : OpenClaim := { program := "ytlmpgihimbechaa", sum := "dddcef0562b6e546805d70c8d6df71e5f3a02c74d3458a1e06b39e9185bb15ed", func := "loop.example/corbel/laws.FnExactSymbolsPut", spec := "fnExactSymbolsPut", plainKeys := false, apart := false, narrowed := true }
def FnExactSymbolsPutUptoSaid : Prop := fnExactSymbolsPutUptoRow.holds Try.pinned (OpenSpec.upto fnExactSymbolsPutSpec)

/-- 'laws.FnLensBad', WHERE WHAT IT READS IS OF BULK AT MOST 1048576: true; the input reads as it did. -/
def fnLensBadUptoRow : OpenClaim := { program := "ytlmpgihimbechaa", sum := "dddcef0562b6e546805d70c8d6df71e5f3a02c74d3458a1e06b39e9185bb15ed", func := "loop.example/corbel/laws.FnLensBad", spec := "fnLensBad", plainKeys := false, apart := false, narrowed := true }
def FnLensBadUptoSaid : Prop := fnLensBadUptoRow.holds Try.pinned (OpenSpec.upto fnLensBadSpec)

/-- 'laws.FnExactLensOf', WHERE WHAT IT READS IS OF BULK AT MOST 1048576: true; the input reads as it did. -/
def fnExactLensOfUptoRow : OpenClaim := { program := "ytlmpgihimbechaa", sum := "dddcef0562b6e546805d70c8d6df71e5f3a02c74d3458a1e06b39e9185bb15ed", func := "loop.example/corbel/laws.FnExactLensOf", spec := "fnExactLensOf", plainKeys := false, apart := false, narrowed := true }
def FnExactLensOfUptoSaid : Prop := fnExactLensOfUptoRow.holds Try.pinned (OpenSpec.upto fnExactLensOfSpec)

/-- 'laws.FnLensTwice', WHERE WHAT IT READS IS OF BULK AT MOST 1048576: true; the input reads as it did. -/
def fnLensTwiceUptoRow : OpenClaim := { program := "ytlmpgihimbechaa", sum := "dddcef0562b6e546805d70c8d6df71e5f3a02c74d3458a1e06b39e9185bb15ed", func := "loop.example/corbel/laws.FnLensTwice", spec := "fnLensTwice", plainKeys := false, apart := false, narrowed := true }
def FnLensTwiceUptoSaid : Prop := fnLensTwiceUptoRow.holds Try.pinned (OpenSpec.upto fnLensTwiceSpec)

/-- 'laws.FnLensOne', WHERE WHAT IT READS IS OF BULK AT MOST 1048576: true; the input reads as it did. -/
def fnLensOneUptoRow : OpenClaim := { program := "ytlmpgihimbechaa", sum := "dddcef0562b6e546805d70c8d6df71e5f3a02c74d3458a1e06b39e9185bb15ed", func := "loop.example/corbel/laws.FnLensOne", spec := "fnLensOne", plainKeys := false, apart := false, narrowed := true }
def FnLensOneUptoSaid : Prop := fnLensOneUptoRow.holds Try.pinned (OpenSpec.upto fnLensOneSpec)

/-- 'laws.FnLensMore', WHERE WHAT IT READS IS OF BULK AT MOST 1048576: true; the input reads as it did. -/
def fnLensMoreUptoRow : OpenClaim := { program := "ytlmpgihimbechaa", sum := "dddcef0562b6e546805d70c8d6df71e5f3a02c74d3458a1e06b39e9185bb15ed", func := "loop.example/corbel/laws.FnLensMore", spec := "fnLensMore", plainKeys := false, apart := false, narrowed := true }
def FnLensMoreUptoSaid : Prop := fnLensMoreUptoRow.holds Try.pinned (OpenSpec.upto fnLensMoreSpec)

/-- 'laws.FnSymbolsNone', WHERE WHAT IT READS IS OF BULK AT MOST 1048576: true; the input reads as it did. -/
def fnSymbolsNoneUptoRow : OpenClaim := { program := "ytlmpgihimbechaa", sum := "dddcef0562b6e546805d70c8d6df71e5f3a02c74d3458a1e06b39e9185bb15ed", func := "loop.example/corbel/laws.FnSymbolsNone", spec := "fnSymbolsNone", plainKeys := false, apart := false, narrowed := true }
def FnSymbolsNoneUptoSaid : Prop := fnSymbolsNoneUptoRow.holds Try.pinned (OpenSpec.upto fnSymbolsNoneSpec)

/-- 'laws.FnLens', WHERE WHAT IT READS IS OF BULK AT MOST 1048576: true; the input reads as it did. -/
def fnLensUptoRow : OpenClaim := { program := "ytlmpgihimbechaa", sum := "dddcef0562b6e546805d70c8d6df71e5f3a02c74d3458a1e06b39e9185bb15ed", func := "loop.example/corbel/laws.FnLens", spec := "fnLens", plainKeys := false, apart := false, narrowed := true }
def FnLensUptoSaid : Prop := fnLensUptoRow.holds Try.pinned (OpenSpec.upto fnLensSpec)

/-- 'laws.FnLensSame', WHERE WHAT IT READS IS OF BULK AT MOST 1048576: true; the input reads as it did. -/
def fnLensSameUptoRow : OpenClaim := { program := "ytlmpgihimbechaa", sum := "dddcef0562b6e546805d70c8d6df71e5f3a02c74d3458a1e06b39e9185bb15ed", func := "loop.example/corbel/laws.FnLensSame", spec := "fnLensSame", plainKeys := false, apart := false, narrowed := true }
def FnLensSameUptoSaid : Prop := fnLensSameUptoRow.holds Try.pinned (OpenSpec.upto fnLensSameSpec)

/-- 'laws.FnLensBest', WHERE WHAT IT READS IS OF BULK AT MOST 1048576: true; the input reads as it did. -/
def fnLensBestUptoRow : OpenClaim := { program := "ytlmpgihimbechaa", sum := "dddcef0562b6e546805d70c8d6df71e5f3a02c74d3458a1e06b39e9185bb15ed", func := "loop.example/corbel/laws.FnLensBest", spec := "fnLensBest", plainKeys := false, apart := false, narrowed := true }
def FnLensBestUptoSaid : Prop := fnLensBestUptoRow.holds Try.pinned (OpenSpec.upto fnLensBestSpec)

/-- 'laws.FnCodes', WHERE WHAT IT READS IS OF BULK AT MOST 1048576: true; the input reads as it did. -/
def fnCodesUptoRow : OpenClaim := { program := "ytlmpgihimbechaa", sum := "dddcef0562b6e546805d70c8d6df71e5f3a02c74d3458a1e06b39e9185bb15ed", func := "loop.example/corbel/laws.FnCodes", spec := "fnCodes", plainKeys := false, apart := false, narrowed := true }
def FnCodesUptoSaid : Prop := fnCodesUptoRow.holds Try.pinned (OpenSpec.upto fnCodesSpec)

/-- 'laws.FnCodesFirst', WHERE WHAT IT READS IS OF BULK AT MOST 1048576: true; the input reads as it did. -/
def fnCodesFirstUptoRow : OpenClaim := { program := "ytlmpgihimbechaa", sum := "dddcef0562b6e546805d70c8d6df71e5f3a02c74d3458a1e06b39e9185bb15ed", func := "loop.example/corbel/laws.FnCodesFirst", spec := "fnCodesFirst", plainKeys := false, apart := false, narrowed := true }
def FnCodesFirstUptoSaid : Prop := fnCodesFirstUptoRow.holds Try.pinned (OpenSpec.upto fnCodesFirstSpec)

end Rows
end Go.Proofs.Ytlmpgihimbechaa
