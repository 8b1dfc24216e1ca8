/-
  No cell of these rows narrows 'for every input' (looked for: loops, veiled, ifaces, maps, wideKeys, modest, calm, conditions, laid).
  DERIVED. THE GIVEN ROWS OF THIS SEAT. 9 by the template 'for every input the law returns true; each argument reads behind the call as it read before'; 0 by the template 'total and deterministic' (their statements: YtehloilmokhmgaaTotals.lean).
  GIVEN WITH THE SEED: the statements are not yours to turn. If you find one false, say at which input.
  Laid BY PROGRAM, IN A SANDBOX (cutbox-rows.mjs): the forced cells as the released guide's own fill.sh prints them over the translation 692a75fbd0d1d2c6… (all of the seat's roots in one cut). By AI agents, Wed Nov 11 2026. No macro, syntax, notation, axiom, sorry.
-/
import Derived.Test.YtehloilmokhmgaaChecked
import GoSem.Claim
import GoSem.ClaimJoined
import GoSem.ClaimMapViews
import Derived.JoinedTies
import Derived.KernelRfl
namespace Go.Proofs.Ytehloilmokhmgaa
/- THE CELL 'sum', in the pinned program and in every row, IS THE sha256 OF THE DUMP (.gsa) THAT YtehloilmokhmgaaProg.lean LOADS. Nothing in Lean hashes anything: it is a label: what it is worth is what the hold of that sum in a sandbox is worth. -/
noncomputable def Try.pinned : Pinned := { name := "ytehloilmokhmgaa", sum := "692a75fbd0d1d2c67c8bc10254a75895c165489d9a741486400b280e3e7923b0", checked := Try.checked }
namespace Rows
def none {H : Type} : Left H := { results := [], args := [] }

/-- 'laws.FnExactConstants': WHATEVER THE INPUT: true; the input reads as it did. -/
def fnExactConstantsSpec : ChangeSpec := { name := "fnExactConstants", fn := fun _ => fun
  | [] => { results := [.lit (.bool true)], args := [] }
  | _ => none }
def fnExactConstantsRow : OpenClaim := { program := "ytehloilmokhmgaa", sum := "692a75fbd0d1d2c67c8bc10254a75895c165489d9a741486400b280e3e7923b0", func := "loop.example/g03105/laws.FnExactConstants", spec := "fnExactConstants", apart := false }
def FnExactConstantsSaid : Prop := fnExactConstantsRow.holds Try.pinned (OpenSpec.ofChange fnExactConstantsSpec)

/-- ITS FALSE NEIGHBOUR: 'it returns false'. Refute it at one input. -/
def fnExactConstantsWrong : ChangeSpec := { name := "fnExactConstants", fn := fun _ => fun
  | [] => { results := [.lit (.bool false)], args := [] }
  | _ => none }
def FnExactConstantsWrongFalsely : Prop := fnExactConstantsRow.holds Try.pinned (OpenSpec.ofChange fnExactConstantsWrong)

/-- 'laws.FnExactIsSurface': WHATEVER THE INPUT: true; the input reads as it did. -/
def fnExactIsSurfaceSpec : ChangeSpec := { name := "fnExactIsSurface", fn := fun _ => fun
  | [d] => { results := [.lit (.bool true)], args := [d] }
  | _ => none }
def fnExactIsSurfaceRow : OpenClaim := { program := "ytehloilmokhmgaa", sum := "692a75fbd0d1d2c67c8bc10254a75895c165489d9a741486400b280e3e7923b0", func := "loop.example/g03105/laws.FnExactIsSurface", spec := "fnExactIsSurface", apart := false }
def FnExactIsSurfaceSaid : Prop := fnExactIsSurfaceRow.holds Try.pinned (OpenSpec.ofChange fnExactIsSurfaceSpec)

/-- ITS FALSE NEIGHBOUR: 'it returns false'. Refute it at one input. -/
def fnExactIsSurfaceWrong : ChangeSpec := { name := "fnExactIsSurface", fn := fun _ => fun
  | [d] => { results := [.lit (.bool false)], args := [d] }
  | _ => none }
def FnExactIsSurfaceWrongFalsely : Prop := fnExactIsSurfaceRow.holds Try.pinned (OpenSpec.ofChange fnExactIsSurfaceWrong)

/-- 'laws.FnExactEulerNumber': WHATEVER THE INPUT: true; the input reads as it did. -/
def fnExactEulerNumberSpec : ChangeSpec := { name := "fnExactEulerNumber", fn := fun _ => fun
  | [d] => { results := [.lit (.bool true)], args := [d] }
  | _ => none }
def fnExactEulerNumberRow : OpenClaim := { program := "ytehloilmokhmgaa", sum := "692a75fbd0d1d2c67c8bc10254a75895c165489d9a741486400b280e3e7923b0", func := "loop.example/g03105/laws.FnExactEulerNumber", spec := "fnExactEulerNumber", apart := false }
def FnExactEulerNumberSaid : Prop := fnExactEulerNumberRow.holds Try.pinned (OpenSpec.ofChange fnExactEulerNumberSpec)

/-- ITS FALSE NEIGHBOUR: 'it returns false'. Refute it at one input. -/
def fnExactEulerNumberWrong : ChangeSpec := { name := "fnExactEulerNumber", fn := fun _ => fun
  | [d] => { results := [.lit (.bool false)], args := [d] }
  | _ => none }
def FnExactEulerNumberWrongFalsely : Prop := fnExactEulerNumberRow.holds Try.pinned (OpenSpec.ofChange fnExactEulerNumberWrong)

/-- 'laws.FnExactCapBorder': WHATEVER THE INPUT: true; the input reads as it did. -/
def fnExactCapBorderSpec : ChangeSpec := { name := "fnExactCapBorder", fn := fun _ => fun
  | [d] => { results := [.lit (.bool true)], args := [d] }
  | _ => none }
def fnExactCapBorderRow : OpenClaim := { program := "ytehloilmokhmgaa", sum := "692a75fbd0d1d2c67c8bc10254a75895c165489d9a741486400b280e3e7923b0", func := "loop.example/g03105/laws.FnExactCapBorder", spec := "fnExactCapBorder", apart := false }
def FnExactCapBorderSaid : Prop := fnExactCapBorderRow.holds Try.pinned (OpenSpec.ofChange fnExactCapBorderSpec)

/-- ITS FALSE NEIGHBOUR: 'it returns false'. Refute it at one input. -/
def fnExactCapBorderWrong : ChangeSpec := { name := "fnExactCapBorder", fn := fun _ => fun
  | [d] => { results := [.lit (.bool false)], args := [d] }
  | _ => none }
def FnExactCapBorderWrongFalsely : Prop := fnExactCapBorderRow.holds Try.pinned (OpenSpec.ofChange fnExactCapBorderWrong)

/-- 'laws.FnExactSplitByte': WHATEVER THE INPUT: true; the input reads as it did. -/
def fnExactSplitByteSpec : ChangeSpec := { name := "fnExactSplitByte", fn := fun _ => fun
  | [d1, d2] => { results := [.lit (.bool true)], args := [d1, d2] }
  | _ => none }
def fnExactSplitByteRow : OpenClaim := { program := "ytehloilmokhmgaa", sum := "692a75fbd0d1d2c67c8bc10254a75895c165489d9a741486400b280e3e7923b0", func := "loop.example/g03105/laws.FnExactSplitByte", spec := "fnExactSplitByte", apart := false }
def FnExactSplitByteSaid : Prop := fnExactSplitByteRow.holds Try.pinned (OpenSpec.ofChange fnExactSplitByteSpec)

/-- ITS FALSE NEIGHBOUR: 'it returns false'. Refute it at one input. -/
def fnExactSplitByteWrong : ChangeSpec := { name := "fnExactSplitByte", fn := fun _ => fun
  | [d1, d2] => { results := [.lit (.bool false)], args := [d1, d2] }
  | _ => none }
def FnExactSplitByteWrongFalsely : Prop := fnExactSplitByteRow.holds Try.pinned (OpenSpec.ofChange fnExactSplitByteWrong)

/-- 'laws.FnExactJoin': WHATEVER THE INPUT: true; the input reads as it did. -/
def fnExactJoinSpec : ChangeSpec := { name := "fnExactJoin", fn := fun _ => fun
  | [d1, d2] => { results := [.lit (.bool true)], args := [d1, d2] }
  | _ => none }
def fnExactJoinRow : OpenClaim := { program := "ytehloilmokhmgaa", sum := "692a75fbd0d1d2c67c8bc10254a75895c165489d9a741486400b280e3e7923b0", func := "loop.example/g03105/laws.FnExactJoin", spec := "fnExactJoin", inPlace := ["internal/abi.NoEscape", "internal/bytealg.MakeNoZero"], apart := false }
def FnExactJoinSaid : Prop := fnExactJoinRow.holds Try.pinned (OpenSpec.ofChange fnExactJoinSpec)

/-- ITS FALSE NEIGHBOUR: 'it returns false'. Refute it at one input. -/
def fnExactJoinWrong : ChangeSpec := { name := "fnExactJoin", fn := fun _ => fun
  | [d1, d2] => { results := [.lit (.bool false)], args := [d1, d2] }
  | _ => none }
def FnExactJoinWrongFalsely : Prop := fnExactJoinRow.holds Try.pinned (OpenSpec.ofChange fnExactJoinWrong)

/-- 'laws.FnExactStandardGluing': WHATEVER THE INPUT: true; the input reads as it did. -/
def fnExactStandardGluingSpec : ChangeSpec := { name := "fnExactStandardGluing", fn := fun _ => fun
  | [d] => { results := [.lit (.bool true)], args := [d] }
  | _ => none }
def fnExactStandardGluingRow : OpenClaim := { program := "ytehloilmokhmgaa", sum := "692a75fbd0d1d2c67c8bc10254a75895c165489d9a741486400b280e3e7923b0", func := "loop.example/g03105/laws.FnExactStandardGluing", spec := "fnExactStandardGluing", apart := false }
def FnExactStandardGluingSaid : Prop := fnExactStandardGluingRow.holds Try.pinned (OpenSpec.ofChange fnExactStandardGluingSpec)

/-- ITS FALSE NEIGHBOUR: 'it returns false'. Refute it at one input. -/
def fnExactStandardGluingWrong : ChangeSpec := { name := "fnExactStandardGluing", fn := fun _ => fun
  | [d] => { results := [.lit (.bool false)], args := [d] }
  | _ => none }
def FnExactStandardGluingWrongFalsely : Prop := fnExactStandardGluingRow.holds Try.pinned (OpenSpec.ofChange fnExactStandardGluingWrong)

/-- 'laws.FnSplit': WHATEVER THE INPUT: true; the input reads as it did. -/
def fnSplitSpec : ChangeSpec := { name := "fnSplit", fn := fun _ => fun
  | [d] => { results := [.lit (.bool true)], args := [d] }
  | _ => none }
def fnSplitRow : OpenClaim := { program := "ytehloilmokhmgaa", sum := "692a75fbd0d1d2c67c8bc10254a75895c165489d9a741486400b280e3e7923b0", func := "loop.example/g03105/laws.FnSplit", spec := "fnSplit", inPlace := ["internal/abi.NoEscape", "internal/bytealg.MakeNoZero"], apart := false }
def FnSplitSaid : Prop := fnSplitRow.holds Try.pinned (OpenSpec.ofChange fnSplitSpec)

/-- ITS FALSE NEIGHBOUR: 'it returns false'. Refute it at one input. -/
def fnSplitWrong : ChangeSpec := { name := "fnSplit", fn := fun _ => fun
  | [d] => { results := [.lit (.bool false)], args := [d] }
  | _ => none }
def FnSplitWrongFalsely : Prop := fnSplitRow.holds Try.pinned (OpenSpec.ofChange fnSplitWrong)

/-- 'laws.FnExactIsGraph': WHATEVER THE INPUT: true; the input reads as it did. -/
def fnExactIsGraphSpec : ChangeSpec := { name := "fnExactIsGraph", fn := fun _ => fun
  | [d] => { results := [.lit (.bool true)], args := [d] }
  | _ => none }
def fnExactIsGraphRow : OpenClaim := { program := "ytehloilmokhmgaa", sum := "692a75fbd0d1d2c67c8bc10254a75895c165489d9a741486400b280e3e7923b0", func := "loop.example/g03105/laws.FnExactIsGraph", spec := "fnExactIsGraph", apart := false }
def FnExactIsGraphSaid : Prop := fnExactIsGraphRow.holds Try.pinned (OpenSpec.ofChange fnExactIsGraphSpec)

/-- ITS FALSE NEIGHBOUR: 'it returns false'. Refute it at one input. -/
def fnExactIsGraphWrong : ChangeSpec := { name := "fnExactIsGraph", fn := fun _ => fun
  | [d] => { results := [.lit (.bool false)], args := [d] }
  | _ => none }
def FnExactIsGraphWrongFalsely : Prop := fnExactIsGraphRow.holds Try.pinned (OpenSpec.ofChange fnExactIsGraphWrong)

/- THE SECOND FORM. 'bulk': how many values and letters a reading holds, each counted each time it is reached (what is shared counts as often as it is met; a slice's spare places count too). A statement '..UptoSaid' is the law's where the arguments, and the package variables that the reading takes, are together of bulk at most 1048576: NARROWER than '..Said'. Prove '..Said' where nothing that the law and all that it calls make is longer than what came in: it says more and counts as full. Else prove '..UptoSaid'. A law counts once. -/
mutual
def uptoBulk {H : Type} : DataW H → Nat
  | .lit (.string bytes) => bytes.length + 1
  | .lit _ => 1
  | .nil => 1
  | .ptr d => uptoBulk d + 1
  | .slice elems spare => uptoBulkAll elems + uptoBulkAll spare + 1
  | .agg parts => uptoBulkAll parts + 1
  | .iface _ d => uptoBulk d + 1
  | .map entries => uptoBulkEntries entries + 1
  | .held _ => 1
def uptoBulkAll {H : Type} : List (DataW H) → Nat
  | [] => 0
  | d :: r => uptoBulk d + uptoBulkAll r
def uptoBulkEntries {H : Type} : List (Lit × DataW H) → Nat
  | [] => 0
  | x :: r => uptoBulkEntry x + uptoBulkEntries r
def uptoBulkEntry {H : Type} : Lit × DataW H → Nat
  | (.string bytes, d) => bytes.length + uptoBulk d + 1
  | (_, d) => uptoBulk d + 1
 end
def uptoSmall : (H : Type) → List (DataW H) → Bool := fun _ ds => decide (uptoBulkAll ds ≤ 1048576)
def OpenSpec.upto (s : _root_.Go.ChangeSpec) : _root_.Go.OpenSpec := { _root_.Go.OpenSpec.ofChange s with cond := some uptoSmall }

/-- 'laws.FnExactConstants', WHERE WHAT IT READS IS OF BULK AT MOST 1048576: true; the input reads as it did. -/
def fnExactConstantsUptoRow : OpenClaim := { program := "ytehloilmokhmgaa", sum := "692a75fbd0d1d2c67c8bc10254a75895c165489d9a741486400b280e3e7923b0", func := "loop.example/g03105/laws.FnExactConstants", spec := "fnExactConstants", apart := false, narrowed := true }
def FnExactConstantsUptoSaid : Prop := fnExactConstantsUptoRow.holds Try.pinned (OpenSpec.upto fnExactConstantsSpec)

/-- 'laws.FnExactIsSurface', WHERE WHAT IT READS IS OF BULK AT MOST 1048576: true; the input reads as it did. -/
def fnExactIsSurfaceUptoRow : OpenClaim := { program := "ytehloilmokhmgaa", sum := "692a75fbd0d1d2c67c8bc10254a75895c165489d9a741486400b280e3e7923b0", func := "loop.example/g03105/laws.FnExactIsSurface", spec := "fnExactIsSurface", apart := false, narrowed := true }
def FnExactIsSurfaceUptoSaid : Prop := fnExactIsSurfaceUptoRow.holds Try.pinned (OpenSpec.upto fnExactIsSurfaceSpec)

/-- 'laws.FnExactEulerNumber', WHERE WHAT IT READS IS OF BULK AT MOST 1048576: true; the input reads as it did. -/
def fnExactEulerNumberUptoRow : OpenClaim := { program := "ytehloilmokhmgaa", sum := "692a75fbd0d1d2c67c8bc10254a75895c165489d9a741486400b280e3e7923b0", func := "loop.example/g03105/laws.FnExactEulerNumber", spec := "fnExactEulerNumber", apart := false, narrowed := true }
def FnExactEulerNumberUptoSaid : Prop := fnExactEulerNumberUptoRow.holds Try.pinned (OpenSpec.upto fnExactEulerNumberSpec)

/-- 'laws.FnExactCapBorder', WHERE WHAT IT READS IS OF BULK AT MOST 1048576: true; the input reads as it did. -/
def fnExactCapBorderUptoRow : OpenClaim := { program := "ytehloilmokhmgaa", sum := "692a75fbd0d1d2c67c8bc10254a75895c165489d9a741486400b280e3e7923b0", func := "loop.example/g03105/laws.FnExactCapBorder", spec := "fnExactCapBorder", apart := false, narrowed := true }
def FnExactCapBorderUptoSaid : Prop := fnExactCapBorderUptoRow.holds Try.pinned (OpenSpec.upto fnExactCapBorderSpec)

/-- 'laws.FnExactSplitByte', WHERE WHAT IT READS IS OF BULK AT MOST 1048576: true; the input reads as it did. -/
def fnExactSplitByteUptoRow : OpenClaim := { program := "ytehloilmokhmgaa", sum := "692a75fbd0d1d2c67c8bc10254a75895c165489d9a741486400b280e3e7923b0", func := "loop.example/g03105/laws.FnExactSplitByte", spec := "fnExactSplitByte", apart := false, narrowed := true }
def FnExactSplitByteUptoSaid : Prop := fnExactSplitByteUptoRow.holds Try.pinned (OpenSpec.upto fnExactSplitByteSpec)

/-- 'laws.FnExactJoin', WHERE WHAT IT READS IS OF BULK AT MOST 1048576: true; the input reads as it did. -/
def fnExactJoinUptoRow : OpenClaim := { program := "ytehloilmokhmgaa", sum := "692a75fbd0d1d2c67c8bc10254a75895c165489d9a741486400b280e3e7923b0", func := "loop.example/g03105/laws.FnExactJoin", spec := "fnExactJoin", inPlace := ["internal/abi.NoEscape", "internal/bytealg.MakeNoZero"], apart := false, narrowed := true }
def FnExactJoinUptoSaid : Prop := fnExactJoinUptoRow.holds Try.pinned (OpenSpec.upto fnExactJoinSpec)

/-- 'laws.FnExactStandardGluing', WHERE WHAT IT READS IS OF BULK AT MOST 1048576: true; the input reads as it did. -/
def fnExactStandardGluingUptoRow : OpenClaim := { program := "ytehloilmokhmgaa", sum := "692a75fbd0d1d2c67c8bc10254a75895c165489d9a741486400b280e3e7923b0", func := "loop.example/g03105/laws.FnExactStandardGluing", spec := "fnExactStandardGluing", apart := false, narrowed := true }
def FnExactStandardGluingUptoSaid : Prop := fnExactStandardGluingUptoRow.holds Try.pinned (OpenSpec.upto fnExactStandardGluingSpec)

/-- 'laws.FnSplit', WHERE WHAT IT READS IS OF BULK AT MOST 1048576: true; the input reads as it did. -/
def fnSplitUptoRow : OpenClaim := { program := "ytehloilmokhmgaa", sum := "692a75fbd0d1d2c67c8bc10254a75895c165489d9a741486400b280e3e7923b0", func := "loop.example/g03105/laws.FnSplit", spec := "fnSplit", inPlace := ["internal/abi.NoEscape", "internal/bytealg.MakeNoZero"], apart := false, narrowed := true }
def FnSplitUptoSaid : Prop := fnSplitUptoRow.holds Try.pinned (OpenSpec.upto fnSplitSpec)

/-- 'laws.FnExactIsGraph', WHERE WHAT IT READS IS OF BULK AT MOST 1048576: true; the input reads as it did. -/
def fnExactIsGraphUptoRow : OpenClaim := { program := "ytehloilmokhmgaa", sum := "692a75fbd0d1d2c67c8bc10254a75895c165489d9a741486400b280e3e7923b0", func := "loop.example/g03105/laws.FnExactIsGraph", spec := "fnExactIsGraph", apart := false, narrowed := true }
def FnExactIsGraphUptoSaid : Prop := fnExactIsGraphUptoRow.holds Try.pinned (OpenSpec.upto fnExactIsGraphSpec)

end Rows
end Go.Proofs.Ytehloilmokhmgaa
