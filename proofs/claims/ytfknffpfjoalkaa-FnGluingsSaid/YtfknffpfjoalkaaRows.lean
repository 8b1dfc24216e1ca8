/-
  No cell of these rows narrows 'for every input' (looked for: loops, veiled, ifaces, maps, wideKeys, modest, calm, conditions, laid).
  DERIVED. THE GIVEN ROWS OF THIS SEAT. 12 by the template 'for every input the law returns true; each argument reads behind the call as it read before'; 0 by the template 'total and deterministic' (their statements: YtfknffpfjoalkaaTotals.lean).
  GIVEN WITH THE SEED: the statements are not yours to turn. If you find one false, say at which input.
  Laid BY PROGRAM, IN A SANDBOX (cutbox-rows.mjs): the forced cells as the released guide's own fill.sh prints them over the translation c29b3a8ea6973c40… (all of the seat's roots in one cut). By AI agents, Wed Nov 11 2026. No macro, syntax, notation, axiom, sorry.
-/
import Derived.Test.YtfknffpfjoalkaaChecked
import GoSem.Claim
import GoSem.ClaimJoined
import GoSem.ClaimMapViews
import Derived.JoinedTies
import Derived.KernelRfl
namespace Go.Proofs.Ytfknffpfjoalkaa
/- THE CELL 'sum', in the pinned program and in every row, IS THE sha256 OF THE DUMP (.gsa) THAT YtfknffpfjoalkaaProg.lean LOADS. Nothing in Lean hashes anything: it is a label: what it is worth is what the hold of that sum in a sandbox is worth. -/
noncomputable def Try.pinned : Pinned := { name := "ytfknffpfjoalkaa", sum := "c29b3a8ea6973c40130c8e13a198a8e3aebcdbe1b0e68ba7de9f7a76c5866c07", checked := Try.checked }
namespace Rows
def none {H : Type} : Left H := { results := [], args := [] }

/-- 'laws.FnExactIsGluing': WHATEVER THE INPUT: true; the input reads as it did. -/
def fnExactIsGluingSpec : ChangeSpec := { name := "fnExactIsGluing", fn := fun _ => fun
  | [d] => { results := [.lit (.bool true)], args := [d] }
  | _ => none }
def fnExactIsGluingRow : OpenClaim := { program := "ytfknffpfjoalkaa", sum := "c29b3a8ea6973c40130c8e13a198a8e3aebcdbe1b0e68ba7de9f7a76c5866c07", func := "loop.example/g03105/laws.FnExactIsGluing", spec := "fnExactIsGluing", apart := false }
def FnExactIsGluingSaid : Prop := fnExactIsGluingRow.holds Try.pinned (OpenSpec.ofChange fnExactIsGluingSpec)

/-- ITS FALSE NEIGHBOUR: 'it returns false'. Refute it at one input. -/
def fnExactIsGluingWrong : ChangeSpec := { name := "fnExactIsGluing", fn := fun _ => fun
  | [d] => { results := [.lit (.bool false)], args := [d] }
  | _ => none }
def FnExactIsGluingWrongFalsely : Prop := fnExactIsGluingRow.holds Try.pinned (OpenSpec.ofChange fnExactIsGluingWrong)

/-- 'laws.FnExactEdgeLetters': WHATEVER THE INPUT: true; the input reads as it did. -/
def fnExactEdgeLettersSpec : ChangeSpec := { name := "fnExactEdgeLetters", fn := fun _ => fun
  | [d] => { results := [.lit (.bool true)], args := [d] }
  | _ => none }
def fnExactEdgeLettersRow : OpenClaim := { program := "ytfknffpfjoalkaa", sum := "c29b3a8ea6973c40130c8e13a198a8e3aebcdbe1b0e68ba7de9f7a76c5866c07", func := "loop.example/g03105/laws.FnExactEdgeLetters", spec := "fnExactEdgeLetters", apart := false }
def FnExactEdgeLettersSaid : Prop := fnExactEdgeLettersRow.holds Try.pinned (OpenSpec.ofChange fnExactEdgeLettersSpec)

/-- ITS FALSE NEIGHBOUR: 'it returns false'. Refute it at one input. -/
def fnExactEdgeLettersWrong : ChangeSpec := { name := "fnExactEdgeLetters", fn := fun _ => fun
  | [d] => { results := [.lit (.bool false)], args := [d] }
  | _ => none }
def FnExactEdgeLettersWrongFalsely : Prop := fnExactEdgeLettersRow.holds Try.pinned (OpenSpec.ofChange fnExactEdgeLettersWrong)

/-- 'laws.FnExactFreeLetters': WHATEVER THE INPUT: true; the input reads as it did. -/
def fnExactFreeLettersSpec : ChangeSpec := { name := "fnExactFreeLetters", fn := fun _ => fun
  | [d] => { results := [.lit (.bool true)], args := [d] }
  | _ => none }
def fnExactFreeLettersRow : OpenClaim := { program := "ytfknffpfjoalkaa", sum := "c29b3a8ea6973c40130c8e13a198a8e3aebcdbe1b0e68ba7de9f7a76c5866c07", func := "loop.example/g03105/laws.FnExactFreeLetters", spec := "fnExactFreeLetters", apart := false }
def FnExactFreeLettersSaid : Prop := fnExactFreeLettersRow.holds Try.pinned (OpenSpec.ofChange fnExactFreeLettersSpec)

/-- ITS FALSE NEIGHBOUR: 'it returns false'. Refute it at one input. -/
def fnExactFreeLettersWrong : ChangeSpec := { name := "fnExactFreeLetters", fn := fun _ => fun
  | [d] => { results := [.lit (.bool false)], args := [d] }
  | _ => none }
def FnExactFreeLettersWrongFalsely : Prop := fnExactFreeLettersRow.holds Try.pinned (OpenSpec.ofChange fnExactFreeLettersWrong)

/-- 'laws.FnExactIsTwoSided': WHATEVER THE INPUT: true; the input reads as it did. -/
def fnExactIsTwoSidedSpec : ChangeSpec := { name := "fnExactIsTwoSided", fn := fun _ => fun
  | [d] => { results := [.lit (.bool true)], args := [d] }
  | _ => none }
def fnExactIsTwoSidedRow : OpenClaim := { program := "ytfknffpfjoalkaa", sum := "c29b3a8ea6973c40130c8e13a198a8e3aebcdbe1b0e68ba7de9f7a76c5866c07", func := "loop.example/g03105/laws.FnExactIsTwoSided", spec := "fnExactIsTwoSided", apart := false }
def FnExactIsTwoSidedSaid : Prop := fnExactIsTwoSidedRow.holds Try.pinned (OpenSpec.ofChange fnExactIsTwoSidedSpec)

/-- ITS FALSE NEIGHBOUR: 'it returns false'. Refute it at one input. -/
def fnExactIsTwoSidedWrong : ChangeSpec := { name := "fnExactIsTwoSided", fn := fun _ => fun
  | [d] => { results := [.lit (.bool false)], args := [d] }
  | _ => none }
def FnExactIsTwoSidedWrongFalsely : Prop := fnExactIsTwoSidedRow.holds Try.pinned (OpenSpec.ofChange fnExactIsTwoSidedWrong)

/-- 'laws.FnExactParseGluing': WHATEVER THE INPUT: true; the input reads as it did. -/
def fnExactParseGluingSpec : ChangeSpec := { name := "fnExactParseGluing", fn := fun _ => fun
  | [d] => { results := [.lit (.bool true)], args := [d] }
  | _ => none }
def fnExactParseGluingRow : OpenClaim := { program := "ytfknffpfjoalkaa", sum := "c29b3a8ea6973c40130c8e13a198a8e3aebcdbe1b0e68ba7de9f7a76c5866c07", func := "loop.example/g03105/laws.FnExactParseGluing", spec := "fnExactParseGluing", apart := false }
def FnExactParseGluingSaid : Prop := fnExactParseGluingRow.holds Try.pinned (OpenSpec.ofChange fnExactParseGluingSpec)

/-- ITS FALSE NEIGHBOUR: 'it returns false'. Refute it at one input. -/
def fnExactParseGluingWrong : ChangeSpec := { name := "fnExactParseGluing", fn := fun _ => fun
  | [d] => { results := [.lit (.bool false)], args := [d] }
  | _ => none }
def FnExactParseGluingWrongFalsely : Prop := fnExactParseGluingRow.holds Try.pinned (OpenSpec.ofChange fnExactParseGluingWrong)

/-- 'laws.FnExactPartsOf': WHATEVER THE INPUT: true; the input reads as it did. -/
def fnExactPartsOfSpec : ChangeSpec := { name := "fnExactPartsOf", fn := fun _ => fun
  | [d] => { results := [.lit (.bool true)], args := [d] }
  | _ => none }
def fnExactPartsOfRow : OpenClaim := { program := "ytfknffpfjoalkaa", sum := "c29b3a8ea6973c40130c8e13a198a8e3aebcdbe1b0e68ba7de9f7a76c5866c07", func := "loop.example/g03105/laws.FnExactPartsOf", spec := "fnExactPartsOf", apart := false }
def FnExactPartsOfSaid : Prop := fnExactPartsOfRow.holds Try.pinned (OpenSpec.ofChange fnExactPartsOfSpec)

/-- ITS FALSE NEIGHBOUR: 'it returns false'. Refute it at one input. -/
def fnExactPartsOfWrong : ChangeSpec := { name := "fnExactPartsOf", fn := fun _ => fun
  | [d] => { results := [.lit (.bool false)], args := [d] }
  | _ => none }
def FnExactPartsOfWrongFalsely : Prop := fnExactPartsOfRow.holds Try.pinned (OpenSpec.ofChange fnExactPartsOfWrong)

/-- 'laws.FnExactCountVertices': WHATEVER THE INPUT: true; the input reads as it did. -/
def fnExactCountVerticesSpec : ChangeSpec := { name := "fnExactCountVertices", fn := fun _ => fun
  | [d] => { results := [.lit (.bool true)], args := [d] }
  | _ => none }
def fnExactCountVerticesRow : OpenClaim := { program := "ytfknffpfjoalkaa", sum := "c29b3a8ea6973c40130c8e13a198a8e3aebcdbe1b0e68ba7de9f7a76c5866c07", func := "loop.example/g03105/laws.FnExactCountVertices", spec := "fnExactCountVertices", apart := false }
def FnExactCountVerticesSaid : Prop := fnExactCountVerticesRow.holds Try.pinned (OpenSpec.ofChange fnExactCountVerticesSpec)

/-- ITS FALSE NEIGHBOUR: 'it returns false'. Refute it at one input. -/
def fnExactCountVerticesWrong : ChangeSpec := { name := "fnExactCountVertices", fn := fun _ => fun
  | [d] => { results := [.lit (.bool false)], args := [d] }
  | _ => none }
def FnExactCountVerticesWrongFalsely : Prop := fnExactCountVerticesRow.holds Try.pinned (OpenSpec.ofChange fnExactCountVerticesWrong)

/-- 'laws.FnExactGluingText': WHATEVER THE INPUT: true; the input reads as it did. -/
def fnExactGluingTextSpec : ChangeSpec := { name := "fnExactGluingText", fn := fun _ => fun
  | [d] => { results := [.lit (.bool true)], args := [d] }
  | _ => none }
def fnExactGluingTextRow : OpenClaim := { program := "ytfknffpfjoalkaa", sum := "c29b3a8ea6973c40130c8e13a198a8e3aebcdbe1b0e68ba7de9f7a76c5866c07", func := "loop.example/g03105/laws.FnExactGluingText", spec := "fnExactGluingText", inPlace := ["internal/abi.NoEscape", "internal/bytealg.MakeNoZero"], apart := false }
def FnExactGluingTextSaid : Prop := fnExactGluingTextRow.holds Try.pinned (OpenSpec.ofChange fnExactGluingTextSpec)

/-- ITS FALSE NEIGHBOUR: 'it returns false'. Refute it at one input. -/
def fnExactGluingTextWrong : ChangeSpec := { name := "fnExactGluingText", fn := fun _ => fun
  | [d] => { results := [.lit (.bool false)], args := [d] }
  | _ => none }
def FnExactGluingTextWrongFalsely : Prop := fnExactGluingTextRow.holds Try.pinned (OpenSpec.ofChange fnExactGluingTextWrong)

/-- 'laws.FnExactEulerOf': WHATEVER THE INPUT: true; the input reads as it did. -/
def fnExactEulerOfSpec : ChangeSpec := { name := "fnExactEulerOf", fn := fun _ => fun
  | [d] => { results := [.lit (.bool true)], args := [d] }
  | _ => none }
def fnExactEulerOfRow : OpenClaim := { program := "ytfknffpfjoalkaa", sum := "c29b3a8ea6973c40130c8e13a198a8e3aebcdbe1b0e68ba7de9f7a76c5866c07", func := "loop.example/g03105/laws.FnExactEulerOf", spec := "fnExactEulerOf", apart := false }
def FnExactEulerOfSaid : Prop := fnExactEulerOfRow.holds Try.pinned (OpenSpec.ofChange fnExactEulerOfSpec)

/-- ITS FALSE NEIGHBOUR: 'it returns false'. Refute it at one input. -/
def fnExactEulerOfWrong : ChangeSpec := { name := "fnExactEulerOf", fn := fun _ => fun
  | [d] => { results := [.lit (.bool false)], args := [d] }
  | _ => none }
def FnExactEulerOfWrongFalsely : Prop := fnExactEulerOfRow.holds Try.pinned (OpenSpec.ofChange fnExactEulerOfWrong)

/-- 'laws.FnExactCountBorders': WHATEVER THE INPUT: true; the input reads as it did. -/
def fnExactCountBordersSpec : ChangeSpec := { name := "fnExactCountBorders", fn := fun _ => fun
  | [d] => { results := [.lit (.bool true)], args := [d] }
  | _ => none }
def fnExactCountBordersRow : OpenClaim := { program := "ytfknffpfjoalkaa", sum := "c29b3a8ea6973c40130c8e13a198a8e3aebcdbe1b0e68ba7de9f7a76c5866c07", func := "loop.example/g03105/laws.FnExactCountBorders", spec := "fnExactCountBorders", apart := false }
def FnExactCountBordersSaid : Prop := fnExactCountBordersRow.holds Try.pinned (OpenSpec.ofChange fnExactCountBordersSpec)

/-- ITS FALSE NEIGHBOUR: 'it returns false'. Refute it at one input. -/
def fnExactCountBordersWrong : ChangeSpec := { name := "fnExactCountBorders", fn := fun _ => fun
  | [d] => { results := [.lit (.bool false)], args := [d] }
  | _ => none }
def FnExactCountBordersWrongFalsely : Prop := fnExactCountBordersRow.holds Try.pinned (OpenSpec.ofChange fnExactCountBordersWrong)

/-- 'laws.FnExactSurfaceOf': WHATEVER THE INPUT: true; the input reads as it did. -/
def fnExactSurfaceOfSpec : ChangeSpec := { name := "fnExactSurfaceOf", fn := fun _ => fun
  | [d] => { results := [.lit (.bool true)], args := [d] }
  | _ => none }
def fnExactSurfaceOfRow : OpenClaim := { program := "ytfknffpfjoalkaa", sum := "c29b3a8ea6973c40130c8e13a198a8e3aebcdbe1b0e68ba7de9f7a76c5866c07", func := "loop.example/g03105/laws.FnExactSurfaceOf", spec := "fnExactSurfaceOf", apart := false }
def FnExactSurfaceOfSaid : Prop := fnExactSurfaceOfRow.holds Try.pinned (OpenSpec.ofChange fnExactSurfaceOfSpec)

/-- ITS FALSE NEIGHBOUR: 'it returns false'. Refute it at one input. -/
def fnExactSurfaceOfWrong : ChangeSpec := { name := "fnExactSurfaceOf", fn := fun _ => fun
  | [d] => { results := [.lit (.bool false)], args := [d] }
  | _ => none }
def FnExactSurfaceOfWrongFalsely : Prop := fnExactSurfaceOfRow.holds Try.pinned (OpenSpec.ofChange fnExactSurfaceOfWrong)

/-- 'laws.FnGluings': WHATEVER THE INPUT: true; the input reads as it did. -/
def fnGluingsSpec : ChangeSpec := { name := "fnGluings", fn := fun _ => fun
  | [d] => { results := [.lit (.bool true)], args := [d] }
  | _ => none }
def fnGluingsRow : OpenClaim := { program := "ytfknffpfjoalkaa", sum := "c29b3a8ea6973c40130c8e13a198a8e3aebcdbe1b0e68ba7de9f7a76c5866c07", func := "loop.example/g03105/laws.FnGluings", spec := "fnGluings", inPlace := ["internal/abi.NoEscape", "internal/bytealg.MakeNoZero"], apart := false }
def FnGluingsSaid : Prop := fnGluingsRow.holds Try.pinned (OpenSpec.ofChange fnGluingsSpec)

/-- ITS FALSE NEIGHBOUR: 'it returns false'. Refute it at one input. -/
def fnGluingsWrong : ChangeSpec := { name := "fnGluings", fn := fun _ => fun
  | [d] => { results := [.lit (.bool false)], args := [d] }
  | _ => none }
def FnGluingsWrongFalsely : Prop := fnGluingsRow.holds Try.pinned (OpenSpec.ofChange fnGluingsWrong)

/- THE SECOND FORM. 'bulk': how many values and letters a reading holds, each counted each time it is reached (what is shared counts as often as it is met; a slice's spare places count too). A statement '..UptoSaid' is the law's where the arguments, and the package variables that the reading takes, are together of bulk at most 1048576: NARROWER than '..Said'. Prove '..Said' where nothing that the law and all that it calls make is longer than what came in: it says more and counts as full. Else prove '..UptoSaid'. A law counts once. -/
mutual
def uptoBulk {H : Type} : DataW H → Nat
  | .lit (.string bytes) => bytes.length + 1
  | .lit _ => 1
  | .nil => 1
  | .ptr d => uptoBulk d + 1
  | .slice elems spare => uptoBulkAll elems + uptoBulkAll spare + 1
  | .agg parts => uptoBulkAll parts + 1
  | .iface _ d => uptoBulk d + 1
  | .map entries => uptoBulkEntries entries + 1
  | .held _ => 1
def uptoBulkAll {H : Type} : List (DataW H) → Nat
  | [] => 0
  | d :: r => uptoBulk d + uptoBulkAll r
def uptoBulkEntries {H : Type} : List (Lit × DataW H) → Nat
  | [] => 0
  | x :: r => uptoBulkEntry x + uptoBulkEntries r
def uptoBulkEntry {H : Type} : Lit × DataW H → Nat
  | (.string bytes, d) => bytes.length + uptoBulk d + 1
  | (_, d) => uptoBulk d + 1
 end
def uptoSmall : (H : Type) → List (DataW H) → Bool := fun _ ds => decide (uptoBulkAll ds ≤ 1048576)
def OpenSpec.upto (s : _root_.Go.ChangeSpec) : _root_.Go.OpenSpec := { _root_.Go.OpenSpec.ofChange s with cond := some uptoSmall }

/-- 'laws.FnExactIsGluing', WHERE WHAT IT READS IS OF BULK AT MOST 1048576: true; the input reads as it did. -/
def fnExactIsGluingUptoRow : OpenClaim := { program := "ytfknffpfjoalkaa", sum := "c29b3a8ea6973c40130c8e13a198a8e3aebcdbe1b0e68ba7de9f7a76c5866c07", func := "loop.example/g03105/laws.FnExactIsGluing", spec := "fnExactIsGluing", apart := false, narrowed := true }
def FnExactIsGluingUptoSaid : Prop := fnExactIsGluingUptoRow.holds Try.pinned (OpenSpec.upto fnExactIsGluingSpec)

/-- 'laws.FnExactEdgeLetters', WHERE WHAT IT READS IS OF BULK AT MOST 1048576: true; the input reads as it did. -/
def fnExactEdgeLettersUptoRow : OpenClaim := { program := "ytfknffpfjoalkaa", sum := "c29b3a8ea6973c40130c8e13a198a8e3aebcdbe1b0e68ba7de9f7a76c5866c07", func := "loop.example/g03105/laws.FnExactEdgeLetters", spec := "fnExactEdgeLetters", apart := false, narrowed := true }
def FnExactEdgeLettersUptoSaid : Prop := fnExactEdgeLettersUptoRow.holds Try.pinned (OpenSpec.upto fnExactEdgeLettersSpec)

/-- 'laws.FnExactFreeLetters', WHERE WHAT IT READS IS OF BULK AT MOST 1048576: true; the input reads as it did. -/
def fnExactFreeLettersUptoRow : OpenClaim := { program := "ytfknffpfjoalkaa", sum := "c29b3a8ea6973c40130c8e13a198a8e3aebcdbe1b0e68ba7de9f7a76c5866c07", func := "loop.example/g03105/laws.FnExactFreeLetters", spec := "fnExactFreeLetters", apart := false, narrowed := true }
def FnExactFreeLettersUptoSaid : Prop := fnExactFreeLettersUptoRow.holds Try.pinned (OpenSpec.upto fnExactFreeLettersSpec)

/-- 'laws.FnExactIsTwoSided', WHERE WHAT IT READS IS OF BULK AT MOST 1048576: true; the input reads as it did. -/
def fnExactIsTwoSidedUptoRow : OpenClaim := { program := "ytfknffpfjoalkaa", sum := "c29b3a8ea6973c40130c8e13a198a8e3aebcdbe1b0e68ba7de9f7a76c5866c07", func := "loop.example/g03105/laws.FnExactIsTwoSided", spec := "fnExactIsTwoSided", apart := false, narrowed := true }
def FnExactIsTwoSidedUptoSaid : Prop := fnExactIsTwoSidedUptoRow.holds Try.pinned (OpenSpec.upto fnExactIsTwoSidedSpec)

/-- 'laws.FnExactParseGluing', WHERE WHAT IT READS IS OF BULK AT MOST 1048576: true; the input reads as it did. -/
def fnExactParseGluingUptoRow : OpenClaim := { program := "ytfknffpfjoalkaa", sum := "c29b3a8ea6973c40130c8e13a198a8e3aebcdbe1b0e68ba7de9f7a76c5866c07", func := "loop.example/g03105/laws.FnExactParseGluing", spec := "fnExactParseGluing", apart := false, narrowed := true }
def FnExactParseGluingUptoSaid : Prop := fnExactParseGluingUptoRow.holds Try.pinned (OpenSpec.upto fnExactParseGluingSpec)

/-- 'laws.FnExactPartsOf', WHERE WHAT IT READS IS OF BULK AT MOST 1048576: true; the input reads as it did. -/
def fnExactPartsOfUptoRow : OpenClaim := { program := "ytfknffpfjoalkaa", sum := "c29b3a8ea6973c40130c8e13a198a8e3aebcdbe1b0e68ba7de9f7a76c5866c07", func := "loop.example/g03105/laws.FnExactPartsOf", spec := "fnExactPartsOf", apart := false, narrowed := true }
def FnExactPartsOfUptoSaid : Prop := fnExactPartsOfUptoRow.holds Try.pinned (OpenSpec.upto fnExactPartsOfSpec)

/-- 'laws.FnExactCountVertices', WHERE WHAT IT READS IS OF BULK AT MOST 1048576: true; the input reads as it did. -/
def fnExactCountVerticesUptoRow : OpenClaim := { program := "ytfknffpfjoalkaa", sum := "c29b3a8ea6973c40130c8e13a198a8e3aebcdbe1b0e68ba7de9f7a76c5866c07", func := "loop.example/g03105/laws.FnExactCountVertices", spec := "fnExactCountVertices", apart := false, narrowed := true }
def FnExactCountVerticesUptoSaid : Prop := fnExactCountVerticesUptoRow.holds Try.pinned (OpenSpec.upto fnExactCountVerticesSpec)

/-- 'laws.FnExactGluingText', WHERE WHAT IT READS IS OF BULK AT MOST 1048576: true; the input reads as it did. -/
def fnExactGluingTextUptoRow : OpenClaim := { program := "ytfknffpfjoalkaa", sum := "c29b3a8ea6973c40130c8e13a198a8e3aebcdbe1b0e68ba7de9f7a76c5866c07", func := "loop.example/g03105/laws.FnExactGluingText", spec := "fnExactGluingText", inPlace := ["internal/abi.NoEscape", "internal/bytealg.MakeNoZero"], apart := false, narrowed := true }
def FnExactGluingTextUptoSaid : Prop := fnExactGluingTextUptoRow.holds Try.pinned (OpenSpec.upto fnExactGluingTextSpec)

/-- 'laws.FnExactEulerOf', WHERE WHAT IT READS IS OF BULK AT MOST 1048576: true; the input reads as it did. -/
def fnExactEulerOfUptoRow : OpenClaim := { program := "ytfknffpfjoalkaa", sum := "c29b3a8ea6973c40130c8e13a198a8e3aebcdbe1b0e68ba7de9f7a76c5866c07", func := "loop.example/g03105/laws.FnExactEulerOf", spec := "fnExactEulerOf", apart := false, narrowed := true }
def FnExactEulerOfUptoSaid : Prop := fnExactEulerOfUptoRow.holds Try.pinned (OpenSpec.upto fnExactEulerOfSpec)

/-- 'laws.FnExactCountBorders', WHERE WHAT IT READS IS OF BULK AT MOST 1048576: true; the input reads as it did. -/
def fnExactCountBordersUptoRow : OpenClaim := { program := "ytfknffpfjoalkaa", sum := "c29b3a8ea6973c40130c8e13a198a8e3aebcdbe1b0e68ba7de9f7a76c5866c07", func := "loop.example/g03105/laws.FnExactCountBorders", spec := "fnExactCountBorders", apart := false, narrowed := true }
def FnExactCountBordersUptoSaid : Prop := fnExactCountBordersUptoRow.holds Try.pinned (OpenSpec.upto fnExactCountBordersSpec)

/-- 'laws.FnExactSurfaceOf', WHERE WHAT IT READS IS OF BULK AT MOST 1048576: true; the input reads as it did. -/
def fnExactSurfaceOfUptoRow : OpenClaim := { program := "ytfknffpfjoalkaa", sum := "c29b3a8ea6973c40130c8e13a198a8e3aebcdbe1b0e68ba7de9f7a76c5866c07", func := "loop.example/g03105/laws.FnExactSurfaceOf", spec := "fnExactSurfaceOf", apart := false, narrowed := true }
def FnExactSurfaceOfUptoSaid : Prop := fnExactSurfaceOfUptoRow.holds Try.pinned (OpenSpec.upto fnExactSurfaceOfSpec)

/-- 'laws.FnGluings', WHERE WHAT IT READS IS OF BULK AT MOST 1048576: true; the input reads as it did. -/
def fnGluingsUptoRow : OpenClaim := { program := "ytfknffpfjoalkaa", sum := "c29b3a8ea6973c40130c8e13a198a8e3aebcdbe1b0e68ba7de9f7a76c5866c07", func := "loop.example/g03105/laws.FnGluings", spec := "fnGluings", inPlace := ["internal/abi.NoEscape", "internal/bytealg.MakeNoZero"], apart := false, narrowed := true }
def FnGluingsUptoSaid : Prop := fnGluingsUptoRow.holds Try.pinned (OpenSpec.upto fnGluingsSpec)

end Rows
end Go.Proofs.Ytfknffpfjoalkaa
