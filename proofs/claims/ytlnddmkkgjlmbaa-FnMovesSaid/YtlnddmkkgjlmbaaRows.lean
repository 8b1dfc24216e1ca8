/-
  No cell of these rows narrows 'for every input' (looked for: loops, veiled, ifaces, maps, wideKeys, modest, calm, conditions, laid).
  DERIVED. THE GIVEN ROWS OF THIS SEAT. 9 by the template 'for every input the law returns true; each argument reads behind the call as it read before'; 0 by the template 'total and deterministic' (their statements: YtlnddmkkgjlmbaaTotals.lean).
  GIVEN WITH THE SEED: the statements are not yours to turn. If you find one false, say at which input.
  Laid BY PROGRAM, IN A SANDBOX (cutbox-rows.mjs): the forced cells as the released guide's own fill.sh prints them over the translation 4e815885e5a1c066… (all of the seat's roots in one cut). By AI agents, Wed Nov 11 2026. No macro, syntax, notation, axiom, sorry.
-/
import Derived.Test.YtlnddmkkgjlmbaaChecked
import GoSem.Claim
import GoSem.ClaimJoined
import GoSem.ClaimMapViews
import Derived.JoinedTies
import Derived.KernelRfl
namespace Go.Proofs.Ytlnddmkkgjlmbaa
/- THE CELL 'sum', in the pinned program and in every row, IS THE sha256 OF THE DUMP (.gsa) THAT YtlnddmkkgjlmbaaProg.lean LOADS. Nothing in Lean hashes anything: it is a label: what it is worth is what the hold of that sum in a sandbox is worth. -/
noncomputable def Try.pinned : Pinned := { name := "ytlnddmkkgjlmbaa", sum := "4e815885e5a1c06690bd476a6d65eb0ba0fd6f839976333a07ebee65f91b7e8f", checked := Try.checked }
namespace Rows
def none {H : Type} : Left H := { results := [], args := [] }

/-- 'laws.FnExactMirrorPolygon': WHATEVER THE INPUT: true; the input reads as it did. -/
def fnExactMirrorPolygonSpec : ChangeSpec := { name := "fnExactMirrorPolygon", fn := fun _ => fun
  | [d1, d2] => { results := [.lit (.bool true)], args := [d1, d2] }
  | _ => none }
def fnExactMirrorPolygonRow : OpenClaim := { program := "ytlnddmkkgjlmbaa", sum := "4e815885e5a1c06690bd476a6d65eb0ba0fd6f839976333a07ebee65f91b7e8f", func := "loop.example/g03105/laws.FnExactMirrorPolygon", spec := "fnExactMirrorPolygon", apart := false }
def FnExactMirrorPolygonSaid : Prop := fnExactMirrorPolygonRow.holds Try.pinned (OpenSpec.ofChange fnExactMirrorPolygonSpec)

/-- ITS FALSE NEIGHBOUR: 'it returns false'. Refute it at one input. -/
def fnExactMirrorPolygonWrong : ChangeSpec := { name := "fnExactMirrorPolygon", fn := fun _ => fun
  | [d1, d2] => { results := [.lit (.bool false)], args := [d1, d2] }
  | _ => none }
def FnExactMirrorPolygonWrongFalsely : Prop := fnExactMirrorPolygonRow.holds Try.pinned (OpenSpec.ofChange fnExactMirrorPolygonWrong)

/-- 'laws.FnExactCutPolygon': WHATEVER THE INPUT: true; the input reads as it did. -/
def fnExactCutPolygonSpec : ChangeSpec := { name := "fnExactCutPolygon", fn := fun _ => fun
  | [d1, d2, d3, d4] => { results := [.lit (.bool true)], args := [d1, d2, d3, d4] }
  | _ => none }
def fnExactCutPolygonRow : OpenClaim := { program := "ytlnddmkkgjlmbaa", sum := "4e815885e5a1c06690bd476a6d65eb0ba0fd6f839976333a07ebee65f91b7e8f", func := "loop.example/g03105/laws.FnExactCutPolygon", spec := "fnExactCutPolygon", apart := false }
def FnExactCutPolygonSaid : Prop := fnExactCutPolygonRow.holds Try.pinned (OpenSpec.ofChange fnExactCutPolygonSpec)

/-- ITS FALSE NEIGHBOUR: 'it returns false'. Refute it at one input. -/
def fnExactCutPolygonWrong : ChangeSpec := { name := "fnExactCutPolygon", fn := fun _ => fun
  | [d1, d2, d3, d4] => { results := [.lit (.bool false)], args := [d1, d2, d3, d4] }
  | _ => none }
def FnExactCutPolygonWrongFalsely : Prop := fnExactCutPolygonRow.holds Try.pinned (OpenSpec.ofChange fnExactCutPolygonWrong)

/-- 'laws.FnExactTurnPolygon': WHATEVER THE INPUT: true; the input reads as it did. -/
def fnExactTurnPolygonSpec : ChangeSpec := { name := "fnExactTurnPolygon", fn := fun _ => fun
  | [d1, d2, d3] => { results := [.lit (.bool true)], args := [d1, d2, d3] }
  | _ => none }
def fnExactTurnPolygonRow : OpenClaim := { program := "ytlnddmkkgjlmbaa", sum := "4e815885e5a1c06690bd476a6d65eb0ba0fd6f839976333a07ebee65f91b7e8f", func := "loop.example/g03105/laws.FnExactTurnPolygon", spec := "fnExactTurnPolygon", apart := false }
def FnExactTurnPolygonSaid : Prop := fnExactTurnPolygonRow.holds Try.pinned (OpenSpec.ofChange fnExactTurnPolygonSpec)

/-- ITS FALSE NEIGHBOUR: 'it returns false'. Refute it at one input. -/
def fnExactTurnPolygonWrong : ChangeSpec := { name := "fnExactTurnPolygon", fn := fun _ => fun
  | [d1, d2, d3] => { results := [.lit (.bool false)], args := [d1, d2, d3] }
  | _ => none }
def FnExactTurnPolygonWrongFalsely : Prop := fnExactTurnPolygonRow.holds Try.pinned (OpenSpec.ofChange fnExactTurnPolygonWrong)

/-- 'laws.FnExactReverseLetter': WHATEVER THE INPUT: true; the input reads as it did. -/
def fnExactReverseLetterSpec : ChangeSpec := { name := "fnExactReverseLetter", fn := fun _ => fun
  | [d1, d2] => { results := [.lit (.bool true)], args := [d1, d2] }
  | _ => none }
def fnExactReverseLetterRow : OpenClaim := { program := "ytlnddmkkgjlmbaa", sum := "4e815885e5a1c06690bd476a6d65eb0ba0fd6f839976333a07ebee65f91b7e8f", func := "loop.example/g03105/laws.FnExactReverseLetter", spec := "fnExactReverseLetter", unfollowed := true, recurses := true, apart := false }
def FnExactReverseLetterSaid : Prop := fnExactReverseLetterRow.holds Try.pinned (OpenSpec.ofChange fnExactReverseLetterSpec)

/-- ITS FALSE NEIGHBOUR: 'it returns false'. Refute it at one input. -/
def fnExactReverseLetterWrong : ChangeSpec := { name := "fnExactReverseLetter", fn := fun _ => fun
  | [d1, d2] => { results := [.lit (.bool false)], args := [d1, d2] }
  | _ => none }
def FnExactReverseLetterWrongFalsely : Prop := fnExactReverseLetterRow.holds Try.pinned (OpenSpec.ofChange fnExactReverseLetterWrong)

/-- 'laws.FnExactSwapLetters': WHATEVER THE INPUT: true; the input reads as it did. -/
def fnExactSwapLettersSpec : ChangeSpec := { name := "fnExactSwapLetters", fn := fun _ => fun
  | [d1, d2, d3] => { results := [.lit (.bool true)], args := [d1, d2, d3] }
  | _ => none }
def fnExactSwapLettersRow : OpenClaim := { program := "ytlnddmkkgjlmbaa", sum := "4e815885e5a1c06690bd476a6d65eb0ba0fd6f839976333a07ebee65f91b7e8f", func := "loop.example/g03105/laws.FnExactSwapLetters", spec := "fnExactSwapLetters", unfollowed := true, recurses := true, apart := false }
def FnExactSwapLettersSaid : Prop := fnExactSwapLettersRow.holds Try.pinned (OpenSpec.ofChange fnExactSwapLettersSpec)

/-- ITS FALSE NEIGHBOUR: 'it returns false'. Refute it at one input. -/
def fnExactSwapLettersWrong : ChangeSpec := { name := "fnExactSwapLetters", fn := fun _ => fun
  | [d1, d2, d3] => { results := [.lit (.bool false)], args := [d1, d2, d3] }
  | _ => none }
def FnExactSwapLettersWrongFalsely : Prop := fnExactSwapLettersRow.holds Try.pinned (OpenSpec.ofChange fnExactSwapLettersWrong)

/-- 'laws.FnExactCancelSides': WHATEVER THE INPUT: true; the input reads as it did. -/
def fnExactCancelSidesSpec : ChangeSpec := { name := "fnExactCancelSides", fn := fun _ => fun
  | [d1, d2, d3] => { results := [.lit (.bool true)], args := [d1, d2, d3] }
  | _ => none }
def fnExactCancelSidesRow : OpenClaim := { program := "ytlnddmkkgjlmbaa", sum := "4e815885e5a1c06690bd476a6d65eb0ba0fd6f839976333a07ebee65f91b7e8f", func := "loop.example/g03105/laws.FnExactCancelSides", spec := "fnExactCancelSides", apart := false }
def FnExactCancelSidesSaid : Prop := fnExactCancelSidesRow.holds Try.pinned (OpenSpec.ofChange fnExactCancelSidesSpec)

/-- ITS FALSE NEIGHBOUR: 'it returns false'. Refute it at one input. -/
def fnExactCancelSidesWrong : ChangeSpec := { name := "fnExactCancelSides", fn := fun _ => fun
  | [d1, d2, d3] => { results := [.lit (.bool false)], args := [d1, d2, d3] }
  | _ => none }
def FnExactCancelSidesWrongFalsely : Prop := fnExactCancelSidesRow.holds Try.pinned (OpenSpec.ofChange fnExactCancelSidesWrong)

/-- 'laws.FnExactGluePolygons': WHATEVER THE INPUT: true; the input reads as it did. -/
def fnExactGluePolygonsSpec : ChangeSpec := { name := "fnExactGluePolygons", fn := fun _ => fun
  | [d1, d2] => { results := [.lit (.bool true)], args := [d1, d2] }
  | _ => none }
def fnExactGluePolygonsRow : OpenClaim := { program := "ytlnddmkkgjlmbaa", sum := "4e815885e5a1c06690bd476a6d65eb0ba0fd6f839976333a07ebee65f91b7e8f", func := "loop.example/g03105/laws.FnExactGluePolygons", spec := "fnExactGluePolygons", apart := false }
def FnExactGluePolygonsSaid : Prop := fnExactGluePolygonsRow.holds Try.pinned (OpenSpec.ofChange fnExactGluePolygonsSpec)

/-- ITS FALSE NEIGHBOUR: 'it returns false'. Refute it at one input. -/
def fnExactGluePolygonsWrong : ChangeSpec := { name := "fnExactGluePolygons", fn := fun _ => fun
  | [d1, d2] => { results := [.lit (.bool false)], args := [d1, d2] }
  | _ => none }
def FnExactGluePolygonsWrongFalsely : Prop := fnExactGluePolygonsRow.holds Try.pinned (OpenSpec.ofChange fnExactGluePolygonsWrong)

/-- 'laws.FnExactOnePolygon': WHATEVER THE INPUT: true; the input reads as it did. -/
def fnExactOnePolygonSpec : ChangeSpec := { name := "fnExactOnePolygon", fn := fun _ => fun
  | [d] => { results := [.lit (.bool true)], args := [d] }
  | _ => none }
def fnExactOnePolygonRow : OpenClaim := { program := "ytlnddmkkgjlmbaa", sum := "4e815885e5a1c06690bd476a6d65eb0ba0fd6f839976333a07ebee65f91b7e8f", func := "loop.example/g03105/laws.FnExactOnePolygon", spec := "fnExactOnePolygon", apart := false }
def FnExactOnePolygonSaid : Prop := fnExactOnePolygonRow.holds Try.pinned (OpenSpec.ofChange fnExactOnePolygonSpec)

/-- ITS FALSE NEIGHBOUR: 'it returns false'. Refute it at one input. -/
def fnExactOnePolygonWrong : ChangeSpec := { name := "fnExactOnePolygon", fn := fun _ => fun
  | [d] => { results := [.lit (.bool false)], args := [d] }
  | _ => none }
def FnExactOnePolygonWrongFalsely : Prop := fnExactOnePolygonRow.holds Try.pinned (OpenSpec.ofChange fnExactOnePolygonWrong)

/-- 'laws.FnMoves': WHATEVER THE INPUT: true; the input reads as it did. -/
def fnMovesSpec : ChangeSpec := { name := "fnMoves", fn := fun _ => fun
  | [d] => { results := [.lit (.bool true)], args := [d] }
  | _ => none }
def fnMovesRow : OpenClaim := { program := "ytlnddmkkgjlmbaa", sum := "4e815885e5a1c06690bd476a6d65eb0ba0fd6f839976333a07ebee65f91b7e8f", func := "loop.example/g03105/laws.FnMoves", spec := "fnMoves", unfollowed := true, recurses := true, apart := false }
def FnMovesSaid : Prop := fnMovesRow.holds Try.pinned (OpenSpec.ofChange fnMovesSpec)

/-- ITS FALSE NEIGHBOUR: 'it returns false'. Refute it at one input. -/
def fnMovesWrong : ChangeSpec := { name := "fnMoves", fn := fun _ => fun
  | [d] => { results := [.lit (.bool false)], args := [d] }
  | _ => none }
def FnMovesWrongFalsely : Prop := fnMovesRow.holds Try.pinned (OpenSpec.ofChange fnMovesWrong)

/- THE SECOND FORM. 'bulk': how many values and letters a reading holds, each counted each time it is reached (what is shared counts as often as it is met; a slice's spare places count too). A statement '..UptoSaid' is the law's where the arguments, and the package variables that the reading takes, are together of bulk at most 1048576: NARROWER than '..Said'. Prove '..Said' where nothing that the law and all that it calls make is longer than what came in: it says more and counts as full. Else prove '..UptoSaid'. A law counts once. -/
mutual
def uptoBulk {H : Type} : DataW H → Nat
  | .lit (.string bytes) => bytes.length + 1
  | .lit _ => 1
  | .nil => 1
  | .ptr d => uptoBulk d + 1
  | .slice elems spare => uptoBulkAll elems + uptoBulkAll spare + 1
  | .agg parts => uptoBulkAll parts + 1
  | .iface _ d => uptoBulk d + 1
  | .map entries => uptoBulkEntries entries + 1
  | .held _ => 1
def uptoBulkAll {H : Type} : List (DataW H) → Nat
  | [] => 0
  | d :: r => uptoBulk d + uptoBulkAll r
def uptoBulkEntries {H : Type} : List (Lit × DataW H) → Nat
  | [] => 0
  | x :: r => uptoBulkEntry x + uptoBulkEntries r
def uptoBulkEntry {H : Type} : Lit × DataW H → Nat
  | (.string bytes, d) => bytes.length + uptoBulk d + 1
  | (_, d) => uptoBulk d + 1
 end
def uptoSmall : (H : Type) → List (DataW H) → Bool := fun _ ds => decide (uptoBulkAll ds ≤ 1048576)
def OpenSpec.upto (s : _root_.Go.ChangeSpec) : _root_.Go.OpenSpec := { _root_.Go.OpenSpec.ofChange s with cond := some uptoSmall }

/-- 'laws.FnExactMirrorPolygon', WHERE WHAT IT READS IS OF BULK AT MOST 1048576: true; the input reads as it did. -/
def fnExactMirrorPolygonUptoRow : OpenClaim := { program := "ytlnddmkkgjlmbaa", sum := "4e815885e5a1c06690bd476a6d65eb0ba0fd6f839976333a07ebee65f91b7e8f", func := "loop.example/g03105/laws.FnExactMirrorPolygon", spec := "fnExactMirrorPolygon", apart := false, narrowed := true }
def FnExactMirrorPolygonUptoSaid : Prop := fnExactMirrorPolygonUptoRow.holds Try.pinned (OpenSpec.upto fnExactMirrorPolygonSpec)

/-- 'laws.FnExactCutPolygon', WHERE WHAT IT READS IS OF BULK AT MOST 1048576: true; the input reads as it did. -/
def fnExactCutPolygonUptoRow : OpenClaim := { program := "ytlnddmkkgjlmbaa", sum := "4e815885e5a1c06690bd476a6d65eb0ba0fd6f839976333a07ebee65f91b7e8f", func := "loop.example/g03105/laws.FnExactCutPolygon", spec := "fnExactCutPolygon", apart := false, narrowed := true }
def FnExactCutPolygonUptoSaid : Prop := fnExactCutPolygonUptoRow.holds Try.pinned (OpenSpec.upto fnExactCutPolygonSpec)

/-- 'laws.FnExactTurnPolygon', WHERE WHAT IT READS IS OF BULK AT MOST 1048576: true; the input reads as it did. -/
def fnExactTurnPolygonUptoRow : OpenClaim := { program := "ytlnddmkkgjlmbaa", sum := "4e815885e5a1c06690bd476a6d65eb0ba0fd6f839976333a07ebee65f91b7e8f", func := "loop.example/g03105/laws.FnExactTurnPolygon", spec := "fnExactTurnPolygon", apart := false, narrowed := true }
def FnExactTurnPolygonUptoSaid : Prop := fnExactTurnPolygonUptoRow.holds Try.pinned (OpenSpec.upto fnExactTurnPolygonSpec)

/-- 'laws.FnExactReverseLetter', WHERE WHAT IT READS IS OF BULK AT MOST 1048576: true; the input reads as it did. -/
def fnExactReverseLetterUptoRow : OpenClaim := { program := "ytlnddmkkgjlmbaa", sum := "4e815885e5a1c06690bd476a6d65eb0ba0fd6f839976333a07ebee65f91b7e8f", func := "loop.example/g03105/laws.FnExactReverseLetter", spec := "fnExactReverseLetter", unfollowed := true, recurses := true, apart := false, narrowed := true }
def FnExactReverseLetterUptoSaid : Prop := fnExactReverseLetterUptoRow.holds Try.pinned (OpenSpec.upto fnExactReverseLetterSpec)

/-- 'laws.FnExactSwapLetters', WHERE WHAT IT READS IS OF BULK AT MOST 1048576: true; the input reads as it did. -/
def fnExactSwapLettersUptoRow : OpenClaim := { program := "ytlnddmkkgjlmbaa", sum := "4e815885e5a1c06690bd476a6d65eb0ba0fd6f839976333a07ebee65f91b7e8f", func := "loop.example/g03105/laws.FnExactSwapLetters", spec := "fnExactSwapLetters", unfollowed := true, recurses := true, apart := false, narrowed := true }
def FnExactSwapLettersUptoSaid : Prop := fnExactSwapLettersUptoRow.holds Try.pinned (OpenSpec.upto fnExactSwapLettersSpec)

/-- 'laws.FnExactCancelSides', WHERE WHAT IT READS IS OF BULK AT MOST 1048576: true; the input reads as it did. -/
def fnExactCancelSidesUptoRow : OpenClaim := { program := "ytlnddmkkgjlmbaa", sum := "4e815885e5a1c06690bd476a6d65eb0ba0fd6f839976333a07ebee65f91b7e8f", func := "loop.example/g03105/laws.FnExactCancelSides", spec := "fnExactCancelSides", apart := false, narrowed := true }
def FnExactCancelSidesUptoSaid : Prop := fnExactCancelSidesUptoRow.holds Try.pinned (OpenSpec.upto fnExactCancelSidesSpec)

/-- 'laws.FnExactGluePolygons', WHERE WHAT IT READS IS OF BULK AT MOST 1048576: true; the input reads as it did. -/
def fnExactGluePolygonsUptoRow : OpenClaim := { program := "ytlnddmkkgjlmbaa", sum := "4e815885e5a1c06690bd476a6d65eb0ba0fd6f839976333a07ebee65f91b7e8f", func := "loop.example/g03105/laws.FnExactGluePolygons", spec := "fnExactGluePolygons", apart := false, narrowed := true }
def FnExactGluePolygonsUptoSaid : Prop := fnExactGluePolygonsUptoRow.holds Try.pinned (OpenSpec.upto fnExactGluePolygonsSpec)

/-- 'laws.FnExactOnePolygon', WHERE WHAT IT READS IS OF BULK AT MOST 1048576: true; the input reads as it did. -/
def fnExactOnePolygonUptoRow : OpenClaim := { program := "ytlnddmkkgjlmbaa", sum := "4e815885e5a1c06690bd476a6d65eb0ba0fd6f839976333a07ebee65f91b7e8f", func := "loop.example/g03105/laws.FnExactOnePolygon", spec := "fnExactOnePolygon", apart := false, narrowed := true }
def FnExactOnePolygonUptoSaid : Prop := fnExactOnePolygonUptoRow.holds Try.pinned (OpenSpec.upto fnExactOnePolygonSpec)

/-- 'laws.FnMoves', WHERE WHAT IT READS IS OF BULK AT MOST 1048576: true; the input reads as it did. -/
def fnMovesUptoRow : OpenClaim := { program := "ytlnddmkkgjlmbaa", sum := "4e815885e5a1c06690bd476a6d65eb0ba0fd6f839976333a07ebee65f91b7e8f", func := "loop.example/g03105/laws.FnMoves", spec := "fnMoves", unfollowed := true, recurses := true, apart := false, narrowed := true }
def FnMovesUptoSaid : Prop := fnMovesUptoRow.holds Try.pinned (OpenSpec.upto fnMovesSpec)

end Rows
end Go.Proofs.Ytlnddmkkgjlmbaa
