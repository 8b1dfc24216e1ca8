/-
  No cell of these rows narrows 'for every input' (looked for: loops, veiled, ifaces, maps, wideKeys, modest, calm, conditions, laid).
  DERIVED. THE GIVEN ROWS OF THIS SEAT. 11 by the template 'for every input the law returns true; each argument reads behind the call as it read before'; 0 by the template 'total and deterministic' (their statements: YtdmcfbjhobbdpaaTotals.lean).
  GIVEN WITH THE SEED: the statements are not yours to turn. If you find one false, say at which input.
  Laid BY PROGRAM, IN A SANDBOX (cutbox-rows.mjs): the forced cells as the released guide's own fill.sh prints them over the translation 8d5d63abdcc3cb25… (all of the seat's roots in one cut). By AI agents, Wed Nov 11 2026. No macro, syntax, notation, axiom, sorry.
-/
import Derived.Test.YtdmcfbjhobbdpaaChecked
import GoSem.Claim
import GoSem.ClaimJoined
import GoSem.ClaimMapViews
import Derived.JoinedTies
import Derived.KernelRfl
namespace Go.Proofs.Ytdmcfbjhobbdpaa
/- THE CELL 'sum', in the pinned program and in every row, IS THE sha256 OF THE DUMP (.gsa) THAT YtdmcfbjhobbdpaaProg.lean LOADS. Nothing in Lean hashes anything: it is a label: what it is worth is what the hold of that sum in a sandbox is worth. -/
noncomputable def Try.pinned : Pinned := { name := "ytdmcfbjhobbdpaa", sum := "8d5d63abdcc3cb250656747449fb97c3200191d643c0a26eb914b6c93f1bc81e", checked := Try.checked }
namespace Rows
def none {H : Type} : Left H := { results := [], args := [] }

/-- 'laws.FnExactIsMap': WHATEVER THE INPUT: true; the input reads as it did. -/
def fnExactIsMapSpec : ChangeSpec := { name := "fnExactIsMap", fn := fun _ => fun
  | [d] => { results := [.lit (.bool true)], args := [d] }
  | _ => none }
def fnExactIsMapRow : OpenClaim := { program := "ytdmcfbjhobbdpaa", sum := "8d5d63abdcc3cb250656747449fb97c3200191d643c0a26eb914b6c93f1bc81e", func := "loop.example/g03105/laws.FnExactIsMap", spec := "fnExactIsMap", apart := false }
def FnExactIsMapSaid : Prop := fnExactIsMapRow.holds Try.pinned (OpenSpec.ofChange fnExactIsMapSpec)

/-- ITS FALSE NEIGHBOUR: 'it returns false'. Refute it at one input. -/
def fnExactIsMapWrong : ChangeSpec := { name := "fnExactIsMap", fn := fun _ => fun
  | [d] => { results := [.lit (.bool false)], args := [d] }
  | _ => none }
def FnExactIsMapWrongFalsely : Prop := fnExactIsMapRow.holds Try.pinned (OpenSpec.ofChange fnExactIsMapWrong)

/-- 'laws.FnExactMirrorMap': WHATEVER THE INPUT: true; the input reads as it did. -/
def fnExactMirrorMapSpec : ChangeSpec := { name := "fnExactMirrorMap", fn := fun _ => fun
  | [d] => { results := [.lit (.bool true)], args := [d] }
  | _ => none }
def fnExactMirrorMapRow : OpenClaim := { program := "ytdmcfbjhobbdpaa", sum := "8d5d63abdcc3cb250656747449fb97c3200191d643c0a26eb914b6c93f1bc81e", func := "loop.example/g03105/laws.FnExactMirrorMap", spec := "fnExactMirrorMap", apart := false }
def FnExactMirrorMapSaid : Prop := fnExactMirrorMapRow.holds Try.pinned (OpenSpec.ofChange fnExactMirrorMapSpec)

/-- ITS FALSE NEIGHBOUR: 'it returns false'. Refute it at one input. -/
def fnExactMirrorMapWrong : ChangeSpec := { name := "fnExactMirrorMap", fn := fun _ => fun
  | [d] => { results := [.lit (.bool false)], args := [d] }
  | _ => none }
def FnExactMirrorMapWrongFalsely : Prop := fnExactMirrorMapRow.holds Try.pinned (OpenSpec.ofChange fnExactMirrorMapWrong)

/-- 'laws.FnExactDualMap': WHATEVER THE INPUT: true; the input reads as it did. -/
def fnExactDualMapSpec : ChangeSpec := { name := "fnExactDualMap", fn := fun _ => fun
  | [d] => { results := [.lit (.bool true)], args := [d] }
  | _ => none }
def fnExactDualMapRow : OpenClaim := { program := "ytdmcfbjhobbdpaa", sum := "8d5d63abdcc3cb250656747449fb97c3200191d643c0a26eb914b6c93f1bc81e", func := "loop.example/g03105/laws.FnExactDualMap", spec := "fnExactDualMap", apart := false }
def FnExactDualMapSaid : Prop := fnExactDualMapRow.holds Try.pinned (OpenSpec.ofChange fnExactDualMapSpec)

/-- ITS FALSE NEIGHBOUR: 'it returns false'. Refute it at one input. -/
def fnExactDualMapWrong : ChangeSpec := { name := "fnExactDualMap", fn := fun _ => fun
  | [d] => { results := [.lit (.bool false)], args := [d] }
  | _ => none }
def FnExactDualMapWrongFalsely : Prop := fnExactDualMapRow.holds Try.pinned (OpenSpec.ofChange fnExactDualMapWrong)

/-- 'laws.FnExactAddEdge': WHATEVER THE INPUT: true; the input reads as it did. -/
def fnExactAddEdgeSpec : ChangeSpec := { name := "fnExactAddEdge", fn := fun _ => fun
  | [d1, d2, d3] => { results := [.lit (.bool true)], args := [d1, d2, d3] }
  | _ => none }
def fnExactAddEdgeRow : OpenClaim := { program := "ytdmcfbjhobbdpaa", sum := "8d5d63abdcc3cb250656747449fb97c3200191d643c0a26eb914b6c93f1bc81e", func := "loop.example/g03105/laws.FnExactAddEdge", spec := "fnExactAddEdge", apart := false }
def FnExactAddEdgeSaid : Prop := fnExactAddEdgeRow.holds Try.pinned (OpenSpec.ofChange fnExactAddEdgeSpec)

/-- ITS FALSE NEIGHBOUR: 'it returns false'. Refute it at one input. -/
def fnExactAddEdgeWrong : ChangeSpec := { name := "fnExactAddEdge", fn := fun _ => fun
  | [d1, d2, d3] => { results := [.lit (.bool false)], args := [d1, d2, d3] }
  | _ => none }
def FnExactAddEdgeWrongFalsely : Prop := fnExactAddEdgeRow.holds Try.pinned (OpenSpec.ofChange fnExactAddEdgeWrong)

/-- 'laws.FnExactSubdivideEdge': WHATEVER THE INPUT: true; the input reads as it did. -/
def fnExactSubdivideEdgeSpec : ChangeSpec := { name := "fnExactSubdivideEdge", fn := fun _ => fun
  | [d1, d2] => { results := [.lit (.bool true)], args := [d1, d2] }
  | _ => none }
def fnExactSubdivideEdgeRow : OpenClaim := { program := "ytdmcfbjhobbdpaa", sum := "8d5d63abdcc3cb250656747449fb97c3200191d643c0a26eb914b6c93f1bc81e", func := "loop.example/g03105/laws.FnExactSubdivideEdge", spec := "fnExactSubdivideEdge", apart := false }
def FnExactSubdivideEdgeSaid : Prop := fnExactSubdivideEdgeRow.holds Try.pinned (OpenSpec.ofChange fnExactSubdivideEdgeSpec)

/-- ITS FALSE NEIGHBOUR: 'it returns false'. Refute it at one input. -/
def fnExactSubdivideEdgeWrong : ChangeSpec := { name := "fnExactSubdivideEdge", fn := fun _ => fun
  | [d1, d2] => { results := [.lit (.bool false)], args := [d1, d2] }
  | _ => none }
def FnExactSubdivideEdgeWrongFalsely : Prop := fnExactSubdivideEdgeRow.holds Try.pinned (OpenSpec.ofChange fnExactSubdivideEdgeWrong)

/-- 'laws.FnExactDropEdge': WHATEVER THE INPUT: true; the input reads as it did. -/
def fnExactDropEdgeSpec : ChangeSpec := { name := "fnExactDropEdge", fn := fun _ => fun
  | [d1, d2] => { results := [.lit (.bool true)], args := [d1, d2] }
  | _ => none }
def fnExactDropEdgeRow : OpenClaim := { program := "ytdmcfbjhobbdpaa", sum := "8d5d63abdcc3cb250656747449fb97c3200191d643c0a26eb914b6c93f1bc81e", func := "loop.example/g03105/laws.FnExactDropEdge", spec := "fnExactDropEdge", unfollowed := true, recurses := true, apart := false }
def FnExactDropEdgeSaid : Prop := fnExactDropEdgeRow.holds Try.pinned (OpenSpec.ofChange fnExactDropEdgeSpec)

/-- ITS FALSE NEIGHBOUR: 'it returns false'. Refute it at one input. -/
def fnExactDropEdgeWrong : ChangeSpec := { name := "fnExactDropEdge", fn := fun _ => fun
  | [d1, d2] => { results := [.lit (.bool false)], args := [d1, d2] }
  | _ => none }
def FnExactDropEdgeWrongFalsely : Prop := fnExactDropEdgeRow.holds Try.pinned (OpenSpec.ofChange fnExactDropEdgeWrong)

/-- 'laws.FnExactMapParts': WHATEVER THE INPUT: true; the input reads as it did. -/
def fnExactMapPartsSpec : ChangeSpec := { name := "fnExactMapParts", fn := fun _ => fun
  | [d] => { results := [.lit (.bool true)], args := [d] }
  | _ => none }
def fnExactMapPartsRow : OpenClaim := { program := "ytdmcfbjhobbdpaa", sum := "8d5d63abdcc3cb250656747449fb97c3200191d643c0a26eb914b6c93f1bc81e", func := "loop.example/g03105/laws.FnExactMapParts", spec := "fnExactMapParts", apart := false }
def FnExactMapPartsSaid : Prop := fnExactMapPartsRow.holds Try.pinned (OpenSpec.ofChange fnExactMapPartsSpec)

/-- ITS FALSE NEIGHBOUR: 'it returns false'. Refute it at one input. -/
def fnExactMapPartsWrong : ChangeSpec := { name := "fnExactMapParts", fn := fun _ => fun
  | [d] => { results := [.lit (.bool false)], args := [d] }
  | _ => none }
def FnExactMapPartsWrongFalsely : Prop := fnExactMapPartsRow.holds Try.pinned (OpenSpec.ofChange fnExactMapPartsWrong)

/-- 'laws.FnExactCyclesOf': WHATEVER THE INPUT: true; the input reads as it did. -/
def fnExactCyclesOfSpec : ChangeSpec := { name := "fnExactCyclesOf", fn := fun _ => fun
  | [d] => { results := [.lit (.bool true)], args := [d] }
  | _ => none }
def fnExactCyclesOfRow : OpenClaim := { program := "ytdmcfbjhobbdpaa", sum := "8d5d63abdcc3cb250656747449fb97c3200191d643c0a26eb914b6c93f1bc81e", func := "loop.example/g03105/laws.FnExactCyclesOf", spec := "fnExactCyclesOf", apart := false }
def FnExactCyclesOfSaid : Prop := fnExactCyclesOfRow.holds Try.pinned (OpenSpec.ofChange fnExactCyclesOfSpec)

/-- ITS FALSE NEIGHBOUR: 'it returns false'. Refute it at one input. -/
def fnExactCyclesOfWrong : ChangeSpec := { name := "fnExactCyclesOf", fn := fun _ => fun
  | [d] => { results := [.lit (.bool false)], args := [d] }
  | _ => none }
def FnExactCyclesOfWrongFalsely : Prop := fnExactCyclesOfRow.holds Try.pinned (OpenSpec.ofChange fnExactCyclesOfWrong)

/-- 'laws.FnExactFacesOf': WHATEVER THE INPUT: true; the input reads as it did. -/
def fnExactFacesOfSpec : ChangeSpec := { name := "fnExactFacesOf", fn := fun _ => fun
  | [d] => { results := [.lit (.bool true)], args := [d] }
  | _ => none }
def fnExactFacesOfRow : OpenClaim := { program := "ytdmcfbjhobbdpaa", sum := "8d5d63abdcc3cb250656747449fb97c3200191d643c0a26eb914b6c93f1bc81e", func := "loop.example/g03105/laws.FnExactFacesOf", spec := "fnExactFacesOf", apart := false }
def FnExactFacesOfSaid : Prop := fnExactFacesOfRow.holds Try.pinned (OpenSpec.ofChange fnExactFacesOfSpec)

/-- ITS FALSE NEIGHBOUR: 'it returns false'. Refute it at one input. -/
def fnExactFacesOfWrong : ChangeSpec := { name := "fnExactFacesOf", fn := fun _ => fun
  | [d] => { results := [.lit (.bool false)], args := [d] }
  | _ => none }
def FnExactFacesOfWrongFalsely : Prop := fnExactFacesOfRow.holds Try.pinned (OpenSpec.ofChange fnExactFacesOfWrong)

/-- 'laws.FnExactGenusOf': WHATEVER THE INPUT: true; the input reads as it did. -/
def fnExactGenusOfSpec : ChangeSpec := { name := "fnExactGenusOf", fn := fun _ => fun
  | [d] => { results := [.lit (.bool true)], args := [d] }
  | _ => none }
def fnExactGenusOfRow : OpenClaim := { program := "ytdmcfbjhobbdpaa", sum := "8d5d63abdcc3cb250656747449fb97c3200191d643c0a26eb914b6c93f1bc81e", func := "loop.example/g03105/laws.FnExactGenusOf", spec := "fnExactGenusOf", apart := false }
def FnExactGenusOfSaid : Prop := fnExactGenusOfRow.holds Try.pinned (OpenSpec.ofChange fnExactGenusOfSpec)

/-- ITS FALSE NEIGHBOUR: 'it returns false'. Refute it at one input. -/
def fnExactGenusOfWrong : ChangeSpec := { name := "fnExactGenusOf", fn := fun _ => fun
  | [d] => { results := [.lit (.bool false)], args := [d] }
  | _ => none }
def FnExactGenusOfWrongFalsely : Prop := fnExactGenusOfRow.holds Try.pinned (OpenSpec.ofChange fnExactGenusOfWrong)

/-- 'laws.FnMaps': WHATEVER THE INPUT: true; the input reads as it did. -/
def fnMapsSpec : ChangeSpec := { name := "fnMaps", fn := fun _ => fun
  | [d] => { results := [.lit (.bool true)], args := [d] }
  | _ => none }
def fnMapsRow : OpenClaim := { program := "ytdmcfbjhobbdpaa", sum := "8d5d63abdcc3cb250656747449fb97c3200191d643c0a26eb914b6c93f1bc81e", func := "loop.example/g03105/laws.FnMaps", spec := "fnMaps", unfollowed := true, recurses := true, apart := false }
def FnMapsSaid : Prop := fnMapsRow.holds Try.pinned (OpenSpec.ofChange fnMapsSpec)

/-- ITS FALSE NEIGHBOUR: 'it returns false'. Refute it at one input. -/
def fnMapsWrong : ChangeSpec := { name := "fnMaps", fn := fun _ => fun
  | [d] => { results := [.lit (.bool false)], args := [d] }
  | _ => none }
def FnMapsWrongFalsely : Prop := fnMapsRow.holds Try.pinned (OpenSpec.ofChange fnMapsWrong)

/- THE SECOND FORM. 'bulk': how many values and letters a reading holds, each counted each time it is reached (what is shared counts as often as it is met; a slice's spare places count too). A statement '..UptoSaid' is the law's where the arguments, and the package variables that the reading takes, are together of bulk at most 1048576: NARROWER than '..Said'. Prove '..Said' where nothing that the law and all that it calls make is longer than what came in: it says more and counts as full. Else prove '..UptoSaid'. A law counts once. -/
mutual
def uptoBulk {H : Type} : DataW H → Nat
  | .lit (.string bytes) => bytes.length + 1
  | .lit _ => 1
  | .nil => 1
  | .ptr d => uptoBulk d + 1
  | .slice elems spare => uptoBulkAll elems + uptoBulkAll spare + 1
  | .agg parts => uptoBulkAll parts + 1
  | .iface _ d => uptoBulk d + 1
  | .map entries => uptoBulkEntries entries + 1
  | .held _ => 1
def uptoBulkAll {H : Type} : List (DataW H) → Nat
  | [] => 0
  | d :: r => uptoBulk d + uptoBulkAll r
def uptoBulkEntries {H : Type} : List (Lit × DataW H) → Nat
  | [] => 0
  | x :: r => uptoBulkEntry x + uptoBulkEntries r
def uptoBulkEntry {H : Type} : Lit × DataW H → Nat
  | (.string bytes, d) => bytes.length + uptoBulk d + 1
  | (_, d) => uptoBulk d + 1
 end
def uptoSmall : (H : Type) → List (DataW H) → Bool := fun _ ds => decide (uptoBulkAll ds ≤ 1048576)
def OpenSpec.upto (s : _root_.Go.ChangeSpec) : _root_.Go.OpenSpec := { _root_.Go.OpenSpec.ofChange s with cond := some uptoSmall }

/-- 'laws.FnExactIsMap', WHERE WHAT IT READS IS OF BULK AT MOST 1048576: true; the input reads as it did. -/
def fnExactIsMapUptoRow : OpenClaim := { program := "ytdmcfbjhobbdpaa", sum := "8d5d63abdcc3cb250656747449fb97c3200191d643c0a26eb914b6c93f1bc81e", func := "loop.example/g03105/laws.FnExactIsMap", spec := "fnExactIsMap", apart := false, narrowed := true }
def FnExactIsMapUptoSaid : Prop := fnExactIsMapUptoRow.holds Try.pinned (OpenSpec.upto fnExactIsMapSpec)

/-- 'laws.FnExactMirrorMap', WHERE WHAT IT READS IS OF BULK AT MOST 1048576: true; the input reads as it did. -/
def fnExactMirrorMapUptoRow : OpenClaim := { program := "ytdmcfbjhobbdpaa", sum := "8d5d63abdcc3cb250656747449fb97c3200191d643c0a26eb914b6c93f1bc81e", func := "loop.example/g03105/laws.FnExactMirrorMap", spec := "fnExactMirrorMap", apart := false, narrowed := true }
def FnExactMirrorMapUptoSaid : Prop := fnExactMirrorMapUptoRow.holds Try.pinned (OpenSpec.upto fnExactMirrorMapSpec)

/-- 'laws.FnExactDualMap', WHERE WHAT IT READS IS OF BULK AT MOST 1048576: true; the input reads as it did. -/
def fnExactDualMapUptoRow : OpenClaim := { program := "ytdmcfbjhobbdpaa", sum := "8d5d63abdcc3cb250656747449fb97c3200191d643c0a26eb914b6c93f1bc81e", func := "loop.example/g03105/laws.FnExactDualMap", spec := "fnExactDualMap", apart := false, narrowed := true }
def FnExactDualMapUptoSaid : Prop := fnExactDualMapUptoRow.holds Try.pinned (OpenSpec.upto fnExactDualMapSpec)

/-- 'laws.FnExactAddEdge', WHERE WHAT IT READS IS OF BULK AT MOST 1048576: true; the input reads as it did. -/
def fnExactAddEdgeUptoRow : OpenClaim := { program := "ytdmcfbjhobbdpaa", sum := "8d5d63abdcc3cb250656747449fb97c3200191d643c0a26eb914b6c93f1bc81e", func := "loop.example/g03105/laws.FnExactAddEdge", spec := "fnExactAddEdge", apart := false, narrowed := true }
def FnExactAddEdgeUptoSaid : Prop := fnExactAddEdgeUptoRow.holds Try.pinned (OpenSpec.upto fnExactAddEdgeSpec)

/-- 'laws.FnExactSubdivideEdge', WHERE WHAT IT READS IS OF BULK AT MOST 1048576: true; the input reads as it did. -/
def fnExactSubdivideEdgeUptoRow : OpenClaim := { program := "ytdmcfbjhobbdpaa", sum := "8d5d63abdcc3cb250656747449fb97c3200191d643c0a26eb914b6c93f1bc81e", func := "loop.example/g03105/laws.FnExactSubdivideEdge", spec := "fnExactSubdivideEdge", apart := false, narrowed := true }
def FnExactSubdivideEdgeUptoSaid : Prop := fnExactSubdivideEdgeUptoRow.holds Try.pinned (OpenSpec.upto fnExactSubdivideEdgeSpec)

/-- 'laws.FnExactDropEdge', WHERE WHAT IT READS IS OF BULK AT MOST 1048576: true; the input reads as it did. -/
def fnExactDropEdgeUptoRow : OpenClaim := { program := "ytdmcfbjhobbdpaa", sum := "8d5d63abdcc3cb250656747449fb97c3200191d643c0a26eb914b6c93f1bc81e", func := "loop.example/g03105/laws.FnExactDropEdge", spec := "fnExactDropEdge", unfollowed := true, recurses := true, apart := false, narrowed := true }
def FnExactDropEdgeUptoSaid : Prop := fnExactDropEdgeUptoRow.holds Try.pinned (OpenSpec.upto fnExactDropEdgeSpec)

/-- 'laws.FnExactMapParts', WHERE WHAT IT READS IS OF BULK AT MOST 1048576: true; the input reads as it did. -/
def fnExactMapPartsUptoRow : OpenClaim := { program := "ytdmcfbjhobbdpaa", sum := "8d5d63abdcc3cb250656747449fb97c3200191d643c0a26eb914b6c93f1bc81e", func := "loop.example/g03105/laws.FnExactMapParts", spec := "fnExactMapParts", apart := false, narrowed := true }
def FnExactMapPartsUptoSaid : Prop := fnExactMapPartsUptoRow.holds Try.pinned (OpenSpec.upto fnExactMapPartsSpec)

/-- 'laws.FnExactCyclesOf', WHERE WHAT IT READS IS OF BULK AT MOST 1048576: true; the input reads as it did. -/
def fnExactCyclesOfUptoRow : OpenClaim := { program := "ytdmcfbjhobbdpaa", sum := "8d5d63abdcc3cb250656747449fb97c3200191d643c0a26eb914b6c93f1bc81e", func := "loop.example/g03105/laws.FnExactCyclesOf", spec := "fnExactCyclesOf", apart := false, narrowed := true }
def FnExactCyclesOfUptoSaid : Prop := fnExactCyclesOfUptoRow.holds Try.pinned (OpenSpec.upto fnExactCyclesOfSpec)

/-- 'laws.FnExactFacesOf', WHERE WHAT IT READS IS OF BULK AT MOST 1048576: true; the input reads as it did. -/
def fnExactFacesOfUptoRow : OpenClaim := { program := "ytdmcfbjhobbdpaa", sum := "8d5d63abdcc3cb250656747449fb97c3200191d643c0a26eb914b6c93f1bc81e", func := "loop.example/g03105/laws.FnExactFacesOf", spec := "fnExactFacesOf", apart := false, narrowed := true }
def FnExactFacesOfUptoSaid : Prop := fnExactFacesOfUptoRow.holds Try.pinned (OpenSpec.upto fnExactFacesOfSpec)

/-- 'laws.FnExactGenusOf', WHERE WHAT IT READS IS OF BULK AT MOST 1048576: true; the input reads as it did. -/
def fnExactGenusOfUptoRow : OpenClaim := { program := "ytdmcfbjhobbdpaa", sum := "8d5d63abdcc3cb250656747449fb97c3200191d643c0a26eb914b6c93f1bc81e", func := "loop.example/g03105/laws.FnExactGenusOf", spec := "fnExactGenusOf", apart := false, narrowed := true }
def FnExactGenusOfUptoSaid : Prop := fnExactGenusOfUptoRow.holds Try.pinned (OpenSpec.upto fnExactGenusOfSpec)

/-- 'laws.FnMaps', WHERE WHAT IT READS IS OF BULK AT MOST 1048576: true; the input reads as it did. -/
def fnMapsUptoRow : OpenClaim := { program := "ytdmcfbjhobbdpaa", sum := "8d5d63abdcc3cb250656747449fb97c3200191d643c0a26eb914b6c93f1bc81e", func := "loop.example/g03105/laws.FnMaps", spec := "fnMaps", unfollowed := true, recurses := true, apart := false, narrowed := true }
def FnMapsUptoSaid : Prop := fnMapsUptoRow.holds Try.pinned (OpenSpec.upto fnMapsSpec)

end Rows
end Go.Proofs.Ytdmcfbjhobbdpaa
