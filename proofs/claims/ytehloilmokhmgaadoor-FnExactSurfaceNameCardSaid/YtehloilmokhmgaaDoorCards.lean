/-
  DERIVED. GIVEN WITH THE SEED: THE CARDS: each row of YtehloilmokhmgaaDoorRows.lean that lists a variable, with what it lists TIED to the program's text (the seventh form; the later family's looks); each row that meets fmt, with fmt's text TOLD by the authors' own Lean function (tested against real Go, not proved from fmt's source: count such statements apart). THE CARD IS WHAT COUNTS. Prove the row's statement (the work); the ties are given (YtehloilmokhmgaaDoorTie.lean); close each card by the builder's one call (the guide's Derived/Test/ToyasCard.lean, 'card_holds'). Laid BY PROGRAM, IN A SANDBOX (cutbox-door.mjs). By AI agents, Wed Nov 11 2026. No macro, syntax, notation, axiom, sorry.
-/
import Derived.Test.YtehloilmokhmgaaDoorRows
import GoSem.ClaimSeven
namespace Go.Proofs.YtehloilmokhmgaaDoor
namespace Rows

/-- THE TIED CARD OF 'laws.FnExactFormatInt'. -/
def fnExactFormatIntCard : Claim7 := { stood := { row := fnExactFormatIntRow, standIns := [], harness := (true, "b3afab8a61f9a896a5658914bd798f44fa0765c3a567cd067b3b660fd1769c0a"), looks := false }, kinds := [], alts := [], laidByText := true, laidKinds := [.data, .data, .data], laidTests := true, laidLooks := .later }
def FnExactFormatIntCardSaid : Prop := Claim7.holds Tryd.pinned (.plain (OpenSpec.ofChange fnExactFormatIntSpec)) fnExactFormatIntCard

/-- THE TIED CARD OF 'laws.FnExactSurfaceName'. -/
def fnExactSurfaceNameCard : Claim7 := { stood := { row := fnExactSurfaceNameRow, standIns := [], harness := (true, "b3afab8a61f9a896a5658914bd798f44fa0765c3a567cd067b3b660fd1769c0a"), looks := false }, kinds := [], alts := [], laidByText := true, laidKinds := [.data, .data, .data], laidTests := true, laidLooks := .later }
def FnExactSurfaceNameCardSaid : Prop := Claim7.holds Tryd.pinned (.plain (OpenSpec.ofChange fnExactSurfaceNameSpec)) fnExactSurfaceNameCard

/-- THE SECOND FORM's CARD OF 'laws.FnExactFormatInt'. -/
def fnExactFormatIntUptoCard : Claim7 := { stood := { row := fnExactFormatIntUptoRow, standIns := [], harness := (true, "b3afab8a61f9a896a5658914bd798f44fa0765c3a567cd067b3b660fd1769c0a"), looks := false }, kinds := [], alts := [], laidByText := true, laidKinds := [.data, .data, .data], laidTests := true, laidLooks := .later }
def FnExactFormatIntUptoCardSaid : Prop := Claim7.holds Tryd.pinned (.plain (OpenSpec.upto fnExactFormatIntSpec)) fnExactFormatIntUptoCard

/-- THE SECOND FORM's CARD OF 'laws.FnExactSurfaceName'. -/
def fnExactSurfaceNameUptoCard : Claim7 := { stood := { row := fnExactSurfaceNameUptoRow, standIns := [], harness := (true, "b3afab8a61f9a896a5658914bd798f44fa0765c3a567cd067b3b660fd1769c0a"), looks := false }, kinds := [], alts := [], laidByText := true, laidKinds := [.data, .data, .data], laidTests := true, laidLooks := .later }
def FnExactSurfaceNameUptoCardSaid : Prop := Claim7.holds Tryd.pinned (.plain (OpenSpec.upto fnExactSurfaceNameSpec)) fnExactSurfaceNameUptoCard
end Rows
end Go.Proofs.YtehloilmokhmgaaDoor
