/-
  DERIVED. GIVEN WITH THE SEED: THE CARDS: each row of YtaomgddfkpcdhaaDoorRows.lean that lists a variable, with what it lists TIED to the program's text (the seventh form; the later family's looks); each row that meets fmt, with fmt's text TOLD by the authors' own Lean function (tested against real Go, not proved from fmt's source: count such statements apart). THE CARD IS WHAT COUNTS. Prove the row's statement (the work); the ties are given (YtaomgddfkpcdhaaDoorTie.lean); close each card by the builder's one call (the guide's Derived/Test/ToyasCard.lean, 'card_holds'). Laid BY PROGRAM, IN A SANDBOX (cutbox-door.mjs). By AI agents, Wed Nov 11 2026. No macro, syntax, notation, axiom, sorry.
-/
import Derived.Test.YtaomgddfkpcdhaaDoorRows
import GoSem.ClaimSeven
namespace Go.Proofs.YtaomgddfkpcdhaaDoor
namespace Rows

/-- THE TIED CARD OF 'gabionlaw18.DirentDecodes'. -/
def direntDecodesCard : Claim7 := { stood := { row := direntDecodesRow, standIns := [], harness := (true, "4f0e72c4d5674e9bfed5f2efaddb23db7d923d3f5641a2d28d4c4adee19fb68c"), looks := true }, kinds := [], alts := [], laidByText := true, laidKinds := [.data, .pinned], laidTests := true, laidLooks := .later }
def DirentDecodesCardSaid : Prop := Claim7.holds Tryd.pinned (.plain (OpenSpec.ofChange direntDecodesSpec)) direntDecodesCard

/-- THE SECOND FORM's CARD OF 'gabionlaw18.DirentDecodes'. -/
def direntDecodesUptoCard : Claim7 := { stood := { row := direntDecodesUptoRow, standIns := [], harness := (true, "4f0e72c4d5674e9bfed5f2efaddb23db7d923d3f5641a2d28d4c4adee19fb68c"), looks := true }, kinds := [], alts := [], laidByText := true, laidKinds := [.data, .pinned], laidTests := true, laidLooks := .later }
def DirentDecodesUptoCardSaid : Prop := Claim7.holds Tryd.pinned (.plain (OpenSpec.upto direntDecodesSpec)) direntDecodesUptoCard
end Rows
end Go.Proofs.YtaomgddfkpcdhaaDoor
