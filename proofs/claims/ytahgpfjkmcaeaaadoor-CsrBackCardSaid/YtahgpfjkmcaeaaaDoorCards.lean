/-
  DERIVED. GIVEN WITH THE SEED: THE CARDS: each row of YtahgpfjkmcaeaaaDoorRows.lean that lists a variable, with what it lists TIED to the program's text (the seventh form; the later family's looks); each row that meets fmt, with fmt's text TOLD by the authors' own Lean function (tested against real Go, not proved from fmt's source: count such statements apart). THE CARD IS WHAT COUNTS. Prove the row's statement (the work); the ties are given (YtahgpfjkmcaeaaaDoorTie.lean); close each card by the builder's one call (the guide's Derived/Test/ToyasCard.lean, 'card_holds'). Laid BY PROGRAM, IN A SANDBOX (cutbox-door.mjs). By AI agents, Wed Nov 11 2026. No macro, syntax, notation, axiom, sorry.
-/
import Derived.Test.YtahgpfjkmcaeaaaDoorRows
import GoSem.ClaimSeven
namespace Go.Proofs.YtahgpfjkmcaeaaaDoor
namespace Rows

/-- THE TIED CARD OF 'porticolaw15.CsrBack'. -/
def csrBackCard : Claim7 := { stood := { row := csrBackRow, standIns := [], harness := (true, "dbe80fc009c27138e4cb5c463c86322b1051a8621da34ad16eab5b47b3ab4a42"), looks := false }, kinds := [], alts := [], laidByText := true, laidKinds := [.data], laidTests := true, laidLooks := .later }
def CsrBackCardSaid : Prop := Claim7.holds Tryd.pinned (.plain (OpenSpec.ofChange csrBackSpec)) csrBackCard

/-- THE SECOND FORM's CARD OF 'porticolaw15.CsrBack'. -/
def csrBackUptoCard : Claim7 := { stood := { row := csrBackUptoRow, standIns := [], harness := (true, "dbe80fc009c27138e4cb5c463c86322b1051a8621da34ad16eab5b47b3ab4a42"), looks := false }, kinds := [], alts := [], laidByText := true, laidKinds := [.data], laidTests := true, laidLooks := .later }
def CsrBackUptoCardSaid : Prop := Claim7.holds Tryd.pinned (.plain (OpenSpec.upto csrBackSpec)) csrBackUptoCard
end Rows
end Go.Proofs.YtahgpfjkmcaeaaaDoor
