/-
  DERIVED. GIVEN WITH THE SEED: THE CARDS: each row of YtcefkbnachnciaaDoorRows.lean that lists a variable, with what it lists TIED to the program's text (the seventh form; the later family's looks); each row that meets fmt, with fmt's text TOLD by the authors' own Lean function (tested against real Go, not proved from fmt's source: count such statements apart). THE CARD IS WHAT COUNTS. Prove the row's statement (the work); the ties are given (YtcefkbnachnciaaDoorTie.lean); close each card by the builder's one call (the guide's Derived/Test/ToyasCard.lean, 'card_holds'). Laid BY PROGRAM, IN A SANDBOX (cutbox-door.mjs). By AI agents, Wed Nov 11 2026. No macro, syntax, notation, axiom, sorry.
-/
import Derived.Test.YtcefkbnachnciaaDoorRows
import GoSem.ClaimSeven
namespace Go.Proofs.YtcefkbnachnciaaDoor
namespace Rows

/-- THE TIED CARD OF 'porticolaw16.HartNone'. -/
def hartNoneCard : Claim7 := { stood := { row := hartNoneRow, standIns := [], harness := (true, "241ab8f8199ab832c54928dc0a97d2aa9a6d00e73e7f6e83d4f23cfa9d41309a"), looks := false }, kinds := [], alts := [], laidByText := true, laidKinds := [.data], laidTests := true, laidLooks := .later }
def HartNoneCardSaid : Prop := Claim7.holds Tryd.pinned (.plain (OpenSpec.ofChange hartNoneSpec)) hartNoneCard

/-- THE TIED CARD OF 'porticolaw16.HartUser'. -/
def hartUserCard : Claim7 := { stood := { row := hartUserRow, standIns := [], harness := (true, "241ab8f8199ab832c54928dc0a97d2aa9a6d00e73e7f6e83d4f23cfa9d41309a"), looks := false }, kinds := [], alts := [], laidByText := true, laidKinds := [.data], laidTests := true, laidLooks := .later }
def HartUserCardSaid : Prop := Claim7.holds Tryd.pinned (.plain (OpenSpec.ofChange hartUserSpec)) hartUserCard

/-- THE TIED CARD OF 'porticolaw16.HartCounts'. -/
def hartCountsCard : Claim7 := { stood := { row := hartCountsRow, standIns := [], harness := (true, "241ab8f8199ab832c54928dc0a97d2aa9a6d00e73e7f6e83d4f23cfa9d41309a"), looks := false }, kinds := [], alts := [], laidByText := true, laidKinds := [.data], laidTests := true, laidLooks := .later }
def HartCountsCardSaid : Prop := Claim7.holds Tryd.pinned (.plain (OpenSpec.ofChange hartCountsSpec)) hartCountsCard

/-- THE TIED CARD OF 'porticolaw16.HartStays'. -/
def hartStaysCard : Claim7 := { stood := { row := hartStaysRow, standIns := [], harness := (true, "241ab8f8199ab832c54928dc0a97d2aa9a6d00e73e7f6e83d4f23cfa9d41309a"), looks := false }, kinds := [], alts := [], laidByText := true, laidKinds := [.data], laidTests := true, laidLooks := .later }
def HartStaysCardSaid : Prop := Claim7.holds Tryd.pinned (.plain (OpenSpec.ofChange hartStaysSpec)) hartStaysCard

/-- THE SECOND FORM's CARD OF 'porticolaw16.HartNone'. -/
def hartNoneUptoCard : Claim7 := { stood := { row := hartNoneUptoRow, standIns := [], harness := (true, "241ab8f8199ab832c54928dc0a97d2aa9a6d00e73e7f6e83d4f23cfa9d41309a"), looks := false }, kinds := [], alts := [], laidByText := true, laidKinds := [.data], laidTests := true, laidLooks := .later }
def HartNoneUptoCardSaid : Prop := Claim7.holds Tryd.pinned (.plain (OpenSpec.upto hartNoneSpec)) hartNoneUptoCard

/-- THE SECOND FORM's CARD OF 'porticolaw16.HartUser'. -/
def hartUserUptoCard : Claim7 := { stood := { row := hartUserUptoRow, standIns := [], harness := (true, "241ab8f8199ab832c54928dc0a97d2aa9a6d00e73e7f6e83d4f23cfa9d41309a"), looks := false }, kinds := [], alts := [], laidByText := true, laidKinds := [.data], laidTests := true, laidLooks := .later }
def HartUserUptoCardSaid : Prop := Claim7.holds Tryd.pinned (.plain (OpenSpec.upto hartUserSpec)) hartUserUptoCard

/-- THE SECOND FORM's CARD OF 'porticolaw16.HartCounts'. -/
def hartCountsUptoCard : Claim7 := { stood := { row := hartCountsUptoRow, standIns := [], harness := (true, "241ab8f8199ab832c54928dc0a97d2aa9a6d00e73e7f6e83d4f23cfa9d41309a"), looks := false }, kinds := [], alts := [], laidByText := true, laidKinds := [.data], laidTests := true, laidLooks := .later }
def HartCountsUptoCardSaid : Prop := Claim7.holds Tryd.pinned (.plain (OpenSpec.upto hartCountsSpec)) hartCountsUptoCard

/-- THE SECOND FORM's CARD OF 'porticolaw16.HartStays'. -/
def hartStaysUptoCard : Claim7 := { stood := { row := hartStaysUptoRow, standIns := [], harness := (true, "241ab8f8199ab832c54928dc0a97d2aa9a6d00e73e7f6e83d4f23cfa9d41309a"), looks := false }, kinds := [], alts := [], laidByText := true, laidKinds := [.data], laidTests := true, laidLooks := .later }
def HartStaysUptoCardSaid : Prop := Claim7.holds Tryd.pinned (.plain (OpenSpec.upto hartStaysSpec)) hartStaysUptoCard
end Rows
end Go.Proofs.YtcefkbnachnciaaDoor
