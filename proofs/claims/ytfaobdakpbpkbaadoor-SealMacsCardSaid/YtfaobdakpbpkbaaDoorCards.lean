/-
  DERIVED. GIVEN WITH THE SEED: THE CARDS: each row of YtfaobdakpbpkbaaDoorRows.lean that lists a variable, with what it lists TIED to the program's text (the seventh form; the later family's looks); each row that meets fmt, with fmt's text TOLD by the authors' own Lean function (tested against real Go, not proved from fmt's source: count such statements apart). THE CARD IS WHAT COUNTS. Prove the row's statement (the work); the ties are given (YtfaobdakpbpkbaaDoorTie.lean); close each card by the builder's one call (the guide's Derived/Test/ToyasCard.lean, 'card_holds'). Laid BY PROGRAM, IN A SANDBOX (cutbox-door.mjs). By AI agents, Wed Nov 11 2026. No macro, syntax, notation, axiom, sorry.
-/
import Derived.Test.YtfaobdakpbpkbaaDoorRows
import GoSem.ClaimSeven
namespace Go.Proofs.YtfaobdakpbpkbaaDoor
namespace Rows

/-- THE TIED CARD OF 'porticolaw05.SignDecides'. -/
def signDecidesCard : Claim7 := { stood := { row := signDecidesRow, standIns := [], harness := (true, "fb855aac173b1dc05354ad9cef09221aa15ce7392701e38c3ff12af048eab3a6"), looks := false }, kinds := [], alts := [], laidByText := true, laidKinds := [.data], laidTests := true, laidLooks := .later }
def SignDecidesCardSaid : Prop := Claim7.holds Tryd.pinned (.plain (OpenSpec.ofChange signDecidesSpec)) signDecidesCard

/-- THE TIED CARD OF 'porticolaw05.SignKeys'. -/
def signKeysCard : Claim7 := { stood := { row := signKeysRow, standIns := [], harness := (true, "fb855aac173b1dc05354ad9cef09221aa15ce7392701e38c3ff12af048eab3a6"), looks := false }, kinds := [], alts := [], laidByText := true, laidKinds := [.data], laidTests := true, laidLooks := .later }
def SignKeysCardSaid : Prop := Claim7.holds Tryd.pinned (.plain (OpenSpec.ofChange signKeysSpec)) signKeysCard

/-- THE TIED CARD OF 'porticolaw19.SealMacs'. -/
def sealMacsCard : Claim7 := { stood := { row := sealMacsRow, standIns := [], harness := (true, "fb855aac173b1dc05354ad9cef09221aa15ce7392701e38c3ff12af048eab3a6"), looks := false }, kinds := [], alts := [], laidByText := true, laidKinds := [.data], laidTests := true, laidLooks := .later }
def SealMacsCardSaid : Prop := Claim7.holds Tryd.pinned (.plain (OpenSpec.ofChange sealMacsSpec)) sealMacsCard

/-- THE TIED CARD OF 'porticolaw19.SealKeys'. -/
def sealKeysCard : Claim7 := { stood := { row := sealKeysRow, standIns := [], harness := (true, "fb855aac173b1dc05354ad9cef09221aa15ce7392701e38c3ff12af048eab3a6"), looks := false }, kinds := [], alts := [], laidByText := true, laidKinds := [.data], laidTests := true, laidLooks := .later }
def SealKeysCardSaid : Prop := Claim7.holds Tryd.pinned (.plain (OpenSpec.ofChange sealKeysSpec)) sealKeysCard

/-- THE SECOND FORM's CARD OF 'porticolaw05.SignDecides'. -/
def signDecidesUptoCard : Claim7 := { stood := { row := signDecidesUptoRow, standIns := [], harness := (true, "fb855aac173b1dc05354ad9cef09221aa15ce7392701e38c3ff12af048eab3a6"), looks := false }, kinds := [], alts := [], laidByText := true, laidKinds := [.data], laidTests := true, laidLooks := .later }
def SignDecidesUptoCardSaid : Prop := Claim7.holds Tryd.pinned (.plain (OpenSpec.upto signDecidesSpec)) signDecidesUptoCard

/-- THE SECOND FORM's CARD OF 'porticolaw05.SignKeys'. -/
def signKeysUptoCard : Claim7 := { stood := { row := signKeysUptoRow, standIns := [], harness := (true, "fb855aac173b1dc05354ad9cef09221aa15ce7392701e38c3ff12af048eab3a6"), looks := false }, kinds := [], alts := [], laidByText := true, laidKinds := [.data], laidTests := true, laidLooks := .later }
def SignKeysUptoCardSaid : Prop := Claim7.holds Tryd.pinned (.plain (OpenSpec.upto signKeysSpec)) signKeysUptoCard

/-- THE SECOND FORM's CARD OF 'porticolaw19.SealMacs'. -/
def sealMacsUptoCard : Claim7 := { stood := { row := sealMacsUptoRow, standIns := [], harness := (true, "fb855aac173b1dc05354ad9cef09221aa15ce7392701e38c3ff12af048eab3a6"), looks := false }, kinds := [], alts := [], laidByText := true, laidKinds := [.data], laidTests := true, laidLooks := .later }
def SealMacsUptoCardSaid : Prop := Claim7.holds Tryd.pinned (.plain (OpenSpec.upto sealMacsSpec)) sealMacsUptoCard

/-- THE SECOND FORM's CARD OF 'porticolaw19.SealKeys'. -/
def sealKeysUptoCard : Claim7 := { stood := { row := sealKeysUptoRow, standIns := [], harness := (true, "fb855aac173b1dc05354ad9cef09221aa15ce7392701e38c3ff12af048eab3a6"), looks := false }, kinds := [], alts := [], laidByText := true, laidKinds := [.data], laidTests := true, laidLooks := .later }
def SealKeysUptoCardSaid : Prop := Claim7.holds Tryd.pinned (.plain (OpenSpec.upto sealKeysSpec)) sealKeysUptoCard
end Rows
end Go.Proofs.YtfaobdakpbpkbaaDoor
