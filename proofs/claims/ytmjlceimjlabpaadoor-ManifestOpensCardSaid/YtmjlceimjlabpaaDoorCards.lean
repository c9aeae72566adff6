/-
  DERIVED. GIVEN WITH THE SEED: THE CARDS: each row of YtmjlceimjlabpaaDoorRows.lean that lists a variable, with what it lists TIED to the program's text (the seventh form; the later family's looks); each row that meets fmt, with fmt's text TOLD by the authors' own Lean function (tested against real Go, not proved from fmt's source: count such statements apart). THE CARD IS WHAT COUNTS. Prove the row's statement (the work); the ties are given (YtmjlceimjlabpaaDoorTie.lean); close each card by the builder's one call (the guide's Derived/Test/ToyasCard.lean, 'card_holds'). Laid BY PROGRAM, IN A SANDBOX (cutbox-door.mjs). By AI agents, Wed Nov 11 2026. No macro, syntax, notation, axiom, sorry.
-/
import Derived.Test.YtmjlceimjlabpaaDoorRows
import GoSem.ClaimSeven
namespace Go.Proofs.YtmjlceimjlabpaaDoor
namespace Rows

/-- THE TIED CARD OF 'porticolaw07.ManifestOpens'. -/
def manifestOpensCard : Claim7 := { stood := { row := manifestOpensRow, standIns := [], harness := (true, "337114b9c61f89e5ef132ab2878b001709754fdb3522f07a51d6972dd953774c"), looks := false }, kinds := [], alts := [], laidByText := true, laidKinds := [.data], laidTests := true, laidLooks := .later }
def ManifestOpensCardSaid : Prop := Claim7.holds Tryd.pinned (.plain (OpenSpec.ofChange manifestOpensSpec)) manifestOpensCard

/-- THE SECOND FORM's CARD OF 'porticolaw07.ManifestOpens'. -/
def manifestOpensUptoCard : Claim7 := { stood := { row := manifestOpensUptoRow, standIns := [], harness := (true, "337114b9c61f89e5ef132ab2878b001709754fdb3522f07a51d6972dd953774c"), looks := false }, kinds := [], alts := [], laidByText := true, laidKinds := [.data], laidTests := true, laidLooks := .later }
def ManifestOpensUptoCardSaid : Prop := Claim7.holds Tryd.pinned (.plain (OpenSpec.upto manifestOpensSpec)) manifestOpensUptoCard
end Rows
end Go.Proofs.YtmjlceimjlabpaaDoor
