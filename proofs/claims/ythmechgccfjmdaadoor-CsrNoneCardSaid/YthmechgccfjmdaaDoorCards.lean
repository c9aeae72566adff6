/-
  DERIVED. GIVEN WITH THE SEED: THE CARDS: each row of YthmechgccfjmdaaDoorRows.lean that lists a variable, with what it lists TIED to the program's text (the seventh form; the later family's looks); each row that meets fmt, with fmt's text TOLD by the authors' own Lean function (tested against real Go, not proved from fmt's source: count such statements apart). THE CARD IS WHAT COUNTS. Prove the row's statement (the work); the ties are given (YthmechgccfjmdaaDoorTie.lean); close each card by the builder's one call (the guide's Derived/Test/ToyasCard.lean, 'card_holds'). Laid BY PROGRAM, IN A SANDBOX (cutbox-door.mjs). By AI agents, Wed Nov 11 2026. No macro, syntax, notation, axiom, sorry.
-/
import Derived.Test.YthmechgccfjmdaaDoorRows
import GoSem.ClaimSeven
namespace Go.Proofs.YthmechgccfjmdaaDoor
namespace Rows

/-- THE TIED CARD OF 'porticolaw15.CsrBack'. -/
def csrBackCard : Claim7 := { stood := { row := csrBackRow, standIns := [], harness := (true, "6705a420554a1bd5c2b0fedcb32191594f550a5d396006d718695bb2ba47222f"), looks := false }, kinds := [], alts := [], laidByText := true, laidKinds := [.data], laidTests := true, laidLooks := .later }
def CsrBackCardSaid : Prop := Claim7.holds Tryd.pinned (.plain (OpenSpec.ofChange csrBackSpec)) csrBackCard

/-- THE TIED CARD OF 'porticolaw15.CsrNone'. -/
def csrNoneCard : Claim7 := { stood := { row := csrNoneRow, standIns := [], harness := (true, "6705a420554a1bd5c2b0fedcb32191594f550a5d396006d718695bb2ba47222f"), looks := false }, kinds := [], alts := [], laidByText := true, laidKinds := [.data], laidTests := true, laidLooks := .later }
def CsrNoneCardSaid : Prop := Claim7.holds Tryd.pinned (.plain (OpenSpec.ofChange csrNoneSpec)) csrNoneCard

/-- THE TIED CARD OF 'porticolaw16.HartNone'. -/
def hartNoneCard : Claim7 := { stood := { row := hartNoneRow, standIns := [], harness := (true, "6705a420554a1bd5c2b0fedcb32191594f550a5d396006d718695bb2ba47222f"), looks := false }, kinds := [], alts := [], laidByText := true, laidKinds := [.data], laidTests := true, laidLooks := .later }
def HartNoneCardSaid : Prop := Claim7.holds Tryd.pinned (.plain (OpenSpec.ofChange hartNoneSpec)) hartNoneCard

/-- THE SECOND FORM's CARD OF 'porticolaw15.CsrBack'. -/
def csrBackUptoCard : Claim7 := { stood := { row := csrBackUptoRow, standIns := [], harness := (true, "6705a420554a1bd5c2b0fedcb32191594f550a5d396006d718695bb2ba47222f"), looks := false }, kinds := [], alts := [], laidByText := true, laidKinds := [.data], laidTests := true, laidLooks := .later }
def CsrBackUptoCardSaid : Prop := Claim7.holds Tryd.pinned (.plain (OpenSpec.upto csrBackSpec)) csrBackUptoCard

/-- THE SECOND FORM's CARD OF 'porticolaw15.CsrNone'. -/
def csrNoneUptoCard : Claim7 := { stood := { row := csrNoneUptoRow, standIns := [], harness := (true, "6705a420554a1bd5c2b0fedcb32191594f550a5d396006d718695bb2ba47222f"), looks := false }, kinds := [], alts := [], laidByText := true, laidKinds := [.data], laidTests := true, laidLooks := .later }
def CsrNoneUptoCardSaid : Prop := Claim7.holds Tryd.pinned (.plain (OpenSpec.upto csrNoneSpec)) csrNoneUptoCard

/-- THE SECOND FORM's CARD OF 'porticolaw16.HartNone'. -/
def hartNoneUptoCard : Claim7 := { stood := { row := hartNoneUptoRow, standIns := [], harness := (true, "6705a420554a1bd5c2b0fedcb32191594f550a5d396006d718695bb2ba47222f"), looks := false }, kinds := [], alts := [], laidByText := true, laidKinds := [.data], laidTests := true, laidLooks := .later }
def HartNoneUptoCardSaid : Prop := Claim7.holds Tryd.pinned (.plain (OpenSpec.upto hartNoneSpec)) hartNoneUptoCard
end Rows
end Go.Proofs.YthmechgccfjmdaaDoor
