/-
  DERIVED. GIVEN WITH THE SEED: THE CARDS: each row of YtabbklpalbikdaaGreatDoorRows.lean that lists a variable, with what it lists TIED to the program's text (the seventh form; the later family's looks); each row that meets fmt, with fmt's text TOLD by the authors' own Lean function (tested against real Go, not proved from fmt's source: count such statements apart). THE CARD IS WHAT COUNTS. Prove the row's statement (the work); the ties are given (YtabbklpalbikdaaGreatDoorTie.lean); close each card by the builder's one call (the guide's Derived/Test/ToyasCard.lean, 'card_holds'). Laid BY PROGRAM, IN A SANDBOX (cutbox-door.mjs). By AI agents, Wed Nov 11 2026. No macro, syntax, notation, axiom, sorry.
-/
import Derived.Test.YtabbklpalbikdaaGreatDoorRows
import GoSem.ClaimSeven
namespace Go.Proofs.YtabbklpalbikdaaGreatDoor
namespace Rows

/-- THE TIED CARD OF 'porticolaw26.MonitorRound'. -/
def monitorRoundCard : Claim7 := { stood := { row := monitorRoundRow, standIns := [], harness := (true, "a39d1f69a168dd5c781f84396ff67b0f530a856d64d5704a0645b7c86cb2ecff"), looks := false }, kinds := [], alts := [], laidByText := true, laidKinds := [.data], laidTests := true, laidLooks := .later }
def MonitorRoundCardSaid : Prop := Claim7.holds Tryz.pinned (.plain (OpenSpec.ofChange monitorRoundSpec)) monitorRoundCard

/-- THE TIED CARD OF 'porticolaw26.MonitorSkips'. -/
def monitorSkipsCard : Claim7 := { stood := { row := monitorSkipsRow, standIns := [], harness := (true, "a39d1f69a168dd5c781f84396ff67b0f530a856d64d5704a0645b7c86cb2ecff"), looks := false }, kinds := [], alts := [], laidByText := true, laidKinds := [.data], laidTests := true, laidLooks := .later }
def MonitorSkipsCardSaid : Prop := Claim7.holds Tryz.pinned (.plain (OpenSpec.ofChange monitorSkipsSpec)) monitorSkipsCard

/-- THE TIED CARD OF 'porticolaw26.MonitorAlone'. -/
def monitorAloneCard : Claim7 := { stood := { row := monitorAloneRow, standIns := [], harness := (true, "a39d1f69a168dd5c781f84396ff67b0f530a856d64d5704a0645b7c86cb2ecff"), looks := false }, kinds := [], alts := [], laidByText := true, laidKinds := [.data], laidTests := true, laidLooks := .later }
def MonitorAloneCardSaid : Prop := Claim7.holds Tryz.pinned (.plain (OpenSpec.ofChange monitorAloneSpec)) monitorAloneCard

/-- THE TIED CARD OF 'porticolaw26.MonitorStays'. -/
def monitorStaysCard : Claim7 := { stood := { row := monitorStaysRow, standIns := [], harness := (true, "a39d1f69a168dd5c781f84396ff67b0f530a856d64d5704a0645b7c86cb2ecff"), looks := false }, kinds := [], alts := [], laidByText := true, laidKinds := [.data], laidTests := true, laidLooks := .later }
def MonitorStaysCardSaid : Prop := Claim7.holds Tryz.pinned (.plain (OpenSpec.ofChange monitorStaysSpec)) monitorStaysCard

/-- THE TIED CARD OF 'porticolaw26.MonitorStates'. -/
def monitorStatesCard : Claim7 := { stood := { row := monitorStatesRow, standIns := [], harness := (true, "a39d1f69a168dd5c781f84396ff67b0f530a856d64d5704a0645b7c86cb2ecff"), looks := false }, kinds := [], alts := [], laidByText := true, laidKinds := [.data], laidTests := true, laidLooks := .later }
def MonitorStatesCardSaid : Prop := Claim7.holds Tryz.pinned (.plain (OpenSpec.ofChange monitorStatesSpec)) monitorStatesCard

/-- THE TIED CARD OF 'porticolaw26.MonitorRuns'. -/
def monitorRunsCard : Claim7 := { stood := { row := monitorRunsRow, standIns := [], harness := (true, "a39d1f69a168dd5c781f84396ff67b0f530a856d64d5704a0645b7c86cb2ecff"), looks := false }, kinds := [], alts := [], laidByText := true, laidKinds := [.data], laidTests := true, laidLooks := .later }
def MonitorRunsCardSaid : Prop := Claim7.holds Tryz.pinned (.plain (OpenSpec.ofChange monitorRunsSpec)) monitorRunsCard

/-- THE TIED CARD OF 'porticolaw26.MonitorNone'. -/
def monitorNoneCard : Claim7 := { stood := { row := monitorNoneRow, standIns := [], harness := (true, "a39d1f69a168dd5c781f84396ff67b0f530a856d64d5704a0645b7c86cb2ecff"), looks := false }, kinds := [], alts := [], laidByText := true, laidKinds := [.data], laidTests := true, laidLooks := .later }
def MonitorNoneCardSaid : Prop := Claim7.holds Tryz.pinned (.plain (OpenSpec.ofChange monitorNoneSpec)) monitorNoneCard

/-- THE TIED CARD OF 'porticolaw27.SnapWrites'. -/
def snapWritesCard : Claim7 := { stood := { row := snapWritesRow, standIns := [], harness := (true, "a39d1f69a168dd5c781f84396ff67b0f530a856d64d5704a0645b7c86cb2ecff"), looks := false }, kinds := [], alts := [], laidByText := true, laidKinds := [.data, .data], laidTests := true, laidLooks := .later }
def SnapWritesCardSaid : Prop := Claim7.holds Tryz.pinned (.plain (OpenSpec.ofChange snapWritesSpec)) snapWritesCard

/-- THE TIED CARD OF 'porticolaw27.SnapBack'. -/
def snapBackCard : Claim7 := { stood := { row := snapBackRow, standIns := [], harness := (true, "a39d1f69a168dd5c781f84396ff67b0f530a856d64d5704a0645b7c86cb2ecff"), looks := false }, kinds := [], alts := [], laidByText := true, laidKinds := [.data, .data], laidTests := true, laidLooks := .later }
def SnapBackCardSaid : Prop := Claim7.holds Tryz.pinned (.plain (OpenSpec.ofChange snapBackSpec)) snapBackCard

/-- THE TIED CARD OF 'porticolaw27.SnapReads'. -/
def snapReadsCard : Claim7 := { stood := { row := snapReadsRow, standIns := [], harness := (true, "a39d1f69a168dd5c781f84396ff67b0f530a856d64d5704a0645b7c86cb2ecff"), looks := false }, kinds := [], alts := [], laidByText := true, laidKinds := [.data, .data], laidTests := true, laidLooks := .later }
def SnapReadsCardSaid : Prop := Claim7.holds Tryz.pinned (.plain (OpenSpec.ofChange snapReadsSpec)) snapReadsCard

/-- THE TIED CARD OF 'porticolaw27.SnapOthers'. -/
def snapOthersCard : Claim7 := { stood := { row := snapOthersRow, standIns := [], harness := (true, "a39d1f69a168dd5c781f84396ff67b0f530a856d64d5704a0645b7c86cb2ecff"), looks := false }, kinds := [], alts := [], laidByText := true, laidKinds := [.data, .data], laidTests := true, laidLooks := .later }
def SnapOthersCardSaid : Prop := Claim7.holds Tryz.pinned (.plain (OpenSpec.ofChange snapOthersSpec)) snapOthersCard

/-- THE SECOND FORM's CARD OF 'porticolaw26.MonitorRound'. -/
def monitorRoundUptoCard : Claim7 := { stood := { row := monitorRoundUptoRow, standIns := [], harness := (true, "a39d1f69a168dd5c781f84396ff67b0f530a856d64d5704a0645b7c86cb2ecff"), looks := false }, kinds := [], alts := [], laidByText := true, laidKinds := [.data], laidTests := true, laidLooks := .later }
def MonitorRoundUptoCardSaid : Prop := Claim7.holds Tryz.pinned (.plain (OpenSpec.upto monitorRoundSpec)) monitorRoundUptoCard

/-- THE SECOND FORM's CARD OF 'porticolaw26.MonitorSkips'. -/
def monitorSkipsUptoCard : Claim7 := { stood := { row := monitorSkipsUptoRow, standIns := [], harness := (true, "a39d1f69a168dd5c781f84396ff67b0f530a856d64d5704a0645b7c86cb2ecff"), looks := false }, kinds := [], alts := [], laidByText := true, laidKinds := [.data], laidTests := true, laidLooks := .later }
def MonitorSkipsUptoCardSaid : Prop := Claim7.holds Tryz.pinned (.plain (OpenSpec.upto monitorSkipsSpec)) monitorSkipsUptoCard

/-- THE SECOND FORM's CARD OF 'porticolaw26.MonitorAlone'. -/
def monitorAloneUptoCard : Claim7 := { stood := { row := monitorAloneUptoRow, standIns := [], harness := (true, "a39d1f69a168dd5c781f84396ff67b0f530a856d64d5704a0645b7c86cb2ecff"), looks := false }, kinds := [], alts := [], laidByText := true, laidKinds := [.data], laidTests := true, laidLooks := .later }
def MonitorAloneUptoCardSaid : Prop := Claim7.holds Tryz.pinned (.plain (OpenSpec.upto monitorAloneSpec)) monitorAloneUptoCard

/-- THE SECOND FORM's CARD OF 'porticolaw26.MonitorStays'. -/
def monitorStaysUptoCard : Claim7 := { stood := { row := monitorStaysUptoRow, standIns := [], harness := (true, "a39d1f69a168dd5c781f84396ff67b0f530a856d64d5704a0645b7c86cb2ecff"), looks := false }, kinds := [], alts := [], laidByText := true, laidKinds := [.data], laidTests := true, laidLooks := .later }
def MonitorStaysUptoCardSaid : Prop := Claim7.holds Tryz.pinned (.plain (OpenSpec.upto monitorStaysSpec)) monitorStaysUptoCard

/-- THE SECOND FORM's CARD OF 'porticolaw26.MonitorStates'. -/
def monitorStatesUptoCard : Claim7 := { stood := { row := monitorStatesUptoRow, standIns := [], harness := (true, "a39d1f69a168dd5c781f84396ff67b0f530a856d64d5704a0645b7c86cb2ecff"), looks := false }, kinds := [], alts := [], laidByText := true, laidKinds := [.data], laidTests := true, laidLooks := .later }
def MonitorStatesUptoCardSaid : Prop := Claim7.holds Tryz.pinned (.plain (OpenSpec.upto monitorStatesSpec)) monitorStatesUptoCard

/-- THE SECOND FORM's CARD OF 'porticolaw26.MonitorRuns'. -/
def monitorRunsUptoCard : Claim7 := { stood := { row := monitorRunsUptoRow, standIns := [], harness := (true, "a39d1f69a168dd5c781f84396ff67b0f530a856d64d5704a0645b7c86cb2ecff"), looks := false }, kinds := [], alts := [], laidByText := true, laidKinds := [.data], laidTests := true, laidLooks := .later }
def MonitorRunsUptoCardSaid : Prop := Claim7.holds Tryz.pinned (.plain (OpenSpec.upto monitorRunsSpec)) monitorRunsUptoCard

/-- THE SECOND FORM's CARD OF 'porticolaw26.MonitorNone'. -/
def monitorNoneUptoCard : Claim7 := { stood := { row := monitorNoneUptoRow, standIns := [], harness := (true, "a39d1f69a168dd5c781f84396ff67b0f530a856d64d5704a0645b7c86cb2ecff"), looks := false }, kinds := [], alts := [], laidByText := true, laidKinds := [.data], laidTests := true, laidLooks := .later }
def MonitorNoneUptoCardSaid : Prop := Claim7.holds Tryz.pinned (.plain (OpenSpec.upto monitorNoneSpec)) monitorNoneUptoCard

/-- THE SECOND FORM's CARD OF 'porticolaw27.SnapWrites'. -/
def snapWritesUptoCard : Claim7 := { stood := { row := snapWritesUptoRow, standIns := [], harness := (true, "a39d1f69a168dd5c781f84396ff67b0f530a856d64d5704a0645b7c86cb2ecff"), looks := false }, kinds := [], alts := [], laidByText := true, laidKinds := [.data, .data], laidTests := true, laidLooks := .later }
def SnapWritesUptoCardSaid : Prop := Claim7.holds Tryz.pinned (.plain (OpenSpec.upto snapWritesSpec)) snapWritesUptoCard

/-- THE SECOND FORM's CARD OF 'porticolaw27.SnapBack'. -/
def snapBackUptoCard : Claim7 := { stood := { row := snapBackUptoRow, standIns := [], harness := (true, "a39d1f69a168dd5c781f84396ff67b0f530a856d64d5704a0645b7c86cb2ecff"), looks := false }, kinds := [], alts := [], laidByText := true, laidKinds := [.data, .data], laidTests := true, laidLooks := .later }
def SnapBackUptoCardSaid : Prop := Claim7.holds Tryz.pinned (.plain (OpenSpec.upto snapBackSpec)) snapBackUptoCard

/-- THE SECOND FORM's CARD OF 'porticolaw27.SnapReads'. -/
def snapReadsUptoCard : Claim7 := { stood := { row := snapReadsUptoRow, standIns := [], harness := (true, "a39d1f69a168dd5c781f84396ff67b0f530a856d64d5704a0645b7c86cb2ecff"), looks := false }, kinds := [], alts := [], laidByText := true, laidKinds := [.data, .data], laidTests := true, laidLooks := .later }
def SnapReadsUptoCardSaid : Prop := Claim7.holds Tryz.pinned (.plain (OpenSpec.upto snapReadsSpec)) snapReadsUptoCard

/-- THE SECOND FORM's CARD OF 'porticolaw27.SnapOthers'. -/
def snapOthersUptoCard : Claim7 := { stood := { row := snapOthersUptoRow, standIns := [], harness := (true, "a39d1f69a168dd5c781f84396ff67b0f530a856d64d5704a0645b7c86cb2ecff"), looks := false }, kinds := [], alts := [], laidByText := true, laidKinds := [.data, .data], laidTests := true, laidLooks := .later }
def SnapOthersUptoCardSaid : Prop := Claim7.holds Tryz.pinned (.plain (OpenSpec.upto snapOthersSpec)) snapOthersUptoCard
end Rows
end Go.Proofs.YtabbklpalbikdaaGreatDoor
