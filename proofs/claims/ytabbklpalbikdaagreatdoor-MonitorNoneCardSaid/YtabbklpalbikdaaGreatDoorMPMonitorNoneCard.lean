/-
 The tied card Rows.MonitorNoneCardSaid: the row's statement with its listed variable tied to the program's text. Conditions: none.
-/
import Derived.Test.YtabbklpalbikdaaGreatDoorMPMonitorNone
import Derived.Test.YtabbklpalbikdaaGreatDoorCards
import Derived.Test.YtabbklpalbikdaaGreatDoorTie
import Derived.SevenTiedAt
set_option linter.unusedVariables false
set_option linter.unusedSimpArgs false
namespace Go.Proofs.YtabbklpalbikdaaGreatDoor.lawMonitorNoneCard
open Go
set_option maxRecDepth 100000 in
theorem proved : Rows.MonitorNoneCardSaid :=
 Claim7.holds_tied_plain_at .later [] [.data] true (true, "a39d1f69a168dd5c781f84396ff67b0f530a856d64d5704a0645b7c86cb2ecff") false
  lawMonitorNone.proved (fun _ h => by cases h) kh (fun _ h => by cases h) monitorNone_row_tie rfl ⟨rfl,rfl⟩ kh rfl
  (fun f fn hf hfn => by
   obtain rfl : f = 9 := Option.some.inj ((show Tryz.prog.funcNamed "portico/porticolaw26.MonitorNone" = some 9 by kernel_rfl).symm.trans hf) |>.symm
   obtain rfl : fn = Tryz.f9 := (Option.some.inj (Tryz.func9.symm.trans hfn)).symm
   exact ⟨by kernel_rfl,fun j t ht => by
    rw [Tryz.params9] at ht
    have hm : t ∈ [3,3] := by simpa using Array.mem_of_getElem? ht
    have hall : ([3,3].all fun u => !Tryz.prog.wantsStandIn u) = true := by kernel_rfl
    exact (show Tryz.prog.wantsStandIn t = false by simpa using List.all_eq_true.1 hall t hm)⟩)
  kh
end Go.Proofs.YtabbklpalbikdaaGreatDoor.lawMonitorNoneCard
