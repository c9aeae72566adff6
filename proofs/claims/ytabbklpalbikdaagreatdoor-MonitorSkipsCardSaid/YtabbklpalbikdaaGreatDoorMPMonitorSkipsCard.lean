/-
 The tied card Rows.MonitorSkipsCardSaid: the row's statement with its listed variable tied to the program's text. Conditions: none.
-/
import Derived.Test.YtabbklpalbikdaaGreatDoorMPMonitorSkips
import Derived.Test.YtabbklpalbikdaaGreatDoorCards
import Derived.Test.YtabbklpalbikdaaGreatDoorTie
import Derived.SevenTiedAt
set_option linter.unusedVariables false
set_option linter.unusedSimpArgs false
namespace Go.Proofs.YtabbklpalbikdaaGreatDoor.lawMonitorSkipsCard
open Go
set_option maxRecDepth 100000 in
theorem proved : Rows.MonitorSkipsCardSaid :=
 Claim7.holds_tied_plain_at .later [] [.data] true (true, "a39d1f69a168dd5c781f84396ff67b0f530a856d64d5704a0645b7c86cb2ecff") false
  lawMonitorSkips.proved (fun _ h => by cases h) ki (fun _ h => by cases h) monitorSkips_row_tie rfl ⟨rfl,rfl⟩ ki rfl
  (fun f fn hf hfn => by
   obtain rfl : f = 4 := Option.some.inj ((show Tryz.prog.funcNamed "portico/porticolaw26.MonitorSkips" = some 4 by kernel_rfl).symm.trans hf) |>.symm
   obtain rfl : fn = Tryz.f4 := (Option.some.inj (Tryz.func4.symm.trans hfn)).symm
   exact ⟨by kernel_rfl,fun j t ht => by
    rw [Tryz.params4] at ht
    have hm : t ∈ [24,3,3] := by simpa using Array.mem_of_getElem? ht
    have hall : ([24,3,3].all fun u => !Tryz.prog.wantsStandIn u) = true := by kernel_rfl
    exact (show Tryz.prog.wantsStandIn t = false by simpa using List.all_eq_true.1 hall t hm)⟩)
  ki
end Go.Proofs.YtabbklpalbikdaaGreatDoor.lawMonitorSkipsCard
