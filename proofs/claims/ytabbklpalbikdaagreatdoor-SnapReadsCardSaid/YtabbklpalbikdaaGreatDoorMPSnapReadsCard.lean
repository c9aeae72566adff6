/-
 The tied card Rows.SnapReadsCardSaid: the row's statement with its listed variable tied to the program's text. Conditions: none.
-/
import Derived.Test.YtabbklpalbikdaaGreatDoorMPSnapReads
import Derived.Test.YtabbklpalbikdaaGreatDoorCards
import Derived.Test.YtabbklpalbikdaaGreatDoorTie
import Derived.SevenTiedAt
set_option linter.unusedVariables false
set_option linter.unusedSimpArgs false
namespace Go.Proofs.YtabbklpalbikdaaGreatDoor.lawSnapReadsCard
open Go
set_option maxRecDepth 100000 in
theorem proved : Rows.SnapReadsCardSaid :=
 Claim7.holds_tied_plain_at .later [] [.data, .data] true (true, "a39d1f69a168dd5c781f84396ff67b0f530a856d64d5704a0645b7c86cb2ecff") false
  lawSnapReads.proved (fun _ h => by cases h) kt (fun _ h => by cases h) snapReads_row_tie rfl ⟨rfl,rfl⟩ kt rfl
  (fun f fn hf hfn => by
   obtain rfl : f = 12 := Option.some.inj ((show Tryz.prog.funcNamed "portico/porticolaw27.SnapReads" = some 12 by kernel_rfl).symm.trans hf) |>.symm
   obtain rfl : fn = Tryz.f12 := (Option.some.inj (Tryz.func12.symm.trans hfn)).symm
   exact ⟨by kernel_rfl,fun j t ht => by
    rw [Tryz.params12] at ht
    have hm : t ∈ [24,27,22] := by simpa using Array.mem_of_getElem? ht
    have hall : ([24,27,22].all fun u => !Tryz.prog.wantsStandIn u) = true := by kernel_rfl
    exact (show Tryz.prog.wantsStandIn t = false by simpa using List.all_eq_true.1 hall t hm)⟩)
  kt
end Go.Proofs.YtabbklpalbikdaaGreatDoor.lawSnapReadsCard
