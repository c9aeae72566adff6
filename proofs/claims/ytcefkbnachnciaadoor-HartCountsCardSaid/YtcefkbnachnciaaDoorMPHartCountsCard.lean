/-
  The tied card Rows.HartCountsCardSaid: the row's statement with its listed variable tied to the program's text. Conditions: none.
-/
import Derived.Test.YtcefkbnachnciaaDoorMPHartCounts
import Derived.Test.YtcefkbnachnciaaDoorCards
import Derived.Test.YtcefkbnachnciaaDoorTie
import Derived.SevenTiedAt
namespace Go.Proofs.YtcefkbnachnciaaDoor.lawHartCountsCard
open Go
set_option maxRecDepth 100000 in
theorem proved : Rows.HartCountsCardSaid :=
  Claim7.holds_tied_plain_at .later [] [.data] true (true, "241ab8f8199ab832c54928dc0a97d2aa9a6d00e73e7f6e83d4f23cfa9d41309a") false
    lawHartCounts.proved (fun _ h => by cases h) (by kernel_rfl) (fun _ h => by cases h) hartCounts_row_tie rfl ⟨rfl, rfl⟩ (by kernel_rfl) rfl
    (fun f fn hf hfn => by
      obtain rfl : f = 5 := Option.some.inj ((show Tryd.prog.funcNamed "portico/porticolaw16.HartCounts" = some 5 by kernel_rfl).symm.trans hf) |>.symm
      obtain rfl : fn = Tryd.f5 := (Option.some.inj (Tryd.func5.symm.trans hfn)).symm
      exact ⟨by kernel_rfl, fun j t ht => by
        rw [Tryd.params5] at ht
        have hm : t ∈ [39, 3, 4] := by simpa using Array.mem_of_getElem? ht
        have hall : ([39, 3, 4].all fun u => !Tryd.prog.wantsStandIn u) = true := by kernel_rfl
        exact (show Tryd.prog.wantsStandIn t = false by simpa using List.all_eq_true.1 hall t hm)⟩)
    (by kernel_rfl)
end Go.Proofs.YtcefkbnachnciaaDoor.lawHartCountsCard
