/-
  The tied card Rows.CsrBackCardSaid: the row's statement with its listed variable tied to the program's text. Conditions: none.
-/
import Derived.Test.YtahgpfjkmcaeaaaDoorPCsrBack
import Derived.Test.YtahgpfjkmcaeaaaDoorCards
import Derived.Test.YtahgpfjkmcaeaaaDoorTie
import Derived.SevenTiedAt
namespace Go.Proofs.YtahgpfjkmcaeaaaDoor.lawCsrBackCard
open Go
set_option maxRecDepth 100000 in
theorem proved : Rows.CsrBackCardSaid :=
  Claim7.holds_tied_plain_at .later [] [.data] true (true, "dbe80fc009c27138e4cb5c463c86322b1051a8621da34ad16eab5b47b3ab4a42") false
    lawCsrBack.proved (fun _ h => by cases h) (by kernel_rfl) (fun _ h => by cases h) csrBack_row_tie rfl ⟨rfl, rfl⟩ (by kernel_rfl) rfl
    (fun f fn hf hfn => by
      obtain rfl : f = 3 := Option.some.inj ((show Tryd.prog.funcNamed "portico/porticolaw15.CsrBack" = some 3 by kernel_rfl).symm.trans hf) |>.symm
      obtain rfl : fn = Tryd.f3 := (Option.some.inj (Tryd.func3.symm.trans hfn)).symm
      exact ⟨by kernel_rfl, fun j t ht => by
        rw [Tryd.params3] at ht
        have hm : t ∈ [22, 23, 24] := by simpa using Array.mem_of_getElem? ht
        have hall : ([22, 23, 24].all fun u => !Tryd.prog.wantsStandIn u) = true := by kernel_rfl
        exact (show Tryd.prog.wantsStandIn t = false by simpa using List.all_eq_true.1 hall t hm)⟩)
    (by kernel_rfl)
end Go.Proofs.YtahgpfjkmcaeaaaDoor.lawCsrBackCard
