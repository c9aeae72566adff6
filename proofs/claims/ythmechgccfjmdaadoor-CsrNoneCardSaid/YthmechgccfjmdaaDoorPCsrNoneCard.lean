/-
  The tied card Rows.CsrNoneCardSaid: the row's statement with its listed variable tied to the program's text. Conditions: none.
-/
import Derived.Test.YthmechgccfjmdaaDoorPCsrNone
import Derived.Test.YthmechgccfjmdaaDoorCards
import Derived.Test.YthmechgccfjmdaaDoorTie
import Derived.SevenTiedAt
namespace Go.Proofs.YthmechgccfjmdaaDoor.lawCsrNoneCard
open Go
set_option maxRecDepth 100000 in
theorem proved : Rows.CsrNoneCardSaid :=
  Claim7.holds_tied_plain_at .later [] [.data] true (true, "6705a420554a1bd5c2b0fedcb32191594f550a5d396006d718695bb2ba47222f") false
    lawCsrNone.proved (fun _ h => by cases h) (by kernel_rfl) (fun _ h => by cases h) csrNone_row_tie rfl ⟨rfl, rfl⟩ (by kernel_rfl) rfl
    (fun f fn hf hfn => by
      obtain rfl : f = 4 := Option.some.inj ((show Tryd.prog.funcNamed "portico/porticolaw15.CsrNone" = some 4 by kernel_rfl).symm.trans hf) |>.symm
      obtain rfl : fn = Tryd.f4 := (Option.some.inj (Tryd.func4.symm.trans hfn)).symm
      exact ⟨by kernel_rfl, fun j t ht => by
        rw [Tryd.params4] at ht
        have hm : t ∈ [23, 23, 31] := by simpa using Array.mem_of_getElem? ht
        have hall : ([23, 23, 31].all fun u => !Tryd.prog.wantsStandIn u) = true := by kernel_rfl
        exact (show Tryd.prog.wantsStandIn t = false by simpa using List.all_eq_true.1 hall t hm)⟩)
    (by kernel_rfl)
end Go.Proofs.YthmechgccfjmdaaDoor.lawCsrNoneCard
