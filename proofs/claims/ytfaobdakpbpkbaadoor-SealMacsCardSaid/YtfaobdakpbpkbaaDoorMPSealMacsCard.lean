/-
  The tied card Rows.SealMacsCardSaid: the row's statement with its listed variable tied to the program's text. Conditions: none.
-/
import Derived.Test.YtfaobdakpbpkbaaDoorMPSealMacs
import Derived.Test.YtfaobdakpbpkbaaDoorCards
import Derived.Test.YtfaobdakpbpkbaaDoorTie
import Derived.SevenTiedAt
namespace Go.Proofs.YtfaobdakpbpkbaaDoor.lawSealMacsCard
open Go
set_option maxRecDepth 100000 in
theorem proved : Rows.SealMacsCardSaid :=
  Claim7.holds_tied_plain_at .later [] [.data] true (true, "fb855aac173b1dc05354ad9cef09221aa15ce7392701e38c3ff12af048eab3a6") false
    lawSealMacs.proved (fun _ h => by cases h) (by kernel_rfl) (fun _ h => by cases h) sealMacs_row_tie rfl ⟨rfl, rfl⟩ (by kernel_rfl) rfl
    (fun f fn hf hfn => by
      obtain rfl : f = 5 := Option.some.inj ((show Tryd.prog.funcNamed "portico/porticolaw19.SealMacs" = some 5 by kernel_rfl).symm.trans hf) |>.symm
      obtain rfl : fn = Tryd.f5 := (Option.some.inj (Tryd.func5.symm.trans hfn)).symm
      exact ⟨by kernel_rfl, fun j t ht => by
        rw [Tryd.params5] at ht
        have hm : t ∈ [22, 44] := by simpa using Array.mem_of_getElem? ht
        have hall : ([22, 44].all fun u => !Tryd.prog.wantsStandIn u) = true := by kernel_rfl
        exact (show Tryd.prog.wantsStandIn t = false by simpa using List.all_eq_true.1 hall t hm)⟩)
    (by kernel_rfl)
end Go.Proofs.YtfaobdakpbpkbaaDoor.lawSealMacsCard
