/-
  The tied card Rows.SignKeysCardSaid: the row's statement with its listed variable tied to the program's text. Conditions: none.
-/
import Derived.Test.YtfaobdakpbpkbaaDoorMPSignKeys
import Derived.Test.YtfaobdakpbpkbaaDoorCards
import Derived.Test.YtfaobdakpbpkbaaDoorTie
import Derived.SevenTiedAt
namespace Go.Proofs.YtfaobdakpbpkbaaDoor.lawSignKeysCard
open Go
set_option maxRecDepth 100000 in
theorem proved : Rows.SignKeysCardSaid :=
  Claim7.holds_tied_plain_at .later [] [.data] true (true, "fb855aac173b1dc05354ad9cef09221aa15ce7392701e38c3ff12af048eab3a6") false
    lawSignKeys.proved (fun _ h => by cases h) (by kernel_rfl) (fun _ h => by cases h) signKeys_row_tie rfl ⟨rfl, rfl⟩ (by kernel_rfl) rfl
    (fun f fn hf hfn => by
      obtain rfl : f = 4 := Option.some.inj ((show Tryd.prog.funcNamed "portico/porticolaw05.SignKeys" = some 4 by kernel_rfl).symm.trans hf) |>.symm
      obtain rfl : fn = Tryd.f4 := (Option.some.inj (Tryd.func4.symm.trans hfn)).symm
      exact ⟨by kernel_rfl, fun j t ht => by
        rw [Tryd.params4] at ht
        have hm : t ∈ [22] := by simpa using Array.mem_of_getElem? ht
        have hall : ([22].all fun u => !Tryd.prog.wantsStandIn u) = true := by kernel_rfl
        exact (show Tryd.prog.wantsStandIn t = false by simpa using List.all_eq_true.1 hall t hm)⟩)
    (by kernel_rfl)
end Go.Proofs.YtfaobdakpbpkbaaDoor.lawSignKeysCard
