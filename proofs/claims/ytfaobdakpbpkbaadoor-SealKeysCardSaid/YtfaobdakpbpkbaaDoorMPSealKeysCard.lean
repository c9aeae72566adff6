/-
  The tied card Rows.SealKeysCardSaid: the row's statement with its listed variable tied to the program's text. Conditions: none.
-/
import Derived.Test.YtfaobdakpbpkbaaDoorMPSealKeys
import Derived.Test.YtfaobdakpbpkbaaDoorCards
import Derived.Test.YtfaobdakpbpkbaaDoorTie
import Derived.SevenTiedAt
namespace Go.Proofs.YtfaobdakpbpkbaaDoor.lawSealKeysCard
open Go
set_option maxRecDepth 100000 in
theorem proved : Rows.SealKeysCardSaid :=
  Claim7.holds_tied_plain_at .later [] [.data] true (true, "fb855aac173b1dc05354ad9cef09221aa15ce7392701e38c3ff12af048eab3a6") false
    lawSealKeys.proved (fun _ h => by cases h) (by kernel_rfl) (fun _ h => by cases h) sealKeys_row_tie rfl ⟨rfl, rfl⟩ (by kernel_rfl) rfl
    (fun f fn hf hfn => by
      obtain rfl : f = 6 := Option.some.inj ((show Tryd.prog.funcNamed "portico/porticolaw19.SealKeys" = some 6 by kernel_rfl).symm.trans hf) |>.symm
      obtain rfl : fn = Tryd.f6 := (Option.some.inj (Tryd.func6.symm.trans hfn)).symm
      exact ⟨by kernel_rfl, fun j t ht => by
        rw [Tryd.params6] at ht
        have hm : t ∈ [22, 22, 3] := by simpa using Array.mem_of_getElem? ht
        have hall : ([22, 22, 3].all fun u => !Tryd.prog.wantsStandIn u) = true := by kernel_rfl
        exact (show Tryd.prog.wantsStandIn t = false by simpa using List.all_eq_true.1 hall t hm)⟩)
    (by kernel_rfl)
end Go.Proofs.YtfaobdakpbpkbaaDoor.lawSealKeysCard
