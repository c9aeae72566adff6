/-
 The tied card Rows.ManifestOpensCardSaid: the row's statement with its listed variable tied to the program's text. Conditions: none.
-/
import Derived.Test.YtmjlceimjlabpaaDoorMPManifestOpens
import Derived.Test.YtmjlceimjlabpaaDoorCards
import Derived.Test.YtmjlceimjlabpaaDoorTie
import Derived.SevenTiedAt
namespace Go.Proofs.YtmjlceimjlabpaaDoor.lawManifestOpensCard
open Go
set_option maxRecDepth 100000 in
theorem proved : Rows.ManifestOpensCardSaid :=
 Claim7.holds_tied_plain_at .later [] [.data] true (true, "337114b9c61f89e5ef132ab2878b001709754fdb3522f07a51d6972dd953774c") false
  lawManifestOpens.proved (fun _ h => by cases h) (by kernel_rfl) (fun _ h => by cases h) manifestOpens_row_tie rfl ⟨rfl, rfl⟩ (by kernel_rfl) rfl
  (fun f fn hf hfn => by
   obtain rfl : f = 3 := Option.some.inj ((show Tryd.prog.funcNamed "portico/porticolaw07.ManifestOpens" = some 3 by kernel_rfl).symm.trans hf) |>.symm
   obtain rfl : fn = Tryd.f3 := (Option.some.inj (Tryd.func3.symm.trans hfn)).symm
   exact ⟨by kernel_rfl, fun j t ht => by
    rw [Tryd.params3] at ht
    have hm : t ∈ [22, 23, 24] := by simpa using Array.mem_of_getElem? ht
    have hall : ([22, 23, 24].all fun u => !Tryd.prog.wantsStandIn u) = true := by kernel_rfl
    exact (show Tryd.prog.wantsStandIn t = false by simpa using List.all_eq_true.1 hall t hm)⟩)
  (by kernel_rfl)
end Go.Proofs.YtmjlceimjlabpaaDoor.lawManifestOpensCard
