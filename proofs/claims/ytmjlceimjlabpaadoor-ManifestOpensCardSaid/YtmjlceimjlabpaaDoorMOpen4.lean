/-
 An argument that is a manifest,read off the row's own reading. Conditions: the argument reads.
-/
import Derived.Test.YtmjlceimjlabpaaDoorMOpen2
import Derived.Test.YtmjlceimjlabpaaDoorM02
namespace Go.Proofs.YtmjlceimjlabpaaDoor
open Go.RowKit Go.Pt Go.ChangeShapes Go.WideShapes Go.ChangeAt
theorem u32_nat' {n : Int} (h : IntKind.u32.min ≤ n ∧ n ≤ IntKind.u32.max) : ∃ m : Nat,n = (m : Int) ∧ m < 4294967296 := by
 have h' : 0 ≤ n ∧ n ≤ 4294967295 := h
 exact ⟨n.toNat,by omega,by omega⟩
end Go.Proofs.YtmjlceimjlabpaaDoor
