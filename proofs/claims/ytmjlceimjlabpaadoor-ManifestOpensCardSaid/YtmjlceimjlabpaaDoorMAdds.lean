/-
 The listed table of SHA-256, read. Conditions: the listed variable is laid.
-/
import Derived.Test.YtmjlceimjlabpaaDoorM04
import Derived.Test.YtmjlceimjlabpaaDoorMOpen
import Derived.Test.YtmjlceimjlabpaaDoorRows
import Derived.WalkKit
import Derived.ProofKit
import Derived.LaidMore
import Derived.OpenShut
import Derived.ShutString
import Derived.ChangeOld
import Derived.Below
import Derived.MakeChecks
import Derived.Stop.Joined
namespace Go.Proofs.YtmjlceimjlabpaaDoor
open Go.RowKit Go.Pt Go.ChangeShapes Go.WideShapes Go.ChangeAt
def laidK {H : Type} : List (String × DataW H) := [("portico/sha.adds", Rows.laid_portico_sha_adds)]
theorem laidK_eq : (Rows.laid_portico_sha_adds : DataW Unit) = .agg (Sha.KL.map fun (n : Nat) => .lit (.int .u32 (n : Int))) := by kernel_rfl
theorem shaTab {W : World} (h : laidMetH Tryd.prog laidK W) : ArrAt W 0 0 .u32 64 Sha.K := by
 intro r hr
 rw [MakeChecks.laidMetH_plain _ _ _ (by kernel_rfl)] at h
 obtain ⟨ps, ⟨g, t, cs, fuel, p, q, hg, ht, hv, hd, _, _⟩, _, _⟩ := h
 obtain rfl := Option.some.inj ((show Tryd.prog.globalNamed "portico/sha.adds" = some 0 by kernel_rfl).symm.trans hg)
 obtain rfl := Option.some.inj ((show (Tryd.prog.globals[0]?).map (·.type) = some 152 by kernel_rfl).symm.trans ht)
 rw [laidK_eq] at hd
 obtain ⟨xs, m, _, ex, _, hl, hel⟩ := DataW.trod_array Tryd.underlying152 hd
 have c5 : Tryd.prog.cellsOf 24 = 1 := by kernel_rfl
 have hE := hel r hr
 rw [c5, Nat.mul_one, List.getElem?_eq_getElem (by omega)] at hE
 obtain ⟨z, e1, e2, _⟩ := DataW.trod_int Tryd.underlying24 hE
 have hlen : Sha.KL.length = 64 := rfl
 have e3 : (xs.map (·.1)) = Sha.KL.map fun (n : Nat) => .lit (.int .u32 (n : Int)) := (DataW.agg.inj (Prod.mk.inj ex).1).symm
 have e4 : (xs.map (·.1))[r]? = (Sha.KL.map fun (n : Nat) => (DataW.lit (.int .u32 (n : Int)) : DataW Unit))[r]? := by rw [e3]
 rw [List.getElem?_map, List.getElem?_map, List.getElem?_eq_getElem (by omega : r < xs.length), List.getElem?_eq_getElem (by omega : r < Sha.KL.length), e2] at e4
 have hz : z = (Sha.K r : Int) := by
  simp only [Option.map_some, Option.some.injEq, DataW.lit.injEq, Lit.int.injEq, true_and] at e4
  rw [e4, Sha.K, List.getD, List.getElem?_eq_getElem (by omega : r < Sha.KL.length)]; rfl
 rw [Nat.zero_add, World.var?_cell hg hv r, ← hz]
 have : cs.toList[r]? = some (.int .u32 z) := by
  have h0 : ((cs.toList.drop r).take 1)[0]? = some (.int .u32 z) := by rw [e1]; rfl
  simpa using h0
 simpa using this
end Go.Proofs.YtmjlceimjlabpaaDoor
