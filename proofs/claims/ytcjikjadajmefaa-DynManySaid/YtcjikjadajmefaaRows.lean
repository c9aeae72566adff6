/-
  No cell of these rows narrows 'for every input' (looked for: loops, veiled, ifaces, maps, wideKeys, modest, calm, conditions, laid).
  DERIVED. THE GIVEN ROWS OF THIS SEAT. 4 by the template 'for every input the law returns true; each argument reads behind the call as it read before'; 0 by the template 'total and deterministic' (their statements: YtcjikjadajmefaaTotals.lean).
  GIVEN WITH THE SEED: the statements are not yours to turn. If you find one false, say at which input.
  Laid BY PROGRAM, IN A SANDBOX (cutbox-rows.mjs): the forced cells as the released guide's own fill.sh prints them over the translation 1de44967abe180e5… (all of the seat's roots in one cut). By AI agents, Wed Nov 11 2026. No macro, syntax, notation, axiom, sorry.
-/
import Derived.Test.YtcjikjadajmefaaChecked
import GoSem.Claim
import GoSem.ClaimJoined
import GoSem.ClaimMapViews
import Derived.JoinedTies
import Derived.KernelRfl
namespace Go.Proofs.Ytcjikjadajmefaa
/- THE CELL 'sum', in the pinned program and in every row, IS THE sha256 OF THE DUMP (.gsa) THAT YtcjikjadajmefaaProg.lean LOADS. Nothing in Lean hashes anything: it is a label: what it is worth is what the hold of that sum in a sandbox is worth. -/
noncomputable def Try.pinned : Pinned := { name := "ytcjikjadajmefaa", sum := "1de44967abe180e597e9ff143d3e72b8bf5de407fd77f9ef0fc3bc77e8311528", checked := Try.checked }
namespace Rows
def none {H : Type} : Left H := { results := [], args := [] }

/-- 'porticolaw09.DynTables': WHATEVER THE INPUT: true; the input reads as it did. -/
def dynTablesSpec : ChangeSpec := { name := "dynTables", fn := fun _ => fun
  | [d1, d2] => { results := [.lit (.bool true)], args := [d1, d2] }
  | _ => none }
def dynTablesRow : OpenClaim := { program := "ytcjikjadajmefaa", sum := "1de44967abe180e597e9ff143d3e72b8bf5de407fd77f9ef0fc3bc77e8311528", func := "portico/porticolaw09.DynTables", spec := "dynTables", unfollowed := true, recurses := true, apart := false }
def DynTablesSaid : Prop := dynTablesRow.holds Try.pinned (OpenSpec.ofChange dynTablesSpec)

/-- ITS FALSE NEIGHBOUR: 'it returns false'. Refute it at one input. -/
def dynTablesWrong : ChangeSpec := { name := "dynTables", fn := fun _ => fun
  | [d1, d2] => { results := [.lit (.bool false)], args := [d1, d2] }
  | _ => none }
def DynTablesWrongFalsely : Prop := dynTablesRow.holds Try.pinned (OpenSpec.ofChange dynTablesWrong)

/-- 'porticolaw09.DynReads': WHATEVER THE INPUT: true; the input reads as it did. -/
def dynReadsSpec : ChangeSpec := { name := "dynReads", fn := fun _ => fun
  | [d] => { results := [.lit (.bool true)], args := [d] }
  | _ => none }
def dynReadsRow : OpenClaim := { program := "ytcjikjadajmefaa", sum := "1de44967abe180e597e9ff143d3e72b8bf5de407fd77f9ef0fc3bc77e8311528", func := "portico/porticolaw09.DynReads", spec := "dynReads", unfollowed := true, recurses := true, apart := false }
def DynReadsSaid : Prop := dynReadsRow.holds Try.pinned (OpenSpec.ofChange dynReadsSpec)

/-- ITS FALSE NEIGHBOUR: 'it returns false'. Refute it at one input. -/
def dynReadsWrong : ChangeSpec := { name := "dynReads", fn := fun _ => fun
  | [d] => { results := [.lit (.bool false)], args := [d] }
  | _ => none }
def DynReadsWrongFalsely : Prop := dynReadsRow.holds Try.pinned (OpenSpec.ofChange dynReadsWrong)

/-- 'porticolaw09.DynBack': WHATEVER THE INPUT: true; the input reads as it did. -/
def dynBackSpec : ChangeSpec := { name := "dynBack", fn := fun _ => fun
  | [d1, d2, d3] => { results := [.lit (.bool true)], args := [d1, d2, d3] }
  | _ => none }
def dynBackRow : OpenClaim := { program := "ytcjikjadajmefaa", sum := "1de44967abe180e597e9ff143d3e72b8bf5de407fd77f9ef0fc3bc77e8311528", func := "portico/porticolaw09.DynBack", spec := "dynBack", unfollowed := true, recurses := true, apart := false }
def DynBackSaid : Prop := dynBackRow.holds Try.pinned (OpenSpec.ofChange dynBackSpec)

/-- ITS FALSE NEIGHBOUR: 'it returns false'. Refute it at one input. -/
def dynBackWrong : ChangeSpec := { name := "dynBack", fn := fun _ => fun
  | [d1, d2, d3] => { results := [.lit (.bool false)], args := [d1, d2, d3] }
  | _ => none }
def DynBackWrongFalsely : Prop := dynBackRow.holds Try.pinned (OpenSpec.ofChange dynBackWrong)

/-- 'porticolaw09.DynMany': WHATEVER THE INPUT: true; the input reads as it did. -/
def dynManySpec : ChangeSpec := { name := "dynMany", fn := fun _ => fun
  | [d1, d2] => { results := [.lit (.bool true)], args := [d1, d2] }
  | _ => none }
def dynManyRow : OpenClaim := { program := "ytcjikjadajmefaa", sum := "1de44967abe180e597e9ff143d3e72b8bf5de407fd77f9ef0fc3bc77e8311528", func := "portico/porticolaw09.DynMany", spec := "dynMany", unfollowed := true, recurses := true, apart := false }
def DynManySaid : Prop := dynManyRow.holds Try.pinned (OpenSpec.ofChange dynManySpec)

/-- ITS FALSE NEIGHBOUR: 'it returns false'. Refute it at one input. -/
def dynManyWrong : ChangeSpec := { name := "dynMany", fn := fun _ => fun
  | [d1, d2] => { results := [.lit (.bool false)], args := [d1, d2] }
  | _ => none }
def DynManyWrongFalsely : Prop := dynManyRow.holds Try.pinned (OpenSpec.ofChange dynManyWrong)

/- THE SECOND FORM. 'bulk': how many values and letters a reading holds, each counted each time it is reached (what is shared counts as often as it is met; a slice's spare places count too). A statement '..UptoSaid' is the law's where the arguments, and the package variables that the reading takes, are together of bulk at most 1048576: NARROWER than '..Said'. Prove '..Said' where nothing that the law and all that it calls make is longer than what came in: it says more and counts as full. Else prove '..UptoSaid'. A law counts once. -/
mutual
def uptoBulk {H : Type} : DataW H → Nat
  | .lit (.string bytes) => bytes.length + 1
  | .lit _ => 1
  | .nil => 1
  | .ptr d => uptoBulk d + 1
  | .slice elems spare => uptoBulkAll elems + uptoBulkAll spare + 1
  | .agg parts => uptoBulkAll parts + 1
  | .iface _ d => uptoBulk d + 1
  | .map entries => uptoBulkEntries entries + 1
  | .held _ => 1
def uptoBulkAll {H : Type} : List (DataW H) → Nat
  | [] => 0
  | d :: r => uptoBulk d + uptoBulkAll r
def uptoBulkEntries {H : Type} : List (Lit × DataW H) → Nat
  | [] => 0
  | x :: r => uptoBulkEntry x + uptoBulkEntries r
def uptoBulkEntry {H : Type} : Lit × DataW H → Nat
  | (.string bytes, d) => bytes.length + uptoBulk d + 1
  | (_, d) => uptoBulk d + 1
 end
def uptoSmall : (H : Type) → List (DataW H) → Bool := fun _ ds => decide (uptoBulkAll ds ≤ 1048576)
def OpenSpec.upto (s : _root_.Go.ChangeSpec) : _root_.Go.OpenSpec := { _root_.Go.OpenSpec.ofChange s with cond := some uptoSmall }

/-- 'porticolaw09.DynTables', WHERE WHAT IT READS IS OF BULK AT MOST 1048576: true; the input reads as it did. -/
def dynTablesUptoRow : OpenClaim := { program := "ytcjikjadajmefaa", sum := "1de44967abe180e597e9ff143d3e72b8bf5de407fd77f9ef0fc3bc77e8311528", func := "portico/porticolaw09.DynTables", spec := "dynTables", unfollowed := true, recurses := true, apart := false, narrowed := true }
def DynTablesUptoSaid : Prop := dynTablesUptoRow.holds Try.pinned (OpenSpec.upto dynTablesSpec)

/-- 'porticolaw09.DynReads', WHERE WHAT IT READS IS OF BULK AT MOST 1048576: true; the input reads as it did. -/
def dynReadsUptoRow : OpenClaim := { program := "ytcjikjadajmefaa", sum := "1de44967abe180e597e9ff143d3e72b8bf5de407fd77f9ef0fc3bc77e8311528", func := "portico/porticolaw09.DynReads", spec := "dynReads", unfollowed := true, recurses := true, apart := false, narrowed := true }
def DynReadsUptoSaid : Prop := dynReadsUptoRow.holds Try.pinned (OpenSpec.upto dynReadsSpec)

/-- 'porticolaw09.DynBack', WHERE WHAT IT READS IS OF BULK AT MOST 1048576: true; the input reads as it did. -/
def dynBackUptoRow : OpenClaim := { program := "ytcjikjadajmefaa", sum := "1de44967abe180e597e9ff143d3e72b8bf5de407fd77f9ef0fc3bc77e8311528", func := "portico/porticolaw09.DynBack", spec := "dynBack", unfollowed := true, recurses := true, apart := false, narrowed := true }
def DynBackUptoSaid : Prop := dynBackUptoRow.holds Try.pinned (OpenSpec.upto dynBackSpec)

/-- 'porticolaw09.DynMany', WHERE WHAT IT READS IS OF BULK AT MOST 1048576: true; the input reads as it did. -/
def dynManyUptoRow : OpenClaim := { program := "ytcjikjadajmefaa", sum := "1de44967abe180e597e9ff143d3e72b8bf5de407fd77f9ef0fc3bc77e8311528", func := "portico/porticolaw09.DynMany", spec := "dynMany", unfollowed := true, recurses := true, apart := false, narrowed := true }
def DynManyUptoSaid : Prop := dynManyUptoRow.holds Try.pinned (OpenSpec.upto dynManySpec)

end Rows
end Go.Proofs.Ytcjikjadajmefaa
