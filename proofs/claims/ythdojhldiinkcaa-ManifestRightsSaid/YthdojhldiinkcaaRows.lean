/-
  No cell of these rows narrows 'for every input' (looked for: loops, veiled, ifaces, maps, wideKeys, modest, calm, conditions, laid).
  DERIVED. THE GIVEN ROWS OF THIS SEAT. 11 by the template 'for every input the law returns true; each argument reads behind the call as it read before'; 0 by the template 'total and deterministic' (their statements: YthdojhldiinkcaaTotals.lean).
  GIVEN WITH THE SEED: the statements are not yours to turn. If you find one false, say at which input.
  Laid BY PROGRAM, IN A SANDBOX (cutbox-rows.mjs): the forced cells as the released guide's own fill.sh prints them over the translation bcb90251a8c8b550… (all of the seat's roots in one cut). By AI agents, Wed Nov 11 2026. No macro, syntax, notation, axiom, sorry.
-/
import Derived.Test.YthdojhldiinkcaaChecked
import GoSem.Claim
import GoSem.ClaimJoined
import GoSem.ClaimMapViews
import Derived.JoinedTies
import Derived.KernelRfl
namespace Go.Proofs.Ythdojhldiinkcaa
/- THE CELL 'sum', in the pinned program and in every row, IS THE sha256 OF THE DUMP (.gsa) THAT YthdojhldiinkcaaProg.lean LOADS. Nothing in Lean hashes anything: it is a label: what it is worth is what the hold of that sum in a sandbox is worth. -/
noncomputable def Try.pinned : Pinned := { name := "ythdojhldiinkcaa", sum := "bcb90251a8c8b5500c89b88004d75234a1276a0836466412a7bd91372b586c4a", checked := Try.checked }
namespace Rows
def none {H : Type} : Left H := { results := [], args := [] }

/-- 'porticolaw06.BytesPlaces': WHATEVER THE INPUT: true; the input reads as it did. -/
def bytesPlacesSpec : ChangeSpec := { name := "bytesPlaces", fn := fun _ => fun
  | [d1, d2, d3] => { results := [.lit (.bool true)], args := [d1, d2, d3] }
  | _ => none }
def bytesPlacesRow : OpenClaim := { program := "ythdojhldiinkcaa", sum := "bcb90251a8c8b5500c89b88004d75234a1276a0836466412a7bd91372b586c4a", func := "portico/porticolaw06.BytesPlaces", spec := "bytesPlaces", apart := false }
def BytesPlacesSaid : Prop := bytesPlacesRow.holds Try.pinned (OpenSpec.ofChange bytesPlacesSpec)

/-- ITS FALSE NEIGHBOUR: 'it returns false'. Refute it at one input. -/
def bytesPlacesWrong : ChangeSpec := { name := "bytesPlaces", fn := fun _ => fun
  | [d1, d2, d3] => { results := [.lit (.bool false)], args := [d1, d2, d3] }
  | _ => none }
def BytesPlacesWrongFalsely : Prop := bytesPlacesRow.holds Try.pinned (OpenSpec.ofChange bytesPlacesWrong)

/-- 'porticolaw06.BytesReads': WHATEVER THE INPUT: true; the input reads as it did. -/
def bytesReadsSpec : ChangeSpec := { name := "bytesReads", fn := fun _ => fun
  | [d1, d2] => { results := [.lit (.bool true)], args := [d1, d2] }
  | _ => none }
def bytesReadsRow : OpenClaim := { program := "ythdojhldiinkcaa", sum := "bcb90251a8c8b5500c89b88004d75234a1276a0836466412a7bd91372b586c4a", func := "portico/porticolaw06.BytesReads", spec := "bytesReads", apart := false }
def BytesReadsSaid : Prop := bytesReadsRow.holds Try.pinned (OpenSpec.ofChange bytesReadsSpec)

/-- ITS FALSE NEIGHBOUR: 'it returns false'. Refute it at one input. -/
def bytesReadsWrong : ChangeSpec := { name := "bytesReads", fn := fun _ => fun
  | [d1, d2] => { results := [.lit (.bool false)], args := [d1, d2] }
  | _ => none }
def BytesReadsWrongFalsely : Prop := bytesReadsRow.holds Try.pinned (OpenSpec.ofChange bytesReadsWrong)

/-- 'porticolaw06.BytesNone': WHATEVER THE INPUT: true; the input reads as it did. -/
def bytesNoneSpec : ChangeSpec := { name := "bytesNone", fn := fun _ => fun
  | [d] => { results := [.lit (.bool true)], args := [d] }
  | _ => none }
def bytesNoneRow : OpenClaim := { program := "ythdojhldiinkcaa", sum := "bcb90251a8c8b5500c89b88004d75234a1276a0836466412a7bd91372b586c4a", func := "portico/porticolaw06.BytesNone", spec := "bytesNone", apart := false }
def BytesNoneSaid : Prop := bytesNoneRow.holds Try.pinned (OpenSpec.ofChange bytesNoneSpec)

/-- ITS FALSE NEIGHBOUR: 'it returns false'. Refute it at one input. -/
def bytesNoneWrong : ChangeSpec := { name := "bytesNone", fn := fun _ => fun
  | [d] => { results := [.lit (.bool false)], args := [d] }
  | _ => none }
def BytesNoneWrongFalsely : Prop := bytesNoneRow.holds Try.pinned (OpenSpec.ofChange bytesNoneWrong)

/-- 'porticolaw06.BytesBack': WHATEVER THE INPUT: true; the input reads as it did. -/
def bytesBackSpec : ChangeSpec := { name := "bytesBack", fn := fun _ => fun
  | [d1, d2] => { results := [.lit (.bool true)], args := [d1, d2] }
  | _ => none }
def bytesBackRow : OpenClaim := { program := "ythdojhldiinkcaa", sum := "bcb90251a8c8b5500c89b88004d75234a1276a0836466412a7bd91372b586c4a", func := "portico/porticolaw06.BytesBack", spec := "bytesBack", apart := false }
def BytesBackSaid : Prop := bytesBackRow.holds Try.pinned (OpenSpec.ofChange bytesBackSpec)

/-- ITS FALSE NEIGHBOUR: 'it returns false'. Refute it at one input. -/
def bytesBackWrong : ChangeSpec := { name := "bytesBack", fn := fun _ => fun
  | [d1, d2] => { results := [.lit (.bool false)], args := [d1, d2] }
  | _ => none }
def BytesBackWrongFalsely : Prop := bytesBackRow.holds Try.pinned (OpenSpec.ofChange bytesBackWrong)

/-- 'porticolaw08.ElfParts': WHATEVER THE INPUT: true; the input reads as it did. -/
def elfPartsSpec : ChangeSpec := { name := "elfParts", fn := fun _ => fun
  | [d1, d2] => { results := [.lit (.bool true)], args := [d1, d2] }
  | _ => none }
def elfPartsRow : OpenClaim := { program := "ythdojhldiinkcaa", sum := "bcb90251a8c8b5500c89b88004d75234a1276a0836466412a7bd91372b586c4a", func := "portico/porticolaw08.ElfParts", spec := "elfParts", apart := false }
def ElfPartsSaid : Prop := elfPartsRow.holds Try.pinned (OpenSpec.ofChange elfPartsSpec)

/-- ITS FALSE NEIGHBOUR: 'it returns false'. Refute it at one input. -/
def elfPartsWrong : ChangeSpec := { name := "elfParts", fn := fun _ => fun
  | [d1, d2] => { results := [.lit (.bool false)], args := [d1, d2] }
  | _ => none }
def ElfPartsWrongFalsely : Prop := elfPartsRow.holds Try.pinned (OpenSpec.ofChange elfPartsWrong)

/-- 'porticolaw08.ElfReads': WHATEVER THE INPUT: true; the input reads as it did. -/
def elfReadsSpec : ChangeSpec := { name := "elfReads", fn := fun _ => fun
  | [d] => { results := [.lit (.bool true)], args := [d] }
  | _ => none }
def elfReadsRow : OpenClaim := { program := "ythdojhldiinkcaa", sum := "bcb90251a8c8b5500c89b88004d75234a1276a0836466412a7bd91372b586c4a", func := "portico/porticolaw08.ElfReads", spec := "elfReads", apart := false }
def ElfReadsSaid : Prop := elfReadsRow.holds Try.pinned (OpenSpec.ofChange elfReadsSpec)

/-- ITS FALSE NEIGHBOUR: 'it returns false'. Refute it at one input. -/
def elfReadsWrong : ChangeSpec := { name := "elfReads", fn := fun _ => fun
  | [d] => { results := [.lit (.bool false)], args := [d] }
  | _ => none }
def ElfReadsWrongFalsely : Prop := elfReadsRow.holds Try.pinned (OpenSpec.ofChange elfReadsWrong)

/-- 'porticolaw08.ElfSafe': WHATEVER THE INPUT: true; the input reads as it did. -/
def elfSafeSpec : ChangeSpec := { name := "elfSafe", fn := fun _ => fun
  | [d1, d2] => { results := [.lit (.bool true)], args := [d1, d2] }
  | _ => none }
def elfSafeRow : OpenClaim := { program := "ythdojhldiinkcaa", sum := "bcb90251a8c8b5500c89b88004d75234a1276a0836466412a7bd91372b586c4a", func := "portico/porticolaw08.ElfSafe", spec := "elfSafe", apart := false }
def ElfSafeSaid : Prop := elfSafeRow.holds Try.pinned (OpenSpec.ofChange elfSafeSpec)

/-- ITS FALSE NEIGHBOUR: 'it returns false'. Refute it at one input. -/
def elfSafeWrong : ChangeSpec := { name := "elfSafe", fn := fun _ => fun
  | [d1, d2] => { results := [.lit (.bool false)], args := [d1, d2] }
  | _ => none }
def ElfSafeWrongFalsely : Prop := elfSafeRow.holds Try.pinned (OpenSpec.ofChange elfSafeWrong)

/-- 'porticolaw08.ElfEnds': WHATEVER THE INPUT: true; the input reads as it did. -/
def elfEndsSpec : ChangeSpec := { name := "elfEnds", fn := fun _ => fun
  | [d1, d2] => { results := [.lit (.bool true)], args := [d1, d2] }
  | _ => none }
def elfEndsRow : OpenClaim := { program := "ythdojhldiinkcaa", sum := "bcb90251a8c8b5500c89b88004d75234a1276a0836466412a7bd91372b586c4a", func := "portico/porticolaw08.ElfEnds", spec := "elfEnds", apart := false }
def ElfEndsSaid : Prop := elfEndsRow.holds Try.pinned (OpenSpec.ofChange elfEndsSpec)

/-- ITS FALSE NEIGHBOUR: 'it returns false'. Refute it at one input. -/
def elfEndsWrong : ChangeSpec := { name := "elfEnds", fn := fun _ => fun
  | [d1, d2] => { results := [.lit (.bool false)], args := [d1, d2] }
  | _ => none }
def ElfEndsWrongFalsely : Prop := elfEndsRow.holds Try.pinned (OpenSpec.ofChange elfEndsWrong)

/-- 'porticolaw07.ManifestRights': WHATEVER THE INPUT: true; the input reads as it did. -/
def manifestRightsSpec : ChangeSpec := { name := "manifestRights", fn := fun _ => fun
  | [d] => { results := [.lit (.bool true)], args := [d] }
  | _ => none }
def manifestRightsRow : OpenClaim := { program := "ythdojhldiinkcaa", sum := "bcb90251a8c8b5500c89b88004d75234a1276a0836466412a7bd91372b586c4a", func := "portico/porticolaw07.ManifestRights", spec := "manifestRights", apart := false }
def ManifestRightsSaid : Prop := manifestRightsRow.holds Try.pinned (OpenSpec.ofChange manifestRightsSpec)

/-- ITS FALSE NEIGHBOUR: 'it returns false'. Refute it at one input. -/
def manifestRightsWrong : ChangeSpec := { name := "manifestRights", fn := fun _ => fun
  | [d] => { results := [.lit (.bool false)], args := [d] }
  | _ => none }
def ManifestRightsWrongFalsely : Prop := manifestRightsRow.holds Try.pinned (OpenSpec.ofChange manifestRightsWrong)

/-- 'porticolaw07.ManifestBack': WHATEVER THE INPUT: true; the input reads as it did. -/
def manifestBackSpec : ChangeSpec := { name := "manifestBack", fn := fun _ => fun
  | [d] => { results := [.lit (.bool true)], args := [d] }
  | _ => none }
def manifestBackRow : OpenClaim := { program := "ythdojhldiinkcaa", sum := "bcb90251a8c8b5500c89b88004d75234a1276a0836466412a7bd91372b586c4a", func := "portico/porticolaw07.ManifestBack", spec := "manifestBack", apart := false }
def ManifestBackSaid : Prop := manifestBackRow.holds Try.pinned (OpenSpec.ofChange manifestBackSpec)

/-- ITS FALSE NEIGHBOUR: 'it returns false'. Refute it at one input. -/
def manifestBackWrong : ChangeSpec := { name := "manifestBack", fn := fun _ => fun
  | [d] => { results := [.lit (.bool false)], args := [d] }
  | _ => none }
def ManifestBackWrongFalsely : Prop := manifestBackRow.holds Try.pinned (OpenSpec.ofChange manifestBackWrong)

/-- 'porticolaw07.ManifestDecodes': WHATEVER THE INPUT: true; the input reads as it did. -/
def manifestDecodesSpec : ChangeSpec := { name := "manifestDecodes", fn := fun _ => fun
  | [d] => { results := [.lit (.bool true)], args := [d] }
  | _ => none }
def manifestDecodesRow : OpenClaim := { program := "ythdojhldiinkcaa", sum := "bcb90251a8c8b5500c89b88004d75234a1276a0836466412a7bd91372b586c4a", func := "portico/porticolaw07.ManifestDecodes", spec := "manifestDecodes", apart := false }
def ManifestDecodesSaid : Prop := manifestDecodesRow.holds Try.pinned (OpenSpec.ofChange manifestDecodesSpec)

/-- ITS FALSE NEIGHBOUR: 'it returns false'. Refute it at one input. -/
def manifestDecodesWrong : ChangeSpec := { name := "manifestDecodes", fn := fun _ => fun
  | [d] => { results := [.lit (.bool false)], args := [d] }
  | _ => none }
def ManifestDecodesWrongFalsely : Prop := manifestDecodesRow.holds Try.pinned (OpenSpec.ofChange manifestDecodesWrong)

/- THE SECOND FORM. 'bulk': how many values and letters a reading holds, each counted each time it is reached (what is shared counts as often as it is met; a slice's spare places count too). A statement '..UptoSaid' is the law's where the arguments, and the package variables that the reading takes, are together of bulk at most 1048576: NARROWER than '..Said'. Prove '..Said' where nothing that the law and all that it calls make is longer than what came in: it says more and counts as full. Else prove '..UptoSaid'. A law counts once. -/
mutual
def uptoBulk {H : Type} : DataW H → Nat
  | .lit (.string bytes) => bytes.length + 1
  | .lit _ => 1
  | .nil => 1
  | .ptr d => uptoBulk d + 1
  | .slice elems spare => uptoBulkAll elems + uptoBulkAll spare + 1
  | .agg parts => uptoBulkAll parts + 1
  | .iface _ d => uptoBulk d + 1
  | .map entries => uptoBulkEntries entries + 1
  | .held _ => 1
def uptoBulkAll {H : Type} : List (DataW H) → Nat
  | [] => 0
  | d :: r => uptoBulk d + uptoBulkAll r
def uptoBulkEntries {H : Type} : List (Lit × DataW H) → Nat
  | [] => 0
  | x :: r => uptoBulkEntry x + uptoBulkEntries r
def uptoBulkEntry {H : Type} : Lit × DataW H → Nat
  | (.string bytes, d) => bytes.length + uptoBulk d + 1
  | (_, d) => uptoBulk d + 1
 end
def uptoSmall : (H : Type) → List (DataW H) → Bool := fun _ ds => decide (uptoBulkAll ds ≤ 1048576)
def OpenSpec.upto (s : _root_.Go.ChangeSpec) : _root_.Go.OpenSpec := { _root_.Go.OpenSpec.ofChange s with cond := some uptoSmall }

/-- 'porticolaw06.BytesPlaces', WHERE WHAT IT READS IS OF BULK AT MOST 1048576: true; the input reads as it did. -/
def bytesPlacesUptoRow : OpenClaim := { program := "ythdojhldiinkcaa", sum := "bcb90251a8c8b5500c89b88004d75234a1276a0836466412a7bd91372b586c4a", func := "portico/porticolaw06.BytesPlaces", spec := "bytesPlaces", apart := false, narrowed := true }
def BytesPlacesUptoSaid : Prop := bytesPlacesUptoRow.holds Try.pinned (OpenSpec.upto bytesPlacesSpec)

/-- 'porticolaw06.BytesReads', WHERE WHAT IT READS IS OF BULK AT MOST 1048576: true; the input reads as it did. -/
def bytesReadsUptoRow : OpenClaim := { program := "ythdojhldiinkcaa", sum := "bcb90251a8c8b5500c89b88004d75234a1276a0836466412a7bd91372b586c4a", func := "portico/porticolaw06.BytesReads", spec := "bytesReads", apart := false, narrowed := true }
def BytesReadsUptoSaid : Prop := bytesReadsUptoRow.holds Try.pinned (OpenSpec.upto bytesReadsSpec)

/-- 'porticolaw06.BytesNone', WHERE WHAT IT READS IS OF BULK AT MOST 1048576: true; the input reads as it did. -/
def bytesNoneUptoRow : OpenClaim := { program := "ythdojhldiinkcaa", sum := "bcb90251a8c8b5500c89b88004d75234a1276a0836466412a7bd91372b586c4a", func := "portico/porticolaw06.BytesNone", spec := "bytesNone", apart := false, narrowed := true }
def BytesNoneUptoSaid : Prop := bytesNoneUptoRow.holds Try.pinned (OpenSpec.upto bytesNoneSpec)

/-- 'porticolaw06.BytesBack', WHERE WHAT IT READS IS OF BULK AT MOST 1048576: true; the input reads as it did. -/
def bytesBackUptoRow : OpenClaim := { program := "ythdojhldiinkcaa", sum := "bcb90251a8c8b5500c89b88004d75234a1276a0836466412a7bd91372b586c4a", func := "portico/porticolaw06.BytesBack", spec := "bytesBack", apart := false, narrowed := true }
def BytesBackUptoSaid : Prop := bytesBackUptoRow.holds Try.pinned (OpenSpec.upto bytesBackSpec)

/-- 'porticolaw08.ElfParts', WHERE WHAT IT READS IS OF BULK AT MOST 1048576: true; the input reads as it did. -/
def elfPartsUptoRow : OpenClaim := { program := "ythdojhldiinkcaa", sum := "bcb90251a8c8b5500c89b88004d75234a1276a0836466412a7bd91372b586c4a", func := "portico/porticolaw08.ElfParts", spec := "elfParts", apart := false, narrowed := true }
def ElfPartsUptoSaid : Prop := elfPartsUptoRow.holds Try.pinned (OpenSpec.upto elfPartsSpec)

/-- 'porticolaw08.ElfReads', WHERE WHAT IT READS IS OF BULK AT MOST 1048576: true; the input reads as it did. -/
def elfReadsUptoRow : OpenClaim := { program := "ythdojhldiinkcaa", sum := "bcb90251a8c8b5500c89b88004d75234a1276a0836466412a7bd91372b586c4a", func := "portico/porticolaw08.ElfReads", spec := "elfReads", apart := false, narrowed := true }
def ElfReadsUptoSaid : Prop := elfReadsUptoRow.holds Try.pinned (OpenSpec.upto elfReadsSpec)

/-- 'porticolaw08.ElfSafe', WHERE WHAT IT READS IS OF BULK AT MOST 1048576: true; the input reads as it did. -/
def elfSafeUptoRow : OpenClaim := { program := "ythdojhldiinkcaa", sum := "bcb90251a8c8b5500c89b88004d75234a1276a0836466412a7bd91372b586c4a", func := "portico/porticolaw08.ElfSafe", spec := "elfSafe", apart := false, narrowed := true }
def ElfSafeUptoSaid : Prop := elfSafeUptoRow.holds Try.pinned (OpenSpec.upto elfSafeSpec)

/-- 'porticolaw08.ElfEnds', WHERE WHAT IT READS IS OF BULK AT MOST 1048576: true; the input reads as it did. -/
def elfEndsUptoRow : OpenClaim := { program := "ythdojhldiinkcaa", sum := "bcb90251a8c8b5500c89b88004d75234a1276a0836466412a7bd91372b586c4a", func := "portico/porticolaw08.ElfEnds", spec := "elfEnds", apart := false, narrowed := true }
def ElfEndsUptoSaid : Prop := elfEndsUptoRow.holds Try.pinned (OpenSpec.upto elfEndsSpec)

/-- 'porticolaw07.ManifestRights', WHERE WHAT IT READS IS OF BULK AT MOST 1048576: true; the input reads as it did. -/
def manifestRightsUptoRow : OpenClaim := { program := "ythdojhldiinkcaa", sum := "bcb90251a8c8b5500c89b88004d75234a1276a0836466412a7bd91372b586c4a", func := "portico/porticolaw07.ManifestRights", spec := "manifestRights", apart := false, narrowed := true }
def ManifestRightsUptoSaid : Prop := manifestRightsUptoRow.holds Try.pinned (OpenSpec.upto manifestRightsSpec)

/-- 'porticolaw07.ManifestBack', WHERE WHAT IT READS IS OF BULK AT MOST 1048576: true; the input reads as it did. -/
def manifestBackUptoRow : OpenClaim := { program := "ythdojhldiinkcaa", sum := "bcb90251a8c8b5500c89b88004d75234a1276a0836466412a7bd91372b586c4a", func := "portico/porticolaw07.ManifestBack", spec := "manifestBack", apart := false, narrowed := true }
def ManifestBackUptoSaid : Prop := manifestBackUptoRow.holds Try.pinned (OpenSpec.upto manifestBackSpec)

/-- 'porticolaw07.ManifestDecodes', WHERE WHAT IT READS IS OF BULK AT MOST 1048576: true; the input reads as it did. -/
def manifestDecodesUptoRow : OpenClaim := { program := "ythdojhldiinkcaa", sum := "bcb90251a8c8b5500c89b88004d75234a1276a0836466412a7bd91372b586c4a", func := "portico/porticolaw07.ManifestDecodes", spec := "manifestDecodes", apart := false, narrowed := true }
def ManifestDecodesUptoSaid : Prop := manifestDecodesUptoRow.holds Try.pinned (OpenSpec.upto manifestDecodesSpec)

end Rows
end Go.Proofs.Ythdojhldiinkcaa
