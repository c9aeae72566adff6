/-
  NARROWER THAN 'FOR EVERY INPUT', by the rows' own cells (each row's printed sentence says how): MonitorRound: laid · MonitorSkips: laid · MonitorAlone: laid · MonitorStays: laid · MonitorStates: laid · MonitorRuns: laid · MonitorNone: laid · SnapWrites: laid · SnapBack: laid · SnapReads: laid · SnapOthers: laid.
  DERIVED. THE GIVEN ROWS OF THIS SEAT. 11 by the template 'for every input the law returns true; each argument reads behind the call as it read before'; 0 by the template 'total and deterministic' (their statements: YtabbklpalbikdaaGreatDoorTotals.lean).
  GIVEN WITH THE SEED: the statements are not yours to turn. If you find one false, say at which input.
  Laid BY PROGRAM, IN A SANDBOX (cutbox-rows.mjs): the forced cells as the released guide's own fill.sh prints them over the translation 470d1c4d29629760… (all of the seat's roots in one cut). By AI agents, Wed Nov 11 2026. No macro, syntax, notation, axiom, sorry.
-/
import Derived.Test.YtabbklpalbikdaaGreatDoorChecked
import GoSem.Claim
import GoSem.ClaimJoined
import GoSem.ClaimMapViews
import Derived.JoinedTies
import Derived.KernelRfl
namespace Go.Proofs.YtabbklpalbikdaaGreatDoor
/- THE CELL 'sum', in the pinned program and in every row, IS THE sha256 OF THE DUMP (.gsa) THAT YtabbklpalbikdaaGreatDoorProg.lean LOADS. Nothing in Lean hashes anything: it is a label: what it is worth is what the hold of that sum in a sandbox is worth. -/
noncomputable def Tryz.pinned : Pinned := { name := "ytabbklpalbikdaagreatdoor", sum := "470d1c4d2962976099d1539bb7b210e5608edd765d7a9661b70cc5e74ddabc09", checked := Tryz.checked }
namespace Rows
def none {H : Type} : Left H := { results := [], args := [] }

/- WHAT THE LISTED PACKAGE-LEVEL VARIABLES READ AS WHEN THE CALL BEGINS. Each datum BY PROGRAM (the guide's laid-datum.mjs) off the statement by which the dump's own 'gosem.cut.vars' lays the variable. In a bare row this is a premise. The card (YtabbklpalbikdaaGreatDoorCards.lean) ties it to the program's text. -/
def laid_math_bits_deBruijn32tab {H : Type} : DataW H := .agg [.lit (.int .u8 0), .lit (.int .u8 1), .lit (.int .u8 28), .lit (.int .u8 2), .lit (.int .u8 29), .lit (.int .u8 14), .lit (.int .u8 24), .lit (.int .u8 3), .lit (.int .u8 30), .lit (.int .u8 22), .lit (.int .u8 20), .lit (.int .u8 15), .lit (.int .u8 25), .lit (.int .u8 17), .lit (.int .u8 4), .lit (.int .u8 8), .lit (.int .u8 31), .lit (.int .u8 27), .lit (.int .u8 13), .lit (.int .u8 23), .lit (.int .u8 21), .lit (.int .u8 19), .lit (.int .u8 16), .lit (.int .u8 7), .lit (.int .u8 26), .lit (.int .u8 12), .lit (.int .u8 18), .lit (.int .u8 6), .lit (.int .u8 11), .lit (.int .u8 5), .lit (.int .u8 10), .lit (.int .u8 9)]
def laid_portico_sha_adds {H : Type} : DataW H := .agg [.lit (.int .u32 1116352408), .lit (.int .u32 1899447441), .lit (.int .u32 3049323471), .lit (.int .u32 3921009573), .lit (.int .u32 961987163), .lit (.int .u32 1508970993), .lit (.int .u32 2453635748), .lit (.int .u32 2870763221), .lit (.int .u32 3624381080), .lit (.int .u32 310598401), .lit (.int .u32 607225278), .lit (.int .u32 1426881987), .lit (.int .u32 1925078388), .lit (.int .u32 2162078206), .lit (.int .u32 2614888103), .lit (.int .u32 3248222580), .lit (.int .u32 3835390401), .lit (.int .u32 4022224774), .lit (.int .u32 264347078), .lit (.int .u32 604807628), .lit (.int .u32 770255983), .lit (.int .u32 1249150122), .lit (.int .u32 1555081692), .lit (.int .u32 1996064986), .lit (.int .u32 2554220882), .lit (.int .u32 2821834349), .lit (.int .u32 2952996808), .lit (.int .u32 3210313671), .lit (.int .u32 3336571891), .lit (.int .u32 3584528711), .lit (.int .u32 113926993), .lit (.int .u32 338241895), .lit (.int .u32 666307205), .lit (.int .u32 773529912), .lit (.int .u32 1294757372), .lit (.int .u32 1396182291), .lit (.int .u32 1695183700), .lit (.int .u32 1986661051), .lit (.int .u32 2177026350), .lit (.int .u32 2456956037), .lit (.int .u32 2730485921), .lit (.int .u32 2820302411), .lit (.int .u32 3259730800), .lit (.int .u32 3345764771), .lit (.int .u32 3516065817), .lit (.int .u32 3600352804), .lit (.int .u32 4094571909), .lit (.int .u32 275423344), .lit (.int .u32 430227734), .lit (.int .u32 506948616), .lit (.int .u32 659060556), .lit (.int .u32 883997877), .lit (.int .u32 958139571), .lit (.int .u32 1322822218), .lit (.int .u32 1537002063), .lit (.int .u32 1747873779), .lit (.int .u32 1955562222), .lit (.int .u32 2024104815), .lit (.int .u32 2227730452), .lit (.int .u32 2361852424), .lit (.int .u32 2428436474), .lit (.int .u32 2756734187), .lit (.int .u32 3204031479), .lit (.int .u32 3329325298)]

/-- 'porticolaw26.MonitorRound': WHATEVER THE INPUT: true; the input reads as it did. -/
def monitorRoundSpec : ChangeSpec := { name := "monitorRound", fn := fun _ => fun
  | [d1, d2] => { results := [.lit (.bool true)], args := [d1, d2] }
  | _ => none }
def monitorRoundRow : OpenClaim := { program := "ytabbklpalbikdaagreatdoor", sum := "470d1c4d2962976099d1539bb7b210e5608edd765d7a9661b70cc5e74ddabc09", func := "portico/porticolaw26.MonitorRound", spec := "monitorRound", named := ["math/bits.deBruijn32tab"], apart := false, laid := [("math/bits.deBruijn32tab", laid_math_bits_deBruijn32tab)] }
def MonitorRoundSaid : Prop := monitorRoundRow.holds Tryz.pinned (OpenSpec.ofChange monitorRoundSpec)

/-- ITS FALSE NEIGHBOUR: 'it returns false'. Refute it at one input. -/
def monitorRoundWrong : ChangeSpec := { name := "monitorRound", fn := fun _ => fun
  | [d1, d2] => { results := [.lit (.bool false)], args := [d1, d2] }
  | _ => none }
def MonitorRoundWrongFalsely : Prop := monitorRoundRow.holds Tryz.pinned (OpenSpec.ofChange monitorRoundWrong)

/-- 'porticolaw26.MonitorSkips': WHATEVER THE INPUT: true; the input reads as it did. -/
def monitorSkipsSpec : ChangeSpec := { name := "monitorSkips", fn := fun _ => fun
  | [d1, d2, d3] => { results := [.lit (.bool true)], args := [d1, d2, d3] }
  | _ => none }
def monitorSkipsRow : OpenClaim := { program := "ytabbklpalbikdaagreatdoor", sum := "470d1c4d2962976099d1539bb7b210e5608edd765d7a9661b70cc5e74ddabc09", func := "portico/porticolaw26.MonitorSkips", spec := "monitorSkips", named := ["math/bits.deBruijn32tab"], apart := false, laid := [("math/bits.deBruijn32tab", laid_math_bits_deBruijn32tab)] }
def MonitorSkipsSaid : Prop := monitorSkipsRow.holds Tryz.pinned (OpenSpec.ofChange monitorSkipsSpec)

/-- ITS FALSE NEIGHBOUR: 'it returns false'. Refute it at one input. -/
def monitorSkipsWrong : ChangeSpec := { name := "monitorSkips", fn := fun _ => fun
  | [d1, d2, d3] => { results := [.lit (.bool false)], args := [d1, d2, d3] }
  | _ => none }
def MonitorSkipsWrongFalsely : Prop := monitorSkipsRow.holds Tryz.pinned (OpenSpec.ofChange monitorSkipsWrong)

/-- 'porticolaw26.MonitorAlone': WHATEVER THE INPUT: true; the input reads as it did. -/
def monitorAloneSpec : ChangeSpec := { name := "monitorAlone", fn := fun _ => fun
  | [d1, d2, d3] => { results := [.lit (.bool true)], args := [d1, d2, d3] }
  | _ => none }
def monitorAloneRow : OpenClaim := { program := "ytabbklpalbikdaagreatdoor", sum := "470d1c4d2962976099d1539bb7b210e5608edd765d7a9661b70cc5e74ddabc09", func := "portico/porticolaw26.MonitorAlone", spec := "monitorAlone", named := ["math/bits.deBruijn32tab"], apart := false, laid := [("math/bits.deBruijn32tab", laid_math_bits_deBruijn32tab)] }
def MonitorAloneSaid : Prop := monitorAloneRow.holds Tryz.pinned (OpenSpec.ofChange monitorAloneSpec)

/-- ITS FALSE NEIGHBOUR: 'it returns false'. Refute it at one input. -/
def monitorAloneWrong : ChangeSpec := { name := "monitorAlone", fn := fun _ => fun
  | [d1, d2, d3] => { results := [.lit (.bool false)], args := [d1, d2, d3] }
  | _ => none }
def MonitorAloneWrongFalsely : Prop := monitorAloneRow.holds Tryz.pinned (OpenSpec.ofChange monitorAloneWrong)

/-- 'porticolaw26.MonitorStays': WHATEVER THE INPUT: true; the input reads as it did. -/
def monitorStaysSpec : ChangeSpec := { name := "monitorStays", fn := fun _ => fun
  | [d1, d2] => { results := [.lit (.bool true)], args := [d1, d2] }
  | _ => none }
def monitorStaysRow : OpenClaim := { program := "ytabbklpalbikdaagreatdoor", sum := "470d1c4d2962976099d1539bb7b210e5608edd765d7a9661b70cc5e74ddabc09", func := "portico/porticolaw26.MonitorStays", spec := "monitorStays", named := ["math/bits.deBruijn32tab"], apart := false, laid := [("math/bits.deBruijn32tab", laid_math_bits_deBruijn32tab)] }
def MonitorStaysSaid : Prop := monitorStaysRow.holds Tryz.pinned (OpenSpec.ofChange monitorStaysSpec)

/-- ITS FALSE NEIGHBOUR: 'it returns false'. Refute it at one input. -/
def monitorStaysWrong : ChangeSpec := { name := "monitorStays", fn := fun _ => fun
  | [d1, d2] => { results := [.lit (.bool false)], args := [d1, d2] }
  | _ => none }
def MonitorStaysWrongFalsely : Prop := monitorStaysRow.holds Tryz.pinned (OpenSpec.ofChange monitorStaysWrong)

/-- 'porticolaw26.MonitorStates': WHATEVER THE INPUT: true; the input reads as it did. -/
def monitorStatesSpec : ChangeSpec := { name := "monitorStates", fn := fun _ => fun
  | [d1, d2, d3] => { results := [.lit (.bool true)], args := [d1, d2, d3] }
  | _ => none }
def monitorStatesRow : OpenClaim := { program := "ytabbklpalbikdaagreatdoor", sum := "470d1c4d2962976099d1539bb7b210e5608edd765d7a9661b70cc5e74ddabc09", func := "portico/porticolaw26.MonitorStates", spec := "monitorStates", named := ["math/bits.deBruijn32tab"], apart := false, laid := [("math/bits.deBruijn32tab", laid_math_bits_deBruijn32tab)] }
def MonitorStatesSaid : Prop := monitorStatesRow.holds Tryz.pinned (OpenSpec.ofChange monitorStatesSpec)

/-- ITS FALSE NEIGHBOUR: 'it returns false'. Refute it at one input. -/
def monitorStatesWrong : ChangeSpec := { name := "monitorStates", fn := fun _ => fun
  | [d1, d2, d3] => { results := [.lit (.bool false)], args := [d1, d2, d3] }
  | _ => none }
def MonitorStatesWrongFalsely : Prop := monitorStatesRow.holds Tryz.pinned (OpenSpec.ofChange monitorStatesWrong)

/-- 'porticolaw26.MonitorRuns': WHATEVER THE INPUT: true; the input reads as it did. -/
def monitorRunsSpec : ChangeSpec := { name := "monitorRuns", fn := fun _ => fun
  | [d1, d2, d3] => { results := [.lit (.bool true)], args := [d1, d2, d3] }
  | _ => none }
def monitorRunsRow : OpenClaim := { program := "ytabbklpalbikdaagreatdoor", sum := "470d1c4d2962976099d1539bb7b210e5608edd765d7a9661b70cc5e74ddabc09", func := "portico/porticolaw26.MonitorRuns", spec := "monitorRuns", named := ["math/bits.deBruijn32tab"], apart := false, laid := [("math/bits.deBruijn32tab", laid_math_bits_deBruijn32tab)] }
def MonitorRunsSaid : Prop := monitorRunsRow.holds Tryz.pinned (OpenSpec.ofChange monitorRunsSpec)

/-- ITS FALSE NEIGHBOUR: 'it returns false'. Refute it at one input. -/
def monitorRunsWrong : ChangeSpec := { name := "monitorRuns", fn := fun _ => fun
  | [d1, d2, d3] => { results := [.lit (.bool false)], args := [d1, d2, d3] }
  | _ => none }
def MonitorRunsWrongFalsely : Prop := monitorRunsRow.holds Tryz.pinned (OpenSpec.ofChange monitorRunsWrong)

/-- 'porticolaw26.MonitorNone': WHATEVER THE INPUT: true; the input reads as it did. -/
def monitorNoneSpec : ChangeSpec := { name := "monitorNone", fn := fun _ => fun
  | [d1, d2] => { results := [.lit (.bool true)], args := [d1, d2] }
  | _ => none }
def monitorNoneRow : OpenClaim := { program := "ytabbklpalbikdaagreatdoor", sum := "470d1c4d2962976099d1539bb7b210e5608edd765d7a9661b70cc5e74ddabc09", func := "portico/porticolaw26.MonitorNone", spec := "monitorNone", named := ["math/bits.deBruijn32tab"], apart := false, laid := [("math/bits.deBruijn32tab", laid_math_bits_deBruijn32tab)] }
def MonitorNoneSaid : Prop := monitorNoneRow.holds Tryz.pinned (OpenSpec.ofChange monitorNoneSpec)

/-- ITS FALSE NEIGHBOUR: 'it returns false'. Refute it at one input. -/
def monitorNoneWrong : ChangeSpec := { name := "monitorNone", fn := fun _ => fun
  | [d1, d2] => { results := [.lit (.bool false)], args := [d1, d2] }
  | _ => none }
def MonitorNoneWrongFalsely : Prop := monitorNoneRow.holds Tryz.pinned (OpenSpec.ofChange monitorNoneWrong)

/-- 'porticolaw27.SnapWrites': WHATEVER THE INPUT: true; the input reads as it did. -/
def snapWritesSpec : ChangeSpec := { name := "snapWrites", fn := fun _ => fun
  | [d1, d2, d3] => { results := [.lit (.bool true)], args := [d1, d2, d3] }
  | _ => none }
def snapWritesRow : OpenClaim := { program := "ytabbklpalbikdaagreatdoor", sum := "470d1c4d2962976099d1539bb7b210e5608edd765d7a9661b70cc5e74ddabc09", func := "portico/porticolaw27.SnapWrites", spec := "snapWrites", unfollowed := true, recurses := true, named := ["math/bits.deBruijn32tab", "portico/sha.adds"], apart := false, laid := [("math/bits.deBruijn32tab", laid_math_bits_deBruijn32tab), ("portico/sha.adds", laid_portico_sha_adds)] }
def SnapWritesSaid : Prop := snapWritesRow.holds Tryz.pinned (OpenSpec.ofChange snapWritesSpec)

/-- ITS FALSE NEIGHBOUR: 'it returns false'. Refute it at one input. -/
def snapWritesWrong : ChangeSpec := { name := "snapWrites", fn := fun _ => fun
  | [d1, d2, d3] => { results := [.lit (.bool false)], args := [d1, d2, d3] }
  | _ => none }
def SnapWritesWrongFalsely : Prop := snapWritesRow.holds Tryz.pinned (OpenSpec.ofChange snapWritesWrong)

/-- 'porticolaw27.SnapBack': WHATEVER THE INPUT: true; the input reads as it did. -/
def snapBackSpec : ChangeSpec := { name := "snapBack", fn := fun _ => fun
  | [d1, d2, d3] => { results := [.lit (.bool true)], args := [d1, d2, d3] }
  | _ => none }
def snapBackRow : OpenClaim := { program := "ytabbklpalbikdaagreatdoor", sum := "470d1c4d2962976099d1539bb7b210e5608edd765d7a9661b70cc5e74ddabc09", func := "portico/porticolaw27.SnapBack", spec := "snapBack", unfollowed := true, recurses := true, named := ["math/bits.deBruijn32tab", "portico/sha.adds"], apart := false, laid := [("math/bits.deBruijn32tab", laid_math_bits_deBruijn32tab), ("portico/sha.adds", laid_portico_sha_adds)] }
def SnapBackSaid : Prop := snapBackRow.holds Tryz.pinned (OpenSpec.ofChange snapBackSpec)

/-- ITS FALSE NEIGHBOUR: 'it returns false'. Refute it at one input. -/
def snapBackWrong : ChangeSpec := { name := "snapBack", fn := fun _ => fun
  | [d1, d2, d3] => { results := [.lit (.bool false)], args := [d1, d2, d3] }
  | _ => none }
def SnapBackWrongFalsely : Prop := snapBackRow.holds Tryz.pinned (OpenSpec.ofChange snapBackWrong)

/-- 'porticolaw27.SnapReads': WHATEVER THE INPUT: true; the input reads as it did. -/
def snapReadsSpec : ChangeSpec := { name := "snapReads", fn := fun _ => fun
  | [d1, d2, d3] => { results := [.lit (.bool true)], args := [d1, d2, d3] }
  | _ => none }
def snapReadsRow : OpenClaim := { program := "ytabbklpalbikdaagreatdoor", sum := "470d1c4d2962976099d1539bb7b210e5608edd765d7a9661b70cc5e74ddabc09", func := "portico/porticolaw27.SnapReads", spec := "snapReads", unfollowed := true, recurses := true, named := ["math/bits.deBruijn32tab", "portico/sha.adds"], apart := false, laid := [("math/bits.deBruijn32tab", laid_math_bits_deBruijn32tab), ("portico/sha.adds", laid_portico_sha_adds)] }
def SnapReadsSaid : Prop := snapReadsRow.holds Tryz.pinned (OpenSpec.ofChange snapReadsSpec)

/-- ITS FALSE NEIGHBOUR: 'it returns false'. Refute it at one input. -/
def snapReadsWrong : ChangeSpec := { name := "snapReads", fn := fun _ => fun
  | [d1, d2, d3] => { results := [.lit (.bool false)], args := [d1, d2, d3] }
  | _ => none }
def SnapReadsWrongFalsely : Prop := snapReadsRow.holds Tryz.pinned (OpenSpec.ofChange snapReadsWrong)

/-- 'porticolaw27.SnapOthers': WHATEVER THE INPUT: true; the input reads as it did. -/
def snapOthersSpec : ChangeSpec := { name := "snapOthers", fn := fun _ => fun
  | [d1, d2, d3] => { results := [.lit (.bool true)], args := [d1, d2, d3] }
  | _ => none }
def snapOthersRow : OpenClaim := { program := "ytabbklpalbikdaagreatdoor", sum := "470d1c4d2962976099d1539bb7b210e5608edd765d7a9661b70cc5e74ddabc09", func := "portico/porticolaw27.SnapOthers", spec := "snapOthers", unfollowed := true, recurses := true, named := ["math/bits.deBruijn32tab", "portico/sha.adds"], apart := false, laid := [("math/bits.deBruijn32tab", laid_math_bits_deBruijn32tab), ("portico/sha.adds", laid_portico_sha_adds)] }
def SnapOthersSaid : Prop := snapOthersRow.holds Tryz.pinned (OpenSpec.ofChange snapOthersSpec)

/-- ITS FALSE NEIGHBOUR: 'it returns false'. Refute it at one input. -/
def snapOthersWrong : ChangeSpec := { name := "snapOthers", fn := fun _ => fun
  | [d1, d2, d3] => { results := [.lit (.bool false)], args := [d1, d2, d3] }
  | _ => none }
def SnapOthersWrongFalsely : Prop := snapOthersRow.holds Tryz.pinned (OpenSpec.ofChange snapOthersWrong)

/- THE SECOND FORM. 'bulk': how many values and letters a reading holds, each counted each time it is reached (what is shared counts as often as it is met; a slice's spare places count too). A statement '..UptoSaid' is the law's where the arguments, and the package variables that the reading takes, are together of bulk at most 1048576: NARROWER than '..Said'. Prove '..Said' where nothing that the law and all that it calls make is longer than what came in: it says more and counts as full. Else prove '..UptoSaid'. A law counts once. -/
mutual
def uptoBulk {H : Type} : DataW H → Nat
  | .lit (.string bytes) => bytes.length + 1
  | .lit _ => 1
  | .nil => 1
  | .ptr d => uptoBulk d + 1
  | .slice elems spare => uptoBulkAll elems + uptoBulkAll spare + 1
  | .agg parts => uptoBulkAll parts + 1
  | .iface _ d => uptoBulk d + 1
  | .map entries => uptoBulkEntries entries + 1
  | .held _ => 1
def uptoBulkAll {H : Type} : List (DataW H) → Nat
  | [] => 0
  | d :: r => uptoBulk d + uptoBulkAll r
def uptoBulkEntries {H : Type} : List (Lit × DataW H) → Nat
  | [] => 0
  | x :: r => uptoBulkEntry x + uptoBulkEntries r
def uptoBulkEntry {H : Type} : Lit × DataW H → Nat
  | (.string bytes, d) => bytes.length + uptoBulk d + 1
  | (_, d) => uptoBulk d + 1
 end
def uptoSmall : (H : Type) → List (DataW H) → Bool := fun _ ds => decide (uptoBulkAll ds ≤ 1048576)
def OpenSpec.upto (s : _root_.Go.ChangeSpec) : _root_.Go.OpenSpec := { _root_.Go.OpenSpec.ofChange s with cond := some uptoSmall }

/-- 'porticolaw26.MonitorRound', WHERE WHAT IT READS IS OF BULK AT MOST 1048576: true; the input reads as it did. -/
def monitorRoundUptoRow : OpenClaim := { program := "ytabbklpalbikdaagreatdoor", sum := "470d1c4d2962976099d1539bb7b210e5608edd765d7a9661b70cc5e74ddabc09", func := "portico/porticolaw26.MonitorRound", spec := "monitorRound", named := ["math/bits.deBruijn32tab"], apart := false, laid := [("math/bits.deBruijn32tab", laid_math_bits_deBruijn32tab)], narrowed := true }
def MonitorRoundUptoSaid : Prop := monitorRoundUptoRow.holds Tryz.pinned (OpenSpec.upto monitorRoundSpec)

/-- 'porticolaw26.MonitorSkips', WHERE WHAT IT READS IS OF BULK AT MOST 1048576: true; the input reads as it did. -/
def monitorSkipsUptoRow : OpenClaim := { program := "ytabbklpalbikdaagreatdoor", sum := "470d1c4d2962976099d1539bb7b210e5608edd765d7a9661b70cc5e74ddabc09", func := "portico/porticolaw26.MonitorSkips", spec := "monitorSkips", named := ["math/bits.deBruijn32tab"], apart := false, laid := [("math/bits.deBruijn32tab", laid_math_bits_deBruijn32tab)], narrowed := true }
def MonitorSkipsUptoSaid : Prop := monitorSkipsUptoRow.holds Tryz.pinned (OpenSpec.upto monitorSkipsSpec)

/-- 'porticolaw26.MonitorAlone', WHERE WHAT IT READS IS OF BULK AT MOST 1048576: true; the input reads as it did. -/
def monitorAloneUptoRow : OpenClaim := { program := "ytabbklpalbikdaagreatdoor", sum := "470d1c4d2962976099d1539bb7b210e5608edd765d7a9661b70cc5e74ddabc09", func := "portico/porticolaw26.MonitorAlone", spec := "monitorAlone", named := ["math/bits.deBruijn32tab"], apart := false, laid := [("math/bits.deBruijn32tab", laid_math_bits_deBruijn32tab)], narrowed := true }
def MonitorAloneUptoSaid : Prop := monitorAloneUptoRow.holds Tryz.pinned (OpenSpec.upto monitorAloneSpec)

/-- 'porticolaw26.MonitorStays', WHERE WHAT IT READS IS OF BULK AT MOST 1048576: true; the input reads as it did. -/
def monitorStaysUptoRow : OpenClaim := { program := "ytabbklpalbikdaagreatdoor", sum := "470d1c4d2962976099d1539bb7b210e5608edd765d7a9661b70cc5e74ddabc09", func := "portico/porticolaw26.MonitorStays", spec := "monitorStays", named := ["math/bits.deBruijn32tab"], apart := false, laid := [("math/bits.deBruijn32tab", laid_math_bits_deBruijn32tab)], narrowed := true }
def MonitorStaysUptoSaid : Prop := monitorStaysUptoRow.holds Tryz.pinned (OpenSpec.upto monitorStaysSpec)

/-- 'porticolaw26.MonitorStates', WHERE WHAT IT READS IS OF BULK AT MOST 1048576: true; the input reads as it did. -/
def monitorStatesUptoRow : OpenClaim := { program := "ytabbklpalbikdaagreatdoor", sum := "470d1c4d2962976099d1539bb7b210e5608edd765d7a9661b70cc5e74ddabc09", func := "portico/porticolaw26.MonitorStates", spec := "monitorStates", named := ["math/bits.deBruijn32tab"], apart := false, laid := [("math/bits.deBruijn32tab", laid_math_bits_deBruijn32tab)], narrowed := true }
def MonitorStatesUptoSaid : Prop := monitorStatesUptoRow.holds Tryz.pinned (OpenSpec.upto monitorStatesSpec)

/-- 'porticolaw26.MonitorRuns', WHERE WHAT IT READS IS OF BULK AT MOST 1048576: true; the input reads as it did. -/
def monitorRunsUptoRow : OpenClaim := { program := "ytabbklpalbikdaagreatdoor", sum := "470d1c4d2962976099d1539bb7b210e5608edd765d7a9661b70cc5e74ddabc09", func := "portico/porticolaw26.MonitorRuns", spec := "monitorRuns", named := ["math/bits.deBruijn32tab"], apart := false, laid := [("math/bits.deBruijn32tab", laid_math_bits_deBruijn32tab)], narrowed := true }
def MonitorRunsUptoSaid : Prop := monitorRunsUptoRow.holds Tryz.pinned (OpenSpec.upto monitorRunsSpec)

/-- 'porticolaw26.MonitorNone', WHERE WHAT IT READS IS OF BULK AT MOST 1048576: true; the input reads as it did. -/
def monitorNoneUptoRow : OpenClaim := { program := "ytabbklpalbikdaagreatdoor", sum := "470d1c4d2962976099d1539bb7b210e5608edd765d7a9661b70cc5e74ddabc09", func := "portico/porticolaw26.MonitorNone", spec := "monitorNone", named := ["math/bits.deBruijn32tab"], apart := false, laid := [("math/bits.deBruijn32tab", laid_math_bits_deBruijn32tab)], narrowed := true }
def MonitorNoneUptoSaid : Prop := monitorNoneUptoRow.holds Tryz.pinned (OpenSpec.upto monitorNoneSpec)

/-- 'porticolaw27.SnapWrites', WHERE WHAT IT READS IS OF BULK AT MOST 1048576: true; the input reads as it did. -/
def snapWritesUptoRow : OpenClaim := { program := "ytabbklpalbikdaagreatdoor", sum := "470d1c4d2962976099d1539bb7b210e5608edd765d7a9661b70cc5e74ddabc09", func := "portico/porticolaw27.SnapWrites", spec := "snapWrites", unfollowed := true, recurses := true, named := ["math/bits.deBruijn32tab", "portico/sha.adds"], apart := false, laid := [("math/bits.deBruijn32tab", laid_math_bits_deBruijn32tab), ("portico/sha.adds", laid_portico_sha_adds)], narrowed := true }
def SnapWritesUptoSaid : Prop := snapWritesUptoRow.holds Tryz.pinned (OpenSpec.upto snapWritesSpec)

/-- 'porticolaw27.SnapBack', WHERE WHAT IT READS IS OF BULK AT MOST 1048576: true; the input reads as it did. -/
def snapBackUptoRow : OpenClaim := { program := "ytabbklpalbikdaagreatdoor", sum := "470d1c4d2962976099d1539bb7b210e5608edd765d7a9661b70cc5e74ddabc09", func := "portico/porticolaw27.SnapBack", spec := "snapBack", unfollowed := true, recurses := true, named := ["math/bits.deBruijn32tab", "portico/sha.adds"], apart := false, laid := [("math/bits.deBruijn32tab", laid_math_bits_deBruijn32tab), ("portico/sha.adds", laid_portico_sha_adds)], narrowed := true }
def SnapBackUptoSaid : Prop := snapBackUptoRow.holds Tryz.pinned (OpenSpec.upto snapBackSpec)

/-- 'porticolaw27.SnapReads', WHERE WHAT IT READS IS OF BULK AT MOST 1048576: true; the input reads as it did. -/
def snapReadsUptoRow : OpenClaim := { program := "ytabbklpalbikdaagreatdoor", sum := "470d1c4d2962976099d1539bb7b210e5608edd765d7a9661b70cc5e74ddabc09", func := "portico/porticolaw27.SnapReads", spec := "snapReads", unfollowed := true, recurses := true, named := ["math/bits.deBruijn32tab", "portico/sha.adds"], apart := false, laid := [("math/bits.deBruijn32tab", laid_math_bits_deBruijn32tab), ("portico/sha.adds", laid_portico_sha_adds)], narrowed := true }
def SnapReadsUptoSaid : Prop := snapReadsUptoRow.holds Tryz.pinned (OpenSpec.upto snapReadsSpec)

/-- 'porticolaw27.SnapOthers', WHERE WHAT IT READS IS OF BULK AT MOST 1048576: true; the input reads as it did. -/
def snapOthersUptoRow : OpenClaim := { program := "ytabbklpalbikdaagreatdoor", sum := "470d1c4d2962976099d1539bb7b210e5608edd765d7a9661b70cc5e74ddabc09", func := "portico/porticolaw27.SnapOthers", spec := "snapOthers", unfollowed := true, recurses := true, named := ["math/bits.deBruijn32tab", "portico/sha.adds"], apart := false, laid := [("math/bits.deBruijn32tab", laid_math_bits_deBruijn32tab), ("portico/sha.adds", laid_portico_sha_adds)], narrowed := true }
def SnapOthersUptoSaid : Prop := snapOthersUptoRow.holds Tryz.pinned (OpenSpec.upto snapOthersSpec)

end Rows
end Go.Proofs.YtabbklpalbikdaaGreatDoor
