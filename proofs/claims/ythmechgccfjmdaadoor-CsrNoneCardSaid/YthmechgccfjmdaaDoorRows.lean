/-
  NARROWER THAN 'FOR EVERY INPUT', by the rows' own cells (each row's printed sentence says how): CsrBack: laid · CsrNone: laid · HartNone: laid.
  DERIVED. THE GIVEN ROWS OF THIS SEAT. 3 by the template 'for every input the law returns true; each argument reads behind the call as it read before'; 0 by the template 'total and deterministic' (their statements: YthmechgccfjmdaaDoorTotals.lean).
  GIVEN WITH THE SEED: the statements are not yours to turn. If you find one false, say at which input.
  Laid BY PROGRAM, IN A SANDBOX (cutbox-rows.mjs): the forced cells as the released guide's own fill.sh prints them over the translation 973cbe5833b6a439… (all of the seat's roots in one cut). By AI agents, Wed Nov 11 2026. No macro, syntax, notation, axiom, sorry.
-/
import Derived.Test.YthmechgccfjmdaaDoorChecked
import GoSem.Claim
import GoSem.ClaimJoined
import GoSem.ClaimMapViews
import Derived.JoinedTies
import Derived.KernelRfl
namespace Go.Proofs.YthmechgccfjmdaaDoor
/- THE CELL 'sum', in the pinned program and in every row, IS THE sha256 OF THE DUMP (.gsa) THAT YthmechgccfjmdaaDoorProg.lean LOADS. Nothing in Lean hashes anything: it is a label: what it is worth is what the hold of that sum in a sandbox is worth. -/
noncomputable def Tryd.pinned : Pinned := { name := "ythmechgccfjmdaadoor", sum := "973cbe5833b6a439651cec510503f0ab021f2ec1fb37bddc2e1cc0a3e81e228e", checked := Tryd.checked }
namespace Rows
def none {H : Type} : Left H := { results := [], args := [] }

/- WHAT THE LISTED PACKAGE-LEVEL VARIABLES READ AS WHEN THE CALL BEGINS. Each datum BY PROGRAM (the guide's laid-datum.mjs) off the statement by which the dump's own 'gosem.cut.vars' lays the variable. In a bare row this is a premise. The card (YthmechgccfjmdaaDoorCards.lean) ties it to the program's text. -/
def laid_math_bits_deBruijn32tab {H : Type} : DataW H := .agg [.lit (.int .u8 0), .lit (.int .u8 1), .lit (.int .u8 28), .lit (.int .u8 2), .lit (.int .u8 29), .lit (.int .u8 14), .lit (.int .u8 24), .lit (.int .u8 3), .lit (.int .u8 30), .lit (.int .u8 22), .lit (.int .u8 20), .lit (.int .u8 15), .lit (.int .u8 25), .lit (.int .u8 17), .lit (.int .u8 4), .lit (.int .u8 8), .lit (.int .u8 31), .lit (.int .u8 27), .lit (.int .u8 13), .lit (.int .u8 23), .lit (.int .u8 21), .lit (.int .u8 19), .lit (.int .u8 16), .lit (.int .u8 7), .lit (.int .u8 26), .lit (.int .u8 12), .lit (.int .u8 18), .lit (.int .u8 6), .lit (.int .u8 11), .lit (.int .u8 5), .lit (.int .u8 10), .lit (.int .u8 9)]

/-- 'porticolaw15.CsrBack': WHATEVER THE INPUT: true; the input reads as it did. -/
def csrBackSpec : ChangeSpec := { name := "csrBack", fn := fun _ => fun
  | [d1, d2, d3] => { results := [.lit (.bool true)], args := [d1, d2, d3] }
  | _ => none }
def csrBackRow : OpenClaim := { program := "ythmechgccfjmdaadoor", sum := "973cbe5833b6a439651cec510503f0ab021f2ec1fb37bddc2e1cc0a3e81e228e", func := "portico/porticolaw15.CsrBack", spec := "csrBack", named := ["math/bits.deBruijn32tab"], apart := false, laid := [("math/bits.deBruijn32tab", laid_math_bits_deBruijn32tab)] }
def CsrBackSaid : Prop := csrBackRow.holds Tryd.pinned (OpenSpec.ofChange csrBackSpec)

/-- ITS FALSE NEIGHBOUR: 'it returns false'. Refute it at one input. -/
def csrBackWrong : ChangeSpec := { name := "csrBack", fn := fun _ => fun
  | [d1, d2, d3] => { results := [.lit (.bool false)], args := [d1, d2, d3] }
  | _ => none }
def CsrBackWrongFalsely : Prop := csrBackRow.holds Tryd.pinned (OpenSpec.ofChange csrBackWrong)

/-- 'porticolaw15.CsrNone': WHATEVER THE INPUT: true; the input reads as it did. -/
def csrNoneSpec : ChangeSpec := { name := "csrNone", fn := fun _ => fun
  | [d1, d2, d3] => { results := [.lit (.bool true)], args := [d1, d2, d3] }
  | _ => none }
def csrNoneRow : OpenClaim := { program := "ythmechgccfjmdaadoor", sum := "973cbe5833b6a439651cec510503f0ab021f2ec1fb37bddc2e1cc0a3e81e228e", func := "portico/porticolaw15.CsrNone", spec := "csrNone", named := ["math/bits.deBruijn32tab"], apart := false, laid := [("math/bits.deBruijn32tab", laid_math_bits_deBruijn32tab)] }
def CsrNoneSaid : Prop := csrNoneRow.holds Tryd.pinned (OpenSpec.ofChange csrNoneSpec)

/-- ITS FALSE NEIGHBOUR: 'it returns false'. Refute it at one input. -/
def csrNoneWrong : ChangeSpec := { name := "csrNone", fn := fun _ => fun
  | [d1, d2, d3] => { results := [.lit (.bool false)], args := [d1, d2, d3] }
  | _ => none }
def CsrNoneWrongFalsely : Prop := csrNoneRow.holds Tryd.pinned (OpenSpec.ofChange csrNoneWrong)

/-- 'porticolaw16.HartNone': WHATEVER THE INPUT: true; the input reads as it did. -/
def hartNoneSpec : ChangeSpec := { name := "hartNone", fn := fun _ => fun
  | [d] => { results := [.lit (.bool true)], args := [d] }
  | _ => none }
def hartNoneRow : OpenClaim := { program := "ythmechgccfjmdaadoor", sum := "973cbe5833b6a439651cec510503f0ab021f2ec1fb37bddc2e1cc0a3e81e228e", func := "portico/porticolaw16.HartNone", spec := "hartNone", named := ["math/bits.deBruijn32tab"], apart := false, laid := [("math/bits.deBruijn32tab", laid_math_bits_deBruijn32tab)] }
def HartNoneSaid : Prop := hartNoneRow.holds Tryd.pinned (OpenSpec.ofChange hartNoneSpec)

/-- ITS FALSE NEIGHBOUR: 'it returns false'. Refute it at one input. -/
def hartNoneWrong : ChangeSpec := { name := "hartNone", fn := fun _ => fun
  | [d] => { results := [.lit (.bool false)], args := [d] }
  | _ => none }
def HartNoneWrongFalsely : Prop := hartNoneRow.holds Tryd.pinned (OpenSpec.ofChange hartNoneWrong)

/- THE SECOND FORM. 'bulk': how many values and letters a reading holds, each counted each time it is reached (what is shared counts as often as it is met; a slice's spare places count too). A statement '..UptoSaid' is the law's where the arguments, and the package variables that the reading takes, are together of bulk at most 1048576: NARROWER than '..Said'. Prove '..Said' where nothing that the law and all that it calls make is longer than what came in: it says more and counts as full. Else prove '..UptoSaid'. A law counts once. -/
mutual
def uptoBulk {H : Type} : DataW H → Nat
  | .lit (.string bytes) => bytes.length + 1
  | .lit _ => 1
  | .nil => 1
  | .ptr d => uptoBulk d + 1
  | .slice elems spare => uptoBulkAll elems + uptoBulkAll spare + 1
  | .agg parts => uptoBulkAll parts + 1
  | .iface _ d => uptoBulk d + 1
  | .map entries => uptoBulkEntries entries + 1
  | .held _ => 1
def uptoBulkAll {H : Type} : List (DataW H) → Nat
  | [] => 0
  | d :: r => uptoBulk d + uptoBulkAll r
def uptoBulkEntries {H : Type} : List (Lit × DataW H) → Nat
  | [] => 0
  | x :: r => uptoBulkEntry x + uptoBulkEntries r
def uptoBulkEntry {H : Type} : Lit × DataW H → Nat
  | (.string bytes, d) => bytes.length + uptoBulk d + 1
  | (_, d) => uptoBulk d + 1
 end
def uptoSmall : (H : Type) → List (DataW H) → Bool := fun _ ds => decide (uptoBulkAll ds ≤ 1048576)
def OpenSpec.upto (s : _root_.Go.ChangeSpec) : _root_.Go.OpenSpec := { _root_.Go.OpenSpec.ofChange s with cond := some uptoSmall }

/-- 'porticolaw15.CsrBack', WHERE WHAT IT READS IS OF BULK AT MOST 1048576: true; the input reads as it did. -/
def csrBackUptoRow : OpenClaim := { program := "ythmechgccfjmdaadoor", sum := "973cbe5833b6a439651cec510503f0ab021f2ec1fb37bddc2e1cc0a3e81e228e", func := "portico/porticolaw15.CsrBack", spec := "csrBack", named := ["math/bits.deBruijn32tab"], apart := false, laid := [("math/bits.deBruijn32tab", laid_math_bits_deBruijn32tab)], narrowed := true }
def CsrBackUptoSaid : Prop := csrBackUptoRow.holds Tryd.pinned (OpenSpec.upto csrBackSpec)

/-- 'porticolaw15.CsrNone', WHERE WHAT IT READS IS OF BULK AT MOST 1048576: true; the input reads as it did. -/
def csrNoneUptoRow : OpenClaim := { program := "ythmechgccfjmdaadoor", sum := "973cbe5833b6a439651cec510503f0ab021f2ec1fb37bddc2e1cc0a3e81e228e", func := "portico/porticolaw15.CsrNone", spec := "csrNone", named := ["math/bits.deBruijn32tab"], apart := false, laid := [("math/bits.deBruijn32tab", laid_math_bits_deBruijn32tab)], narrowed := true }
def CsrNoneUptoSaid : Prop := csrNoneUptoRow.holds Tryd.pinned (OpenSpec.upto csrNoneSpec)

/-- 'porticolaw16.HartNone', WHERE WHAT IT READS IS OF BULK AT MOST 1048576: true; the input reads as it did. -/
def hartNoneUptoRow : OpenClaim := { program := "ythmechgccfjmdaadoor", sum := "973cbe5833b6a439651cec510503f0ab021f2ec1fb37bddc2e1cc0a3e81e228e", func := "portico/porticolaw16.HartNone", spec := "hartNone", named := ["math/bits.deBruijn32tab"], apart := false, laid := [("math/bits.deBruijn32tab", laid_math_bits_deBruijn32tab)], narrowed := true }
def HartNoneUptoSaid : Prop := hartNoneUptoRow.holds Tryd.pinned (OpenSpec.upto hartNoneSpec)

end Rows
end Go.Proofs.YthmechgccfjmdaaDoor
