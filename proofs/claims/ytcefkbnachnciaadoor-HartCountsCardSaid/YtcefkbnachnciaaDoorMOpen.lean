/- What the arguments of a law are, read off the row's own reading: slices of integers, bytes, pairs of integers. Conditions: the argument reads. -/
import Derived.Test.YtcefkbnachnciaaDoorM04
import Derived.Test.YtcefkbnachnciaaDoorRows
import Derived.WalkKit
import Derived.ProofKit
import Derived.OpenShut
import Derived.ShutString
import Derived.ChangeOld
import Derived.Below
namespace Go.Proofs.YtcefkbnachnciaaDoor
open Go.RowKit Go.Pt Go.ChangeShapes Go.WideShapes Go.ChangeAt

theorem own_knob : ownKnob Tryd.prog.godebug = none := by kernel_rfl
theorem laid_out : laidOutB Tryd.prog = true := by kernel_rfl

theorem wf_int {k : IntKind} {n : Int} (h : (Lit.int k n).wf = true) : k.min ≤ n ∧ n ≤ k.max := by
  simpa [Lit.wf] using h

end Go.Proofs.YtcefkbnachnciaaDoor
