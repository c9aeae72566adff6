/-
  The contracts of the reference's cursor, and of the ranges of addresses in both texts.
-/
import Derived.Test.YtahgpfjkmcaeaaaDoorCur
namespace Go.Proofs.YtahgpfjkmcaeaaaDoor
open Go.RowKit Go.Pt

/-- the reference's cursor: bytes, a place, has it failed: what is taken, the place, has it failed -/
def rTake (l : List UInt8) (p : Nat) (bad : Bool) (n : Int) : List UInt8 × Nat × Bool :=
  if bad = true ∨ n < 0 ∨ (l.length : Int) - p < n then ([], p, true) else ((l.drop p).take n.toNat, p + n.toNat, false)

theorem rTake_len (l : List UInt8) (p : Nat) (bad : Bool) (n : Nat) : (rTake l p bad n).1.length ≤ n := by
  unfold rTake; split <;> simp; omega

/-! ### ranges of addresses -/
def inB (a n b m : Int) : Bool := decide (b ≤ a ∧ a + n ≤ b + m)
def apB (a n b m : Int) : Bool := decide (n = 0 ∨ m = 0 ∨ a + n ≤ b ∨ b + m ≤ a)
def U32 (x : Int) : Prop := 0 ≤ x ∧ x ≤ 4294967295
instance (x : Int) : Decidable (U32 x) := by unfold U32; infer_instance

end Go.Proofs.YtahgpfjkmcaeaaaDoor
