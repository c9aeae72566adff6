/-
  The contracts of package bytes' cursor: what each method returns and what becomes of the cursor.
-/
import Derived.Test.YtahgpfjkmcaeaaaDoorFacts
namespace Go.Proofs.YtahgpfjkmcaeaaaDoor
open Go.RowKit Go.Pt

/-- what is taken, what is left, has it failed -/
def cTake (l : List UInt8) (bad : Bool) (n : Int) : List UInt8 × List UInt8 × Bool :=
  if bad = true ∨ n < 0 ∨ (l.length : Int) < n then ([], [], true) else (l.take n.toNat, l.drop n.toNat, false)

theorem cTake_len (l : List UInt8) (bad : Bool) (n : Nat) : (cTake l bad n).1.length ≤ n := by
  unfold cTake; split <;> simp; omega
theorem numPost_lt (l : List UInt8) (bad : Bool) (n : Nat) (h : n ≤ 4) : (leN (cTake l bad n).1 : Int) ≤ 4294967295 := by
  have h1 := leN_lt (cTake l bad n).1
  have h2 : (256 : Nat) ^ (cTake l bad n).1.length ≤ 256 ^ 4 := Nat.pow_le_pow_right (by omega) (Nat.le_trans (cTake_len l bad n) h)
  omega
/-! ### a nil cursor -/
theorem cTake_app (l m : List UInt8) (n : Int) (h : n = l.length) : cTake (l ++ m) false n = (l, m, false) := by
  subst h
  unfold cTake
  rw [if_neg (by simp; omega)]
  simp
end Go.Proofs.YtahgpfjkmcaeaaaDoor
