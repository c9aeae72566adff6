/-
  porticoref03.Mul; porticolaw03.like. Conditions: numbers are below 2^256.
-/
import Derived.Test.YtfaobdakpbpkbaaRef3d
namespace Go.Proofs.Ytfaobdakpbpkbaa
open Go.RowKit Go.Pt
/-- the product of the first i digits of a with b -/
def rowV (a b i : Nat) : Nat := (a % D16 ^ i) * b
theorem rowV_lt {a b i : Nat} (hb : b < W256) : rowV a b i < D16 ^ (i + 16) := by
  unfold rowV
  rw [Nat.pow_add, ← W256_eq16]
  exact Nat.mul_lt_mul'' (Nat.mod_lt _ (Nat.pow_pos (by decide))) hb
end Go.Proofs.Ytfaobdakpbpkbaa
