/-
  The order times the base of P-256 is nothing (computed by the kernel); what follows from it for multiples. Conditions: none.
-/
import Derived.Test.YtfaobdakpbpkbaaLad
namespace Go.Proofs.Ytfaobdakpbpkbaa
theorem nW : Prim.N256 < W256 := by decide +kernel
theorem lad_N : lad Prim.P256 Prim.N256 curG.1.val curG.2.val 256 1 1 0 (fun _ _ z => Nat.beq z 0) = true := by decide +kernel
theorem ordG : sm3 Prim.N256 (some curG) = none := sm_none_of nW onG lad_N
theorem ord_sm {A : Ec.Pt} (n : Nat) (h : A = sm3 n (some curG)) : sm3 Prim.N256 A = none := by
  have h1 := Ec.sm_mul disc3 onG n Prim.N256
  have h2 := Ec.sm_mul disc3 onG Prim.N256 n
  rw [Nat.mul_comm] at h2
  rw [h]
  unfold sm3 at *
  rw [← h1, h2]
  have := ordG
  unfold sm3 at this
  rw [this]
  exact Ec.sm_none n
theorem n_odd : Prim.N256 % 2 = 1 := by decide +kernel
/-- no multiple of the base is its own opposite -/
theorem no_half {A : Ec.Pt} (hA : OnP A) (n : Nat) (h : A = sm3 n (some curG)) (h2 : add3 A A = none) : A = none := by
  have h1 := ord_sm n h
  have e : Prim.N256 = 2 * (Prim.N256 / 2) + 1 := by have := n_odd; omega
  rw [e] at h1
  have h3 : sm3 (2 * (Prim.N256 / 2)) A = none := by
    unfold sm3
    rw [Nat.mul_comm, Ec.sm_mul disc3 hA 2 (Prim.N256 / 2)]
    have : Ec.sm Ec.A3 2 A = none := by
      rw [show (2 : Nat) = 2 * 1 from rfl, Ec.sm_two disc3 hA 1, Ec.sm_one]
      exact h2
    rw [this]
    exact Ec.sm_none _
  rw [sm_succ, h3] at h1
  exact h1
end Go.Proofs.Ytfaobdakpbpkbaa
