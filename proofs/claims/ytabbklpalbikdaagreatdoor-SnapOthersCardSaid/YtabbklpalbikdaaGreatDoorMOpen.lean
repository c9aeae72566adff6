/- What the arguments of a law are,read off the row's own reading: slices of integers,bytes,pairs of integers. Conditions: the argument reads. -/
import Derived.Test.YtabbklpalbikdaaGreatDoorM02
import Derived.Test.YtabbklpalbikdaaGreatDoorRows
import Derived.WalkKit
import Derived.ProofKit
import Derived.OpenShut
import Derived.ShutString
import Derived.ChangeOld
import Derived.Below
set_option linter.unusedVariables false
set_option linter.unusedSimpArgs false
namespace Go.Proofs.YtabbklpalbikdaaGreatDoor
open Go.RowKit Go.Pt Go.ChangeShapes Go.WideShapes Go.ChangeAt
theorem own_knob : ownKnob Tryz.prog.godebug = none := by kernel_rfl
theorem laid_out : laidOutB Tryz.prog = true := by kernel_rfl
theorem wf_int {k : IntKind} {n : Int} (h : (Lit.int k n).wf = true) : k.min ≤ n ∧ n ≤ k.max := by
 simpa [Lit.wf] using h
theorem i64_of {n : Int} (h : IntKind.i64.min ≤ n ∧ n ≤ IntKind.i64.max) : -9223372036854775808 ≤ n ∧ n ≤ 9223372036854775807 := h
theorem open_two {H : Type} {enc : TypeId × Value → H} {P : Program} {w : World} {base : Nat} {t e : TypeId} {k : IntKind} {v : Value} {d : DataW H} {p : List MemPlace}
  (ht : P.underlying t = some (.array 2 e)) (he : P.underlying e = some (.int k)) (hc : P.cellsOf e = 1) (hc2 : P.cellsOf t = 2) (hv : Value.okWide P w .any base t v)
  (h : DataW.Trod enc P w 0 (fun _ => true) true t v d p) : ∃ x y,v = .agg #[.int k x,.int k y] ∧ (k.min ≤ x ∧ x ≤ k.max) ∧ k.min ≤ y ∧ y ≤ k.max := by
 simp only [Value.okWide,ht] at hv
 obtain ⟨⟨l⟩,rfl,hsz,_⟩ := hv
 obtain ⟨fuel,hf⟩ := h
 obtain ⟨xs,m,rfl,_,hl,hx,hg⟩ := DataW.trod_array ht hf
 rw [hc2] at hsz
 match l,hsz with
 | [u,v],_ =>
  have g0 := hg 0 kf
  have g1 := hg 1 kf
  rw [List.getElem?_eq_getElem kf] at g0 g1
  simp only [Value.cells,hc] at g0 g1
  obtain ⟨x,hx1,_,hx2⟩ := DataW.trod_int he g0
  obtain ⟨y,hy1,_,hy2⟩ := DataW.trod_int he g1
  simp at hx1 hy1
  subst hx1 hy1
  exact ⟨x,y,rfl,wf_int hx2,wf_int hy2⟩
end Go.Proofs.YtabbklpalbikdaaGreatDoor
