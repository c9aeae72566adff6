/-
 The argument [2]Load read off the row's own reading. Conditions: the argument reads.
-/
import Derived.Test.YtabbklpalbikdaaGreatDoorM10
import Derived.Test.YtabbklpalbikdaaGreatDoorMOpenL
set_option linter.unusedVariables false
set_option linter.unusedSimpArgs false
namespace Go.Proofs.YtabbklpalbikdaaGreatDoor
open Go.RowKit Go.Pt Go.ChangeShapes Go.WideShapes Go.ChangeAt
theorem okWide_arrayA {P : Program} {w : World} {r : Reach} {base : Nat} {t : TypeId} {v : Value} {n e : Nat} (ht : P.underlying t = some (.array n e)) (h : Value.okWide P w r base t v) : ∃ cs,v = .agg cs ∧ cs.size = P.cellsOf t := by
 simp only [Value.okWide,ht] at h
 obtain ⟨cs,h1,h2,_⟩ := h
 exact ⟨cs,h1,h2⟩
set_option maxRecDepth 100000 in
theorem open_loads2 {H : Type} {enc : TypeId × Value → H} {w : World} {cs : List Value} (h : Tr enc Tryz.prog w 58 cs) (hl : cs.length = 8) : ∃ r0 r1 : LdV,cs = r0.c ++ r1.c ∧ r0.ok w ∧ r1.ok w := by
 have h2 := (h.elem Tryz.underlying58).2
 have c4 : Tryz.prog.cellsOf 30 = 4 := by kernel_rfl
 match cs,hl with
 | [a0,a1,a2,a3,b0,b1,b2,b3],_ =>
  have ha := h2 0 ze
  have hb := h2 1 ze
  rw [c4] at ha hb
  obtain ⟨r0,e0,k0⟩ := Tr.loadL [a0,a1,a2,a3] ha rfl
  obtain ⟨r1,e1,k1⟩ := Tr.loadL [b0,b1,b2,b3] hb rfl
  refine ⟨r0,r1,?_,k0,k1⟩
  show [a0,a1,a2,a3] ++ [b0,b1,b2,b3] = loadC r0.v0 r0.v1 r0.v3 r0.x ++ loadC r1.v0 r1.v1 r1.v3 r1.x
  rw [e0,e1]
end Go.Proofs.YtabbklpalbikdaaGreatDoor
