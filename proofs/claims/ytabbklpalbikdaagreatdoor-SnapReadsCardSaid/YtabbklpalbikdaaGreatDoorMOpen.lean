/- What the arguments of a law are,read off the row's own reading: slices of integers,bytes,pairs of integers. Conditions: the argument reads. -/
import Derived.Test.YtabbklpalbikdaaGreatDoorM02
import Derived.Test.YtabbklpalbikdaaGreatDoorRows
import Derived.WalkKit
import Derived.ProofKit
import Derived.OpenShut
import Derived.ShutString
import Derived.ChangeOld
import Derived.Below
set_option linter.unusedVariables false
set_option linter.unusedSimpArgs false
namespace Go.Proofs.YtabbklpalbikdaaGreatDoor
open Go.RowKit Go.Pt Go.ChangeShapes Go.WideShapes Go.ChangeAt
theorem own_knob : ownKnob Tryz.prog.godebug = none := by kernel_rfl
theorem laid_out : laidOutB Tryz.prog = true := by kernel_rfl
theorem wf_int {k : IntKind} {n : Int} (h : (Lit.int k n).wf = true) : k.min ≤ n ∧ n ≤ k.max := by
 simpa [Lit.wf] using h
theorem open_Is {H : Type} {enc : TypeId × Value → H} {P : Program} {w : World} {base : Nat} {t e : TypeId} {k : IntKind} {v : Value} {d : DataW H} {p : List MemPlace}
  (ht : P.underlying t = some (.slice e)) (he : P.underlying e = some (.int k)) (hc : P.cellsOf e = 1) (hv : Value.okWide P w .any base t v)
  (h : DataW.Trod enc P w 0 (fun _ => true) true t v d p) : ∃ l,Is k w v l ∧ ∀ n ∈ l,k.min ≤ n ∧ n ≤ k.max := by
 obtain ⟨a,len,cap,rfl⟩ := okWide_slice ht hv
 obtain ⟨fuel,hf⟩ := h
 rcases open_ints ht he hc hf with ⟨hcs,_⟩ | ⟨x,l,c,zs,hcs,_,hl,hm,hz,_,hcell,hwz⟩
 ·simp [Value.cells] at hcs
  obtain ⟨rfl,rfl,rfl⟩ := hcs
  exact ⟨[],Sv.nil w 1,fun n hn => by cases hn⟩
 ·simp [Value.cells] at hcs
  obtain ⟨rfl,rfl,rfl⟩ := hcs
  simp only [if_true] at hz
  have hlen : (zs.take len).length = len := by rw [List.length_take];omega
  refine ⟨zs.take len,⟨by simp,some x,cap,by rw [hlen],by rw [hlen];exact hl,hm,fun e => (by cases e),fun hne => ?_⟩,fun n hn => wf_int (hwz n (List.mem_of_mem_take hn))⟩
  have hpos : 0 < len := by
   rcases Nat.eq_zero_or_pos len with rfl | h
   ·simp at hne
   ·exact h
  have h0 := hcell 0 kc
  obtain ⟨b,off,spot⟩ := x
  have hs : spot = none := by simpa [Addr.add] using World.cell?_spot h0
  subst hs
  refine ⟨b,off,rfl,fun i hi => ?_⟩
  rw [List.length_map,hlen] at hi
  have := hcell i kc
  rw [show (Addr.add ⟨b,off,none⟩ i : Addr) = ⟨b,off + i,none⟩ by simp [Addr.add]] at this
  rw [this]
  simp [List.getD_eq_getElem?_getD,List.getElem?_eq_getElem (show i < zs.length by omega)]
theorem open_Bs {H : Type} {enc : TypeId × Value → H} {P : Program} {w : World} {base : Nat} {t e : TypeId} {v : Value} {d : DataW H} {p : List MemPlace}
  (ht : P.underlying t = some (.slice e)) (he : P.underlying e = some (.int .u8)) (hc : P.cellsOf e = 1) (hv : Value.okWide P w .any base t v)
  (h : DataW.Trod enc P w 0 (fun _ => true) true t v d p) : ∃ l,Bs w v l := by
 obtain ⟨l,hl,hr⟩ := open_Is ht he hc hv h
 refine ⟨l.map fun n => UInt8.ofNat n.toNat,?_⟩
 have e1 : byteCells (l.map fun n => UInt8.ofNat n.toNat) = l.map (Value.int .u8) := by
  unfold byteCells
  rw [List.map_map]
  apply List.map_congr_left
  intro n hn
  have := hr n hn
  have h0 : IntKind.u8.min = 0 := by decide
  have h1 : IntKind.u8.max = 255 := by decide
  rw [h0,h1] at this
  simp only [Function.comp,UInt8.toNat_ofNat',Value.int.injEq,true_and]
  omega
 unfold Bs
 rw [e1,List.length_map]
 exact hl
end Go.Proofs.YtabbklpalbikdaaGreatDoor
