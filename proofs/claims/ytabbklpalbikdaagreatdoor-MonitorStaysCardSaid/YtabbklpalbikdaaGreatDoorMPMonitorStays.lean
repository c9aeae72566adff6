/-
 The statement Rows.MonitorStaysSaid: memory changes only where the payload that runs may write: the law answers true at every input,and leaves it as it was. Conditions: the listed variable is laid.
-/
import Derived.Test.YtabbklpalbikdaaGreatDoorM11
import Derived.Test.YtabbklpalbikdaaGreatDoorMOpen
import Derived.Test.YtabbklpalbikdaaGreatDoorMOpenL
set_option linter.unusedVariables false
set_option linter.unusedSimpArgs false
namespace Go.Proofs.YtabbklpalbikdaaGreatDoor.lawMonitorStays
open Go.RowKit Go.Pt Go.ChangeShapes Go.WideShapes Go.ChangeAt
set_option linter.unusedVariables false
theorem door_met (os : Os) (args : Array Value) : laidMetH Tryz.prog laid1 ((World.doorLaid Tryz.prog 400 os).forCall (fun _ _ => 0) ⟨#[],args,[]⟩).memory :=
 laidMetH_of_parts3 (fuel := 8) (laidMet_of_run' 8 kj kj) kj kj
theorem band {a b : Bool} (h : a = true) (g : b = true) : (a && b) = true := by rw [h,g];rfl
set_option maxRecDepth 100000 in
theorem lifted (os : Os) (started : os.Started) (H : Type) (enc : TypeId × Value → H) :
  ReturnsInHanded {} Tryz.checked os 6 .any (fun w args => (Rows.monitorStaysSpec.pre enc Tryz.prog Tryz.f6 [] false w args ∧ laidMetH Tryz.prog laid1 w) ∧ sizedMet enc Tryz.prog Tryz.f6 (OpenSpec.ofChange Rows.monitorStaysSpec) false w args)
   (Rows.monitorStaysSpec.post enc Tryz.prog Tryz.f6 false true false false) := by
 refine returnsInHanded_of_change_and (C := Tryz.checked) (X := fun w _ => laidMetH Tryz.prog laid1 w) (fun _ _ _ hh h => h.of_heap hh) own_knob started kj Tryz.func6
  (ChangeSpec.witness_shaped (enc := enc) (C := Tryz.checked) (os := os) (X := fun w _ => laidMetH Tryz.prog laid1 w) false (World.doorLaid Tryz.prog 400 os) #[.slice none 0 0,.slice none 0 0] 8 rfl (World.shaped_of_RefB kj kj) kj kj kj (door_met os _)) ?_
 intro W base args ds gs before hval0 hW _ hwt hL _
 have hval : ∀ (j : Nat) t v,Tryz.f6.params[j]? = some t → args[j]? = some v → Value.okWide Tryz.prog W .any base t v := hval0
 have hW' := hW
 obtain ⟨p,q,hA0,hV,rfl,hfz,hnd⟩ := hW
 have hA : DataW.TrodAll enc Tryz.prog W 0 (fun _ => true) true Tryz.f6.params.toList args.toList ds p := hA0
 rw [Tryz.params6] at hA hval
 obtain ⟨v0,vs0,d0,ds0,p0,q0,hargs,rfl,rfl,h0,r0'⟩ := trodAll_cons hA
 obtain ⟨v1,vs1,d1,ds1,p1,q1,rfl,rfl,rfl,h1,r1'⟩ := trodAll_cons r0'
 obtain ⟨rfl,rfl,rfl⟩ := trodAll_nil r1'
 obtain rfl : args = #[v0,v1] := by cases args;simp_all
 obtain ⟨rfl,rfl⟩ := trodVars_none hV
 have k0 := h0
 have lt0 : ∀ x ∈ p0,x.block < W.heap.size := by obtain ⟨m,hm⟩ := k0;exact DataW.trod_lt m _ _ _ hm
 obtain ⟨x0,m0,c0,rfl⟩ := okWide_slice Tryz.underlying24 (hval 0 24 v0 rfl rfl)
 obtain ⟨y0,l0,z0,e0,hl0,n0⟩ := open_loads (Tr.ofEach hwt (j := 0) (t := 24) (d := d0) kj rfl h0)
 obtain ⟨rfl,rfl,rfl⟩ : x0 = y0 ∧ m0 = l0.length ∧ c0 = z0 := by cases e0;exact ⟨rfl,rfl,rfl⟩
 have k1 := h1
 have lt1 : ∀ x ∈ p1,x.block < W.heap.size := by obtain ⟨m,hm⟩ := k1;exact DataW.trod_lt m _ _ _ hm
 obtain ⟨l1,w1,hl1⟩ := open_Is Tryz.underlying22 Tryz.underlying3 kj (hval 1 22 v1 rfl rfl) h1
 clear hA0 hval0
 refine (stays26 _ _ l0 v1 l1 W n0 hl0 w1 hl1 (tabLaid hL)).mono fun e W' ⟨he,hp⟩ => ?_
 have bel : Below W.heap.size W W' := hp.toBelow (Nat.le_refl _) fun _ hk h => Nat.not_lt.2 h hk
 subst he
 exact ⟨_,rfl,_,_,_,[],_,[],hW',trodAll_mk1 (shut_bool Tryz.underlying4 _),(trodAll_cons_mk (Below.trod laid_out kj (of_decide_eq_true kj) k0 bel lt0) (trodAll_cons_mk (Below.trod laid_out kj (of_decide_eq_true kj) k1 bel lt1) trodAll_mk0)),rfl,bel.frame _,fun h => by cases h⟩
set_option maxHeartbeats 8000000 in
theorem closed : joinedFacts Tryz.prog 6 Tryz.f6 Rows.monitorStaysSpec Rows.monitorStaysRow = true := by
 delta joinedFacts
 repeat' with_reducible refine band ?_ ?_
 all_goals as_aux_lemma => kernel_rfl
theorem inst : Tryz.f6.isInstance Tryz.prog Rows.monitorStaysRow.origin Rows.monitorStaysRow.targs := of_decide_eq_true kj
theorem wrap : Tryz.f6.isWrapper Tryz.prog Rows.monitorStaysRow.wrapper Rows.monitorStaysRow.mainSum := by unfold Func.isWrapper;first | (rw [if_pos ki];kernel_rfl) | (rw [if_neg ki];exact ⟨rfl,rfl⟩)
theorem over : Rows.monitorStaysRow.holds Tryz.pinned (OpenSpec.ofChange Rows.monitorStaysSpec) :=
 OpenClaim.holds_of_wide 6 Tryz.f6 rfl rfl rfl rfl rfl rfl rfl ⟨rfl,rfl,rfl,rfl,rfl⟩ rfl rfl rfl rfl rfl (by as_aux_lemma => kernel_rfl) Tryz.func6 closed inst wrap
  (fun os started H enc _ => lifted os started H enc)
theorem proved : Rows.MonitorStaysSaid := over
end Go.Proofs.YtabbklpalbikdaaGreatDoor.lawMonitorStays
