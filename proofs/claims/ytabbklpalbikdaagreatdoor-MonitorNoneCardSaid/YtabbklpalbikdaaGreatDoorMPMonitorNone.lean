/-
 The statement Rows.MonitorNoneSaid: a monitor that is none has nobody;what may not be is refused: the law answers true at every input,and leaves it as it was. Conditions: the listed variable is laid.
-/
import Derived.Test.YtabbklpalbikdaaGreatDoorM11
import Derived.Test.YtabbklpalbikdaaGreatDoorMOpen
set_option linter.unusedVariables false
set_option linter.unusedSimpArgs false
namespace Go.Proofs.YtabbklpalbikdaaGreatDoor.lawMonitorNone
open Go.RowKit Go.Pt Go.ChangeShapes Go.WideShapes Go.ChangeAt
set_option linter.unusedVariables false
theorem door_met (os : Os) (args : Array Value) : laidMetH Tryz.prog laid1 ((World.doorLaid Tryz.prog 400 os).forCall (fun _ _ => 0) ⟨#[],args,[]⟩).memory :=
 laidMetH_of_parts3 (fuel := 8) (laidMet_of_run' 8 kh kh) kh kh
theorem band {a b : Bool} (h : a = true) (g : b = true) : (a && b) = true := by rw [h,g];rfl
set_option maxRecDepth 100000 in
theorem lifted (os : Os) (started : os.Started) (H : Type) (enc : TypeId × Value → H) :
  ReturnsInHanded {} Tryz.checked os 9 .any (fun w args => (Rows.monitorNoneSpec.pre enc Tryz.prog Tryz.f9 [] false w args ∧ laidMetH Tryz.prog laid1 w) ∧ sizedMet enc Tryz.prog Tryz.f9 (OpenSpec.ofChange Rows.monitorNoneSpec) false w args)
   (Rows.monitorNoneSpec.post enc Tryz.prog Tryz.f9 false true false false) := by
 refine returnsInHanded_of_change_and (C := Tryz.checked) (X := fun w _ => laidMetH Tryz.prog laid1 w) (fun _ _ _ hh h => h.of_heap hh) own_knob started kh Tryz.func9
  (ChangeSpec.witness_shaped (enc := enc) (C := Tryz.checked) (os := os) (X := fun w _ => laidMetH Tryz.prog laid1 w) false (World.doorLaid Tryz.prog 400 os) #[.int .i64 0,.int .i64 0] 8 rfl (World.shaped_of_RefB kh kh) kh kh kh (door_met os _)) ?_
 intro W base args ds gs before hval0 hW _ hwt hL _
 have hval : ∀ (j : Nat) t v,Tryz.f9.params[j]? = some t → args[j]? = some v → Value.okWide Tryz.prog W .any base t v := hval0
 have hW' := hW
 obtain ⟨p,q,hA0,hV,rfl,hfz,hnd⟩ := hW
 have hA : DataW.TrodAll enc Tryz.prog W 0 (fun _ => true) true Tryz.f9.params.toList args.toList ds p := hA0
 rw [Tryz.params9] at hA hval
 obtain ⟨v0,vs0,d0,ds0,p0,q0,hargs,rfl,rfl,h0,r0'⟩ := trodAll_cons hA
 obtain ⟨v1,vs1,d1,ds1,p1,q1,rfl,rfl,rfl,h1,r1'⟩ := trodAll_cons r0'
 obtain ⟨rfl,rfl,rfl⟩ := trodAll_nil r1'
 obtain rfl : args = #[v0,v1] := by cases args;simp_all
 obtain ⟨rfl,rfl⟩ := trodVars_none hV
 obtain ⟨a0,rfl,rfl,rfl,w0⟩ := open_int Tryz.underlying3 (hval 0 3 v0 rfl rfl) h0
 obtain ⟨a1,rfl,rfl,rfl,w1⟩ := open_int Tryz.underlying3 (hval 1 3 v1 rfl rfl) h1
 clear hA0 hval0
 refine (none26 _ _ W (tabLaid hL)).mono fun e W' ⟨he,hp⟩ => ?_
 have bel : Below W.heap.size W W' := hp.toBelow (Nat.le_refl _) fun _ hk h => Nat.not_lt.2 h hk
 subst he
 exact ⟨_,rfl,_,_,_,[],_,[],hW',trodAll_mk1 (shut_bool Tryz.underlying4 _),(trodAll_cons_mk (shut_int Tryz.underlying3 w0) (trodAll_cons_mk (shut_int Tryz.underlying3 w1) trodAll_mk0)),rfl,bel.frame _,fun h => by cases h⟩
set_option maxHeartbeats 8000000 in
theorem closed : joinedFacts Tryz.prog 9 Tryz.f9 Rows.monitorNoneSpec Rows.monitorNoneRow = true := by
 delta joinedFacts
 repeat' with_reducible refine band ?_ ?_
 all_goals as_aux_lemma => kernel_rfl
theorem inst : Tryz.f9.isInstance Tryz.prog Rows.monitorNoneRow.origin Rows.monitorNoneRow.targs := of_decide_eq_true kh
theorem wrap : Tryz.f9.isWrapper Tryz.prog Rows.monitorNoneRow.wrapper Rows.monitorNoneRow.mainSum := by unfold Func.isWrapper;first | (rw [if_pos kg];kernel_rfl) | (rw [if_neg kg];exact ⟨rfl,rfl⟩)
theorem over : Rows.monitorNoneRow.holds Tryz.pinned (OpenSpec.ofChange Rows.monitorNoneSpec) :=
 OpenClaim.holds_of_wide 9 Tryz.f9 rfl rfl rfl rfl rfl rfl rfl ⟨rfl,rfl,rfl,rfl,rfl⟩ rfl rfl rfl rfl rfl (by as_aux_lemma => kernel_rfl) Tryz.func9 closed inst wrap
  (fun os started H enc _ => lifted os started H enc)
theorem proved : Rows.MonitorNoneSaid := over
end Go.Proofs.YtabbklpalbikdaaGreatDoor.lawMonitorNone
