/-
 The statement Rows.MonitorStatesSaid: a monitor in another one's state goes on as that one does;what may not be is refused: the law answers true at every input,and leaves it as it was. Conditions: the listed variable is laid.
-/
import Derived.Test.YtabbklpalbikdaaGreatDoorM10
import Derived.Test.YtabbklpalbikdaaGreatDoorMOpen
import Derived.Test.YtabbklpalbikdaaGreatDoorMOpenL
set_option maxHeartbeats 32000000
set_option linter.unusedVariables false
set_option linter.unusedSimpArgs false
namespace Go.Proofs.YtabbklpalbikdaaGreatDoor.lawMonitorStates
open Go.RowKit Go.Pt Go.ChangeShapes Go.WideShapes Go.ChangeAt
set_option linter.unusedVariables false
theorem door_met (os : Os) (args : Array Value) : laidMetH Tryz.prog laid1 ((World.doorLaid Tryz.prog 400 os).forCall (fun _ _ => 0) ⟨#[],args,[]⟩).memory :=
 laidMetH_of_parts3 (fuel := 8) (laidMet_of_run' 8 zg zg) zg zg
theorem band {a b : Bool} (h : a = true) (g : b = true) : (a && b) = true := by rw [h,g];rfl
set_option maxRecDepth 100000 in
theorem lifted (os : Os) (started : os.Started) (H : Type) (enc : TypeId × Value → H) :
  ReturnsInHanded {} Tryz.checked os 7 .any (fun w args => (Rows.monitorStatesSpec.pre enc Tryz.prog Tryz.f7 [] false w args ∧ laidMetH Tryz.prog laid1 w) ∧ sizedMet enc Tryz.prog Tryz.f7 (OpenSpec.ofChange Rows.monitorStatesSpec) false w args)
   (Rows.monitorStatesSpec.post enc Tryz.prog Tryz.f7 false true false false) := by
 refine returnsInHanded_of_change_and (C := Tryz.checked) (X := fun w _ => laidMetH Tryz.prog laid1 w) (fun _ _ _ hh h => h.of_heap hh) own_knob started zg Tryz.func7
  (ChangeSpec.witness_shaped (enc := enc) (C := Tryz.checked) (os := os) (X := fun w _ => laidMetH Tryz.prog laid1 w) false (World.doorLaid Tryz.prog 400 os) #[.slice none 0 0,.agg #[.int .i64 0,.int .i64 0],.int .i64 0] 8 rfl (World.shaped_of_RefB zg zg) zg zg zg (door_met os _)) ?_
 intro W base args ds gs before hval0 hW _ hwt hL _
 have hval : ∀ (j : Nat) t v,Tryz.f7.params[j]? = some t → args[j]? = some v → Value.okWide Tryz.prog W .any base t v := hval0
 have hW' := hW
 obtain ⟨p,q,hA0,hV,rfl,hfz,hnd⟩ := hW
 have hA : DataW.TrodAll enc Tryz.prog W 0 (fun _ => true) true Tryz.f7.params.toList args.toList ds p := hA0
 rw [Tryz.params7] at hA hval
 obtain ⟨v0,vs0,d0,ds0,p0,q0,hargs,rfl,rfl,h0,r0'⟩ := trodAll_cons hA
 obtain ⟨v1,vs1,d1,ds1,p1,q1,rfl,rfl,rfl,h1,r1'⟩ := trodAll_cons r0'
 obtain ⟨v2,vs2,d2,ds2,p2,q2,rfl,rfl,rfl,h2,r2'⟩ := trodAll_cons r1'
 obtain ⟨rfl,rfl,rfl⟩ := trodAll_nil r2'
 obtain rfl : args = #[v0,v1,v2] := by cases args;simp_all
 obtain ⟨rfl,rfl⟩ := trodVars_none hV
 have k0 := h0
 have lt0 : ∀ x ∈ p0,x.block < W.heap.size := by obtain ⟨m,hm⟩ := k0;exact DataW.trod_lt m _ _ _ hm
 obtain ⟨x0,m0,c0,rfl⟩ := okWide_slice Tryz.underlying24 (hval 0 24 v0 rfl rfl)
 obtain ⟨y0,l0,z0,e0,hl0,n0⟩ := open_loads (Tr.ofEach hwt (j := 0) (t := 24) (d := d0) zg rfl h0)
 obtain ⟨rfl,rfl,rfl⟩ : x0 = y0 ∧ m0 = l0.length ∧ c0 = z0 := by cases e0;exact ⟨rfl,rfl,rfl⟩
 have k1 := h1
 have lt1 : ∀ x ∈ p1,x.block < W.heap.size := by obtain ⟨m,hm⟩ := k1;exact DataW.trod_lt m _ _ _ hm
 obtain ⟨x1,y1,rfl,w1⟩ := open_two Tryz.underlying72 Tryz.underlying3 zg zg (hval 1 72 v1 rfl rfl) h1
 obtain ⟨a2,rfl,rfl,rfl,w2⟩ := open_int Tryz.underlying3 (hval 2 3 v2 rfl rfl) h2
 clear hA0 hval0
 refine (states26 _ _ l0 _ _ _ W n0 hl0 (i64_of w1.1) (i64_of w1.2) (tabLaid hL)).mono fun e W' ⟨he,hp⟩ => ?_
 have bel : Below W.heap.size W W' := hp.toBelow (Nat.le_refl _) fun _ hk h => Nat.not_lt.2 h hk
 subst he
 exact ⟨_,rfl,_,_,_,[],_,[],hW',trodAll_mk1 (shut_bool Tryz.underlying4 _),(trodAll_cons_mk (Below.trod laid_out zg (of_decide_eq_true zg) k0 bel lt0) (trodAll_cons_mk (Below.trod laid_out zg (of_decide_eq_true zg) k1 bel lt1) (trodAll_cons_mk (shut_int Tryz.underlying3 w2) trodAll_mk0))),rfl,bel.frame _,fun h => by cases h⟩
theorem closed : joinedFacts Tryz.prog 7 Tryz.f7 Rows.monitorStatesSpec Rows.monitorStatesRow = true := by
 delta joinedFacts
 repeat' with_reducible refine band ?_ ?_
 all_goals as_aux_lemma => kernel_rfl
theorem inst : Tryz.f7.isInstance Tryz.prog Rows.monitorStatesRow.origin Rows.monitorStatesRow.targs := of_decide_eq_true zg
theorem wrap : Tryz.f7.isWrapper Tryz.prog Rows.monitorStatesRow.wrapper Rows.monitorStatesRow.mainSum := by unfold Func.isWrapper;first | (rw [if_pos kg];kernel_rfl) | (rw [if_neg kg];exact ⟨rfl,rfl⟩)
theorem over : Rows.monitorStatesRow.holds Tryz.pinned (OpenSpec.ofChange Rows.monitorStatesSpec) :=
 OpenClaim.holds_of_wide 7 Tryz.f7 rfl rfl rfl rfl rfl rfl rfl ⟨rfl,rfl,rfl,rfl,rfl⟩ rfl rfl rfl rfl rfl (by as_aux_lemma => kernel_rfl) Tryz.func7 closed inst wrap
  (fun os started H enc _ => lifted os started H enc)
theorem proved : Rows.MonitorStatesSaid := over
end Go.Proofs.YtabbklpalbikdaaGreatDoor.lawMonitorStates
