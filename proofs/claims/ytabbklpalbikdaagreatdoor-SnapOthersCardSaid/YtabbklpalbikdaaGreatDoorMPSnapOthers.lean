/-
 The statement Rows.SnapOthersSaid: a snapshot of another number of payloads is refused,lines at their limits are not: the law answers true at every input,and leaves it as it was. Conditions: the listed variable is laid.
-/
import Derived.Test.YtabbklpalbikdaaGreatDoorM08
import Derived.Test.YtabbklpalbikdaaGreatDoorMOpen
import Derived.Test.YtabbklpalbikdaaGreatDoorMOpenL
set_option maxHeartbeats 32000000
set_option linter.unusedVariables false
set_option linter.unusedSimpArgs false
namespace Go.Proofs.YtabbklpalbikdaaGreatDoor.lawSnapOthers
open Go.RowKit Go.Pt Go.ChangeShapes Go.WideShapes Go.ChangeAt
set_option linter.unusedVariables false
theorem door_met (os : Os) (args : Array Value) : laidMetH Tryz.prog laid2 ((World.doorLaid Tryz.prog 400 os).forCall (fun _ _ => 0) ⟨#[],args,[]⟩).memory :=
 laidMetH_of_parts3 (fuel := 8) (laidMet_of_run' 8 kn kn) kn kn
theorem band {a b : Bool} (h : a = true) (g : b = true) : (a && b) = true := by rw [h,g];rfl
set_option maxRecDepth 100000 in
theorem lifted (os : Os) (started : os.Started) (H : Type) (enc : TypeId × Value → H) :
  ReturnsInHanded {} Tryz.checked os 13 .any (fun w args => (Rows.snapOthersSpec.pre enc Tryz.prog Tryz.f13 [] false w args ∧ laidMetH Tryz.prog laid2 w) ∧ sizedMet enc Tryz.prog Tryz.f13 (OpenSpec.ofChange Rows.snapOthersSpec) false w args)
   (Rows.snapOthersSpec.post enc Tryz.prog Tryz.f13 false true false false) := by
 refine returnsInHanded_of_change_and (C := Tryz.checked) (X := fun w _ => laidMetH Tryz.prog laid2 w) (fun _ _ _ hh h => h.of_heap hh) own_knob started kn Tryz.func13
  (ChangeSpec.witness_shaped (enc := enc) (C := Tryz.checked) (os := os) (X := fun w _ => laidMetH Tryz.prog laid2 w) false (World.doorLaid Tryz.prog 400 os) #[.slice none 0 0,.slice none 0 0,.agg #[.int .i64 0,.int .i64 0]] 8 rfl (World.shaped_of_RefB kn kn) kn kn kn (door_met os _)) ?_
 intro W base args ds gs before hval0 hW _ hwt hL _
 have hval : ∀ (j : Nat) t v,Tryz.f13.params[j]? = some t → args[j]? = some v → Value.okWide Tryz.prog W .any base t v := hval0
 have hW' := hW
 obtain ⟨p,q,hA0,hV,rfl,hfz,hnd⟩ := hW
 have hA : DataW.TrodAll enc Tryz.prog W 0 (fun _ => true) true Tryz.f13.params.toList args.toList ds p := hA0
 rw [Tryz.params13] at hA hval
 obtain ⟨v0,vs0,d0,ds0,p0,q0,hargs,rfl,rfl,h0,r0'⟩ := trodAll_cons hA
 obtain ⟨v1,vs1,d1,ds1,p1,q1,rfl,rfl,rfl,h1,r1'⟩ := trodAll_cons r0'
 obtain ⟨v2,vs2,d2,ds2,p2,q2,rfl,rfl,rfl,h2,r2'⟩ := trodAll_cons r1'
 obtain ⟨rfl,rfl,rfl⟩ := trodAll_nil r2'
 obtain rfl : args = #[v0,v1,v2] := by cases args;simp_all
 obtain ⟨rfl,rfl⟩ := trodVars_none hV
 have k0 := h0
 have lt0 : ∀ x ∈ p0,x.block < W.heap.size := by obtain ⟨m,hm⟩ := k0;exact DataW.trod_lt m _ _ _ hm
 obtain ⟨x0,m0,c0,rfl⟩ := okWide_slice Tryz.underlying24 (hval 0 24 v0 rfl rfl)
 obtain ⟨y0,l0,z0,e0,hl0,n0⟩ := open_loads (Tr.ofEach hwt (j := 0) (t := 24) (d := d0) kn rfl h0)
 obtain ⟨rfl,rfl,rfl⟩ : x0 = y0 ∧ m0 = l0.length ∧ c0 = z0 := by cases e0;exact ⟨rfl,rfl,rfl⟩
 have k1 := h1
 have lt1 : ∀ x ∈ p1,x.block < W.heap.size := by obtain ⟨m,hm⟩ := k1;exact DataW.trod_lt m _ _ _ hm
 obtain ⟨x1,m1,c1,rfl⟩ := okWide_slice Tryz.underlying24 (hval 1 24 v1 rfl rfl)
 obtain ⟨y1,l1,z1,e1,hl1,n1⟩ := open_loads (Tr.ofEach hwt (j := 1) (t := 24) (d := d1) kn rfl h1)
 obtain ⟨rfl,rfl,rfl⟩ : x1 = y1 ∧ m1 = l1.length ∧ c1 = z1 := by cases e1;exact ⟨rfl,rfl,rfl⟩
 have k2 := h2
 have lt2 : ∀ x ∈ p2,x.block < W.heap.size := by obtain ⟨m,hm⟩ := k2;exact DataW.trod_lt m _ _ _ hm
 obtain ⟨x2,y2,rfl,w2⟩ := open_two Tryz.underlying72 Tryz.underlying3 kn kn (hval 2 72 v2 rfl rfl) h2
 clear hA0 hval0
 refine (others27 _ _ _ _ l0 l1 _ _ W n0 n1 hl0 hl1 (i64_of w2.1) (i64_of w2.2) (tabLaid2 hL) (shaTab2 hL) (shaTabLt (shaTab2 hL))).mono fun e W' ⟨he,hp⟩ => ?_
 have bel : Below W.heap.size W W' := hp.toBelow (Nat.le_refl _) fun _ hk h => Nat.not_lt.2 h hk
 subst he
 exact ⟨_,rfl,_,_,_,[],_,[],hW',trodAll_mk1 (shut_bool Tryz.underlying4 _),(trodAll_cons_mk (Below.trod laid_out kn (of_decide_eq_true kn) k0 bel lt0) (trodAll_cons_mk (Below.trod laid_out kn (of_decide_eq_true kn) k1 bel lt1) (trodAll_cons_mk (Below.trod laid_out kn (of_decide_eq_true kn) k2 bel lt2) trodAll_mk0))),rfl,bel.frame _,fun h => by cases h⟩
theorem closed : joinedFacts Tryz.prog 13 Tryz.f13 Rows.snapOthersSpec Rows.snapOthersRow = true := by
 delta joinedFacts
 repeat' with_reducible refine band ?_ ?_
 all_goals as_aux_lemma => kernel_rfl
theorem inst : Tryz.f13.isInstance Tryz.prog Rows.snapOthersRow.origin Rows.snapOthersRow.targs := of_decide_eq_true kn
theorem wrap : Tryz.f13.isWrapper Tryz.prog Rows.snapOthersRow.wrapper Rows.snapOthersRow.mainSum := by unfold Func.isWrapper;first | (rw [if_pos ka];kernel_rfl) | (rw [if_neg ka];exact ⟨rfl,rfl⟩)
theorem over : Rows.snapOthersRow.holds Tryz.pinned (OpenSpec.ofChange Rows.snapOthersSpec) :=
 OpenClaim.holds_of_wide 13 Tryz.f13 rfl rfl rfl rfl rfl rfl rfl ⟨rfl,rfl,rfl,rfl,rfl⟩ rfl rfl rfl rfl rfl (by as_aux_lemma => kernel_rfl) Tryz.func13 closed inst wrap
  (fun os started H enc _ => lifted os started H enc)
theorem proved : Rows.SnapOthersSaid := over
end Go.Proofs.YtabbklpalbikdaaGreatDoor.lawSnapOthers
