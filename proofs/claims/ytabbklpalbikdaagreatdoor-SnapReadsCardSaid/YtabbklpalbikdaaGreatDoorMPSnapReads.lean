/-
 The statement Rows.SnapReadsSaid: any bytes with their digest are a snapshot,which is written down as one that holds the same,or are refused: the law answers true at every input,and leaves it as it was. Conditions: the listed variable is laid.
-/
import Derived.Test.YtabbklpalbikdaaGreatDoorM09
import Derived.Test.YtabbklpalbikdaaGreatDoorMOpen
import Derived.Test.YtabbklpalbikdaaGreatDoorMOpenL
set_option maxHeartbeats 32000000
set_option linter.unusedVariables false
set_option linter.unusedSimpArgs false
namespace Go.Proofs.YtabbklpalbikdaaGreatDoor.lawSnapReads
open Go.RowKit Go.Pt Go.ChangeShapes Go.WideShapes Go.ChangeAt
set_option linter.unusedVariables false
theorem door_met (os : Os) (args : Array Value) : laidMetH Tryz.prog laid2 ((World.doorLaid Tryz.prog 400 os).forCall (fun _ _ => 0) ⟨#[],args,[]⟩).memory :=
 laidMetH_of_parts3 (fuel := 8) (laidMet_of_run' 8 kt kt) kt kt
theorem band {a b : Bool} (h : a = true) (g : b = true) : (a && b) = true := by rw [h,g];rfl
set_option maxRecDepth 100000 in
theorem lifted (os : Os) (started : os.Started) (H : Type) (enc : TypeId × Value → H) :
  ReturnsInHanded {} Tryz.checked os 12 .any (fun w args => (Rows.snapReadsSpec.pre enc Tryz.prog Tryz.f12 [] false w args ∧ laidMetH Tryz.prog laid2 w) ∧ sizedMet enc Tryz.prog Tryz.f12 (OpenSpec.ofChange Rows.snapReadsSpec) false w args)
   (Rows.snapReadsSpec.post enc Tryz.prog Tryz.f12 false true false false) := by
 refine returnsInHanded_of_change_and (C := Tryz.checked) (X := fun w _ => laidMetH Tryz.prog laid2 w) (fun _ _ _ hh h => h.of_heap hh) own_knob started kt Tryz.func12
  (ChangeSpec.witness_shaped (enc := enc) (C := Tryz.checked) (os := os) (X := fun w _ => laidMetH Tryz.prog laid2 w) false (World.doorLaid Tryz.prog 400 os) #[.slice none 0 0,.slice none 0 0,.slice none 0 0] 8 rfl (World.shaped_of_RefB kt kt) kt kt kt (door_met os _)) ?_
 intro W base args ds gs before hval0 hW _ hwt hL _
 have hval : ∀ (j : Nat) t v,Tryz.f12.params[j]? = some t → args[j]? = some v → Value.okWide Tryz.prog W .any base t v := hval0
 have hW' := hW
 obtain ⟨p,q,hA0,hV,rfl,hfz,hnd⟩ := hW
 have hA : DataW.TrodAll enc Tryz.prog W 0 (fun _ => true) true Tryz.f12.params.toList args.toList ds p := hA0
 rw [Tryz.params12] at hA hval
 obtain ⟨v0,vs0,d0,ds0,p0,q0,hargs,rfl,rfl,h0,r0'⟩ := trodAll_cons hA
 obtain ⟨v1,vs1,d1,ds1,p1,q1,rfl,rfl,rfl,h1,r1'⟩ := trodAll_cons r0'
 obtain ⟨v2,vs2,d2,ds2,p2,q2,rfl,rfl,rfl,h2,r2'⟩ := trodAll_cons r1'
 obtain ⟨rfl,rfl,rfl⟩ := trodAll_nil r2'
 obtain rfl : args = #[v0,v1,v2] := by cases args;simp_all
 obtain ⟨rfl,rfl⟩ := trodVars_none hV
 have k0 := h0
 have lt0 : ∀ x ∈ p0,x.block < W.heap.size := by obtain ⟨m,hm⟩ := k0;exact DataW.trod_lt m _ _ _ hm
 obtain ⟨x0,m0,c0,rfl⟩ := okWide_slice Tryz.underlying24 (hval 0 24 v0 rfl rfl)
 obtain ⟨y0,l0,z0,e0,hl0,n0⟩ := open_loads (Tr.ofEach hwt (j := 0) (t := 24) (d := d0) kt rfl h0)
 obtain ⟨rfl,rfl,rfl⟩ : x0 = y0 ∧ m0 = l0.length ∧ c0 = z0 := by cases e0;exact ⟨rfl,rfl,rfl⟩
 have k1 := h1
 have lt1 : ∀ x ∈ p1,x.block < W.heap.size := by obtain ⟨m,hm⟩ := k1;exact DataW.trod_lt m _ _ _ hm
 obtain ⟨l1,w1⟩ := open_Bs Tryz.underlying27 Tryz.underlying5 kt (hval 1 27 v1 rfl rfl) h1
 have k2 := h2
 have lt2 : ∀ x ∈ p2,x.block < W.heap.size := by obtain ⟨m,hm⟩ := k2;exact DataW.trod_lt m _ _ _ hm
 obtain ⟨l2,w2,hl2⟩ := open_Is Tryz.underlying22 Tryz.underlying3 kt (hval 2 22 v2 rfl rfl) h2
 clear hA0 hval0
 refine (reads27 _ _ l0 v1 v2 l1 l2 W n0 hl0 w1 (fun k hk hne => bs_in w1 hne k hk) w2 hl2 (tabLaid2 hL) (shaTab2 hL) (shaTabLt (shaTab2 hL))).mono fun e W' ⟨he,hp⟩ => ?_
 have bel : Below W.heap.size W W' := hp.toBelow (Nat.le_refl _) fun _ hk h => Nat.not_lt.2 h hk
 subst he
 exact ⟨_,rfl,_,_,_,[],_,[],hW',trodAll_mk1 (shut_bool Tryz.underlying4 _),(trodAll_cons_mk (Below.trod laid_out kt (of_decide_eq_true kt) k0 bel lt0) (trodAll_cons_mk (Below.trod laid_out kt (of_decide_eq_true kt) k1 bel lt1) (trodAll_cons_mk (Below.trod laid_out kt (of_decide_eq_true kt) k2 bel lt2) trodAll_mk0))),rfl,bel.frame _,fun h => by cases h⟩
theorem closed : joinedFacts Tryz.prog 12 Tryz.f12 Rows.snapReadsSpec Rows.snapReadsRow = true := by
 delta joinedFacts
 repeat' with_reducible refine band ?_ ?_
 all_goals as_aux_lemma => kernel_rfl
theorem inst : Tryz.f12.isInstance Tryz.prog Rows.snapReadsRow.origin Rows.snapReadsRow.targs := of_decide_eq_true kt
theorem wrap : Tryz.f12.isWrapper Tryz.prog Rows.snapReadsRow.wrapper Rows.snapReadsRow.mainSum := by unfold Func.isWrapper;first | (rw [if_pos kb];kernel_rfl) | (rw [if_neg kb];exact ⟨rfl,rfl⟩)
theorem over : Rows.snapReadsRow.holds Tryz.pinned (OpenSpec.ofChange Rows.snapReadsSpec) :=
 OpenClaim.holds_of_wide 12 Tryz.f12 rfl rfl rfl rfl rfl rfl rfl ⟨rfl,rfl,rfl,rfl,rfl⟩ rfl rfl rfl rfl rfl (by as_aux_lemma => kernel_rfl) Tryz.func12 closed inst wrap
  (fun os started H enc _ => lifted os started H enc)
theorem proved : Rows.SnapReadsSaid := over
end Go.Proofs.YtabbklpalbikdaaGreatDoor.lawSnapReads
