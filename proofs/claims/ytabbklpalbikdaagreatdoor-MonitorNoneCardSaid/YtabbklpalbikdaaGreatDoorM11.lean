/-
 2 texts,one behind the other;each says what it proves. Conditions: as each text says.
-/
import Derived.Test.YtabbklpalbikdaaGreatDoorM10
import Derived.Test.YtabbklpalbikdaaGreatDoorM02
import Derived.Test.YtabbklpalbikdaaGreatDoorRows
import Derived.WalkKit
import Derived.ProofKit
import Derived.LaidMore
import Derived.OpenShut
import Derived.ShutString
import Derived.ChangeOld
import Derived.Below
import Derived.MakeChecks
import Derived.Stop.Joined
set_option linter.unusedVariables false
set_option linter.unusedSimpArgs false
section
namespace Go.Proofs.YtabbklpalbikdaaGreatDoor
open Go.RowKit Go.Pt
theorem mZE1 : (madeCells (Value.slice none 0 0).cells (1 * 1)).toList = [.slice none 0 0] := by kernel_rfl
theorem mZE2 : (madeCells (Value.slice none 0 0).cells (2 * 1)).toList = [.slice none 0 0,.slice none 0 0] := by kernel_rfl
theorem staZ_ok : StaOk staZ := ⟨xz_rg,⟨by decide,by decide⟩,by decide,by decide⟩
set_option maxHeartbeats 16000000 in
theorem none26 (n i : Int) (w : World) (hT : tabOk w) :
  Calls Tryz.prog 9 #[.int .i64 n,.int .i64 i] w fun e w' => e = .returned (.bool true) ∧ Upd (fun k => w.heap.size ≤ k) w w' := by
 refine enter (args := [_,_]) (Γ := [(0,_),(1,_)]) Tryz.func9 Tryz.ntmps9 rfl (of_decide_eq_true rfl) (.cons rfl (.cons rfl .nil)) ?_
 repeat' first | refine Wl.assign rfl rfl ?_ | apply Wl.nil | apply St.seq | apply St.region | apply Gt.next
 apply Wl.callC
 ·exact rfl
 ·repeat constructor
 intro wq hq
 refine (fit26 wq (hT.upd hq.upd fun y => y trivial)).mono ?_
 rintro e w1 ⟨rfl,u1⟩
 have U1 : Upd (fun k => w.heap.size ≤ k) w w1 := (hq.upd.mono fun _ _ y => (y trivial).elim).comp u1 fun k _ hs => hs.elim id fun h => Nat.le_trans hq.upd.size h
 refine ⟨_,_,rfl,Hp.start w1,?_⟩
 clear hq u1
 repeat' first | refine Wl.move rfl rfl ?_ | refine Wl.assign rfl rfl ?_ | refine Wl.not rfl rfl ?_ | apply Wl.nil | apply St.seq | apply St.region | (apply St.condF;exact rfl;exact ka) | apply St.skip | apply Gt.next
 apply Wl.callC
 ·exact rfl
 ·repeat constructor
 intro wq hq
 refine (nSkip wq).mono ?_
 rintro e wr ⟨rfl,hr⟩
 refine ⟨_,_,rfl,hq.newer hr,?_⟩
 clear hr hq wq wr
 repeat' first | refine Wl.move rfl rfl ?_ | apply Wl.nil | apply St.seq | apply St.region | apply Gt.next
 apply Wl.callC
 ·exact rfl
 ·repeat constructor
 intro wq hq
 refine (nState wq).mono ?_
 rintro e wr ⟨rfl,hr⟩
 refine ⟨_,_,rfl,hq.newer hr,?_⟩
 clear hr hq wq wr
 repeat' first | refine Wl.move rfl rfl ?_ | (apply Wl.storeA;exact rfl;exact rfl;exact rfl;exact rfl;exact ke;exact kf) | (apply Wl.loadAH;exact rfl;exact rfl;exact ke;exact ke) | (apply Wl.alloc;exact rfl;intro c hc ho) | apply Wl.nil | apply St.seq | apply St.region | apply Gt.next
 apply Wl.callC
 ·exact rfl
 ·repeat constructor
 intro wq hq
 refine (nWith wq).mono ?_
 rintro e wr ⟨rfl,hr⟩
 refine ⟨_,_,rfl,hq.newer hr,?_⟩
 clear hr hq wq wr
 repeat' first | refine Wl.move rfl rfl ?_ | refine Wl.assign rfl rfl ?_ | refine Wl.extract rfl rfl rfl ?_ | apply Wl.nil | apply St.seq | apply St.region | apply Gt.next
 apply Wl.callC
 ·exact rfl
 ·repeat constructor
 intro wq hq
 refine (nRun n wq).mono ?_
 rintro e wr ⟨rfl,hr⟩
 refine ⟨_,_,rfl,hq.newer hr,?_⟩
 clear hr hq wq wr
 repeat' first | (apply Wl.fieldV (v := .int .i64 (-1));exact rfl;exact rfl;exact rfl) | refine Wl.move rfl rfl ?_ | (apply Wl.on;exact rfl;exact rfl;exact ka) | (apply Wl.neqIs;exact rfl;exact rfl;exact rfl;exact kv)
 apply Wl.callC
 ·exact rfl
 ·repeat constructor
 intro wq hq
 refine (nSeen wq).mono ?_
 rintro e wr ⟨rfl,hr⟩
 refine ⟨_,_,rfl,hq.newer hr,?_⟩
 clear hr hq wq wr
 repeat' first | refine Wl.move rfl rfl ?_ | (apply Wl.on;exact rfl;exact rfl;exact ka) | (apply Wl.pickF;exact rfl;exact rfl;exact ka;exact rfl) | refine Wl.gtr rfl rfl rfl ?_ | refine Wl.len rfl rfl ?_
 apply Wl.callC
 ·exact rfl
 ·repeat constructor
 intro wq hq
 refine (nFeed i _ wq).mono ?_
 rintro e wr ⟨rfl,hr⟩
 refine ⟨_,_,rfl,hq.newer hr,?_⟩
 clear hr hq wq wr
 repeat' first | refine Wl.move rfl rfl ?_ | (apply Wl.on;exact rfl;exact rfl;exact ka) | (apply Wl.pickF;exact rfl;exact rfl;exact ka;exact rfl) | (apply Wl.neqIs;exact rfl;exact rfl;exact rfl;exact kv)
 apply Wl.callC
 ·exact rfl
 ·repeat constructor
 intro wq hq
 refine (nStatus i wq).mono ?_
 rintro e wr ⟨rfl,hr⟩
 refine ⟨_,_,rfl,hq.newer hr,?_⟩
 clear hr hq wq wr
 repeat' first | (apply Wl.neqSta (s := staZ) staZ_ok zd;exact rfl;exact rfl;exact rfl) | refine Wl.move rfl rfl ?_ | (apply Wl.on;exact rfl;exact rfl;exact ka) | (apply Wl.pickF;exact rfl;exact rfl;exact ka;exact rfl) | (apply Wl.buildS;exact rfl;exact ki;exact kc)
 apply Wl.callC
 ·exact rfl
 ·repeat constructor
 intro wq hq
 refine (nTurn wq).mono ?_
 rintro e wr ⟨rfl,hr⟩
 refine ⟨_,_,rfl,hq.newer hr,?_⟩
 clear hr hq wq wr
 repeat' first | refine Wl.move rfl rfl ?_ | (apply Wl.on;exact rfl;exact rfl;exact ka) | (apply Wl.pickF;exact rfl;exact rfl;exact ka;exact rfl) | (apply Wl.neqIs;exact rfl;exact rfl;exact rfl;exact kv)
 apply Wl.callC
 ·exact rfl
 ·repeat constructor
 intro wq hq
 refine (nCount wq).mono ?_
 rintro e wr ⟨rfl,hr⟩
 refine ⟨_,_,rfl,hq.newer hr,?_⟩
 clear hr hq wq wr
 repeat' first | refine Wl.move rfl rfl ?_ | (apply Wl.on;exact rfl;exact rfl;exact ka)
 apply Wl.callC
 ·exact rfl
 ·repeat constructor
 intro wq hq
 refine (nLines wq).mono ?_
 rintro e wr ⟨rfl,hr⟩
 refine ⟨_,_,rfl,hq.newer hr,?_⟩
 clear hr hq wq wr
 repeat' first | refine Wl.move rfl rfl ?_ | (apply Wl.on;exact rfl;exact rfl;exact ka) | (refine Wl.addI rfl rfl rfl ?_ ?_;constructor <;> omega) | refine Wl.len rfl rfl ?_
 apply Wl.callC
 ·exact rfl
 ·repeat constructor
 intro wq hq
 refine (nLetters i wq).mono ?_
 rintro e wr ⟨rfl,hr⟩
 refine ⟨_,_,rfl,hq.newer hr,?_⟩
 clear hr hq wq wr
 repeat' first | refine Wl.move rfl rfl ?_ | (apply Wl.on;exact rfl;exact rfl;exact ka) | (refine Wl.addI rfl rfl rfl ?_ ?_;constructor <;> omega)
 apply Wl.callC
 ·exact rfl
 ·repeat constructor
 intro wq hq
 refine (nWaits i wq).mono ?_
 rintro e wr ⟨rfl,hr⟩
 refine ⟨_,_,rfl,hq.newer hr,?_⟩
 clear hr hq wq wr
 repeat' first | refine Wl.move rfl rfl ?_ | (apply Wl.on;exact rfl;exact rfl;exact ka) | (refine Wl.addI rfl rfl rfl ?_ ?_;constructor <;> omega)
 apply Wl.callC
 ·exact rfl
 ·repeat constructor
 intro wq hq
 refine (nEntries i wq).mono ?_
 rintro e wr ⟨rfl,hr⟩
 refine ⟨_,_,rfl,hq.newer hr,?_⟩
 clear hr hq wq wr
 repeat' first | refine Wl.move rfl rfl ?_ | (apply Wl.on;exact rfl;exact rfl;exact ka) | (apply Wl.pickF;exact rfl;exact rfl;exact ka;exact rfl) | refine Wl.neq rfl rfl rfl ?_ | (refine Wl.addI rfl rfl rfl ?_ ?_;constructor <;> omega) | refine Wl.len rfl rfl ?_
 apply Wl.callC
 ·exact rfl
 ·repeat constructor
 intro wq hq
 refine (nMemory wq).mono ?_
 rintro e wr ⟨rfl,hr⟩
 refine ⟨_,_,rfl,hq.newer hr,?_⟩
 clear hr hq wq wr
 repeat' first | refine Wl.move rfl rfl ?_ | (apply Wl.on;exact rfl;exact rfl;exact ka) | (apply Wl.pickF;exact rfl;exact rfl;exact ka;exact rfl) | refine Wl.fieldAddr0 rfl rfl ?_ | (apply Wl.loadH;exact rfl;exact rfl;exact ke;exact rfl) | refine Wl.neqNN rfl rfl rfl ?_ | (apply Wl.neqIs;exact rfl;exact rfl;exact rfl;exact kv) | apply Wl.nil | apply St.seq | apply St.region | (apply St.condF;exact rfl;exact ka) | apply St.skip | apply Gt.next
 apply Wl.callC
 ·exact rfl
 ·repeat constructor
 intro wq hq
 refine (payloads 2 zd wq).mono ?_
 rintro e w2 ⟨pv,gs,rfl,hpv,_,u2⟩
 have U2 : Upd (fun k => w.heap.size ≤ k) w w2 := (hq.on U1 (by simp only [List.mem_cons,List.not_mem_nil,or_false,forall_eq_or_imp,forall_eq];have := U1.size;omega)).comp u2 fun k _ hs => hs.elim id fun h => by have := hq.upd.size;have := U1.size;omega
 obtain ⟨g5,cap5,J5,rfl,_,_⟩ := hpv.blk zd
 refine ⟨_,_,rfl,Hp.start w2,?_⟩
 clear hq u2
 repeat' first | refine Wl.assign rfl rfl ?_ | apply Wl.nil | apply Gt.next
 refine St.cut (σ := World) (fun τ => Upd (fun k => w.heap.size ≤ k) w τ) (fun τ => [(9,.slice (some ⟨g5,0,none⟩) 2 cap5),(11,.int .i64 1)]) (fun τ => Hp τ []) ?_ ?_
 ·refine St.reb (H' := []) fun wA hA => ⟨trivial,trivial,?_⟩
  have UA : Upd (fun k => w.heap.size ≤ k) w wA := hA.on U2 qm
  have zA := UA.size
  refine St.tree (fun _ => True) mixed (fun _ h' => ⟨Hp.drew h',trivial⟩) ?_
  refine Mt.pu 0 ?_
  refine Wl.move rfl rfl (Wl.nilB ?_)
  refine Mt.eff3 (i := 1) (j := 2) (k := 3) kg kw kw kw ?_ ?_ ?_
  ·apply Wl.makeSlice (n := 2)
   ·exact rfl
   ·exact rfl
   ·exact rfl
   ·exact rfl
   ·decide
   intro cE hcE ocE
   rw [mZE2]
   repeat' first | apply Wl.nil
   refine Mt.backE (fun _ _ => trivial) ?_
   refine Mt.eff2 (i := 2) (j := 3) kg kw kw ?_ ?_
   ·apply Wl.makeSlice (n := 1)
    ·exact rfl
    ·exact rfl
    ·exact rfl
    ·exact rfl
    ·decide
    intro cS hcS ocS
    rw [mZ 1 zd]
    repeat' first | apply Wl.nil
    refine Mt.backE (fun _ _ => trivial) ?_
    refine Mt.eff1 (i := 3) kg kw ?_
    apply Wl.callC
    ·exact rfl
    ·repeat constructor
    intro wq hq
    refine (newMem wq).mono ?_
    rintro e wr ⟨cM,rfl,hpM,hcM⟩
    have hcMA : wA.heap.size ≤ cM := Nat.le_trans hq.upd.size hcM
    refine ⟨_,_,rfl,hq.callNew hpM hcM,?_⟩
    clear hq hpM hcM
    repeat' first | apply Wl.nil
    refine Mt.backE (fun _ _ => trivial) ?_
    refine Mt.eff1 (i := 4) kg kw ?_
    apply Wl.callC
    ·exact rfl
    ·repeat constructor
    intro wq hq
    refine (monBad _ _ (some ⟨cS,0,none⟩) (some ⟨cM,0,none⟩) 2 2 1 _ _ _ (fun _ => 0) wq zd (wordZ (hq.own.at (x := ⟨cS,List.replicate 1 (Value.int .u32 0),25⟩) kt)) (.inl zd)).mono ?_
    rintro e wr ⟨rfl,hr⟩
    refine ⟨_,_,rfl,hq.newer hr,?_⟩
    clear hr hq wq wr
    repeat' first | apply Wl.nil
    refine Mt.backE (fun _ _ => trivial) ?_
    refine Mt.pu 5 ?_
    refine Wl.move rfl rfl (Wl.nilB ?_)
    refine Mt.pu 6 ?_
    refine Wl.extract rfl rfl rfl (Wl.nilB ?_)
    refine Mt.pu 7 ?_
    refine Wl.extract rfl rfl rfl (Wl.nilB ?_)
    refine Mt.pu 8 ?_
    refine Wl.assign rfl rfl (Wl.nilB ?_)
    refine Mt.pu 9 ?_
    refine Wl.assign rfl rfl (Wl.nilB ?_)
    refine Mt.toGt kg ?_
    refine Gt.reb (H' := []) fun wB hB => ⟨trivial,trivial,?_⟩
    apply Gt.meet wB
    ·exact hB.on UA kb
    ·repeat constructor
    ·exact fun _ h => h
   ·apply Wl.callC
    ·exact rfl
    ·repeat constructor
    intro wq hq
    refine (newMem wq).mono ?_
    rintro e wr ⟨cM,rfl,hpM,hcM⟩
    have hcMA : wA.heap.size ≤ cM := Nat.le_trans hq.upd.size hcM
    refine ⟨_,_,rfl,hq.callNew hpM hcM,?_⟩
    clear hq hpM hcM
    repeat' first | apply Wl.nil
    refine Mt.backE (fun _ _ => trivial) ?_
    refine Mt.eff1 (i := 2) kg kw ?_
    apply Wl.makeSlice (n := 1)
    ·exact rfl
    ·exact rfl
    ·exact rfl
    ·exact rfl
    ·decide
    intro cS hcS ocS
    rw [mZ 1 zd]
    repeat' first | apply Wl.nil
    refine Mt.backE (fun _ _ => trivial) ?_
    refine Mt.eff1 (i := 4) kg kw ?_
    apply Wl.callC
    ·exact rfl
    ·repeat constructor
    intro wq hq
    refine (monBad _ _ (some ⟨cS,0,none⟩) (some ⟨cM,0,none⟩) 2 2 1 _ _ _ (fun _ => 0) wq zd (wordZ (hq.own.at (x := ⟨cS,List.replicate 1 (Value.int .u32 0),25⟩) kt)) (.inl zd)).mono ?_
    rintro e wr ⟨rfl,hr⟩
    refine ⟨_,_,rfl,hq.newer hr,?_⟩
    clear hr hq wq wr
    repeat' first | apply Wl.nil
    refine Mt.backE (fun _ _ => trivial) ?_
    refine Mt.pu 5 ?_
    refine Wl.move rfl rfl (Wl.nilB ?_)
    refine Mt.pu 6 ?_
    refine Wl.extract rfl rfl rfl (Wl.nilB ?_)
    refine Mt.pu 7 ?_
    refine Wl.extract rfl rfl rfl (Wl.nilB ?_)
    refine Mt.pu 8 ?_
    refine Wl.assign rfl rfl (Wl.nilB ?_)
    refine Mt.pu 9 ?_
    refine Wl.assign rfl rfl (Wl.nilB ?_)
    refine Mt.toGt kg ?_
    refine Gt.reb (H' := []) fun wB hB => ⟨trivial,trivial,?_⟩
    apply Gt.meet wB
    ·exact hB.on UA kb
    ·repeat constructor
    ·exact fun _ h => h
  ·apply Wl.makeSlice (n := 1)
   ·exact rfl
   ·exact rfl
   ·exact rfl
   ·exact rfl
   ·decide
   intro cS hcS ocS
   rw [mZ 1 zd]
   repeat' first | apply Wl.nil
   refine Mt.backE (fun _ _ => trivial) ?_
   refine Mt.eff2 (i := 1) (j := 3) kg kw kw ?_ ?_
   ·apply Wl.makeSlice (n := 2)
    ·exact rfl
    ·exact rfl
    ·exact rfl
    ·exact rfl
    ·decide
    intro cE hcE ocE
    rw [mZE2]
    repeat' first | apply Wl.nil
    refine Mt.backE (fun _ _ => trivial) ?_
    refine Mt.eff1 (i := 3) kg kw ?_
    apply Wl.callC
    ·exact rfl
    ·repeat constructor
    intro wq hq
    refine (newMem wq).mono ?_
    rintro e wr ⟨cM,rfl,hpM,hcM⟩
    have hcMA : wA.heap.size ≤ cM := Nat.le_trans hq.upd.size hcM
    refine ⟨_,_,rfl,hq.callNew hpM hcM,?_⟩
    clear hq hpM hcM
    repeat' first | apply Wl.nil
    refine Mt.backE (fun _ _ => trivial) ?_
    refine Mt.eff1 (i := 4) kg kw ?_
    apply Wl.callC
    ·exact rfl
    ·repeat constructor
    intro wq hq
    refine (monBad _ _ (some ⟨cS,0,none⟩) (some ⟨cM,0,none⟩) 2 2 1 _ _ _ (fun _ => 0) wq zd (wordZ (hq.own.at (x := ⟨cS,List.replicate 1 (Value.int .u32 0),25⟩) kt)) (.inl zd)).mono ?_
    rintro e wr ⟨rfl,hr⟩
    refine ⟨_,_,rfl,hq.newer hr,?_⟩
    clear hr hq wq wr
    repeat' first | apply Wl.nil
    refine Mt.backE (fun _ _ => trivial) ?_
    refine Mt.pu 5 ?_
    refine Wl.move rfl rfl (Wl.nilB ?_)
    refine Mt.pu 6 ?_
    refine Wl.extract rfl rfl rfl (Wl.nilB ?_)
    refine Mt.pu 7 ?_
    refine Wl.extract rfl rfl rfl (Wl.nilB ?_)
    refine Mt.pu 8 ?_
    refine Wl.assign rfl rfl (Wl.nilB ?_)
    refine Mt.pu 9 ?_
    refine Wl.assign rfl rfl (Wl.nilB ?_)
    refine Mt.toGt kg ?_
    refine Gt.reb (H' := []) fun wB hB => ⟨trivial,trivial,?_⟩
    apply Gt.meet wB
    ·exact hB.on UA kb
    ·repeat constructor
    ·exact fun _ h => h
   ·apply Wl.callC
    ·exact rfl
    ·repeat constructor
    intro wq hq
    refine (newMem wq).mono ?_
    rintro e wr ⟨cM,rfl,hpM,hcM⟩
    have hcMA : wA.heap.size ≤ cM := Nat.le_trans hq.upd.size hcM
    refine ⟨_,_,rfl,hq.callNew hpM hcM,?_⟩
    clear hq hpM hcM
    repeat' first | apply Wl.nil
    refine Mt.backE (fun _ _ => trivial) ?_
    refine Mt.eff1 (i := 1) kg kw ?_
    apply Wl.makeSlice (n := 2)
    ·exact rfl
    ·exact rfl
    ·exact rfl
    ·exact rfl
    ·decide
    intro cE hcE ocE
    rw [mZE2]
    repeat' first | apply Wl.nil
    refine Mt.backE (fun _ _ => trivial) ?_
    refine Mt.eff1 (i := 4) kg kw ?_
    apply Wl.callC
    ·exact rfl
    ·repeat constructor
    intro wq hq
    refine (monBad _ _ (some ⟨cS,0,none⟩) (some ⟨cM,0,none⟩) 2 2 1 _ _ _ (fun _ => 0) wq zd (wordZ (hq.own.at (x := ⟨cS,List.replicate 1 (Value.int .u32 0),25⟩) kt)) (.inl zd)).mono ?_
    rintro e wr ⟨rfl,hr⟩
    refine ⟨_,_,rfl,hq.newer hr,?_⟩
    clear hr hq wq wr
    repeat' first | apply Wl.nil
    refine Mt.backE (fun _ _ => trivial) ?_
    refine Mt.pu 5 ?_
    refine Wl.move rfl rfl (Wl.nilB ?_)
    refine Mt.pu 6 ?_
    refine Wl.extract rfl rfl rfl (Wl.nilB ?_)
    refine Mt.pu 7 ?_
    refine Wl.extract rfl rfl rfl (Wl.nilB ?_)
    refine Mt.pu 8 ?_
    refine Wl.assign rfl rfl (Wl.nilB ?_)
    refine Mt.pu 9 ?_
    refine Wl.assign rfl rfl (Wl.nilB ?_)
    refine Mt.toGt kg ?_
    refine Gt.reb (H' := []) fun wB hB => ⟨trivial,trivial,?_⟩
    apply Gt.meet wB
    ·exact hB.on UA kb
    ·repeat constructor
    ·exact fun _ h => h
  ·apply Wl.callC
   ·exact rfl
   ·repeat constructor
   intro wq hq
   refine (newMem wq).mono ?_
   rintro e wr ⟨cM,rfl,hpM,hcM⟩
   have hcMA : wA.heap.size ≤ cM := Nat.le_trans hq.upd.size hcM
   refine ⟨_,_,rfl,hq.callNew hpM hcM,?_⟩
   clear hq hpM hcM
   repeat' first | apply Wl.nil
   refine Mt.backE (fun _ _ => trivial) ?_
   refine Mt.eff2 (i := 1) (j := 2) kg kw kw ?_ ?_
   ·apply Wl.makeSlice (n := 2)
    ·exact rfl
    ·exact rfl
    ·exact rfl
    ·exact rfl
    ·decide
    intro cE hcE ocE
    rw [mZE2]
    repeat' first | apply Wl.nil
    refine Mt.backE (fun _ _ => trivial) ?_
    refine Mt.eff1 (i := 2) kg kw ?_
    apply Wl.makeSlice (n := 1)
    ·exact rfl
    ·exact rfl
    ·exact rfl
    ·exact rfl
    ·decide
    intro cS hcS ocS
    rw [mZ 1 zd]
    repeat' first | apply Wl.nil
    refine Mt.backE (fun _ _ => trivial) ?_
    refine Mt.eff1 (i := 4) kg kw ?_
    apply Wl.callC
    ·exact rfl
    ·repeat constructor
    intro wq hq
    refine (monBad _ _ (some ⟨cS,0,none⟩) (some ⟨cM,0,none⟩) 2 2 1 _ _ _ (fun _ => 0) wq zd (wordZ (hq.own.at (x := ⟨cS,List.replicate 1 (Value.int .u32 0),25⟩) kt)) (.inl zd)).mono ?_
    rintro e wr ⟨rfl,hr⟩
    refine ⟨_,_,rfl,hq.newer hr,?_⟩
    clear hr hq wq wr
    repeat' first | apply Wl.nil
    refine Mt.backE (fun _ _ => trivial) ?_
    refine Mt.pu 5 ?_
    refine Wl.move rfl rfl (Wl.nilB ?_)
    refine Mt.pu 6 ?_
    refine Wl.extract rfl rfl rfl (Wl.nilB ?_)
    refine Mt.pu 7 ?_
    refine Wl.extract rfl rfl rfl (Wl.nilB ?_)
    refine Mt.pu 8 ?_
    refine Wl.assign rfl rfl (Wl.nilB ?_)
    refine Mt.pu 9 ?_
    refine Wl.assign rfl rfl (Wl.nilB ?_)
    refine Mt.toGt kg ?_
    refine Gt.reb (H' := []) fun wB hB => ⟨trivial,trivial,?_⟩
    apply Gt.meet wB
    ·exact hB.on UA kb
    ·repeat constructor
    ·exact fun _ h => h
   ·apply Wl.makeSlice (n := 1)
    ·exact rfl
    ·exact rfl
    ·exact rfl
    ·exact rfl
    ·decide
    intro cS hcS ocS
    rw [mZ 1 zd]
    repeat' first | apply Wl.nil
    refine Mt.backE (fun _ _ => trivial) ?_
    refine Mt.eff1 (i := 1) kg kw ?_
    apply Wl.makeSlice (n := 2)
    ·exact rfl
    ·exact rfl
    ·exact rfl
    ·exact rfl
    ·decide
    intro cE hcE ocE
    rw [mZE2]
    repeat' first | apply Wl.nil
    refine Mt.backE (fun _ _ => trivial) ?_
    refine Mt.eff1 (i := 4) kg kw ?_
    apply Wl.callC
    ·exact rfl
    ·repeat constructor
    intro wq hq
    refine (monBad _ _ (some ⟨cS,0,none⟩) (some ⟨cM,0,none⟩) 2 2 1 _ _ _ (fun _ => 0) wq zd (wordZ (hq.own.at (x := ⟨cS,List.replicate 1 (Value.int .u32 0),25⟩) kt)) (.inl zd)).mono ?_
    rintro e wr ⟨rfl,hr⟩
    refine ⟨_,_,rfl,hq.newer hr,?_⟩
    clear hr hq wq wr
    repeat' first | apply Wl.nil
    refine Mt.backE (fun _ _ => trivial) ?_
    refine Mt.pu 5 ?_
    refine Wl.move rfl rfl (Wl.nilB ?_)
    refine Mt.pu 6 ?_
    refine Wl.extract rfl rfl rfl (Wl.nilB ?_)
    refine Mt.pu 7 ?_
    refine Wl.extract rfl rfl rfl (Wl.nilB ?_)
    refine Mt.pu 8 ?_
    refine Wl.assign rfl rfl (Wl.nilB ?_)
    refine Mt.pu 9 ?_
    refine Wl.assign rfl rfl (Wl.nilB ?_)
    refine Mt.toGt kg ?_
    refine Gt.reb (H' := []) fun wB hB => ⟨trivial,trivial,?_⟩
    apply Gt.meet wB
    ·exact hB.on UA kb
    ·repeat constructor
    ·exact fun _ h => h
 clear U2
 intro w2 U2
 refine St.cut (σ := World) (fun τ => Upd (fun k => w.heap.size ≤ k) w τ) (fun τ => [(9,.slice (some ⟨g5,0,none⟩) 2 cap5),(11,.int .i64 1),(13,.int .i64 1)]) (fun τ => Hp τ []) ?_ ?_
 ·refine St.reb (H' := []) fun wA hA => ⟨trivial,trivial,?_⟩
  have UA : Upd (fun k => w.heap.size ≤ k) w wA := hA.on U2 qm
  have zA := UA.size
  refine St.tree (fun _ => True) mixed (fun _ h' => ⟨Hp.drew h',trivial⟩) ?_
  refine Mt.pu 0 ?_
  refine Wl.move rfl rfl (Wl.nilB ?_)
  refine Mt.eff3 (i := 1) (j := 2) (k := 3) kg kw kw kw ?_ ?_ ?_
  ·apply Wl.makeSlice (n := 1)
   ·exact rfl
   ·exact rfl
   ·exact rfl
   ·exact rfl
   ·decide
   intro cE hcE ocE
   rw [mZE1]
   repeat' first | apply Wl.nil
   refine Mt.backE (fun _ _ => trivial) ?_
   refine Mt.eff2 (i := 2) (j := 3) kg kw kw ?_ ?_
   ·apply Wl.makeSlice (n := 2)
    ·exact rfl
    ·exact rfl
    ·exact rfl
    ·exact rfl
    ·decide
    intro cS hcS ocS
    rw [mZ 2 zd]
    repeat' first | apply Wl.nil
    refine Mt.backE (fun _ _ => trivial) ?_
    refine Mt.eff1 (i := 3) kg kw ?_
    apply Wl.callC
    ·exact rfl
    ·repeat constructor
    intro wq hq
    refine (newMem wq).mono ?_
    rintro e wr ⟨cM,rfl,hpM,hcM⟩
    have hcMA : wA.heap.size ≤ cM := Nat.le_trans hq.upd.size hcM
    refine ⟨_,_,rfl,hq.callNew hpM hcM,?_⟩
    clear hq hpM hcM
    repeat' first | apply Wl.nil
    refine Mt.backE (fun _ _ => trivial) ?_
    refine Mt.eff1 (i := 4) kg kw ?_
    apply Wl.callC
    ·exact rfl
    ·repeat constructor
    intro wq hq
    refine (monBad _ _ (some ⟨cS,0,none⟩) (some ⟨cM,0,none⟩) 2 1 2 _ _ _ (fun _ => 0) wq zd (wordZ (hq.own.at (x := ⟨cS,List.replicate 2 (Value.int .u32 0),25⟩) kt)) (.inr (.inl zd))).mono ?_
    rintro e wr ⟨rfl,hr⟩
    refine ⟨_,_,rfl,hq.newer hr,?_⟩
    clear hr hq wq wr
    repeat' first | apply Wl.nil
    refine Mt.backE (fun _ _ => trivial) ?_
    refine Mt.pu 5 ?_
    refine Wl.move rfl rfl (Wl.nilB ?_)
    refine Mt.pu 6 ?_
    refine Wl.extract rfl rfl rfl (Wl.nilB ?_)
    refine Mt.pu 7 ?_
    refine Wl.extract rfl rfl rfl (Wl.nilB ?_)
    refine Mt.pu 8 ?_
    refine Wl.assign rfl rfl (Wl.nilB ?_)
    refine Mt.pu 9 ?_
    refine Wl.assign rfl rfl (Wl.nilB ?_)
    refine Mt.toGt kg ?_
    refine Gt.reb (H' := []) fun wB hB => ⟨trivial,trivial,?_⟩
    apply Gt.meet wB
    ·exact hB.on UA kb
    ·repeat constructor
    ·exact fun _ h => h
   ·apply Wl.callC
    ·exact rfl
    ·repeat constructor
    intro wq hq
    refine (newMem wq).mono ?_
    rintro e wr ⟨cM,rfl,hpM,hcM⟩
    have hcMA : wA.heap.size ≤ cM := Nat.le_trans hq.upd.size hcM
    refine ⟨_,_,rfl,hq.callNew hpM hcM,?_⟩
    clear hq hpM hcM
    repeat' first | apply Wl.nil
    refine Mt.backE (fun _ _ => trivial) ?_
    refine Mt.eff1 (i := 2) kg kw ?_
    apply Wl.makeSlice (n := 2)
    ·exact rfl
    ·exact rfl
    ·exact rfl
    ·exact rfl
    ·decide
    intro cS hcS ocS
    rw [mZ 2 zd]
    repeat' first | apply Wl.nil
    refine Mt.backE (fun _ _ => trivial) ?_
    refine Mt.eff1 (i := 4) kg kw ?_
    apply Wl.callC
    ·exact rfl
    ·repeat constructor
    intro wq hq
    refine (monBad _ _ (some ⟨cS,0,none⟩) (some ⟨cM,0,none⟩) 2 1 2 _ _ _ (fun _ => 0) wq zd (wordZ (hq.own.at (x := ⟨cS,List.replicate 2 (Value.int .u32 0),25⟩) kt)) (.inr (.inl zd))).mono ?_
    rintro e wr ⟨rfl,hr⟩
    refine ⟨_,_,rfl,hq.newer hr,?_⟩
    clear hr hq wq wr
    repeat' first | apply Wl.nil
    refine Mt.backE (fun _ _ => trivial) ?_
    refine Mt.pu 5 ?_
    refine Wl.move rfl rfl (Wl.nilB ?_)
    refine Mt.pu 6 ?_
    refine Wl.extract rfl rfl rfl (Wl.nilB ?_)
    refine Mt.pu 7 ?_
    refine Wl.extract rfl rfl rfl (Wl.nilB ?_)
    refine Mt.pu 8 ?_
    refine Wl.assign rfl rfl (Wl.nilB ?_)
    refine Mt.pu 9 ?_
    refine Wl.assign rfl rfl (Wl.nilB ?_)
    refine Mt.toGt kg ?_
    refine Gt.reb (H' := []) fun wB hB => ⟨trivial,trivial,?_⟩
    apply Gt.meet wB
    ·exact hB.on UA kb
    ·repeat constructor
    ·exact fun _ h => h
  ·apply Wl.makeSlice (n := 2)
   ·exact rfl
   ·exact rfl
   ·exact rfl
   ·exact rfl
   ·decide
   intro cS hcS ocS
   rw [mZ 2 zd]
   repeat' first | apply Wl.nil
   refine Mt.backE (fun _ _ => trivial) ?_
   refine Mt.eff2 (i := 1) (j := 3) kg kw kw ?_ ?_
   ·apply Wl.makeSlice (n := 1)
    ·exact rfl
    ·exact rfl
    ·exact rfl
    ·exact rfl
    ·decide
    intro cE hcE ocE
    rw [mZE1]
    repeat' first | apply Wl.nil
    refine Mt.backE (fun _ _ => trivial) ?_
    refine Mt.eff1 (i := 3) kg kw ?_
    apply Wl.callC
    ·exact rfl
    ·repeat constructor
    intro wq hq
    refine (newMem wq).mono ?_
    rintro e wr ⟨cM,rfl,hpM,hcM⟩
    have hcMA : wA.heap.size ≤ cM := Nat.le_trans hq.upd.size hcM
    refine ⟨_,_,rfl,hq.callNew hpM hcM,?_⟩
    clear hq hpM hcM
    repeat' first | apply Wl.nil
    refine Mt.backE (fun _ _ => trivial) ?_
    refine Mt.eff1 (i := 4) kg kw ?_
    apply Wl.callC
    ·exact rfl
    ·repeat constructor
    intro wq hq
    refine (monBad _ _ (some ⟨cS,0,none⟩) (some ⟨cM,0,none⟩) 2 1 2 _ _ _ (fun _ => 0) wq zd (wordZ (hq.own.at (x := ⟨cS,List.replicate 2 (Value.int .u32 0),25⟩) kt)) (.inr (.inl zd))).mono ?_
    rintro e wr ⟨rfl,hr⟩
    refine ⟨_,_,rfl,hq.newer hr,?_⟩
    clear hr hq wq wr
    repeat' first | apply Wl.nil
    refine Mt.backE (fun _ _ => trivial) ?_
    refine Mt.pu 5 ?_
    refine Wl.move rfl rfl (Wl.nilB ?_)
    refine Mt.pu 6 ?_
    refine Wl.extract rfl rfl rfl (Wl.nilB ?_)
    refine Mt.pu 7 ?_
    refine Wl.extract rfl rfl rfl (Wl.nilB ?_)
    refine Mt.pu 8 ?_
    refine Wl.assign rfl rfl (Wl.nilB ?_)
    refine Mt.pu 9 ?_
    refine Wl.assign rfl rfl (Wl.nilB ?_)
    refine Mt.toGt kg ?_
    refine Gt.reb (H' := []) fun wB hB => ⟨trivial,trivial,?_⟩
    apply Gt.meet wB
    ·exact hB.on UA kb
    ·repeat constructor
    ·exact fun _ h => h
   ·apply Wl.callC
    ·exact rfl
    ·repeat constructor
    intro wq hq
    refine (newMem wq).mono ?_
    rintro e wr ⟨cM,rfl,hpM,hcM⟩
    have hcMA : wA.heap.size ≤ cM := Nat.le_trans hq.upd.size hcM
    refine ⟨_,_,rfl,hq.callNew hpM hcM,?_⟩
    clear hq hpM hcM
    repeat' first | apply Wl.nil
    refine Mt.backE (fun _ _ => trivial) ?_
    refine Mt.eff1 (i := 1) kg kw ?_
    apply Wl.makeSlice (n := 1)
    ·exact rfl
    ·exact rfl
    ·exact rfl
    ·exact rfl
    ·decide
    intro cE hcE ocE
    rw [mZE1]
    repeat' first | apply Wl.nil
    refine Mt.backE (fun _ _ => trivial) ?_
    refine Mt.eff1 (i := 4) kg kw ?_
    apply Wl.callC
    ·exact rfl
    ·repeat constructor
    intro wq hq
    refine (monBad _ _ (some ⟨cS,0,none⟩) (some ⟨cM,0,none⟩) 2 1 2 _ _ _ (fun _ => 0) wq zd (wordZ (hq.own.at (x := ⟨cS,List.replicate 2 (Value.int .u32 0),25⟩) kt)) (.inr (.inl zd))).mono ?_
    rintro e wr ⟨rfl,hr⟩
    refine ⟨_,_,rfl,hq.newer hr,?_⟩
    clear hr hq wq wr
    repeat' first | apply Wl.nil
    refine Mt.backE (fun _ _ => trivial) ?_
    refine Mt.pu 5 ?_
    refine Wl.move rfl rfl (Wl.nilB ?_)
    refine Mt.pu 6 ?_
    refine Wl.extract rfl rfl rfl (Wl.nilB ?_)
    refine Mt.pu 7 ?_
    refine Wl.extract rfl rfl rfl (Wl.nilB ?_)
    refine Mt.pu 8 ?_
    refine Wl.assign rfl rfl (Wl.nilB ?_)
    refine Mt.pu 9 ?_
    refine Wl.assign rfl rfl (Wl.nilB ?_)
    refine Mt.toGt kg ?_
    refine Gt.reb (H' := []) fun wB hB => ⟨trivial,trivial,?_⟩
    apply Gt.meet wB
    ·exact hB.on UA kb
    ·repeat constructor
    ·exact fun _ h => h
  ·apply Wl.callC
   ·exact rfl
   ·repeat constructor
   intro wq hq
   refine (newMem wq).mono ?_
   rintro e wr ⟨cM,rfl,hpM,hcM⟩
   have hcMA : wA.heap.size ≤ cM := Nat.le_trans hq.upd.size hcM
   refine ⟨_,_,rfl,hq.callNew hpM hcM,?_⟩
   clear hq hpM hcM
   repeat' first | apply Wl.nil
   refine Mt.backE (fun _ _ => trivial) ?_
   refine Mt.eff2 (i := 1) (j := 2) kg kw kw ?_ ?_
   ·apply Wl.makeSlice (n := 1)
    ·exact rfl
    ·exact rfl
    ·exact rfl
    ·exact rfl
    ·decide
    intro cE hcE ocE
    rw [mZE1]
    repeat' first | apply Wl.nil
    refine Mt.backE (fun _ _ => trivial) ?_
    refine Mt.eff1 (i := 2) kg kw ?_
    apply Wl.makeSlice (n := 2)
    ·exact rfl
    ·exact rfl
    ·exact rfl
    ·exact rfl
    ·decide
    intro cS hcS ocS
    rw [mZ 2 zd]
    repeat' first | apply Wl.nil
    refine Mt.backE (fun _ _ => trivial) ?_
    refine Mt.eff1 (i := 4) kg kw ?_
    apply Wl.callC
    ·exact rfl
    ·repeat constructor
    intro wq hq
    refine (monBad _ _ (some ⟨cS,0,none⟩) (some ⟨cM,0,none⟩) 2 1 2 _ _ _ (fun _ => 0) wq zd (wordZ (hq.own.at (x := ⟨cS,List.replicate 2 (Value.int .u32 0),25⟩) kt)) (.inr (.inl zd))).mono ?_
    rintro e wr ⟨rfl,hr⟩
    refine ⟨_,_,rfl,hq.newer hr,?_⟩
    clear hr hq wq wr
    repeat' first | apply Wl.nil
    refine Mt.backE (fun _ _ => trivial) ?_
    refine Mt.pu 5 ?_
    refine Wl.move rfl rfl (Wl.nilB ?_)
    refine Mt.pu 6 ?_
    refine Wl.extract rfl rfl rfl (Wl.nilB ?_)
    refine Mt.pu 7 ?_
    refine Wl.extract rfl rfl rfl (Wl.nilB ?_)
    refine Mt.pu 8 ?_
    refine Wl.assign rfl rfl (Wl.nilB ?_)
    refine Mt.pu 9 ?_
    refine Wl.assign rfl rfl (Wl.nilB ?_)
    refine Mt.toGt kg ?_
    refine Gt.reb (H' := []) fun wB hB => ⟨trivial,trivial,?_⟩
    apply Gt.meet wB
    ·exact hB.on UA kb
    ·repeat constructor
    ·exact fun _ h => h
   ·apply Wl.makeSlice (n := 2)
    ·exact rfl
    ·exact rfl
    ·exact rfl
    ·exact rfl
    ·decide
    intro cS hcS ocS
    rw [mZ 2 zd]
    repeat' first | apply Wl.nil
    refine Mt.backE (fun _ _ => trivial) ?_
    refine Mt.eff1 (i := 1) kg kw ?_
    apply Wl.makeSlice (n := 1)
    ·exact rfl
    ·exact rfl
    ·exact rfl
    ·exact rfl
    ·decide
    intro cE hcE ocE
    rw [mZE1]
    repeat' first | apply Wl.nil
    refine Mt.backE (fun _ _ => trivial) ?_
    refine Mt.eff1 (i := 4) kg kw ?_
    apply Wl.callC
    ·exact rfl
    ·repeat constructor
    intro wq hq
    refine (monBad _ _ (some ⟨cS,0,none⟩) (some ⟨cM,0,none⟩) 2 1 2 _ _ _ (fun _ => 0) wq zd (wordZ (hq.own.at (x := ⟨cS,List.replicate 2 (Value.int .u32 0),25⟩) kt)) (.inr (.inl zd))).mono ?_
    rintro e wr ⟨rfl,hr⟩
    refine ⟨_,_,rfl,hq.newer hr,?_⟩
    clear hr hq wq wr
    repeat' first | apply Wl.nil
    refine Mt.backE (fun _ _ => trivial) ?_
    refine Mt.pu 5 ?_
    refine Wl.move rfl rfl (Wl.nilB ?_)
    refine Mt.pu 6 ?_
    refine Wl.extract rfl rfl rfl (Wl.nilB ?_)
    refine Mt.pu 7 ?_
    refine Wl.extract rfl rfl rfl (Wl.nilB ?_)
    refine Mt.pu 8 ?_
    refine Wl.assign rfl rfl (Wl.nilB ?_)
    refine Mt.pu 9 ?_
    refine Wl.assign rfl rfl (Wl.nilB ?_)
    refine Mt.toGt kg ?_
    refine Gt.reb (H' := []) fun wB hB => ⟨trivial,trivial,?_⟩
    apply Gt.meet wB
    ·exact hB.on UA kb
    ·repeat constructor
    ·exact fun _ h => h
 clear U2
 intro w2 U2
 refine St.cut (σ := World) (fun τ => Upd (fun k => w.heap.size ≤ k) w τ) (fun τ => [(9,.slice (some ⟨g5,0,none⟩) 2 cap5),(11,.int .i64 1),(13,.int .i64 1),(15,.int .i64 1)]) (fun τ => Hp τ []) ?_ ?_
 ·refine St.reb (H' := []) fun wA hA => ⟨trivial,trivial,?_⟩
  have UA : Upd (fun k => w.heap.size ≤ k) w wA := hA.on U2 qm
  have zA := UA.size
  refine St.tree (fun _ => True) mixed (fun _ h' => ⟨Hp.drew h',trivial⟩) ?_
  refine Mt.pu 0 ?_
  refine Wl.move rfl rfl (Wl.nilB ?_)
  refine Mt.eff2 (i := 1) (j := 2) kg kw kw ?_ ?_
  ·apply Wl.makeSlice (n := 2)
   ·exact rfl
   ·exact rfl
   ·exact rfl
   ·exact rfl
   ·decide
   intro cE hcE ocE
   rw [mZE2]
   repeat' first | apply Wl.nil
   refine Mt.backE (fun _ _ => trivial) ?_
   refine Mt.eff1 (i := 2) kg kw ?_
   apply Wl.makeSlice (n := 2)
   ·exact rfl
   ·exact rfl
   ·exact rfl
   ·exact rfl
   ·decide
   intro cS hcS ocS
   rw [mZ 2 zd]
   repeat' first | apply Wl.nil
   refine Mt.backE (fun _ _ => trivial) ?_
   refine Mt.eff1 (i := 3) kg kw ?_
   apply Wl.callC
   ·exact rfl
   ·repeat constructor
   intro wq hq
   refine (monBad _ _ (some ⟨cS,0,none⟩) none 2 2 2 _ _ _ (fun _ => 0) wq zd (wordZ (hq.own.at (x := ⟨cS,List.replicate 2 (Value.int .u32 0),25⟩) kt)) (.inr (.inr rfl))).mono ?_
   rintro e wr ⟨rfl,hr⟩
   refine ⟨_,_,rfl,hq.newer hr,?_⟩
   clear hr hq wq wr
   repeat' first | apply Wl.nil
   refine Mt.backE (fun _ _ => trivial) ?_
   refine Mt.pu 4 ?_
   refine Wl.move rfl rfl (Wl.nilB ?_)
   refine Mt.pu 5 ?_
   refine Wl.extract rfl rfl rfl (Wl.nilB ?_)
   refine Mt.pu 6 ?_
   refine Wl.extract rfl rfl rfl (Wl.nilB ?_)
   refine Mt.pu 7 ?_
   refine Wl.assign rfl rfl (Wl.nilB ?_)
   refine Mt.pu 8 ?_
   refine Wl.assign rfl rfl (Wl.nilB ?_)
   refine Mt.toGt kg ?_
   refine Gt.reb (H' := []) fun wB hB => ⟨trivial,trivial,?_⟩
   apply Gt.meet wB
   ·exact hB.on UA kb
   ·repeat constructor
   ·exact fun _ h => h
  ·apply Wl.makeSlice (n := 2)
   ·exact rfl
   ·exact rfl
   ·exact rfl
   ·exact rfl
   ·decide
   intro cS hcS ocS
   rw [mZ 2 zd]
   repeat' first | apply Wl.nil
   refine Mt.backE (fun _ _ => trivial) ?_
   refine Mt.eff1 (i := 1) kg kw ?_
   apply Wl.makeSlice (n := 2)
   ·exact rfl
   ·exact rfl
   ·exact rfl
   ·exact rfl
   ·decide
   intro cE hcE ocE
   rw [mZE2]
   repeat' first | apply Wl.nil
   refine Mt.backE (fun _ _ => trivial) ?_
   refine Mt.eff1 (i := 3) kg kw ?_
   apply Wl.callC
   ·exact rfl
   ·repeat constructor
   intro wq hq
   refine (monBad _ _ (some ⟨cS,0,none⟩) none 2 2 2 _ _ _ (fun _ => 0) wq zd (wordZ (hq.own.at (x := ⟨cS,List.replicate 2 (Value.int .u32 0),25⟩) kt)) (.inr (.inr rfl))).mono ?_
   rintro e wr ⟨rfl,hr⟩
   refine ⟨_,_,rfl,hq.newer hr,?_⟩
   clear hr hq wq wr
   repeat' first | apply Wl.nil
   refine Mt.backE (fun _ _ => trivial) ?_
   refine Mt.pu 4 ?_
   refine Wl.move rfl rfl (Wl.nilB ?_)
   refine Mt.pu 5 ?_
   refine Wl.extract rfl rfl rfl (Wl.nilB ?_)
   refine Mt.pu 6 ?_
   refine Wl.extract rfl rfl rfl (Wl.nilB ?_)
   refine Mt.pu 7 ?_
   refine Wl.assign rfl rfl (Wl.nilB ?_)
   refine Mt.pu 8 ?_
   refine Wl.assign rfl rfl (Wl.nilB ?_)
   refine Mt.toGt kg ?_
   refine Gt.reb (H' := []) fun wB hB => ⟨trivial,trivial,?_⟩
   apply Gt.meet wB
   ·exact hB.on UA kb
   ·repeat constructor
   ·exact fun _ h => h
 clear U2
 intro w2 U2
 refine St.cut (σ := World × Nat × Mi × Mv2) (fun τ => Upd (fun k => w.heap.size ≤ k) w τ.1 ∧ MonS τ.1 τ.2.1 τ.2.2.1 τ.2.2.2 ∧ τ.2.2.2.L.length = 2) (fun τ => [(11,.int .i64 1),(13,.int .i64 1),(15,.int .i64 1),(16,.pointer (some ⟨τ.2.2.1.m,0,none⟩)),(17,.int .i64 0)]) (fun τ => Hp τ.1 []) ?_ ?_
 ·refine St.reb (H' := []) fun wA hA => ⟨trivial,trivial,?_⟩
  have UA : Upd (fun k => w.heap.size ≤ k) w wA := hA.on U2 qm
  have zA := UA.size
  refine St.tree (fun _ => True) mixed (fun _ h' => ⟨Hp.drew h',trivial⟩) ?_
  refine Mt.pu 0 ?_
  refine Wl.move rfl rfl (Wl.nilB ?_)
  refine Mt.eff3 (i := 1) (j := 2) (k := 3) kg kw kw kw ?_ ?_ ?_
  ·apply Wl.makeSlice (n := 2)
   ·exact rfl
   ·exact rfl
   ·exact rfl
   ·exact rfl
   ·decide
   intro cE hcE ocE
   rw [mZE2]
   repeat' first | apply Wl.nil
   refine Mt.backE (fun _ _ => trivial) ?_
   refine Mt.eff2 (i := 2) (j := 3) kg kw kw ?_ ?_
   ·apply Wl.makeSlice (n := 2)
    ·exact rfl
    ·exact rfl
    ·exact rfl
    ·exact rfl
    ·decide
    intro cS hcS ocS
    rw [mZ 2 zd]
    repeat' first | apply Wl.nil
    refine Mt.backE (fun _ _ => trivial) ?_
    refine Mt.eff1 (i := 3) kg kw ?_
    apply Wl.callC
    ·exact rfl
    ·repeat constructor
    intro wq hq
    refine (newMem wq).mono ?_
    rintro e wr ⟨cM,rfl,hpM,hcM⟩
    have hcMA : wA.heap.size ≤ cM := Nat.le_trans hq.upd.size hcM
    refine ⟨_,_,rfl,hq.callNew hpM hcM,?_⟩
    clear hq hpM hcM
    repeat' first | apply Wl.nil
    refine Mt.backE (fun _ _ => trivial) ?_
    refine Mt.eff1 (i := 4) kg kw ?_
    apply Wl.callC
    ·exact rfl
    ·repeat constructor
    intro wq hq
    have zq := hq.upd.size
    refine (monNew _ _ (some ⟨cS,0,none⟩) 2 _ _ _ cM (fun _ => 0) (fun _ => 0) wq zd (wordZ (hq.own.at (x := ⟨cS,List.replicate 2 (Value.int .u32 0),25⟩) kt)) (hq.own.at (x := ⟨cM,memC fun _ => 0,156⟩) kt) wA.heap.size hcMA zq).mono ?_
    rintro e wr ⟨I,M,rfl,hMs,_,hMe,_,hr⟩
    have hLM : M.L.length = 2 := by rw [hMe];exact newL_len _ _
    have UR : Upd (fun k => w.heap.size ≤ k) w wr := (hq.on UA kb).comp hr fun k _ h => h.elim id fun h => by omega
    refine ⟨_,_,rfl,Hp.start wr,?_⟩
    clear hr hq
    repeat' first | apply Wl.nil
    refine Mt.backE (fun _ _ => trivial) ?_
    refine Mt.pu 5 ?_
    refine Wl.move rfl rfl (Wl.nilB ?_)
    refine Mt.pu 6 ?_
    refine Wl.extract rfl rfl rfl (Wl.nilB ?_)
    refine Mt.pu 7 ?_
    refine Wl.extract rfl rfl rfl (Wl.nilB ?_)
    refine Mt.pu 8 ?_
    refine Wl.assign rfl rfl (Wl.nilB ?_)
    refine Mt.pu 9 ?_
    refine Wl.assign rfl rfl (Wl.nilB ?_)
    refine Mt.toGt kg ?_
    refine Gt.reb (H' := []) fun wB hB => ⟨trivial,trivial,?_⟩
    apply Gt.meet (wB,wA.heap.size,I,M)
    ·exact ⟨UR.comp hB.upd fun k _ h => h.elim id fun y => (y trivial).elim,hMs.upd hB.upd (fun _ _ y => y trivial),hLM⟩
    ·repeat constructor
    ·exact fun _ h => h
   ·apply Wl.callC
    ·exact rfl
    ·repeat constructor
    intro wq hq
    refine (newMem wq).mono ?_
    rintro e wr ⟨cM,rfl,hpM,hcM⟩
    have hcMA : wA.heap.size ≤ cM := Nat.le_trans hq.upd.size hcM
    refine ⟨_,_,rfl,hq.callNew hpM hcM,?_⟩
    clear hq hpM hcM
    repeat' first | apply Wl.nil
    refine Mt.backE (fun _ _ => trivial) ?_
    refine Mt.eff1 (i := 2) kg kw ?_
    apply Wl.makeSlice (n := 2)
    ·exact rfl
    ·exact rfl
    ·exact rfl
    ·exact rfl
    ·decide
    intro cS hcS ocS
    rw [mZ 2 zd]
    repeat' first | apply Wl.nil
    refine Mt.backE (fun _ _ => trivial) ?_
    refine Mt.eff1 (i := 4) kg kw ?_
    apply Wl.callC
    ·exact rfl
    ·repeat constructor
    intro wq hq
    have zq := hq.upd.size
    refine (monNew _ _ (some ⟨cS,0,none⟩) 2 _ _ _ cM (fun _ => 0) (fun _ => 0) wq zd (wordZ (hq.own.at (x := ⟨cS,List.replicate 2 (Value.int .u32 0),25⟩) kt)) (hq.own.at (x := ⟨cM,memC fun _ => 0,156⟩) kt) wA.heap.size hcMA zq).mono ?_
    rintro e wr ⟨I,M,rfl,hMs,_,hMe,_,hr⟩
    have hLM : M.L.length = 2 := by rw [hMe];exact newL_len _ _
    have UR : Upd (fun k => w.heap.size ≤ k) w wr := (hq.on UA kb).comp hr fun k _ h => h.elim id fun h => by omega
    refine ⟨_,_,rfl,Hp.start wr,?_⟩
    clear hr hq
    repeat' first | apply Wl.nil
    refine Mt.backE (fun _ _ => trivial) ?_
    refine Mt.pu 5 ?_
    refine Wl.move rfl rfl (Wl.nilB ?_)
    refine Mt.pu 6 ?_
    refine Wl.extract rfl rfl rfl (Wl.nilB ?_)
    refine Mt.pu 7 ?_
    refine Wl.extract rfl rfl rfl (Wl.nilB ?_)
    refine Mt.pu 8 ?_
    refine Wl.assign rfl rfl (Wl.nilB ?_)
    refine Mt.pu 9 ?_
    refine Wl.assign rfl rfl (Wl.nilB ?_)
    refine Mt.toGt kg ?_
    refine Gt.reb (H' := []) fun wB hB => ⟨trivial,trivial,?_⟩
    apply Gt.meet (wB,wA.heap.size,I,M)
    ·exact ⟨UR.comp hB.upd fun k _ h => h.elim id fun y => (y trivial).elim,hMs.upd hB.upd (fun _ _ y => y trivial),hLM⟩
    ·repeat constructor
    ·exact fun _ h => h
  ·apply Wl.makeSlice (n := 2)
   ·exact rfl
   ·exact rfl
   ·exact rfl
   ·exact rfl
   ·decide
   intro cS hcS ocS
   rw [mZ 2 zd]
   repeat' first | apply Wl.nil
   refine Mt.backE (fun _ _ => trivial) ?_
   refine Mt.eff2 (i := 1) (j := 3) kg kw kw ?_ ?_
   ·apply Wl.makeSlice (n := 2)
    ·exact rfl
    ·exact rfl
    ·exact rfl
    ·exact rfl
    ·decide
    intro cE hcE ocE
    rw [mZE2]
    repeat' first | apply Wl.nil
    refine Mt.backE (fun _ _ => trivial) ?_
    refine Mt.eff1 (i := 3) kg kw ?_
    apply Wl.callC
    ·exact rfl
    ·repeat constructor
    intro wq hq
    refine (newMem wq).mono ?_
    rintro e wr ⟨cM,rfl,hpM,hcM⟩
    have hcMA : wA.heap.size ≤ cM := Nat.le_trans hq.upd.size hcM
    refine ⟨_,_,rfl,hq.callNew hpM hcM,?_⟩
    clear hq hpM hcM
    repeat' first | apply Wl.nil
    refine Mt.backE (fun _ _ => trivial) ?_
    refine Mt.eff1 (i := 4) kg kw ?_
    apply Wl.callC
    ·exact rfl
    ·repeat constructor
    intro wq hq
    have zq := hq.upd.size
    refine (monNew _ _ (some ⟨cS,0,none⟩) 2 _ _ _ cM (fun _ => 0) (fun _ => 0) wq zd (wordZ (hq.own.at (x := ⟨cS,List.replicate 2 (Value.int .u32 0),25⟩) kt)) (hq.own.at (x := ⟨cM,memC fun _ => 0,156⟩) kt) wA.heap.size hcMA zq).mono ?_
    rintro e wr ⟨I,M,rfl,hMs,_,hMe,_,hr⟩
    have hLM : M.L.length = 2 := by rw [hMe];exact newL_len _ _
    have UR : Upd (fun k => w.heap.size ≤ k) w wr := (hq.on UA kb).comp hr fun k _ h => h.elim id fun h => by omega
    refine ⟨_,_,rfl,Hp.start wr,?_⟩
    clear hr hq
    repeat' first | apply Wl.nil
    refine Mt.backE (fun _ _ => trivial) ?_
    refine Mt.pu 5 ?_
    refine Wl.move rfl rfl (Wl.nilB ?_)
    refine Mt.pu 6 ?_
    refine Wl.extract rfl rfl rfl (Wl.nilB ?_)
    refine Mt.pu 7 ?_
    refine Wl.extract rfl rfl rfl (Wl.nilB ?_)
    refine Mt.pu 8 ?_
    refine Wl.assign rfl rfl (Wl.nilB ?_)
    refine Mt.pu 9 ?_
    refine Wl.assign rfl rfl (Wl.nilB ?_)
    refine Mt.toGt kg ?_
    refine Gt.reb (H' := []) fun wB hB => ⟨trivial,trivial,?_⟩
    apply Gt.meet (wB,wA.heap.size,I,M)
    ·exact ⟨UR.comp hB.upd fun k _ h => h.elim id fun y => (y trivial).elim,hMs.upd hB.upd (fun _ _ y => y trivial),hLM⟩
    ·repeat constructor
    ·exact fun _ h => h
   ·apply Wl.callC
    ·exact rfl
    ·repeat constructor
    intro wq hq
    refine (newMem wq).mono ?_
    rintro e wr ⟨cM,rfl,hpM,hcM⟩
    have hcMA : wA.heap.size ≤ cM := Nat.le_trans hq.upd.size hcM
    refine ⟨_,_,rfl,hq.callNew hpM hcM,?_⟩
    clear hq hpM hcM
    repeat' first | apply Wl.nil
    refine Mt.backE (fun _ _ => trivial) ?_
    refine Mt.eff1 (i := 1) kg kw ?_
    apply Wl.makeSlice (n := 2)
    ·exact rfl
    ·exact rfl
    ·exact rfl
    ·exact rfl
    ·decide
    intro cE hcE ocE
    rw [mZE2]
    repeat' first | apply Wl.nil
    refine Mt.backE (fun _ _ => trivial) ?_
    refine Mt.eff1 (i := 4) kg kw ?_
    apply Wl.callC
    ·exact rfl
    ·repeat constructor
    intro wq hq
    have zq := hq.upd.size
    refine (monNew _ _ (some ⟨cS,0,none⟩) 2 _ _ _ cM (fun _ => 0) (fun _ => 0) wq zd (wordZ (hq.own.at (x := ⟨cS,List.replicate 2 (Value.int .u32 0),25⟩) kt)) (hq.own.at (x := ⟨cM,memC fun _ => 0,156⟩) kt) wA.heap.size hcMA zq).mono ?_
    rintro e wr ⟨I,M,rfl,hMs,_,hMe,_,hr⟩
    have hLM : M.L.length = 2 := by rw [hMe];exact newL_len _ _
    have UR : Upd (fun k => w.heap.size ≤ k) w wr := (hq.on UA kb).comp hr fun k _ h => h.elim id fun h => by omega
    refine ⟨_,_,rfl,Hp.start wr,?_⟩
    clear hr hq
    repeat' first | apply Wl.nil
    refine Mt.backE (fun _ _ => trivial) ?_
    refine Mt.pu 5 ?_
    refine Wl.move rfl rfl (Wl.nilB ?_)
    refine Mt.pu 6 ?_
    refine Wl.extract rfl rfl rfl (Wl.nilB ?_)
    refine Mt.pu 7 ?_
    refine Wl.extract rfl rfl rfl (Wl.nilB ?_)
    refine Mt.pu 8 ?_
    refine Wl.assign rfl rfl (Wl.nilB ?_)
    refine Mt.pu 9 ?_
    refine Wl.assign rfl rfl (Wl.nilB ?_)
    refine Mt.toGt kg ?_
    refine Gt.reb (H' := []) fun wB hB => ⟨trivial,trivial,?_⟩
    apply Gt.meet (wB,wA.heap.size,I,M)
    ·exact ⟨UR.comp hB.upd fun k _ h => h.elim id fun y => (y trivial).elim,hMs.upd hB.upd (fun _ _ y => y trivial),hLM⟩
    ·repeat constructor
    ·exact fun _ h => h
  ·apply Wl.callC
   ·exact rfl
   ·repeat constructor
   intro wq hq
   refine (newMem wq).mono ?_
   rintro e wr ⟨cM,rfl,hpM,hcM⟩
   have hcMA : wA.heap.size ≤ cM := Nat.le_trans hq.upd.size hcM
   refine ⟨_,_,rfl,hq.callNew hpM hcM,?_⟩
   clear hq hpM hcM
   repeat' first | apply Wl.nil
   refine Mt.backE (fun _ _ => trivial) ?_
   refine Mt.eff2 (i := 1) (j := 2) kg kw kw ?_ ?_
   ·apply Wl.makeSlice (n := 2)
    ·exact rfl
    ·exact rfl
    ·exact rfl
    ·exact rfl
    ·decide
    intro cE hcE ocE
    rw [mZE2]
    repeat' first | apply Wl.nil
    refine Mt.backE (fun _ _ => trivial) ?_
    refine Mt.eff1 (i := 2) kg kw ?_
    apply Wl.makeSlice (n := 2)
    ·exact rfl
    ·exact rfl
    ·exact rfl
    ·exact rfl
    ·decide
    intro cS hcS ocS
    rw [mZ 2 zd]
    repeat' first | apply Wl.nil
    refine Mt.backE (fun _ _ => trivial) ?_
    refine Mt.eff1 (i := 4) kg kw ?_
    apply Wl.callC
    ·exact rfl
    ·repeat constructor
    intro wq hq
    have zq := hq.upd.size
    refine (monNew _ _ (some ⟨cS,0,none⟩) 2 _ _ _ cM (fun _ => 0) (fun _ => 0) wq zd (wordZ (hq.own.at (x := ⟨cS,List.replicate 2 (Value.int .u32 0),25⟩) kt)) (hq.own.at (x := ⟨cM,memC fun _ => 0,156⟩) kt) wA.heap.size hcMA zq).mono ?_
    rintro e wr ⟨I,M,rfl,hMs,_,hMe,_,hr⟩
    have hLM : M.L.length = 2 := by rw [hMe];exact newL_len _ _
    have UR : Upd (fun k => w.heap.size ≤ k) w wr := (hq.on UA kb).comp hr fun k _ h => h.elim id fun h => by omega
    refine ⟨_,_,rfl,Hp.start wr,?_⟩
    clear hr hq
    repeat' first | apply Wl.nil
    refine Mt.backE (fun _ _ => trivial) ?_
    refine Mt.pu 5 ?_
    refine Wl.move rfl rfl (Wl.nilB ?_)
    refine Mt.pu 6 ?_
    refine Wl.extract rfl rfl rfl (Wl.nilB ?_)
    refine Mt.pu 7 ?_
    refine Wl.extract rfl rfl rfl (Wl.nilB ?_)
    refine Mt.pu 8 ?_
    refine Wl.assign rfl rfl (Wl.nilB ?_)
    refine Mt.pu 9 ?_
    refine Wl.assign rfl rfl (Wl.nilB ?_)
    refine Mt.toGt kg ?_
    refine Gt.reb (H' := []) fun wB hB => ⟨trivial,trivial,?_⟩
    apply Gt.meet (wB,wA.heap.size,I,M)
    ·exact ⟨UR.comp hB.upd fun k _ h => h.elim id fun y => (y trivial).elim,hMs.upd hB.upd (fun _ _ y => y trivial),hLM⟩
    ·repeat constructor
    ·exact fun _ h => h
   ·apply Wl.makeSlice (n := 2)
    ·exact rfl
    ·exact rfl
    ·exact rfl
    ·exact rfl
    ·decide
    intro cS hcS ocS
    rw [mZ 2 zd]
    repeat' first | apply Wl.nil
    refine Mt.backE (fun _ _ => trivial) ?_
    refine Mt.eff1 (i := 1) kg kw ?_
    apply Wl.makeSlice (n := 2)
    ·exact rfl
    ·exact rfl
    ·exact rfl
    ·exact rfl
    ·decide
    intro cE hcE ocE
    rw [mZE2]
    repeat' first | apply Wl.nil
    refine Mt.backE (fun _ _ => trivial) ?_
    refine Mt.eff1 (i := 4) kg kw ?_
    apply Wl.callC
    ·exact rfl
    ·repeat constructor
    intro wq hq
    have zq := hq.upd.size
    refine (monNew _ _ (some ⟨cS,0,none⟩) 2 _ _ _ cM (fun _ => 0) (fun _ => 0) wq zd (wordZ (hq.own.at (x := ⟨cS,List.replicate 2 (Value.int .u32 0),25⟩) kt)) (hq.own.at (x := ⟨cM,memC fun _ => 0,156⟩) kt) wA.heap.size hcMA zq).mono ?_
    rintro e wr ⟨I,M,rfl,hMs,_,hMe,_,hr⟩
    have hLM : M.L.length = 2 := by rw [hMe];exact newL_len _ _
    have UR : Upd (fun k => w.heap.size ≤ k) w wr := (hq.on UA kb).comp hr fun k _ h => h.elim id fun h => by omega
    refine ⟨_,_,rfl,Hp.start wr,?_⟩
    clear hr hq
    repeat' first | apply Wl.nil
    refine Mt.backE (fun _ _ => trivial) ?_
    refine Mt.pu 5 ?_
    refine Wl.move rfl rfl (Wl.nilB ?_)
    refine Mt.pu 6 ?_
    refine Wl.extract rfl rfl rfl (Wl.nilB ?_)
    refine Mt.pu 7 ?_
    refine Wl.extract rfl rfl rfl (Wl.nilB ?_)
    refine Mt.pu 8 ?_
    refine Wl.assign rfl rfl (Wl.nilB ?_)
    refine Mt.pu 9 ?_
    refine Wl.assign rfl rfl (Wl.nilB ?_)
    refine Mt.toGt kg ?_
    refine Gt.reb (H' := []) fun wB hB => ⟨trivial,trivial,?_⟩
    apply Gt.meet (wB,wA.heap.size,I,M)
    ·exact ⟨UR.comp hB.upd fun k _ h => h.elim id fun y => (y trivial).elim,hMs.upd hB.upd (fun _ _ y => y trivial),hLM⟩
    ·repeat constructor
    ·exact fun _ h => h
 rintro ⟨w3,base,I,M⟩ ⟨U3,hM3,hL3⟩
 simp only at U3 hM3 hL3 ⊢
 repeat' first | refine Wl.move rfl rfl ?_ | (apply Wl.on;exact rfl;exact rfl;exact ka) | (apply Wl.pickT;exact rfl;exact rfl;exact ka;exact rfl) | (apply Wl.eqlIs;exact rfl;exact rfl;exact rfl;exact kv) | apply St.seq | apply St.region
 apply Wl.callQ
 exact rfl
 (focus repeat constructor)
 ·intro wq hq
  exact hq.q (mCount base I M wq (hM3.upd hq.upd fun _ _ y => y trivial))
 have hd2 : decide ((M.L.length : Int) = 2) = true := decide_eq_true ze
 repeat' first | refine Wl.move rfl rfl ?_ | refine Wl.assign rfl rfl ?_ | (apply Wl.on;exact rfl;exact rfl;exact ka) | (apply Wl.pickT;exact rfl;exact rfl;exact ka;exact rfl) | refine Wl.eql rfl rfl rfl ?_ | apply Wl.nil | apply St.ret | apply Gt.next | (apply Gt.out1;exact rfl;exact rfl;intro w' hp)
 exact ⟨rfl,U3.comp hp.upd fun k _ h => h.elim id fun y => (y trivial).elim⟩
end Go.Proofs.YtabbklpalbikdaaGreatDoor
end
section
namespace Go.Proofs.YtabbklpalbikdaaGreatDoor
open Go.RowKit Go.Pt Go.ChangeShapes Go.WideShapes Go.ChangeAt
def laid1 {H : Type} : List (String × DataW H) := [("math/bits.deBruijn32tab", Rows.laid_math_bits_deBruijn32tab)]
theorem laid1_eq : (Rows.laid_math_bits_deBruijn32tab : DataW Unit) = .agg (tabL.map fun (n : Int) => .lit (.int .u8 n)) := by kernel_rfl
theorem tabLaid {W : World} (h : laidMetH Tryz.prog laid1 W) : tabOk W := by
 intro r hr
 rw [MakeChecks.laidMetH_plain _ _ _ kh] at h
 obtain ⟨ps,⟨g,t,cs,fuel,p,q,hg,ht,hv,hd,_,_⟩,_,_⟩ := h
 obtain rfl := Option.some.inj ((show Tryz.prog.globalNamed "math/bits.deBruijn32tab" = some 0 by kernel_rfl).symm.trans hg)
 obtain rfl := Option.some.inj ((show (Tryz.prog.globals[0]?).map (·.type) = some 107 by kernel_rfl).symm.trans ht)
 rw [laid1_eq] at hd
 obtain ⟨xs,m,_,ex,_,hl,hel⟩ := DataW.trod_array Tryz.underlying107 hd
 have c5 : Tryz.prog.cellsOf 5 = 1 := by kernel_rfl
 have hE := hel r hr
 rw [c5,Nat.mul_one,List.getElem?_eq_getElem ze] at hE
 obtain ⟨z,e1,e2,_⟩ := DataW.trod_int Tryz.underlying5 hE
 have hlen : tabL.length = 32 := rfl
 have e3 : (xs.map (·.1)) = tabL.map fun (n : Int) => .lit (.int .u8 n) := (DataW.agg.inj (Prod.mk.inj ex).1).symm
 have e4 : (xs.map (·.1))[r]? = (tabL.map fun (n : Int) => (DataW.lit (.int .u8 n) : DataW Unit))[r]? := by rw [e3]
 rw [List.getElem?_map,List.getElem?_map,List.getElem?_eq_getElem (by omega : r < xs.length),List.getElem?_eq_getElem (by omega : r < tabL.length),e2] at e4
 have hz : z = tabL[r]'(by omega) := by
  simp only [Option.map_some,Option.some.injEq,DataW.lit.injEq,Lit.int.injEq,true_and] at e4
  exact e4
 refine ⟨tabL[r]'(by omega),List.getElem?_eq_getElem _,?_,?_⟩
 ·have : ∀ x ∈ tabL,(0 : Int) ≤ x ∧ x ≤ 31 := by decide
  exact this _ (List.getElem_mem _)
 ·rw [World.var?_cell hg hv r,← hz]
  have h0 : ((cs.toList.drop r).take 1)[0]? = some (.int .u8 z) := by rw [e1];rfl
  simpa using h0
end Go.Proofs.YtabbklpalbikdaaGreatDoor
end
