/-
 11 texts,one behind the other;each says what it proves. Conditions: as each text says.
-/
import Derived.Test.YtabbklpalbikdaaGreatDoorM06
import Derived.Test.YtabbklpalbikdaaGreatDoorM03
import Derived.Test.YtabbklpalbikdaaGreatDoorM05
import Derived.Test.YtabbklpalbikdaaGreatDoorM01
import Derived.ArgAppend
import Derived.Lib.SliceRun
set_option maxHeartbeats 32000000
set_option linter.unusedVariables false
set_option linter.unusedSimpArgs false
section
namespace Go.Proofs.YtabbklpalbikdaaGreatDoor
open Go.RowKit Go.Pt
def hashC (h p : Nat → Nat) (n : Nat) : List Value := cellsN .u32 8 h ++ (cellsN .u8 64 p ++ [.int .u64 n])
theorem hashC_len (h p : Nat → Nat) (n : Nat) : (hashC h p n).length = 73 := by simp [hashC,cellsN_len]
theorem hashC_one (h p : Nat → Nat) (n : Nat) : (hashC h p n).all Value.oneCell' = true := by
 unfold hashC;rw [List.all_append,List.all_append,cellsN_one,cellsN_one];rfl
theorem hashC_h {h g : Nat → Nat} (p : Nat → Nat) (n : Nat) (e : ∀ j,j < 8 → h j = g j) : hashC h p n = hashC g p n := by unfold hashC;rw [cellsN_congr e]
theorem hash_hs (h p : Nat → Nat) (n : Nat) : LSub (hashC h p n) 0 8 (cellsN .u32 8 h) := by
 exact LSub.mid (a := []) rfl (cellsN_len _ _ _)
theorem hash_ps (h p : Nat → Nat) (n : Nat) : LSub (hashC h p n) 8 64 (cellsN .u8 64 p) := by
 exact LSub.mid (cellsN_len _ _ _) (cellsN_len _ _ _)
theorem hash_n (h p : Nat → Nat) (n : Nat) : (hashC h p n)[72]? = some (.int .u64 n) := by
 unfold hashC
 rw [List.getElem?_append_right (by rw [cellsN_len];omega),List.getElem?_append_right (by rw [cellsN_len,cellsN_len];omega),cellsN_len,cellsN_len];rfl
theorem hash_h (h p : Nat → Nat) (n : Nat) {j : Nat} (hj : j < 8) : (hashC h p n)[j]? = some (.int .u32 (h j)) := by
 unfold hashC
 rw [List.getElem?_append_left (by rw [cellsN_len];omega),cellsN_get hj]
theorem hash_sn (h p : Nat → Nat) (n m : Nat) : LSet (hashC h p n) 72 (.int .u64 m) (hashC h p m) := by
 have := LSet.appN (p := cellsN .u32 8 h ++ cellsN .u8 64 p) (r := []) (x := .int .u64 n) (v := .int .u64 m) (n := 72) (by simp [cellsN_len])
 simpa [hashC] using this
theorem LSet.appR {r r' : List Value} {v : Value} {i : Nat} (h : LSet r i v r') : ∀ (p : List Value) {n : Nat},p.length = n → LSet (p ++ r) (n + i) v (p ++ r')
 | [],n,e => by subst e;simpa using h
 | x :: p,n,e => by
  subst e
  show LSet (x :: (p ++ r)) ((p.length + 1) + i) v (x :: (p ++ r'))
  rw [show p.length + 1 + i = (p.length + i) + 1 by omega]
  exact .s (LSet.appR h p rfl)
theorem LSet.appL {r r' : List Value} {v : Value} {i : Nat} (h : LSet r i v r') (q : List Value) : LSet (r ++ q) i v (r' ++ q) := by
 induction h with
 | z => exact .z
 | s _ ih => exact .s ih
theorem hash_sp (h p : Nat → Nat) (n x : Nat) {j : Nat} (hj : j < 64) : LSet (hashC h p n) (8 + j) (.int .u8 x) (hashC h (updN p j x) n) := by
 unfold hashC
 exact LSet.appR (LSet.appL (cellsN_set hj) _) _ (cellsN_len _ _ _)
theorem hash_sh (h p : Nat → Nat) (n x : Nat) {j : Nat} (hj : j < 8) : LSet (hashC h p n) j (.int .u32 x) (hashC (updN h j x) p n) := by
 unfold hashC
 exact LSet.appL (cellsN_set hj) _
instance entRot : Ent Tryz.prog 225 := ent_of Tryz.func225 kn kn
theorem rotl (x r : Nat) (k : Int) (w : World) (hr : r ≤ 32) (hk : bits .and .u64 (IntKind.u64.wrap k) 31 = ((32 - r : Nat) : Int)) :
  Calls Tryz.prog 225 #[.int .u32 x,.int .i64 k] w fun e w' => e = .returned (.int .u32 (Sha.rr r x)) ∧ Hp w [] w' := by
 have hs : IntKind.u64.wrap (32 - ((32 - r : Nat) : Int)) = (r : Int) := by rw [IntKind.wrap_u64];omega
 have h1 : 32 - r ≤ 32 := by omega
 refine enter (args := [_,_]) (Γ := [(0,_),(1,_)]) Tryz.func225 Tryz.ntmps225 rfl odq (.cons rfl (.cons rfl .nil)) ?_
 repeat' first | (apply Wl.andE;exact rfl;exact rfl;exact rfl;exact hk) | (apply Wl.subE;exact rfl;exact rfl;exact rfl;exact hs) | (apply Wl.shlV;exact rfl;exact rfl;exact rfl;exact h1) | (apply Wl.shrV;exact rfl;exact rfl;exact rfl;exact hr) | refine Wl.orN32 rfl rfl rfl ?_ | refine Wl.move rfl rfl ?_ | refine Wl.assign rfl rfl ?_ | refine Wl.convI rfl rfl ?_ | apply Wl.nil | apply St.seq | apply St.region | apply St.ret | apply Gt.next | (apply Gt.out1;exact rfl;exact rfl;intro w' hp)
 exact ⟨rfl,hp⟩
theorem Wl.rotQ {N : Nat} {ops : Array Oper} {rest : List Oper} {Γ : Env} {w0 : World} {H : List Blk} {Q : Exit → Act → World → Prop} {d : Nat} {ty : TypeId} {pos : String} {af : Array Edge} {x y z : Operand} {ts : Array TypeId} {m : Nat} {k : Int} (r : Nat) (hd : Nat.blt d N = true)
  (hf : ev Γ x = some (.func (.func 225) #[] #[])) (hy : ev Γ y = some (.int .u32 (m : Int))) (hz : ev Γ z = some (.int .i64 k)) (hk : (decide (r ≤ 32) && decide (bits .and .u64 (IntKind.u64.wrap k) 31 = ((32 - r : Nat) : Int))) = true)
  (h : Wl rest Tryz.prog .seq ops N ((d,.int .u32 ((Sha.rr r m : Nat) : Int)) :: Γ) (Hp w0 H) Q) :
  Wl (⟨some d,.call { callee := .value x,args := #[y,z],argTypes := ts },ty,pos,af,none⟩ :: rest) Tryz.prog .seq ops N Γ (Hp w0 H) Q := by
 rw [Bool.and_eq_true] at hk
 exact Wl.callVQ hd hf inferInstance (.cons hy (.cons hz .nil)) (fun w hw => (rotl m r k w (of_decide_eq_true hk.1) (of_decide_eq_true hk.2)).mono fun e w' he => ⟨he.1,hw.keep he.2⟩) h
instance tz64 : TyZ Tryz.prog 334 (.agg (cellsN .u32 64 fun _ => 0).toArray) := ⟨by kernel_rfl⟩
theorem z64 : (Value.agg (cellsN .u32 64 fun _ => 0).toArray).cells.toList = cellsN .u32 64 fun _ => 0 := rfl
theorem v8_cells (a b c d e f g h : Nat) : [Value.int .u32 a,.int .u32 b,.int .u32 c,.int .u32 d,.int .u32 e,.int .u32 f,.int .u32 g,.int .u32 h] = cellsN .u32 8 (Sha.v8 a b c d e f g h) := by unfold cellsN;rfl
theorem shaBlock (b : Nat) (h p : Nat → Nat) (n : Nat) (w : World) (hc : w.heap[b]? = some (.cells (hashC h p n).toArray 311 (0,0))) (hp8 : ∀ j,p j < 256) (hK : ArrAt w 1 0 .u32 64 Sha.K) (h0 : b ≠ 1) :
  Calls Tryz.prog 186 #[mp b] w fun e w' => e = .returned (.tuple #[]) ∧ Hp w [⟨b,hashC (Sha.comp h p) p n,311⟩] w' := by
 have hKlt := hK.lt ku
 have hcl : b < w.heap.size := (Array.getElem?_eq_some_iff.1 hc).1
 refine enter (args := [_]) (Γ := [(0,_)]) Tryz.func186 Tryz.ntmps186 rfl odq (.cons rfl .nil) ?_
 refine St.cls (C' := Hp w [⟨b,hashC h p n,311⟩]) (fun _ h' => Hp.open h' hc) ?_
 repeat' first | (apply Wl.loadAH;exact rfl;exact rfl;exact kd;(first | exact hash_hs _ _ _ | exact hash_ps _ _ _)) | (apply Wl.allocN;exact rfl;exact z64;intro c hc ho) | refine Wl.move rfl rfl ?_ | refine Wl.nilCheck rfl rfl ?_ | refine Wl.fieldAddrZ rfl rfl ?_ | apply Wl.nil | apply St.seq | apply St.block | apply St.region | apply Gt.next
 refine St.loop (σ := Nat) (fun i => i ≤ 64) (fun i => [(0,mp b),(2,mp c),(21,.agg (cellsN .u8 64 p).toArray),(22,.int .i64 (i : Int))])
  (fun i => Hp w [⟨c,cellsN .u32 64 (Sha.ldw p i),334⟩,⟨b,hashC h p n,311⟩]) (fun i => 64 - i) 0 kf kq (fun _ h => h) ?_
 intro i hi
 by_cases hlt : i < 64
 ·have hpi := hp8 i
  have hi4 : i / 4 < 64 := by omega
  repeat' first | (apply Wl.indexVS;exact rfl;exact rfl;exact rfl;exact cellsN_get hlt;exact hlt) | (apply Wl.quoN (n := 4);exact rfl;exact rfl;exact rfl;(decide);exact IntWalk.i64_in _ kf) | refine Wl.orN32 rfl rfl rfl ?_ | (apply Wl.shlP 8;exact rfl;exact rfl;exact rfl;exact rfl;(decide)) | (refine Wl.indexA rfl rfl rfl ?_ ?_;omega) | (apply Wl.loadN;exact rfl;exact rfl;exact kd;omega) | (apply Wl.storeN;exact rfl;exact rfl;exact kd;omega) | refine Wl.move rfl rfl ?_ | refine Wl.assign rfl rfl ?_ | refine Wl.lss rfl rfl rfl ?_ | (refine Wl.addI rfl rfl rfl ?_ ?_;constructor <;> omega) | (refine Wl.convU32 rfl rfl ?_ ?_;constructor <;> omega) | apply Wl.nil | apply St.seq | apply St.block | apply St.region | apply St.skip | apply Gt.next | apply Gt.inNormal | (apply St.condP;exact rfl;all_goals (intros;try (exfalso;omega)))
  apply Gt.round (i + 1)
  rotate_left
  ·omega
  ·exact kd
  ·exact fun _ h => h
  ·omega
 have hi64 : i = 64 := by omega
 subst hi64
 repeat' first | refine Wl.assign rfl rfl ?_ | refine Wl.lss rfl rfl rfl ?_ | apply Wl.nil | apply St.seq | apply St.block | apply St.region | (apply St.condF;exact rfl;exact k5) | apply St.exit | apply Gt.next | apply Gt.thenExit | apply Gt.inExit
 generalize hWd : Sha.ldw p 64 = wd
 refine St.loop (σ := Nat) (fun i => i ≤ 48) (fun i => [(0,mp b),(2,mp c),(5,.func (.func 225) #[] #[]),(6,.int .i64 ((16 + i : Nat) : Int))])
  (fun i => Hp w [⟨c,cellsN .u32 64 (Sha.sch wd i),334⟩,⟨b,hashC h p n,311⟩]) (fun i => 48 - i) 0 kf kq (fun _ h => h) ?_
 clear hlt
 intro i hi
 by_cases hlt : i < 48
 ·have hd : decide (((16 + i : Nat) : Int) < 64) = true := decide_eq_true kf
  repeat' first | (apply St.bagX 10 [8,9];exact mixed;(decide +kernel);kernel_rfl) | (apply St.bagX 33 [];exact mixed;(decide +kernel);kernel_rfl) | apply OpsX.nil | (apply OpsX.v;(intro X hX;change Wl [_] _ _ _ _ _ _ _;apply Wl.catX;exact kd)) | (apply Gt.endX;exact rfl) | (apply EndX.on;exact rfl) | (apply EndX.off;exact rfl) | (apply EndX.nil';apply Wl.catE;exact kd) | (apply Wl.rotQ 7;exact rfl;exact rfl;exact rfl;exact rfl;(decide)) | (apply Wl.rotQ 17;exact rfl;exact rfl;exact rfl;exact rfl;(decide)) | (apply Wl.rotQ 18;exact rfl;exact rfl;exact rfl;exact rfl;(decide)) | (apply Wl.rotQ 19;exact rfl;exact rfl;exact rfl;exact rfl;(decide)) | (apply Wl.subC 15;exact rfl;exact rfl;exact rfl;exact rfl;omega;omega) | (apply Wl.subC 2;exact rfl;exact rfl;exact rfl;exact rfl;omega;omega) | (apply Wl.subC 16;exact rfl;exact rfl;exact rfl;exact rfl;omega;omega) | (apply Wl.subC 7;exact rfl;exact rfl;exact rfl;exact rfl;omega;omega) | refine Wl.xorN32 rfl rfl rfl ?_ | refine Wl.addP rfl rfl rfl ?_ | (apply Wl.shrP 3;exact rfl;exact rfl;exact rfl;exact rfl;(decide)) | (apply Wl.shrP 10;exact rfl;exact rfl;exact rfl;exact rfl;(decide)) | (refine Wl.indexA rfl rfl rfl ?_ ?_;omega) | (apply Wl.loadN;exact rfl;exact rfl;exact kd;omega) | (apply Wl.storeN;exact rfl;exact rfl;exact kd;omega) | refine Wl.move rfl rfl ?_ | refine Wl.assign rfl rfl ?_ | refine Wl.lss rfl rfl rfl ?_ | (refine Wl.addI rfl rfl rfl ?_ ?_;constructor <;> omega) | apply Wl.nil | apply St.seq | apply St.block | apply St.region | (apply St.condT;exact rfl;exact k5) | apply St.skip | apply Gt.next | apply Gt.inNormal
  apply Gt.round (i + 1)
  rotate_left
  ·omega
  ·exact kd
  ·exact fun _ h => h
  ·omega
 have hi48 : i = 48 := by omega
 subst hi48
 generalize c = CW at *
 repeat' first | (apply Wl.loadAH;exact rfl;exact rfl;exact kd;(first | exact hash_hs _ _ _ | exact hash_ps _ _ _)) | (apply Wl.storeW;exact rfl;exact rfl;exact kd;exact rfl;exact qm) | (apply Wl.allocN;exact rfl;(first | exact z8 | exact z16 | exact z17 | exact z33 | exact z10);intro c hc ho) | refine Wl.move rfl rfl ?_ | refine Wl.nilCheck rfl rfl ?_ | refine Wl.fieldAddr0 rfl rfl ?_ | refine Wl.lss rfl rfl rfl ?_ | apply Wl.nil | apply St.seq | apply St.block | apply St.region | (apply St.condF;exact rfl;exact k5) | apply St.exit | apply Gt.next | apply Gt.thenExit | apply Gt.inExit
 clear hlt
 generalize hW : Sha.sch wd 48 = W at *
 refine St.loop (σ := Nat) (fun i => i ≤ 64) (fun i => [(0,mp b),(2,mp CW),(5,.func (.func 225) #[] #[]),(9,mp c),(87,.int .i64 (i : Int))])
  (fun i => Hp w [⟨c,cellsN .u32 8 (Sha.rnds Sha.K W h i),308⟩,⟨CW,cellsN .u32 64 W,334⟩,⟨b,hashC h p n,311⟩]) (fun i => 64 - i) 0 kf kq (fun _ h => h) ?_
 intro i hi
 by_cases hlt : i < 64
 ·repeat' first | (apply St.bagXc 9 [6,7,8];exact mixed;(decide +kernel);(repeat (first | apply CleanX.nil | (apply CleanX.skip;exact rfl) | (apply CleanX.keep;exact rfl)));kernel_rfl) | (apply St.bagXc 31 [30];exact mixed;(decide +kernel);(repeat (first | apply CleanX.nil | (apply CleanX.skip;exact rfl) | (apply CleanX.keep;exact rfl)));kernel_rfl) | apply OpsX.nil | (apply OpsX.v;(intro X hX;change Wl [_] _ _ _ _ _ _ _;apply Wl.catX;exact kd)) | (apply Gt.endX;exact rfl) | (apply EndX.on;exact rfl) | (apply EndX.off;exact rfl) | (apply EndX.nil';apply Wl.catE;exact kd) | (apply Wl.loadME;exact rfl;exact rfl;exact hK;(first | (repeat (first | exact trivial | exact hX.off kf | refine ⟨by first | assumption | omega | (simp only;omega),?_⟩)) | (apply Off.of;simp;omega));omega) | (apply Wl.rotQ 2;exact rfl;exact rfl;exact rfl;exact rfl;(decide)) | (apply Wl.rotQ 6;exact rfl;exact rfl;exact rfl;exact rfl;(decide)) | (apply Wl.rotQ 11;exact rfl;exact rfl;exact rfl;exact rfl;(decide)) | (apply Wl.rotQ 13;exact rfl;exact rfl;exact rfl;exact rfl;(decide)) | (apply Wl.rotQ 22;exact rfl;exact rfl;exact rfl;exact rfl;(decide)) | (apply Wl.rotQ 25;exact rfl;exact rfl;exact rfl;exact rfl;(decide)) | refine Wl.xorN32 rfl rfl rfl ?_ | refine Wl.andN32 rfl rfl rfl ?_ | refine Wl.orN32 rfl rfl rfl ?_ | refine Wl.addP rfl rfl rfl ?_ | (apply Wl.buildN;exact rfl;exact kh;exact kb;exact v8_cells _ _ _ _ _ _ _ _) | (refine Wl.indexA rfl rfl rfl ?_ ?_;omega) | (apply Wl.loadN;exact rfl;exact rfl;exact kd;omega) | (apply Wl.storeW;exact rfl;exact rfl;exact kd;exact rfl;exact qm) | refine Wl.move rfl rfl ?_ | refine Wl.assign rfl rfl ?_ | refine Wl.lss rfl rfl rfl ?_ | (refine Wl.addI rfl rfl rfl ?_ ?_;constructor <;> omega) | (refine Wl.indexArr rfl rfl rfl ?_ ?_;constructor <;> omega) | apply Wl.nil | apply St.seq | apply St.block | apply St.region | apply St.skip | apply Gt.next | apply Gt.inNormal | (apply St.condP;exact rfl;all_goals (intros;try (exfalso;omega)))
  apply Gt.round (i + 1)
  rotate_left
  ·omega
  ·exact kd
  ·exact fun _ h => h
  ·omega
 have hi64 : i = 64 := by omega
 subst hi64
 generalize c = CV at *
 repeat' first | (apply Wl.loadW;exact rfl;exact rfl;exact kd;exact rfl) | refine Wl.move rfl rfl ?_ | refine Wl.lss rfl rfl rfl ?_ | apply Wl.nil | apply St.seq | apply St.block | apply St.region | (apply St.condF;exact rfl;exact k5) | apply St.exit | apply Gt.next | apply Gt.thenExit | apply Gt.inExit
 generalize hV : Sha.rnds Sha.K W h 64 = V at *
 refine St.loop (σ := Nat) (fun i => i ≤ 8) (fun i => [(0,mp b),(174,.agg (cellsN .u32 8 V).toArray),(175,.int .i64 (i : Int))])
  (fun i => Hp w [⟨CV,cellsN .u32 8 V,308⟩,⟨CW,cellsN .u32 64 W,334⟩,⟨b,hashC (fillN h (fun j => Sha.P (h j) (V j)) i) p n,311⟩]) (fun i => 8 - i) 0 kf kq (fun _ h => by rw [fillN_zero];exact h) ?_
 clear hlt
 intro i hi
 have hf : fillN h (fun j => Sha.P (h j) (V j)) i i = h i := fillN_at (Nat.le_refl _)
 by_cases hlt : i < 8
 ·repeat' first | (apply St.bagX 11 [];exact mixed;(decide +kernel);kernel_rfl) | apply OpsX.nil | (apply OpsX.v;(intro X hX;change Wl [_] _ _ _ _ _ _ _;apply Wl.catX;exact kd)) | (apply Gt.endX;exact rfl) | (apply EndX.on;exact rfl) | (apply EndX.off;exact rfl) | (apply EndX.nil';apply Wl.catE;exact kd) | (apply Wl.indexVS;exact rfl;exact rfl;exact rfl;exact cellsN_get hlt;exact hlt) | (apply Wl.loadH;exact rfl;exact rfl;exact kd;exact zi) | (apply Wl.store;exact rfl;exact rfl;exact rfl;exact kd;exact zu) | refine Wl.addP rfl rfl rfl ?_ | (refine Wl.indexA rfl rfl rfl ?_ ?_;omega) | refine Wl.move rfl rfl ?_ | refine Wl.assign rfl rfl ?_ | refine Wl.nilCheck rfl rfl ?_ | refine Wl.fieldAddr0 rfl rfl ?_ | refine Wl.lss rfl rfl rfl ?_ | (refine Wl.addI rfl rfl rfl ?_ ?_;constructor <;> omega) | apply Wl.nil | apply St.seq | apply St.block | apply St.region | apply St.skip | apply Gt.next | apply Gt.inNormal | (apply St.condP;exact rfl;all_goals (intros;try (exfalso;omega)))
  rw [hf]
  apply Gt.round (i + 1)
  rotate_left
  ·omega
  ·exact kd
  ·exact fun _ h => by rw [← fillN_step];exact h
  ·omega
 have hi8 : i = 8 := by omega
 subst hi8
 repeat' first | refine Wl.lss rfl rfl rfl ?_ | apply Wl.nil | apply St.seq | apply St.region | (apply St.condF;exact rfl;exact k5) | apply St.exit | apply Gt.next | apply Gt.thenExit | apply Gt.inExit | (apply Gt.out0n;exact rfl;intro w' hp)
 refine ⟨rfl,?_⟩
 rw [hashC_h (g := Sha.comp h p) p n (fun j hj => by unfold fillN Sha.comp;rw [if_pos hj,hWd,hW,hV])] at hp
 exact hpPop (hpPop hp ky) ky
def HashAt (w : World) (b : Nat) (s : Sha.St) : Prop := w.heap[b]? = some (.cells (hashC s.h s.p s.n).toArray 311 (0,0))
abbrev hashB (b : Nat) (s : Sha.St) : Blk := ⟨b,hashC s.h s.p s.n,311⟩
theorem wr_p {s : Sha.St} {c : Nat} (h : ∀ j,s.p j < 256) (hc : c < 256) : ∀ j,(Sha.wr s c).p j < 256 := by
 intro j
 have : (Sha.wr s c).p = updN s.p (s.n % 64) c := by unfold Sha.wr;split <;> rfl
 rw [this];unfold updN;split
 ·exact hc
 ·exact h j
theorem wrL_p (l : List UInt8) : ∀ {s : Sha.St},(∀ j,s.p j < 256) → ∀ j,(Sha.wrL s l).p j < 256 := by
 induction l with
 | nil => intro s h;exact h
 | cons c r ih => intro s h;exact ih (wr_p h c.toNat_lt)
theorem wrL_snoc (s : Sha.St) {l : List UInt8} {i : Nat} (hi : i < l.length) : Sha.wrL s (l.take (i + 1)) = Sha.wr (Sha.wrL s (l.take i)) l[i].toNat := by
 rw [List.take_succ_eq_append_getElem hi,Sha.wrL_app];rfl
theorem shaWrite (b : Nat) (s : Sha.St) (v : Value) (l : List UInt8) (w : World) (hc : HashAt w b s) (hp8 : ∀ j,s.p j < 256) (hn : s.n + l.length < 1152921504606846976) (hv : Bs w v l) (hvb : l ≠ [] → v.ownBlock ≠ some b) (hK : ArrAt w 1 0 .u32 64 Sha.K) (h0 : b ≠ 1) :
  Calls Tryz.prog 137 #[mp b,v] w fun e w' => e = .returned (.tuple #[]) ∧ Hp w [hashB b (Sha.wrL s l)] w' := by
 have hKlt := hK.lt ku
 have hbl : b < w.heap.size := (Array.getElem?_eq_some_iff.1 hc).1
 obtain ⟨a,cap,rfl,hl,hm⟩ := hv.shape
 unfold maxLen at hm
 refine enter (args := [_,_]) (Γ := [(0,_),(1,_)]) Tryz.func137 Tryz.ntmps137 rfl odq (.cons rfl (.cons rfl .nil)) ?_
 refine St.cls (C' := Hp w [hashB b s]) (fun _ h' => Hp.open h' hc) ?_
 repeat' first | refine Wl.move rfl rfl ?_ | refine Wl.eqlPN rfl rfl rfl ?_ | refine Wl.len rfl rfl ?_ | apply Wl.nil | apply St.seq | apply St.block | apply St.region | (apply St.condF;exact rfl;exact k5) | apply St.skip | apply Gt.next
 refine St.loop (σ := Nat) (fun i => i ≤ l.length) (fun i => [(0,mp b),(8,.slice a l.length cap),(9,.int .i64 (l.length : Int)),(10,.int .i64 (i : Int))])
  (fun i => Hp w [hashB b (Sha.wrL s (l.take i))]) (fun i => l.length - i) 0 kf kq (fun _ h => by rw [List.take_zero];exact h) ?_
 intro i hi
 by_cases hlt : i < l.length
 ·obtain ⟨ab,off,rfl,hcell⟩ := hv.cells (fun e => by subst e;simp at hlt)
  have hne : ab ≠ b := fun e => hvb (fun e => by subst e;simp at hlt) (by rw [e];rfl)
  have hne' : b ≠ ab := Ne.symm hne
  have hci := hcell i hlt
  have hci8 := l[i].toNat_lt
  have hsn : (Sha.wrL s (l.take i)).n = s.n + i := by rw [Sha.wrL_n,List.length_take,Nat.min_eq_left hi]
  have hpi := wrL_p (l.take i) hp8
  have hnext := wrL_snoc s hlt
  generalize hS : Sha.wrL s (l.take i) = S at *
  have hd : decide ((i : Int) < (l.length : Int)) = true := decide_eq_true kf
  have hn1 : S.n + 1 < 1152921504606846976 := by omega
  have hpu : ∀ j,updN S.p (S.n % 64) l[i].toNat j < 256 := fun j => by
   unfold updN;split
   ·exact hci8
   ·exact hpi j
  by_cases h64 : (S.n + 1) % 64 = 0
  ·have hd2 : decide ((((S.n + 1) % 64 : Nat) : Int) = 0) = true := decide_eq_true kf
   repeat' first | (apply St.bagX 10 [];exact mixed;(decide +kernel);kernel_rfl) | apply OpsX.nil | (apply OpsX.v;(intro X hX;change Wl [_] _ _ _ _ _ _ _;apply Wl.catX;exact kd)) | (apply Gt.endX;exact rfl) | (apply EndX.on;exact rfl) | (apply EndX.off;exact rfl) | (apply EndX.nil';apply Wl.catE;exact kd) | (apply Wl.loadH;exact rfl;exact rfl;exact kd;exact zi) | (apply Wl.store;exact rfl;exact rfl;exact rfl;exact kd;exact zu) | (apply Wl.remN (n := 64);exact rfl;exact rfl;exact rfl;(decide)) | (apply Wl.addNU (n := 1);exact rfl;exact rfl;exact rfl;omega) | (refine Wl.indexAo rfl rfl rfl ?_ ?_;omega) | refine Wl.move rfl rfl ?_ | refine Wl.assign rfl rfl ?_ | refine Wl.nilCheck rfl rfl ?_ | refine Wl.fieldAddrZ rfl rfl ?_ | (apply Wl.loadO;exact rfl;exact rfl;(assumption);exact zk) | refine Wl.eql rfl rfl rfl ?_ | refine Wl.lss rfl rfl rfl ?_ | (refine Wl.indexAddr1 rfl rfl rfl ?_ ?_;constructor <;> omega) | apply Wl.nil | apply St.seq | apply St.block | apply St.region | (apply St.condT;exact rfl;exact k5) | apply St.skip | apply Gt.next
   apply Wl.callC
   exact rfl
   (focus repeat constructor)
   intro wq hq
   refine (shaBlock b S.h (updN S.p (S.n % 64) l[i].toNat) (S.n + 1) wq (hq.own.at (.head _)) hpu (hK.hp hq zb) h0).mono ?_
   rintro e wr ⟨rfl,hp⟩
   refine ⟨_,_,rfl,hq.callSet kq hp,?_⟩
   clear hp hq wq wr
   repeat' first | refine Wl.move rfl rfl ?_ | (refine Wl.addI rfl rfl rfl ?_ ?_;constructor <;> omega) | apply Wl.nil | apply St.region | apply Gt.next | apply Gt.inNormal
   apply Gt.round (i + 1)
   rotate_left
   ·omega
   ·exact kd
   ·exact fun _ h => by
     rw [hnext]
     unfold Sha.wr
     rw [if_pos h64];exact h
   ·omega
  ·have hd2 : decide ((((S.n + 1) % 64 : Nat) : Int) = 0) = false := decide_eq_false kf
   repeat' first | (apply St.bagX 10 [];exact mixed;(decide +kernel);kernel_rfl) | apply OpsX.nil | (apply OpsX.v;(intro X hX;change Wl [_] _ _ _ _ _ _ _;apply Wl.catX;exact kd)) | (apply Gt.endX;exact rfl) | (apply EndX.on;exact rfl) | (apply EndX.off;exact rfl) | (apply EndX.nil';apply Wl.catE;exact kd) | (apply Wl.loadH;exact rfl;exact rfl;exact kd;exact zi) | (apply Wl.store;exact rfl;exact rfl;exact rfl;exact kd;exact zu) | (apply Wl.remN (n := 64);exact rfl;exact rfl;exact rfl;(decide)) | (apply Wl.addNU (n := 1);exact rfl;exact rfl;exact rfl;omega) | (refine Wl.indexAo rfl rfl rfl ?_ ?_;omega) | refine Wl.move rfl rfl ?_ | refine Wl.assign rfl rfl ?_ | refine Wl.nilCheck rfl rfl ?_ | refine Wl.fieldAddrZ rfl rfl ?_ | (apply Wl.loadO;exact rfl;exact rfl;(assumption);exact zk) | refine Wl.eql rfl rfl rfl ?_ | refine Wl.lss rfl rfl rfl ?_ | (refine Wl.addI rfl rfl rfl ?_ ?_;constructor <;> omega) | (refine Wl.indexAddr1 rfl rfl rfl ?_ ?_;constructor <;> omega) | apply Wl.nil | apply St.seq | apply St.block | apply St.region | (apply St.condT;exact rfl;exact k5) | (apply St.condF;exact rfl;exact k5) | apply St.skip | apply Gt.next | apply Gt.inNormal
   apply Gt.round (i + 1)
   rotate_left
   ·omega
   ·exact kd
   ·exact fun _ h => by
     rw [hnext]
     unfold Sha.wr
     rw [if_neg h64];exact h
   ·omega
 have hil : i = l.length := by omega
 subst hil
 have hd : decide ((l.length : Int) < (l.length : Int)) = false := decide_eq_false kf
 repeat' first | refine Wl.lss rfl rfl rfl ?_ | apply Wl.nil | apply St.seq | apply St.region | (apply St.condF;exact rfl;exact k5) | apply St.exit | apply Gt.next | apply Gt.thenExit | apply Gt.inExit | (apply Gt.out0n;exact rfl;intro w' hp)
 rw [List.take_length] at hp
 exact ⟨rfl,hp⟩
instance tzHash : TyZ Tryz.prog 311 (.agg (hashC (fun _ => 0) (fun _ => 0) 0).toArray) := ⟨by kernel_rfl⟩
theorem zHash : (Value.agg (hashC (fun _ => 0) (fun _ => 0) 0).toArray).cells.toList = hashC (fun _ => 0) (fun _ => 0) 0 := rfl
theorem z32b : (Value.agg #[.int .u8 0,.int .u8 0,.int .u8 0,.int .u8 0,.int .u8 0,.int .u8 0,.int .u8 0,.int .u8 0,.int .u8 0,.int .u8 0,.int .u8 0,.int .u8 0,.int .u8 0,.int .u8 0,.int .u8 0,.int .u8 0,.int .u8 0,.int .u8 0,.int .u8 0,.int .u8 0,.int .u8 0,.int .u8 0,.int .u8 0,.int .u8 0,.int .u8 0,.int .u8 0,.int .u8 0,.int .u8 0,.int .u8 0,.int .u8 0,.int .u8 0,.int .u8 0]).cells.toList = cellsN .u8 32 fun _ => 0 := by unfold cellsN;rfl
theorem Wl.allocC {P : Program} {t : TypeId} {N : Nat} {ops : Array Oper} {rest : List Oper} {Γ : Env} {Q : Exit → Act → World → Prop} {d : Nat} {ty : TypeId} {pos : String} {af : Array Edge} {w0 : World} {H : List Blk} {z : Value} {cs : List Value} [TyZ P t z] (hd : Nat.blt d N = true) (hz : z.cells.toList = cs)
  (h : ∀ c,w0.heap.size ≤ c → Off H c → Wl rest P .seq ops N ((d,.pointer (some ⟨c,0,none⟩)) :: Γ) (Hp w0 (⟨c,cs,t⟩ :: H)) Q) : Wl (⟨some d,.alloc t,ty,pos,af,none⟩ :: rest) P .seq ops N Γ (Hp w0 H) Q := Wl.alloc hd fun c hc ho => by rw [hz];exact h c hc ho
theorem Wl.convN8 {P : Program} {md : Md} {N : Nat} {ops : Array Oper} {rest : List Oper} {Γ : Env} {C : World → Prop} {Q : Exit → Act → World → Prop} {d : Nat} {ty : TypeId} {pos : String} {af : Array Edge} {s t : TypeId} {x : Operand} {k : IntKind} {m : Nat} [hs : TyD P s (.int k)] [ht : TyD P t (.int .u8)] (hd : Nat.blt d N = true) (hx : ev Γ x = some (.int k (m : Int))) (h : Wl rest P md ops N ((d,.int .u8 ((m % 256 : Nat) : Int)) :: Γ) C Q) : Wl (⟨some d,.convert s t x,ty,pos,af,none⟩ :: rest) P md ops N Γ C Q :=
 Wl.convI hd hx (by rw [IntKind.wrap_u8];exact h)
theorem hpShut {w0 w : World} {H : List Blk} {b t : Nat} {cs : List Value} (h : Hp w0 (⟨b,cs,t⟩ :: H) w) (hc : w0.heap[b]? = some (.cells cs.toArray t (0,0))) : Hp w0 H w :=
 ⟨⟨h.upd.os,h.upd.tape,h.upd.output,h.upd.size,fun k hk hs => by
  by_cases e : k = b
  ·subst e;rw [hc];exact h.own.1
  ·exact h.upd.block k hk fun y => hs fun ho => y ⟨fun e' => e e'.symm,ho⟩⟩,h.own.2,h.apart.2⟩
theorem bsOne {w : World} {b x t : Nat} {fr : Nat × Nat} (h : w.heap[b]? = some (.cells #[.int .u8 (x : Int)] t fr)) (hx : x < 256) : Bs w (.slice (some ⟨b,0,none⟩) 1 1) [UInt8.ofNat x] := by
 have e : (byteCells [UInt8.ofNat x]).toArray = #[.int .u8 (x : Int)] := by
  simp [byteCells,Nat.mod_eq_of_lt hx]
 have := Bs.ofBlk (w := w) (b := b) (l := [UInt8.ofNat x]) (t := t) (fr := fr) (by rw [e];exact h) (by simp [maxLen])
 exact this
theorem shaSum (b : Nat) (s : Sha.St) (w : World) (hA : HashAt w b s) (hp8 : ∀ j,s.p j < 256) (hn : s.n < 1000000000000000) (hK : ArrAt w 1 0 .u32 64 Sha.K) (h0 : b ≠ 1) :
  Calls Tryz.prog 138 #[mp b] w fun e w' => e = .returned (.agg (cellsN .u8 32 (Sha.sum s)).toArray) ∧ Hp w [] w' := by
 have hKlt := hK.lt ku
 have hbl : b < w.heap.size := (Array.getElem?_eq_some_iff.1 hA).1
 have hs0 : 0 < w.heap.size := by omega
 refine enter (args := [_]) (Γ := [(0,_)]) Tryz.func138 Tryz.ntmps138 rfl odq (.cons rfl .nil) ?_
 refine St.cls (C' := Hp w [hashB b s]) (fun _ h' => Hp.open h' hA) ?_
 repeat' first | (apply Wl.allocN;exact rfl;exact z32b;intro c hc ho) | (apply Wl.allocC;exact rfl;exact zHash;intro c hc ho) | (apply Wl.loadAH;exact rfl;exact rfl;exact kd;exact LSub.whole (hashC_len _ _ _)) | (apply Wl.storeAll;exact rfl;exact rfl;exact kd;exact hashC_len _ _ _;exact hashC_len _ _ _;exact hashC_one _ _ _) | (apply Wl.loadH;exact rfl;exact rfl;exact kd;exact zi) | (apply Wl.mulNU (n := 8);exact rfl;exact rfl;exact rfl;omega) | refine Wl.move rfl rfl ?_ | refine Wl.assign rfl rfl ?_ | refine Wl.nilCheck rfl rfl ?_ | refine Wl.fieldAddrZ rfl rfl ?_ | refine Wl.eqlPN rfl rfl rfl ?_ | (apply Wl.lit;exact rfl;exact kh;exact rfl;exact rfl;exact ke;intro c hc ho) | apply Wl.nil | apply St.seq | apply St.region | (apply St.condF;exact rfl;exact k5) | apply St.skip | apply Gt.next
 rename_i cr hr hor co hco hoo ch hch hoh
 have hne1 : ch ≠ c := ho.1
 have hov : ∀ x y : Nat,x ≠ y → [UInt8.ofNat 0] ≠ [] → (Value.slice (some ⟨y,0,none⟩) 1 1).ownBlock ≠ some x := fun x y h _ e => h (by simp [Value.ownBlock] at e;exact e.symm)
 apply Wl.callC
 exact rfl
 (focus repeat constructor)
 intro wq hq
 refine (shaWrite ch s (.slice (some ⟨c,0,none⟩) 1 1) [UInt8.ofNat 128] wq (hq.own.at (.tail _ (.head _))) hp8 zf (bsOne (x := 128) (hq.own.at (.head _)) ku) (fun _ => hov ch c hne1 za) (hK.hp hq zb) kf).mono ?_
 rintro e wr ⟨rfl,hp⟩
 refine ⟨_,_,rfl,hq.callSet kq hp,?_⟩
 clear hp hq wq wr
 generalize hS1 : Sha.wrL s [UInt8.ofNat 128] = S1 at *
 have hn1 : S1.n = s.n + 1 := by rw [← hS1,Sha.wrL_n];rfl
 have hp1 : ∀ j,S1.p j < 256 := hS1 ▸ wrL_p _ hp8
 generalize hk : (119 - s.n % 64) % 64 = k at *
 repeat' first | apply Wl.nil | apply St.seq | apply St.block | apply Gt.next
 refine St.loop (σ := Nat) (fun j => j ≤ k) (fun _ => [(2,mp cr),(3,mp co),(4,mp ch),(5,.int .u64 ((s.n * 8 : Nat) : Int))])
  (fun j => Hp w [hashB ch (Sha.wrL S1 (Sha.zeros j)),⟨co,cellsN .u8 32 fun _ => 0,107⟩,⟨cr,cellsN .u8 32 fun _ => 0,107⟩,hashB b s]) (fun j => k - j) 0 kf kq (fun _ h => hpPop h ky) ?_
 intro j hj
 have hjn : (Sha.wrL S1 (Sha.zeros j)).n = s.n + 1 + j := by rw [Sha.wrL_n,hn1];simp [Sha.zeros]
 have hjp : ∀ i,(Sha.wrL S1 (Sha.zeros j)).p i < 256 := wrL_p _ hp1
 have hnx : Sha.wrL S1 (Sha.zeros (j + 1)) = Sha.wrL (Sha.wrL S1 (Sha.zeros j)) [UInt8.ofNat 0] := by
  rw [← Sha.wrL_app]
  unfold Sha.zeros
  rw [List.replicate_succ']
  rfl
 by_cases hlt : j < k
 ·generalize hSj : Sha.wrL S1 (Sha.zeros j) = Sj at *
  have hd : decide (((Sj.n % 64 : Nat) : Int) ≠ 56) = true := decide_eq_true kf
  repeat' first | (apply Wl.loadH;exact rfl;exact rfl;exact kd;exact zi) | (apply Wl.remN (n := 64);exact rfl;exact rfl;exact rfl;(decide)) | refine Wl.fieldAddrZ rfl rfl ?_ | refine Wl.neq rfl rfl rfl ?_ | (apply Wl.lit;exact rfl;exact kh;exact rfl;exact rfl;exact ke;intro c hc ho) | apply Wl.nil | apply St.seq | apply St.block | apply St.region | (apply St.condT;exact rfl;exact k5) | apply St.skip | apply Gt.next
  have hne2 : ch ≠ c := ho.1
  apply Wl.callC
  exact rfl
  (focus repeat constructor)
  intro wq hq
  refine (shaWrite ch Sj (.slice (some ⟨c,0,none⟩) 1 1) [UInt8.ofNat 0] wq (hq.own.at (.tail _ (.head _))) hjp zf (bsOne (x := 0) (hq.own.at (.head _)) ku) (fun _ => hov ch c hne2 za) (hK.hp hq zb) kf).mono ?_
  rintro e wr ⟨rfl,hp⟩
  refine ⟨_,_,rfl,hq.callSet kq hp,?_⟩
  clear hp hq wq wr
  repeat' first | apply Wl.nil | apply Gt.inNormal
  apply Gt.round (j + 1)
  rotate_left
  ·omega
  ·exact kd
  ·exact fun _ h => by rw [hnx];exact hpPop h ky
  ·omega
 have hjk : j = k := by omega
 subst hjk
 generalize hS2 : Sha.wrL S1 (Sha.zeros j) = S2 at *
 have hd : decide (((S2.n % 64 : Nat) : Int) ≠ 56) = false := decide_eq_false kf
 repeat' first | (apply Wl.loadH;exact rfl;exact rfl;exact kd;exact zi) | (apply Wl.remN (n := 64);exact rfl;exact rfl;exact rfl;(decide)) | refine Wl.move rfl rfl ?_ | refine Wl.fieldAddrZ rfl rfl ?_ | refine Wl.neq rfl rfl rfl ?_ | apply Wl.nil | apply St.seq | apply St.block | apply St.region | (apply St.condF;exact rfl;exact k5) | apply St.exit | apply Gt.next | apply Gt.thenExit | apply Gt.inExit
 have hl8 : (Sha.be8 (s.n * 8)).length = 8 := by simp [Sha.be8]
 refine St.loop (σ := Nat) (fun i => i ≤ 8) (fun i => [(2,mp cr),(3,mp co),(4,mp ch),(5,.int .u64 ((s.n * 8 : Nat) : Int)),(25,.int .i64 (i : Int))])
  (fun i => Hp w [hashB ch (Sha.wrL S2 ((Sha.be8 (s.n * 8)).take i)),⟨co,cellsN .u8 32 fun _ => 0,107⟩,⟨cr,cellsN .u8 32 fun _ => 0,107⟩,hashB b s]) (fun i => 8 - i) 0 kf kq (fun _ h => by rw [List.take_zero];exact h) ?_
 clear hlt
 intro i hi
 have hin : (Sha.wrL S2 ((Sha.be8 (s.n * 8)).take i)).n = S2.n + i := by rw [Sha.wrL_n,List.length_take,hl8,Nat.min_eq_left hi]
 have hip : ∀ q,(Sha.wrL S2 ((Sha.be8 (s.n * 8)).take i)).p q < 256 := wrL_p _ hjp
 by_cases hlt : i < 8
 ·have hnx := wrL_snoc S2 (l := Sha.be8 (s.n * 8)) (i := i) kf
  have hge : (Sha.be8 (s.n * 8))[i]'(by omega) = UInt8.ofNat (s.n * 8 / 2 ^ (56 - 8 * i)) := by simp [Sha.be8]
  rw [hge] at hnx
  generalize hSi : Sha.wrL S2 ((Sha.be8 (s.n * 8)).take i) = Si at *
  repeat' first | (apply Wl.mulNI (m := 8);exact rfl;exact rfl;exact rfl;omega) | (apply Wl.subR 56;exact rfl;exact rfl;exact rfl;exact rfl;omega;omega) | (apply Wl.shrV;exact rfl;exact rfl;exact rfl;(show _ ≤ 64;omega)) | refine Wl.convN8 rfl rfl ?_ | refine Wl.move rfl rfl ?_ | refine Wl.assign rfl rfl ?_ | refine Wl.lss rfl rfl rfl ?_ | (apply Wl.lit;exact rfl;exact kh;exact rfl;exact rfl;exact ke;intro c hc ho) | apply Wl.nil | apply St.seq | apply St.block | apply St.region | apply St.skip | apply Gt.next | (apply St.condP;exact rfl;all_goals (intros;try (exfalso;omega)))
  have hne2 : ch ≠ c := ho.1
  have hlt8 : s.n * 8 / 2 ^ (56 - 8 * i) % 256 < 256 := Nat.mod_lt _ ku
  have hofn : UInt8.ofNat (s.n * 8 / 2 ^ (56 - 8 * i)) = UInt8.ofNat (s.n * 8 / 2 ^ (56 - 8 * i) % 256) := by
   apply UInt8.toNat_inj.1;simp
  apply Wl.callC
  exact rfl
  (focus repeat constructor)
  intro wq hq
  refine (shaWrite ch Si (.slice (some ⟨c,0,none⟩) 1 1) [UInt8.ofNat (s.n * 8 / 2 ^ (56 - 8 * i) % 256)] wq (hq.own.at (.tail _ (.head _))) hip zf (bsOne (hq.own.at (.head _)) hlt8) (fun _ e => hne2 (by simp [Value.ownBlock] at e;exact e.symm)) (hK.hp hq zb) kf).mono ?_
  rintro e wr ⟨rfl,hp⟩
  refine ⟨_,_,rfl,hq.callSet kq hp,?_⟩
  clear hp hq wq wr
  repeat' first | refine Wl.move rfl rfl ?_ | (refine Wl.addI rfl rfl rfl ?_ ?_;constructor <;> omega) | apply Wl.nil | apply St.region | apply Gt.next | apply Gt.inNormal
  apply Gt.round (i + 1)
  rotate_left
  ·omega
  ·exact kd
  ·exact fun _ h => by rw [hnx,hofn];exact hpPop h ky
  ·omega
 have hi8 : i = 8 := by omega
 subst hi8
 rw [show (Sha.be8 (s.n * 8)).take 8 = Sha.be8 (s.n * 8) from List.take_of_length_le kf] at hin hip ⊢
 have hfin : Sha.wrL s (Sha.pad s.n) = Sha.wrL S2 (Sha.be8 (s.n * 8)) := by
  unfold Sha.pad
  rw [hk,← hS2,← hS1,show (0x80 : UInt8) = UInt8.ofNat 128 from rfl,← Sha.wrL_app,← Sha.wrL_app]
  rfl
 generalize hS3 : Sha.wrL S2 (Sha.be8 (s.n * 8)) = S3 at *
 repeat' first | refine Wl.move rfl rfl ?_ | refine Wl.lss rfl rfl rfl ?_ | apply Wl.nil | apply St.seq | apply St.block | apply St.region | (apply St.condF;exact rfl;exact k5) | apply St.exit | apply Gt.next | apply Gt.thenExit | apply Gt.inExit
 refine St.loop (σ := Nat) (fun i => i ≤ 32) (fun i => [(2,mp cr),(3,mp co),(4,mp ch),(37,.int .i64 (i : Int))])
  (fun i => Hp w [hashB ch S3,⟨co,cellsN .u8 32 (fillN (fun _ => 0) (Sha.outB S3.h) i),107⟩,⟨cr,cellsN .u8 32 fun _ => 0,107⟩,hashB b s]) (fun i => 32 - i) 0 kf kq (fun _ h => by rw [fillN_zero];exact h) ?_
 clear hlt
 intro i hi
 by_cases hlt : i < 32
 ·have hi4 : i / 4 < 8 := by omega
  have hi3 : i % 4 < 4 := Nat.mod_lt _ ku
  repeat' first | (apply Wl.quoN (n := 4);exact rfl;exact rfl;exact rfl;(decide);exact IntWalk.i64_in _ kf) | (apply Wl.remN (n := 4);exact rfl;exact rfl;exact rfl;(decide)) | (apply Wl.loadH;exact rfl;exact rfl;exact kd;exact zi) | (apply Wl.mulNI (m := 8);exact rfl;exact rfl;exact rfl;omega) | (apply Wl.subR 24;exact rfl;exact rfl;exact rfl;exact rfl;omega;omega) | (apply Wl.shrV;exact rfl;exact rfl;exact rfl;(show _ ≤ 32;omega)) | refine Wl.convN8 rfl rfl ?_ | (refine Wl.indexA rfl rfl rfl ?_ ?_;omega) | (apply Wl.storeN;exact rfl;exact rfl;exact kd;omega) | refine Wl.move rfl rfl ?_ | refine Wl.assign rfl rfl ?_ | refine Wl.fieldAddr0 rfl rfl ?_ | refine Wl.lss rfl rfl rfl ?_ | (refine Wl.addI rfl rfl rfl ?_ ?_;constructor <;> omega) | apply Wl.nil | apply St.seq | apply St.block | apply St.region | apply St.skip | apply Gt.next | apply Gt.inNormal | (apply St.condP;exact rfl;all_goals (intros;try (exfalso;omega)))
  apply Gt.round (i + 1)
  rotate_left
  ·omega
  ·exact kd
  ·exact fun _ h => by rw [← fillN_step];exact h
  ·omega
 have hi32 : i = 32 := by omega
 subst hi32
 repeat' first | (apply Gt.outN;exact rfl;infer_instance;exact rfl;exact kd;exact rfl;intro w' hp) | (apply Wl.loadW;exact rfl;exact rfl;exact kd;exact rfl) | (apply Wl.storeW;exact rfl;exact rfl;exact kd;exact rfl;exact qm) | refine Wl.lss rfl rfl rfl ?_ | apply Wl.nil | apply St.seq | apply St.region | (apply St.condF;exact rfl;exact k5) | apply St.ret | apply St.exit | apply Gt.next | apply Gt.thenExit | apply Gt.inExit
 refine ⟨?_,hpShut (H := []) (hpPop (hpPop (hpPop hp ky) ky) ky) hA⟩
 rw [show Sha.sum s = Sha.outB S3.h by unfold Sha.sum;rw [hfin],show cellsN .u8 32 (fillN (fun _ => 0) (Sha.outB S3.h) 32) = cellsN .u8 32 (Sha.outB S3.h) from cellsN_congr fun j hj => by unfold fillN;rw [if_pos hj]]
theorem h08 : [Value.int .u32 1779033703,.int .u32 3144134277,.int .u32 1013904242,.int .u32 2773480762,.int .u32 1359893119,.int .u32 2600822924,.int .u32 528734635,.int .u32 1541459225] = cellsN .u32 8 Sha.H0 := by kernel_rfl
section
variable {md : Md} {N : Nat} {ops : Array Oper} {rest : List Oper} {Γ : Env} {C : World → Prop} {Q : Exit → Act → World → Prop} {d : Nat} {ty : TypeId} {pos : String} {af : Array Edge} {parts : Array (Nat × Operand)}
instance tyHash : TyP Tryz.prog 311 [(0,8),(8,64),(72,1)] (hashC (fun _ => 0) (fun _ => 0) 0) := ⟨by kernel_rfl⟩
theorem Wl.buildHash {h : Nat → Nat} (hd : Nat.blt d N = true) (hp : Parts Γ parts.toList [(0,.agg (cellsN .u32 8 h).toArray)]) (k : Wl rest Tryz.prog md ops N ((d,.agg (hashC h (fun _ => 0) 0).toArray) :: Γ) C Q) :
  Wl (⟨some d,.build 311 parts,ty,pos,af,none⟩ :: rest) Tryz.prog md ops N Γ C Q := by
 refine Wl.build hd hp (fun _ => run_build_struct ?_) k
 refine .agg rfl (by rw [cellsN_len];rfl) (cs1 := hashC h (fun _ => 0) 0) ?_ .nil
 unfold hashC
 exact LPut.appN (p := []) rfl (by rw [cellsN_len,cellsN_len])
end
theorem shaNew (w : World) : Calls Tryz.prog 136 #[] w fun e w' => ∃ c,e = .returned (mp c) ∧ w.heap.size ≤ c ∧ HashAt w' c Sha.ini ∧ Hp w [] w' := by
 refine enter (args := []) (Γ := []) Tryz.func136 Tryz.ntmps136 rfl odq .nil ?_
 repeat' first | (apply Wl.buildN;exact rfl;exact kh;exact kb;exact h08) | (apply Wl.buildHash;exact rfl;(focus ((repeat (first | exact Parts.nil | apply Parts.cons rfl));done))) | (apply Wl.boxA;exact rfl;exact rfl;intro c hc ho) | refine Wl.assign rfl rfl ?_ | apply Wl.nil | apply St.seq | apply St.region | apply St.ret | apply Gt.next | (apply Gt.out1;exact rfl;exact rfl;intro w' hp)
 exact ⟨c,rfl,hc,hp.own.at (.head _),hp.drop zf⟩
theorem shaOf (v : Value) (l : List UInt8) (w : World) (hv : Bs w v l) (hn : l.length < 500000000000000) (hvl : l ≠ [] → ∀ k,v.ownBlock = some k → k < w.heap.size) (hK : ArrAt w 1 0 .u32 64 Sha.K) :
  Calls Tryz.prog 99 #[v] w fun e w' => e = .returned (.agg (cellsN .u8 32 (Sha.of l)).toArray) ∧ Hp w [] w' := by
 have h0s := hK.lt ku
 refine enter (args := [_]) (Γ := [(0,_)]) Tryz.func99 Tryz.ntmps99 rfl odq (.cons rfl .nil) ?_
 repeat' first | (apply Wl.allocN;exact rfl;exact z32b;intro c hc ho) | apply Wl.nil | apply St.seq | apply St.region | apply Gt.next
 apply Wl.callC
 ·exact rfl
 ·exact kd
 intro wq hq
 refine (shaNew wq).mono ?_
 rintro e wr ⟨b,rfl,hb,hH,hr⟩
 have hqr := hq.keep hr
 have hs1 := hq.upd.size
 have lc := hq.own.lt (.head _)
 simp only at lc
 have hKr : ArrAt wr 1 0 .u32 64 Sha.K := hK.hp hqr zb
 have hvr : Bs wr v l := hv.upd hqr.upd fun k hk hlt hne hS => hS ⟨by simp only;omega,trivial⟩
 have hu : Upd (fun k => w.heap.size ≤ k) w wr := hpOn hqr (Upd.refl _ _) zf
 refine ⟨_,_,rfl,Hp.open (hpRb hqr) hH ⟨by simp only;omega,trivial⟩,?_⟩
 clear hq hr
 repeat' first | refine Wl.move rfl rfl ?_ | refine Wl.assign rfl rfl ?_ | apply Wl.nil | apply St.seq | apply St.region | apply Gt.next
 have hvw : ∀ {wq : World} {H : List Blk},Hp wr [hashB b Sha.ini,⟨c,cellsN .u8 32 fun _ => 0,107⟩] wq → Bs wq v l := fun hq => hvr.upd hq.upd fun k hk hlt hne hS => by
  have := hvl hne k hk
  exact hS ⟨by simp only;omega,by simp only;omega,trivial⟩
 apply Wl.callC
 exact rfl
 (focus repeat constructor)
 intro wq hq
 refine (shaWrite b Sha.ini v l wq (hq.own.at (.head _)) (fun _ => by show 0 < 256;decide) (by show 0 + _ < _;omega) (hvw (H := []) hq) (fun hne e => by have := hvl hne b e;omega) (hKr.hp hq zb) kf).mono ?_
 rintro e wr ⟨rfl,hp⟩
 refine ⟨_,_,rfl,hq.callSet kq hp,?_⟩
 clear hp hq wq wr
 repeat' first | refine Wl.move rfl rfl ?_ | apply Wl.nil | apply St.seq | apply St.region | apply Gt.next
 apply Wl.callQ
 exact rfl
 (focus repeat constructor)
 ·intro wq hq
  refine (shaSum b (Sha.wrL Sha.ini l) wq (hq.own.at (.head _)) (wrL_p l (fun _ => by show 0 < 256;decide)) (by rw [Sha.wrL_n];show 0 + _ < _;omega) (hKr.hp hq zb) kf).mono ?_
  rintro e wr ⟨rfl,hr⟩
  exact ⟨rfl,hq.keep hr⟩
 repeat' first | (apply Gt.outN;exact rfl;infer_instance;exact rfl;exact kd;exact rfl;intro w' hp) | (apply Wl.storeW;exact rfl;exact rfl;exact kd;exact rfl;exact qm) | apply Wl.nil | apply St.ret | apply Gt.next
 exact ⟨rfl,hpFin hp hu zf⟩
theorem tw_len {p : UInt8 → Bool} : ∀ (r : List UInt8) (n : Nat),(∀ j c,j < n → r[j]? = some c → p c = true) → n ≤ r.length → (∀ c,r[n]? = some c → p c = false) → (r.takeWhile p).length = n
 | [],n,_,h,_ => by
  have : n = 0 := by simpa using h
  subst this;rfl
 | c :: t,0,_,_,h => by
  have := h c rfl
  simp [List.takeWhile,this]
 | c :: t,n + 1,h1,h2,h3 => by
  have h0 := h1 0 c kf rfl
  simp only [List.takeWhile,h0,List.length_cons]
  rw [tw_len t n (fun j d hj hd => h1 (j + 1) d kf hd) (by simpa using h2) (fun d hd => h3 d hd)]
def zN (r : List UInt8) : Nat := (r.takeWhile fun c => decide (c = 0)).length
def nN (r : List UInt8) : Nat := (r.takeWhile fun c => decide (c ≠ 0)).length
theorem tw_le (p : UInt8 → Bool) : ∀ r : List UInt8,(r.takeWhile p).length ≤ r.length
 | [] => Nat.le_refl _
 | c :: t => by
  simp only [List.takeWhile]
  split
  ·simp only [List.length_cons];have := tw_le p t;omega
  ·exact Nat.zero_le _
def runsE : Nat → List UInt8 → List UInt8
 | 0,_ => []
 | m + 1,r => if r = [] then [] else leB 4 (zN r) ++ leB 4 (nN (r.drop (zN r))) ++ (r.drop (zN r)).take (nN (r.drop (zN r))) ++ runsE m (r.drop (zN r + nN (r.drop (zN r))))
theorem run_pos {r : List UInt8} (h : r ≠ []) : 1 ≤ zN r + nN (r.drop (zN r)) := by
 cases r with
 | nil => exact (h rfl).elim
 | cons c t =>
  by_cases h0 : c = 0
  ·have : 1 ≤ zN (c :: t) := by unfold zN;simp [List.takeWhile,h0]
   omega
  ·have h1 : zN (c :: t) = 0 := by unfold zN;simp [List.takeWhile,h0]
   have h2 : 1 ≤ nN (c :: t) := by unfold nN;simp [List.takeWhile,h0]
   rw [h1]
   simpa using h2
def digE (l : List UInt8) : List UInt8 := (List.range 32).map fun j => UInt8.ofNat (Sha.of l j)
structure PkI (w : World) (base : Nat) (src bv0 : Value) (l0 r0 : List UInt8) (m : Nat) (bv : Value) (l : List UInt8) (v1 : Value) (r : List UInt8) (wc : World) : Prop where
 row : Bo wc base bv l
 sub : ∀ u,Bs u src r0 → Bs u v1 r
 eq : l ++ runsE m r = l0 ++ runsE r0.length r0
 len : r.length ≤ m ∧ l.length + 9 * r.length ≤ l0.length + 9 * r0.length
 own : ∀ k,bv.ownBlock = some k → bv0.ownBlock = some k ∨ w.heap.size ≤ k
 up : Upd (fun k => bv0.ownBlock = some k) w wc
theorem sPack (base : Nat) (bv0 src : Value) (l0 r0 : List UInt8) (w : World) (h : Bo w base bv0 l0) (hb : base ≤ w.heap.size) (hs : Bs w src r0) (hne : ∀ k,bv0.ownBlock = some k → src.ownBlock ≠ some k) (hl : l0.length ≤ 100000) (hr : r0.length ≤ 65536) (hsb : ∀ k,(Value.ownBlock src) = some k → k < w.heap.size) (hK : ArrAt w 1 0 .u32 64 Sha.K) (hKb : 1 < base) :
  Calls Tryz.prog 94 #[bv0,src] w fun e w' => ∃ v',e = .returned v' ∧ Bo w' base v' (l0 ++ runsE r0.length r0 ++ digE (l0 ++ runsE r0.length r0)) ∧ Upd (fun k => bv0.ownBlock = some k) w w' := by
 have h0w := h.lt
 obtain ⟨sa,scap,rfl,hsc,hscm⟩ := hs.shape
 refine enter (args := [_,_]) (Γ := [(0,_),(1,_)]) Tryz.func94 Tryz.ntmps94 rfl odq (.cons rfl (.cons rfl .nil)) ?_
 repeat' first | refine Wl.assign rfl rfl ?_ | apply Wl.nil | apply St.seq | apply St.block | apply St.region | apply Gt.next
 refine St.loop (σ := Nat × Value × List UInt8 × Value × List UInt8 × World) (fun τ => PkI w base (.slice sa r0.length scap) bv0 l0 r0 τ.1 τ.2.1 τ.2.2.1 τ.2.2.2.1 τ.2.2.2.2.1 τ.2.2.2.2.2) (fun τ => [(0,τ.2.1),(1,τ.2.2.2.1)]) (fun τ => Hp τ.2.2.2.2.2 []) (fun τ => τ.2.2.2.2.1.length)
  (r0.length,bv0,l0,.slice sa r0.length scap,r0,w) ⟨h,fun _ h => h,rfl,⟨Nat.le_refl _,Nat.le_refl _⟩,fun _ h => .inl h,Upd.refl _ _⟩ kq (fun _ h => h) ?_
 rintro ⟨m,bv,l,v1,r,wc⟩ J
 simp only at J ⊢
 have zc := J.up.size
 have hsrc := hs.upd J.up fun k hk _ _ e => hne k e hk
 have hv1 := J.sub wc hsrc
 obtain ⟨a,cap,rfl,hrc,hcm⟩ := hv1.shape
 have hlen := J.len
 by_cases hr0 : r = []
 ·subst hr0
  have hd0 : decide (((0 : Nat) : Int) > 0) = false := by decide
  have he : l = l0 ++ runsE r0.length r0 := by
   rw [← J.eq]
   cases m <;> simp [runsE]
  have hKc := hK.upd J.up fun h => by have := (h0w _ h).1;omega
  rw [← he]
  repeat' first | refine Wl.move rfl rfl ?_ | refine Wl.gtr rfl rfl rfl ?_ | refine Wl.len rfl rfl ?_ | apply Wl.nil | apply St.seq | apply St.region | (apply St.condF;exact rfl;exact k5) | apply St.exit | apply Gt.next | apply Gt.thenExit | apply Gt.inExit
  apply Wl.callQ
  exact rfl
  (focus repeat constructor)
  ·intro wq hq
   exact hq.q (shaOf bv l wq ((J.row.upd hq.upd fun _ _ y => y trivial).bs) kf (fun _ k hk => by have := (J.row.lt k hk).2;have := hq.upd.size;omega) (hKc.upd hq.upd fun y => y trivial))
  repeat' first | (apply Wl.alloc;exact rfl;intro c hc ho)
  apply Wl.storeAll
  ·exact rfl
  ·exact rfl
  ·exact .here
  ·exact cellsN_len _ _ _
  ·exact rfl
  ·exact cellsN_one _ _ _
  repeat' first | refine Wl.move rfl rfl ?_ | apply Wl.nil | apply St.seq | apply St.region | apply Gt.next
  apply Wl.sliceArrW
  ·exact rfl
  ·exact rfl
  ·decide
  have hll : l.length ≤ 100000 + 9 * 65536 := by have := hlen.2;omega
  apply Wl.appendT (base := base) (n := l.length) (m := 32) (sz := 1) (e := 5) (xs := byteCells l) (news := cellsN .u8 32 (Sha.of l))
  ·exact rfl
  ·exact rfl
  ·exact rfl
  ·exact hc
  ·rw [cellsN_len];exact rfl
  ·exact J.row
  ·exact fun _ _ => trivial
  ·exact cellsN_one _ _ _
  ·exact rfl
  ·decide
  ·unfold maxLen;omega
  ·omega
  ·omega
  intro v' w1 ho2 u1 _ o1
  repeat' first | refine Wl.assign rfl rfl ?_ | apply Wl.nil | apply St.ret | apply Gt.next | (apply Gt.out1;exact rfl;exact rfl;intro w' hp)
  have hdig : cellsN .u8 32 (Sha.of l) = byteCells (digE l) := by
   simp only [digE,byteCells,List.map_map,cellsN]
   refine List.map_congr_left fun j hj => ?_
   simp only [Function.comp]
   have : Sha.of l j < 256 := Nat.mod_lt _ ku
   rw [UInt8.toNat_ofNat',Nat.mod_eq_of_lt this]
  refine ⟨_,rfl,(Bo.of ho2 (by simp [digE]) hdig).upd hp.upd fun _ _ y => y trivial,J.up.comp (u1.comp hp.upd (T := fun k => bv.ownBlock = some k) fun k _ h => h.elim (fun h => h.elim id fun y => (y trivial).elim) fun y => (y trivial).elim) fun k hk h => h.elim id fun h => (J.own k h).elim id fun h => by omega⟩
 have hrl : 0 < r.length := List.length_pos_iff.2 hr0
 have hd0 : decide ((r.length : Int) > 0) = true := decide_eq_true kf
 obtain ⟨gb,go,rfl,hcell⟩ := hv1.cells hr0
 apply St.seq
 apply St.seq
 repeat' first | refine Wl.move rfl rfl ?_ | refine Wl.gtr rfl rfl rfl ?_ | refine Wl.len rfl rfl ?_ | apply Wl.nil | apply St.block | apply St.region | (apply St.condT;exact rfl;exact k5) | apply St.skip | apply Gt.next
 apply St.seq
 repeat' first | refine Wl.assign rfl rfl ?_ | apply Wl.nil | apply St.region | apply Gt.next
 refine St.cut (σ := Nat) (fun n => n ≤ r.length ∧ zN r = n) (fun n => [(0,bv),(1,.slice (some ⟨gb,go,none⟩) r.length cap),(5,.int .i64 (n : Int))]) (fun _ => Hp wc []) ?_ ?_
 ·apply St.block
  refine St.loop (σ := Nat) (fun n => n ≤ r.length ∧ ∀ j c,j < n → r[j]? = some c → c = 0) (fun n => [(0,bv),(1,.slice (some ⟨gb,go,none⟩) r.length cap),(5,.int .i64 (n : Int))]) (fun _ => Hp wc []) (fun n => r.length - n) 0 ⟨Nat.zero_le _,fun _ _ h => (Nat.not_lt_zero _ h).elim⟩ kq (fun _ h => h) ?_
  rintro n ⟨hn,hz⟩
  try simp only at hn hz ⊢
  by_cases hnl : n < r.length
  ·have dn : decide ((n : Int) < (r.length : Int)) = true := decide_eq_true kf
   have hcc : wc.cell? ⟨gb,go + (n : Int).toNat,none⟩ = some (.int .u8 (r[n].toNat : Int)) := by rw [Int.toNat_natCast];exact hcell n hnl
   by_cases h0 : r[n] = 0
   ·have d0 : decide ((r[n].toNat : Int) = 0) = true := by rw [h0];rfl
    repeat' first | (apply Wl.loadO;exact rfl;exact rfl;exact zs;exact km) | refine Wl.move rfl rfl ?_ | refine Wl.assign rfl rfl ?_ | (apply Wl.on;exact rfl;exact rfl;exact k5) | (apply Wl.pickT;exact rfl;exact rfl;exact k5;exact rfl) | refine Wl.eql rfl rfl rfl ?_ | refine Wl.lss rfl rfl rfl ?_ | (refine Wl.addI rfl rfl rfl ?_ ?_;constructor <;> omega) | refine Wl.len rfl rfl ?_ | (refine Wl.indexAddr1 rfl rfl rfl ?_ ?_;constructor <;> omega) | apply Wl.nil | apply St.seq | apply St.block | apply St.region | (apply St.condT;exact rfl;exact k5) | apply St.skip | apply Gt.next | apply Gt.inNormal
    refine Gt.round (n + 1) ⟨hnl,fun j c hj hc => ?_⟩ zn kq (fun _ h => h)
    rcases Nat.lt_succ_iff_lt_or_eq.1 hj with h | rfl
    ·exact hz j c h hc
    ·rw [List.getElem?_eq_getElem hnl] at hc;cases hc;exact h0
   ·have d0 : decide ((r[n].toNat : Int) = 0) = false := decide_eq_false fun h => h0 (UInt8.toNat_inj.1 qi)
    repeat' first | (apply Wl.loadO;exact rfl;exact rfl;exact zs;exact km) | refine Wl.move rfl rfl ?_ | (apply Wl.on;exact rfl;exact rfl;exact k5) | (apply Wl.pickT;exact rfl;exact rfl;exact k5;exact rfl) | refine Wl.eql rfl rfl rfl ?_ | refine Wl.lss rfl rfl rfl ?_ | refine Wl.len rfl rfl ?_ | (refine Wl.indexAddr1 rfl rfl rfl ?_ ?_;constructor <;> omega) | apply Wl.nil | apply St.seq | apply St.region | (apply St.condF;exact rfl;exact k5) | apply St.exit | apply Gt.next | apply Gt.thenExit | apply Gt.inExit
    refine Gt.meet n ⟨hn,tw_len _ _ (fun j c hj hc => by simpa using hz j c hj hc) hn fun c hc => ?_⟩ kq (fun _ h => h)
    rw [List.getElem?_eq_getElem hnl] at hc
    cases hc
    simpa using h0
  ·have dn : decide ((n : Int) < (r.length : Int)) = false := decide_eq_false kf
   repeat' first | refine Wl.move rfl rfl ?_ | (apply Wl.off;exact rfl;exact rfl;exact rfl;exact ki) | (apply Wl.pickF;exact rfl;exact rfl;exact k5;exact rfl) | refine Wl.lss rfl rfl rfl ?_ | refine Wl.len rfl rfl ?_ | apply Wl.nil | apply St.seq | apply St.region | (apply St.condF;exact rfl;exact k5) | apply St.exit | apply Gt.next | apply Gt.thenExit | apply Gt.inExit
   refine Gt.meet n ⟨hn,tw_len _ _ (fun j c hj hc => by simpa using hz j c hj hc) hn fun c hc => ?_⟩ kq (fun _ h => h)
   rw [List.getElem?_eq_none kf] at hc
   cases hc
 rintro n ⟨hn,hz⟩
 try simp only at hn hz ⊢
 apply St.seq
 repeat' first | refine Wl.move rfl rfl ?_ | refine Wl.assign rfl rfl ?_ | apply Wl.nil | apply St.region | apply Gt.next
 refine St.cut (σ := Nat) (fun k => n ≤ k ∧ k ≤ r.length ∧ nN (r.drop n) = k - n) (fun k => [(0,bv),(1,.slice (some ⟨gb,go,none⟩) r.length cap),(5,.int .i64 (n : Int)),(6,.int .i64 (k : Int))]) (fun _ => Hp wc []) ?_ ?_
 ·apply St.block
  refine St.loop (σ := Nat) (fun k => n ≤ k ∧ k ≤ r.length ∧ ∀ j c,n ≤ j → j < k → r[j]? = some c → c ≠ 0) (fun k => [(0,bv),(1,.slice (some ⟨gb,go,none⟩) r.length cap),(5,.int .i64 (n : Int)),(6,.int .i64 (k : Int))]) (fun _ => Hp wc []) (fun k => r.length - k) n ⟨Nat.le_refl _,hn,fun _ _ h1 h2 => by omega⟩ kq (fun _ h => h) ?_
  rintro k ⟨hnk,hk,hz'⟩
  try simp only at hnk hk hz' ⊢
  have stop : (∀ c,r[k]? = some c → c = 0) → nN (r.drop n) = k - n := fun hs => tw_len _ _ (fun j c hj hc => by rw [List.getElem?_drop] at hc;simpa using hz' (n + j) c kf kf hc) (by rw [List.length_drop];omega) fun c hc => by
   rw [List.getElem?_drop,show n + (k - n) = k by omega] at hc
   simpa using hs c hc
  by_cases hkl : k < r.length
  ·have dn : decide ((k : Int) < (r.length : Int)) = true := decide_eq_true kf
   have hcc : wc.cell? ⟨gb,go + (k : Int).toNat,none⟩ = some (.int .u8 (r[k].toNat : Int)) := by rw [Int.toNat_natCast];exact hcell k hkl
   by_cases h0 : r[k] = 0
   ·have d0 : decide ((r[k].toNat : Int) ≠ 0) = false := by rw [h0];rfl
    repeat' first | (apply Wl.loadO;exact rfl;exact rfl;exact zs;exact km) | refine Wl.move rfl rfl ?_ | (apply Wl.on;exact rfl;exact rfl;exact k5) | (apply Wl.pickT;exact rfl;exact rfl;exact k5;exact rfl) | refine Wl.neq rfl rfl rfl ?_ | refine Wl.lss rfl rfl rfl ?_ | refine Wl.len rfl rfl ?_ | (refine Wl.indexAddr1 rfl rfl rfl ?_ ?_;constructor <;> omega) | apply Wl.nil | apply St.seq | apply St.region | (apply St.condF;exact rfl;exact k5) | apply St.exit | apply Gt.next | apply Gt.thenExit | apply Gt.inExit
    exact Gt.meet k ⟨hnk,hk,stop fun c hc => by rw [List.getElem?_eq_getElem hkl] at hc;cases hc;exact h0⟩ kq (fun _ h => h)
   ·have d0 : decide ((r[k].toNat : Int) ≠ 0) = true := decide_eq_true fun h => h0 (UInt8.toNat_inj.1 qi)
    repeat' first | (apply Wl.loadO;exact rfl;exact rfl;exact zs;exact km) | refine Wl.move rfl rfl ?_ | refine Wl.assign rfl rfl ?_ | (apply Wl.on;exact rfl;exact rfl;exact k5) | (apply Wl.pickT;exact rfl;exact rfl;exact k5;exact rfl) | refine Wl.neq rfl rfl rfl ?_ | refine Wl.lss rfl rfl rfl ?_ | (refine Wl.addI rfl rfl rfl ?_ ?_;constructor <;> omega) | refine Wl.len rfl rfl ?_ | (refine Wl.indexAddr1 rfl rfl rfl ?_ ?_;constructor <;> omega) | apply Wl.nil | apply St.seq | apply St.block | apply St.region | (apply St.condT;exact rfl;exact k5) | apply St.skip | apply Gt.next | apply Gt.inNormal
    refine Gt.round (k + 1) ⟨by first | omega | (simp only;omega),hkl,fun j c h1 hj hc => ?_⟩ zn kq (fun _ h => h)
    rcases Nat.lt_succ_iff_lt_or_eq.1 hj with h | rfl
    ·exact hz' j c h1 h hc
    ·rw [List.getElem?_eq_getElem hkl] at hc;cases hc;exact h0
  ·have dn : decide ((k : Int) < (r.length : Int)) = false := decide_eq_false kf
   repeat' first | refine Wl.move rfl rfl ?_ | (apply Wl.off;exact rfl;exact rfl;exact rfl;exact ki) | (apply Wl.pickF;exact rfl;exact rfl;exact k5;exact rfl) | refine Wl.lss rfl rfl rfl ?_ | refine Wl.len rfl rfl ?_ | apply Wl.nil | apply St.seq | apply St.region | (apply St.condF;exact rfl;exact k5) | apply St.exit | apply Gt.next | apply Gt.thenExit | apply Gt.inExit
   exact Gt.meet k ⟨hnk,hk,stop fun c hc => by rw [List.getElem?_eq_none kf] at hc;cases hc⟩ kq (fun _ h => h)
 rintro k ⟨hnk,hk,hz'⟩
 try simp only at hnk hk hz' ⊢
 apply St.seq
 refine St.tree (fun _ => True) mixed (fun _ h' => ⟨Hp.drew h',trivial⟩) ?_
 refine Mt.pm 0 ?_
 refine Mt.pm 1 ?_
 refine Mt.pm 4 ?_
 refine Mt.pm 5 ?_
 refine Mt.pm 9 ?_
 refine Mt.pm 10 ?_
 refine Mt.pm 11 ?_
 refine Mt.pu 2 ?_
 refine Wl.convU32 rfl rfl ?_ ?_;constructor <;> omega;apply Wl.nilB
 refine Mt.pu 6 ?_
 refine Wl.subI rfl rfl rfl ?_ ?_;constructor <;> omega;apply Wl.nilB
 refine Mt.pu 12 ?_
 apply Wl.sliceFull;exact rfl;exact rfl;exact kv;exact kv;exact kv;exact zj;omega;omega;omega;apply Wl.nilB
 refine Mt.pu 7 ?_
 refine Wl.convU32 rfl rfl ?_ ?_;constructor <;> omega;apply Wl.nilB
 refine Mt.e1 3 ?_
 apply Wl.callC
 ·exact rfl
 ·exact kd
 intro wq1 hq1
 have zq1 := hq1.upd.size
 refine (p32X base bv l (n : Int) ⟨by omega,by omega⟩ wq1 (J.row.upd hq1.upd fun _ _ y => y trivial) kf kf).mono ?_
 rintro e w1 ⟨b1,rfl,hb1,u1,o1⟩
 have z1 := u1.size
 rw [Int.toNat_natCast] at hb1
 have U1 : Upd (fun k => bv.ownBlock = some k) wc w1 := (hq1.upd.mono fun _ _ y => (y trivial).elim).comp u1 fun k _ h => h.elim id id
 refine ⟨_,_,rfl,Hp.start w1,?_⟩
 clear hq1 u1
 apply Wl.nil
 refine Mt.backE (fun _ _ => trivial) ?_
 refine Mt.e1 8 ?_
 apply Wl.callC
 ·exact rfl
 ·exact kd
 intro wq2 hq2
 have zq2 := hq2.upd.size
 have hl1 : (l ++ leB 4 n).length = l.length + 4 := by rw [List.length_append,leB_length]
 refine (p32X base b1 _ ((k : Int) - (n : Int)) ⟨by omega,by omega⟩ wq2 (hb1.upd hq2.upd fun _ _ y => y trivial) kf kf).mono ?_
 rintro e w2 ⟨b2,rfl,hb2,u2,o2⟩
 have z2 := u2.size
 rw [show ((k : Int) - (n : Int)).toNat = k - n by omega] at hb2
 have U2 : Upd (fun k => bv.ownBlock = some k) wc w2 := (U1.comp hq2.upd (T := fun k => bv.ownBlock = some k) fun k _ h => h.elim id fun y => (y trivial).elim).comp u2 fun k hk h => h.elim id fun h => (o1 k h).elim id fun h => by omega
 have O2 : ∀ k,b2.ownBlock = some k → bv.ownBlock = some k ∨ wc.heap.size ≤ k := fun k hk => (o2 k hk).elim (fun h => (o1 k h).imp id fun h => by omega) fun h => .inr kf
 have hsrc2 := (hs.upd J.up fun k hk _ _ e => hne k e hk).upd U2 fun k hk hlt _ h => (J.own k h).elim (fun h => hne k h hk) fun h => by have := hsb k hk;omega
 have hv2 := J.sub w2 hsrc2
 have hy := hv2.sub (lo := n) (hi := k) (mx := cap) hnk hk kf (Nat.le_refl _)
 rw [List.drop_take] at hy
 have hty : ((r.drop n).take (k - n)).length = k - n := by rw [List.length_take,List.length_drop];omega
 have hl2 : (l ++ leB 4 n ++ leB 4 (k - n)).length = l.length + 8 := by rw [List.length_append,List.length_append,leB_length,leB_length]
 refine ⟨_,_,rfl,Hp.start w2,?_⟩
 clear hq2 u2
 apply Wl.nil
 refine Mt.backE (fun _ _ => trivial) ?_
 refine Mt.e1 13 ?_
 simp only [Int.toNat_natCast]
 apply Wl.appendV (base := base) (n := (l ++ leB 4 n ++ leB 4 (k - n)).length) (m := k - n) (xs := byteCells (l ++ leB 4 n ++ leB 4 (k - n))) (news := byteCells ((r.drop n).take (k - n)))
 ·exact rfl
 ·exact rfl
 ·exact rfl
 ·have := hy;unfold Bs at this;rw [hty] at this;exact this
 ·exact fun _ _ _ _ => trivial
 ·exact hb2
 ·exact fun _ _ => trivial
 ·exact byteCells_all _
 ·exact rfl
 ·decide
 ·unfold maxLen;omega
 ·omega
 ·omega
 intro b3 w3 ho3 u3 _ o3
 have hb3 : Bo w3 base b3 (l ++ leB 4 n ++ leB 4 (k - n) ++ (r.drop n).take (k - n)) := Bo.of ho3 (by rw [hty]) rfl
 have z3 := u3.size
 have U3 : Upd (fun k => bv.ownBlock = some k) wc w3 := U2.comp u3 fun k hk h => h.elim id fun h => h.elim (fun h => (O2 k h).elim id fun h => by omega) fun h => (h trivial).elim
 apply Wl.nil
 refine Mt.backE (fun _ _ => trivial) ?_
 refine Mt.pu 14 ?_
 refine Wl.assign rfl rfl (Wl.nilB ?_)
 refine Mt.toGt ka ?_
 repeat' first | refine Wl.move rfl rfl ?_ | refine Wl.assign rfl rfl ?_ | (apply Wl.sliceFull;exact rfl;exact rfl;exact kv;exact kv;exact kv;exact zj;omega;omega;omega) | apply Wl.nil | apply St.region | apply Gt.next | apply Gt.inNormal
 simp only [Int.toNat_natCast]
 refine Gt.reb (H' := []) fun w4 h4 => ⟨trivial,trivial,?_⟩
 have hk1 : 1 ≤ k := by
  have := run_pos hr0
  rw [hz,hz'] at this
  omega
 obtain ⟨m,rfl⟩ : ∃ m',m = m' + 1 := ⟨m - 1,by omega⟩
 have hld : (r.drop k).length = r.length - k := List.length_drop
 refine Gt.round (m,b3,l ++ leB 4 n ++ leB 4 (k - n) ++ (r.drop n).take (k - n),(.slice (if cap = k then some ⟨gb,go,none⟩ else (some (⟨gb,go,none⟩ : Addr)).map (·.add (k * 1))) (r.length - k) (cap - k)),r.drop k,w4) ⟨hb3.upd h4.upd fun _ _ y => y trivial,fun u hu => ?_,?_,⟨by simp only [hld];omega,?_⟩,fun j hj => ?_,?_⟩ (by simp only [hld];omega) kq (fun _ h => h)
 ·have := (J.sub u hu).sub (lo := k) (hi := r.length) (mx := cap) hk (Nat.le_refl _) kf (Nat.le_refl _)
  rw [List.take_length] at this
  exact this
 ·rw [← J.eq]
  conv => rhs;unfold runsE
  rw [if_neg hr0,hz,hz',show n + (k - n) = k by omega]
  simp only [List.append_assoc]
 ·rw [List.length_append,hl2,hty,hld]
  omega
 ·exact ((o3 j hj).2.elim (fun h => O2 j h) fun h => .inr kf).elim (J.own j) fun h => .inr kf
 ·exact J.up.comp (U3.comp h4.upd fun j _ h => h.elim id fun y => (y trivial).elim) fun j hj h => h.elim id fun h => (J.own j h).elim id fun h => by omega
theorem mStatus (base : Nat) (I : Mi) (M : Mv2) (i : Nat) (x : Sta) (w : World) (hM : MonS w base I M) (hx : M.L[i]? = some x) :
  Calls Tryz.prog 18 #[.pointer (some ⟨I.m,0,none⟩),.int .i64 (i : Int)] w fun e w' => e = .returned (.agg x.cells.toArray) ∧ Hp w [] w' := by
 have q2 : w.cell? ⟨I.m,2,none⟩ = some (.pointer (some ⟨I.wd,0,none⟩)) := cell_of hM.mm rfl
 have lm := lt_of_block hM.mm
 have hxo : StaOk x := hM.ward.2.1 x (List.mem_of_getElem? hx)
 have hxl : x.cells.length = 35 := hxo.len
 have hx1 := hxo.one
 refine enter (args := [_,_]) (Γ := [(0,_),(1,_)]) Tryz.func18 Tryz.ntmps18 rfl odq (.cons rfl (.cons rfl .nil)) ?_
 repeat' first | (apply Wl.loadO;exact rfl;exact rfl;exact zs;exact km) | refine Wl.move rfl rfl ?_ | refine Wl.nilCheck rfl rfl ?_ | refine Wl.fieldAddrZ rfl rfl ?_ | refine Wl.eqlPN rfl rfl rfl ?_ | (apply Wl.alloc;exact rfl;intro c hc ho) | apply Wl.nil | apply St.seq | apply St.region | (apply St.condF;exact rfl;exact k5) | apply St.skip | apply Gt.next
 apply Wl.callQ
 exact rfl
 (focus repeat constructor)
 ·intro wq hq
  exact hq.q (wStatus I.wd I.sa M.L M.t i x wq (hM.hp hq zp).ward hx)
 repeat' first | (apply Wl.storeA (xs := x.cells);exact rfl;exact rfl;exact hxl;exact hx1;exact kd;exact .z (LOver.whole (by rw [hxl];rfl))) | (apply Gt.outC' (xs := x.cells);exact rfl;infer_instance;exact rfl;(exact .head _);exact LSub.whole' hxl;intro w' hp) | apply Wl.nil | apply St.ret | apply Gt.next
 exact ⟨rfl,hp.drop zf⟩
end Go.Proofs.YtabbklpalbikdaaGreatDoor
end
section
namespace Go.Pt
open Go.RowKit
theorem mapM_exS {α β : Type} {g : α → Option β} {l : List α} (h : ∀ x ∈ l,∃ y,g x = some y) : ∃ ys,l.mapM g = some ys := by
 induction l with
 | nil => exact ⟨[],rfl⟩
 | cons x r ih =>
  obtain ⟨y,hy⟩ := h x za
  obtain ⟨ys,hys⟩ := ih fun z hz => h z (by simp [hz])
  exact ⟨y :: ys,by rw [List.mapM_cons,hy,hys];rfl⟩
section
variable {P : Program} {md : Md} {N : Nat} {ops : Array Oper} {rest : List Oper} {Γ : Env} {C : World → Prop} {Q : Exit → Act → World → Prop} {d : Nat} {ty : TypeId} {pos : String} {af : Array Edge} {t u : TypeId} {x y : Operand}
theorem Wl.neqSame {xs : Array Value} (hd : Nat.blt d N = true) (hx : ev Γ x = some (.agg xs)) (hy : ev Γ y = some (.agg xs)) (hk : P.keyTypeAt 8 t = true) (hg0 : P.eqGuardType P.depth t = false) (fx : (Value.agg xs).formed P t = true)
  (hl : ∃ la,P.keyLits 8 t xs.toList = some la) (h : Wl rest P md ops N ((d,.bool false) :: Γ) C Q) : Wl (⟨some d,.binOp .neq t x y u,ty,pos,af,none⟩ :: rest) P md ops N Γ C Q :=
 Wl.val hd (fun a w ha _ => by
  obtain ⟨la,hl⟩ := hl
  obtain ⟨r,_,h1,h3⟩ := run_neq_agg (P := P) w (t := t) hk fx fx hl hl
  have : r = true := h3.2 rfl
  subst this
  simp only [execOp,ha.ev hx,ha.ev hy,pure_bind,Sem.run_bind,guard_agg (P := P) hg0,Result.andThen_ok,h1];rfl) h
end
end Go.Pt
namespace Go.Proofs.YtabbklpalbikdaaGreatDoor
open Go.RowKit Go.Pt
theorem staFld : (match Tryz.prog.underlying 44 with
  | some (.struct fs) => fs.all fun f => (f.name != "_") && ((Nat.beq f.type 3 && Nat.beq f.offset 0) || ((Nat.beq f.type 25 && (Nat.beq f.offset 1 || Nat.beq f.offset 2)) || (Nat.beq f.type 42 && Nat.beq f.offset 3)))
  | _ => false) = true := by kernel_rfl
theorem klSta {x : Sta} (hx : StaOk x) (hs : IntKind.i64.min ≤ x.s ∧ x.s ≤ IntKind.i64.max) : ∃ la,Tryz.prog.keyLits 8 44 x.cells = some la := by
 have hF := staFld
 have hci : Tryz.prog.cellsOf 3 = 1 := by kernel_rfl
 have hcu : Tryz.prog.cellsOf 25 = 1 := by kernel_rfl
 have hca : Tryz.prog.cellsOf 42 = 32 := by kernel_rfl
 have hcp : Tryz.prog.cellsOf 44 = 35 := by kernel_rfl
 have ui : Tryz.prog.underlying 3 = some (.int .i64) := by kernel_rfl
 have uu : Tryz.prog.underlying 25 = some (.int .u32) := by kernel_rfl
 obtain ⟨g,hg,hgr⟩ := rgN hx.1
 cases hu : Tryz.prog.underlying 44 with
 | none => rw [hu] at hF;cases hF
 | some td =>
  rw [hu] at hF
  cases td <;> try (cases hF;done)
  rename_i fs
  simp only at hF
  show ∃ la,Tryz.prog.keyLits (7 + 1) _ _ = some la
  unfold Program.keyLits
  rw [hu]
  simp only
  have hall := Array.all_eq_true'.1 hF
  have hlen : x.cells.length = Tryz.prog.cellsOf 44 := by rw [hcp,hx.len]
  have hnames : (fs.all fun f => f.name != "_") = true := by
   rw [Array.all_eq_true']
   intro f hf
   have := hall f hf
   rw [Bool.and_eq_true] at this
   exact this.1
  rw [if_pos ⟨hlen,hnames⟩]
  obtain ⟨ys,hys⟩ := mapM_exS (g := fun f => Tryz.prog.keyLits 7 f.type ((x.cells.drop f.offset).take (Tryz.prog.cellsOf f.type))) (l := fs.toList) (fun f hf => by
   have := hall f (by simpa using hf)
   rw [Bool.and_eq_true,Bool.or_eq_true,Bool.or_eq_true,Bool.and_eq_true,Bool.and_eq_true,Bool.or_eq_true,Bool.and_eq_true] at this
   rcases this.2 with ⟨ht,ho⟩ | ⟨ht,ho | ho⟩ | ⟨ht,ho⟩
   ·rw [Nat.eq_of_beq_eq_true ht,Nat.eq_of_beq_eq_true ho,hci]
    exact ⟨_,klInt (d := 6) ui hs⟩
   ·rw [Nat.eq_of_beq_eq_true ht,Nat.eq_of_beq_eq_true ho,hcu]
    exact ⟨_,klInt (d := 6) uu (show (0 : Int) ≤ x.c ∧ x.c ≤ 4294967295 from ⟨hx.2.1.1,Int.le_of_lt_add_one hx.2.1.2⟩)⟩
   ·rw [Nat.eq_of_beq_eq_true ht,Nat.eq_of_beq_eq_true ho,hcu]
    exact ⟨_,klInt (d := 6) uu (show (0 : Int) ≤ x.p ∧ x.p ≤ 4294967295 from ⟨hx.2.2.1,Int.le_of_lt_add_one hx.2.2.2⟩)⟩
   ·rw [Nat.eq_of_beq_eq_true ht,Nat.eq_of_beq_eq_true ho,hca]
    have e : (x.cells.drop 3).take 32 = cellsN .u32 32 g := by
     show x.xs.take 32 = _
     rw [List.take_of_length_le (Nat.le_of_eq hx.1.1),hg]
    rw [e]
    exact ⟨_,klInts (d := 5) (e := 25) kn uu hca hcu g hgr⟩)
  rw [hys]
  exact ⟨_,rfl⟩
theorem formSta {x : Sta} (hx : StaOk x) : (Value.agg x.cells.toArray).formed Tryz.prog 44 = true := by
 have hF := staFld
 have hcp : Tryz.prog.cellsOf 44 = 35 := by kernel_rfl
 unfold Value.formed
 cases hu : Tryz.prog.underlying 44 with
 | none => rw [hu] at hF;cases hF
 | some td =>
  rw [hu] at hF
  cases td <;> try (cases hF;done)
  simp [hcp,hx.len]
section
variable {md : Md} {N : Nat} {ops : Array Oper} {rest : List Oper} {Γ : Env} {C : World → Prop} {Q : Exit → Act → World → Prop} {d : Nat} {ty : TypeId} {pos : String} {af : Array Edge} {u : TypeId} {x y : Operand}
theorem Wl.neqSta {s : Sta} (hs : StaOk s) (hi : IntKind.i64.min ≤ s.s ∧ s.s ≤ IntKind.i64.max) (hd : Nat.blt d N = true) (hx : ev Γ x = some (.agg s.cells.toArray)) (hy : ev Γ y = some (.agg s.cells.toArray))
  (h : Wl rest Tryz.prog md ops N ((d,.bool false) :: Γ) C Q) : Wl (⟨some d,.binOp .neq 44 x y u,ty,pos,af,none⟩ :: rest) Tryz.prog md ops N Γ C Q :=
 Wl.neqSame hd hx hy kn kn (formSta hs) (klSta hs hi) h
end
theorem mCount (base : Nat) (I : Mi) (M : Mv2) (w : World) (hM : MonS w base I M) :
  Calls Tryz.prog 38 #[.pointer (some ⟨I.m,0,none⟩)] w fun e w' => e = .returned (.int .i64 (M.L.length : Int)) ∧ Hp w [] w' := by
 have q2 : w.cell? ⟨I.m,2,none⟩ = some (.pointer (some ⟨I.wd,0,none⟩)) := cell_of hM.mm rfl
 refine enter (args := [_]) (Γ := [(0,_)]) Tryz.func38 Tryz.ntmps38 rfl odq (.cons rfl .nil) ?_
 repeat' first | (apply Wl.loadO;exact rfl;exact rfl;exact zs;exact km) | refine Wl.move rfl rfl ?_ | refine Wl.assign rfl rfl ?_ | refine Wl.nilCheck rfl rfl ?_ | refine Wl.fieldAddrZ rfl rfl ?_ | refine Wl.eqlPN rfl rfl rfl ?_ | apply Wl.nil | apply St.seq | apply St.region | (apply St.condF;exact rfl;exact k5) | apply St.skip | apply Gt.next
 apply Wl.callQ
 exact rfl
 (focus repeat constructor)
 ·intro wq hq
  exact hq.q (wCount I.wd I.sa M.L M.t wq (hM.ward.upd hq.upd nt0 nt0))
 repeat' first | refine Wl.assign rfl rfl ?_ | apply Wl.nil | apply St.ret | apply Gt.next | (apply Gt.out1;exact rfl;exact rfl;intro w' hp)
 exact ⟨rfl,hp⟩
def magL : List UInt8 := [80,79,82,84,83,78,65,80]
def decC (n : Nat) (l : List UInt8) : Option SnD :=
 if l.length < 32 then none else
  if digE (l.take (l.length - 32)) ≠ l.drop (l.length - 32) then none else
   if ((⟨l.take (l.length - 32),false⟩ : Cu).take 8).1 ≠ magL then none else stateC n ((⟨l.take (l.length - 32),false⟩ : Cu).take 8).2
theorem Bs.pre {w : World} {a : Option Addr} {n cap k : Nat} {l : List UInt8} (h : Bs w (.slice a n cap) l) (hk : k ≤ l.length) : Bs w (.slice a k cap) (l.take k) := by
 have hc : n = l.length ∧ n ≤ cap := by obtain ⟨h1,h2,_⟩ := h.len;exact ⟨h1.symm,h2⟩
 have := h.sub (lo := 0) (hi := k) (mx := cap) (Nat.zero_le _) hk kf (Nat.le_refl _)
 have e : (if cap = 0 then a else a.map (·.add (0 * 1))) = a := by
  split
  ·rfl
  ·cases a with
   | none => rfl
   | some x => simp [Addr.add]
 rw [e] at this
 simpa using this
theorem svBlk {w : World} {c sz n : Nat} {cs : List Value} {t : TypeId} {fr : Nat × Nat} (h : w.heap[c]? = some (.cells cs.toArray t fr)) (hl : cs.length = n * sz) (hn : n ≤ maxLen) : Sv w sz n (.slice (some ⟨c,0,none⟩) n n) cs := by
 refine ⟨hl,_,_,rfl,Nat.le_refl _,hn,fun e => (by cases e),fun _ => ⟨c,0,rfl,fun i hi => ?_⟩⟩
 rw [cellAt h]
 simp [hi]
theorem digCells (l : List UInt8) : cellsN .u8 32 (Sha.of l) = byteCells (digE l) := by
 simp only [digE,byteCells,List.map_map,cellsN]
 refine List.map_congr_left fun j hj => ?_
 simp only [Function.comp]
 have : Sha.of l j < 256 := Nat.mod_lt _ ku
 rw [UInt8.toNat_ofNat',Nat.mod_eq_of_lt this]
theorem SnT.new {w w1 : World} {base : Nat} {S : SnD} {sv iv bv lv : Value} {cM : Nat} {vs : List Value} (h : SnT w base S sv iv bv lv cM vs) (u : Upd (fun k => w.heap.size ≤ k) w w1) : SnT w1 base S sv iv bv lv cM vs := by
 have kr : ∀ {y : Value} {e sz n : Nat} {xs : List Value},w.ownsRow base e sz y n xs → w1.ownsRow base e sz y n xs := fun hr => ownsRow_upd hr u fun k hk hS => by have := (hr.ge k hk).2;omega
 exact ⟨kr h.s,kr h.i,kr h.b,⟨h.bl.1,fun j x hx => by obtain ⟨v,e1,e2⟩ := h.bl.2 j x hx;exact ⟨v,e1,kr e2⟩⟩,kr h.l,u.heap h.m fun hS => by have := lt_of_block h.m;omega⟩
theorem SnT.baseLe {w : World} {base base' : Nat} {S : SnD} {sv iv bv lv : Value} {cM : Nat} {vs : List Value} (h : SnT w base S sv iv bv lv cM vs) (hb : base' ≤ base) : SnT w base' S sv iv bv lv cM vs :=
 ⟨h.s.baseLe hb,h.i.baseLe hb,h.b.baseLe hb,⟨h.bl.1,fun j x hx => by obtain ⟨v,e1,e2⟩ := h.bl.2 j x hx;exact ⟨v,e1,e2.baseLe hb⟩⟩,h.l.baseLe hb,h.m⟩
theorem SnT.one {w : World} {base : Nat} {S : SnD} {sv iv bv lv : Value} {cM : Nat} {vs : List Value} (h : SnT w base S sv iv bv lv cM vs) : sv.oneCell' = true ∧ iv.oneCell' = true ∧ bv.oneCell' = true ∧ lv.oneCell' = true := ⟨h.s.one,h.i.one,h.b.one,h.l.one⟩
theorem sDecode (R : World → Ending → World → Prop) (base : Nat) (I : Mi) (M : Mv2) (v : Value) (l : List UInt8) (w : World) (hM : MonS w base I M) (hn : M.L.length < 256) (hv : Bs w v l) (hvb : ∀ k,v.ownBlock = some k → l ≠ [] → k < w.heap.size) (hl : l.length ≤ 10000000) (hK : ArrAt w 1 0 .u32 64 Sha.K)
  (hW : ∀ S,decC M.L.length l = some S → ∀ ws sv iv bv lv cM vs,SnT ws w.heap.size S sv iv bv lv cM vs → w.heap.size ≤ cM → Upd (fun k => w.heap.size ≤ k) w ws → MonS ws base I M →
   Calls Tryz.prog 29 #[.pointer (some ⟨I.m,0,none⟩),.agg #[.int .i64 S.t,sv,iv,bv,lv,.pointer (some ⟨cM,0,none⟩)]] ws fun e w' => (∃ x z,e = .returned (.tuple #[x,.int .i64 z])) ∧ Upd (fun k => ws.heap.size ≤ k) ws w' ∧ R ws e w') :
  Calls Tryz.prog 47 #[v,.pointer (some ⟨I.m,0,none⟩)] w fun e w' =>
   (decC M.L.length l = none ∧ Upd (fun k => w.heap.size ≤ k) w w' ∧ ∃ z : Int,z ≠ 0 ∧ e = .returned (.tuple #[.pointer none,.int .i64 z])) ∨
   ∃ S,decC M.L.length l = some S ∧ ∃ ws w1,Upd (fun k => w.heap.size ≤ k) w ws ∧ Upd (fun k => ws.heap.size ≤ k) ws w1 ∧ R ws e w1 ∧ Upd (fun k => w.heap.size ≤ k ∧ k < ws.heap.size) w1 w' := by
 obtain ⟨a,cap,rfl,hc,hcm⟩ := hv.shape
 refine enter (args := [_,_]) (Γ := [(0,_),(1,_)]) Tryz.func47 Tryz.ntmps47 rfl odq (.cons rfl (.cons rfl .nil)) ?_
 by_cases h32 : l.length < 32
 ·have hd : decide ((l.length : Int) - 32 < 0) = true := decide_eq_true kf
  have e0 : decC M.L.length l = none := if_pos h32
  repeat' first | refine Wl.move rfl rfl ?_ | refine Wl.assign rfl rfl ?_ | refine Wl.eqlPN rfl rfl rfl ?_ | refine Wl.lss rfl rfl rfl ?_ | (refine Wl.subI rfl rfl rfl ?_ ?_;constructor <;> omega) | refine Wl.len rfl rfl ?_ | apply Wl.nil | apply St.seq | apply St.region | (apply St.condT;exact rfl;exact k5) | (apply St.condF;exact rfl;exact k5) | apply St.ret | apply St.skip | apply Gt.next | apply Gt.thenRet | (apply Gt.out2;exact rfl;exact rfl;exact rfl;intro w' hp)
  exact .inl ⟨e0,hp.upd.mono fun _ _ y => (y trivial).elim,3,by decide,rfl⟩
 have hd : decide ((l.length : Int) - 32 < 0) = false := decide_eq_false kf
 have hkk : ((l.length : Int) - 32).toNat = l.length - 32 := by omega
 have hp0 : Bs w (.slice a ((l.length : Int) - 32).toNat cap) (l.take (l.length - 32)) := by rw [hkk];exact Bs.pre hv kf
 have hp1 : Bs w (.slice (if cap = ((l.length : Int) - 32).toNat then a else a.map (·.add (((l.length : Int) - 32).toNat * 1))) (l.length - ((l.length : Int) - 32).toNat) (cap - ((l.length : Int) - 32).toNat)) (l.drop (l.length - 32)) := by
  have := hv.sub (lo := ((l.length : Int) - 32).toNat) (hi := l.length) (mx := cap) kf (Nat.le_refl _) kf (Nat.le_refl _)
  rw [List.take_length] at this
  rw [hkk] at this ⊢
  exact this
 generalize hl0 : l.take (l.length - 32) = l0 at *
 have hl0n : l0.length = l.length - 32 := by rw [← hl0,List.length_take];omega
 have hvb0 : ∀ {m : Nat} (k : Nat),(Value.slice a m cap).ownBlock = some k → l0 ≠ [] → k < w.heap.size := fun {m} k hk hne => hvb k (by cases a <;> exact hk) fun h => hne (by rw [← hl0,h];simp)
 repeat' first | refine Wl.move rfl rfl ?_ | refine Wl.assign rfl rfl ?_ | refine Wl.eqlPN rfl rfl rfl ?_ | refine Wl.lss rfl rfl rfl ?_ | (refine Wl.subI rfl rfl rfl ?_ ?_;constructor <;> omega) | refine Wl.len rfl rfl ?_ | (apply Wl.slice0;exact rfl;exact rfl;exact kv;exact kv;exact zj;omega;omega) | apply Wl.nil | apply St.seq | apply St.region | (apply St.condF;exact rfl;exact k5) | apply St.skip | apply Gt.next
 apply Wl.callQ
 exact rfl
 (focus repeat constructor)
 ·intro wq hq
  exact hq.q (shaOf _ l0 wq (hp0.upd hq.upd fun _ _ _ _ y => y trivial) kf (fun hne k hk => by have := hvb0 k hk hne;have := hq.upd.size;omega) (hK.upd hq.upd fun y => y trivial))
 repeat' first | (apply Wl.alloc;exact rfl;intro c hc ho)
 apply Wl.storeAll
 ·exact rfl
 ·exact rfl
 ·exact .here
 ·exact cellsN_len _ _ _
 ·exact rfl
 ·exact cellsN_one _ _ _
 have hDig : ∀ w' : World,w'.heap[c]? = some (.cells (cellsN .u8 32 (Sha.of l0)).toArray 107 (0,0)) → Bs w' (.slice (some ⟨c,0,none⟩) 32 32) (digE l0) := fun w' h => by
  rw [digCells] at h
  have := svBlk (sz := 1) (n := 32) h (by rw [byteCells_length];simp [digE]) (by unfold maxLen;omega)
  have e : (digE l0).length = 32 := by simp [digE]
  unfold Bs
  rw [e]
  exact this
 have hne32 : l ≠ [] := fun h => by rw [h] at h32;simp at h32
 have hoffc : ∀ {m m' : Nat} (k : Nat),(Value.slice (if cap = m then a else a.map (·.add (m * 1))) m' (cap - m)).ownBlock = some k → c = k → False := fun {m m'} k hk e => by
  have : k < w.heap.size := hvb k (by
   split at hk
   ·cases a <;> exact hk
   ·cases a with
    | none => exact hk
    | some x =>
     simp [Value.ownBlock,Addr.add] at hk ⊢
     split at hk <;> simpa using hk) hne32
  omega
 by_cases hdg : digE l0 = l.drop (l.length - 32)
 ·have hdd : decide (digE l0 ≠ l.drop (l.length - 32)) = false := by simp [hdg]
  repeat' first | (apply Wl.sliceArrW;exact rfl;exact rfl;decide) | (apply Wl.convBS (l := digE l0);exact rfl;exact rfl;(intro w' h';exact hDig w' (h'.own.at (.head _)))) | (apply Wl.convBS (l := l.drop (l.length - 32));exact rfl;exact rfl;(intro w' h';exact hp1.upd h'.upd fun k hk hlt hne y => y ⟨fun e => hoffc k hk e,trivial⟩)) | refine Wl.move rfl rfl ?_ | refine Wl.neqSB rfl rfl rfl ?_ | (apply Wl.slice0;exact rfl;exact rfl;exact kv;exact kv;exact zj;omega;omega) | (apply Wl.sliceFull;exact rfl;exact rfl;exact kv;exact kv;exact kv;exact zj;omega;omega;omega) | apply Wl.nil | apply Wl.nilQ | apply St.seq | apply St.region | (apply St.draw;exact mixed;(kernel_rfl);exact (fun _ h => Hp.drew h)) | (apply St.condF;exact rfl;exact k5) | apply St.skip | apply Gt.next
  refine Wl.reb (H' := []) fun w2 h2 => ⟨trivial,trivial,?_⟩
  have u2 : Upd (fun k => w.heap.size ≤ k) w w2 := h2.upd.mono fun k _ y => by have := in_off y;simp at this;omega
  have z2 := u2.size
  have hM2 := hM.new u2 (Nat.le_refl _)
  have hp2 := hp0.upd u2 fun k hk hlt hne y => by omega
  apply Wl.callC
  ·exact rfl
  ·exact kd
  intro wq hq
  have zq := hq.upd.size
  refine (cuAt _ l0 wq (hp2.upd hq.upd fun _ _ _ _ y => y trivial) (fun k hk hne => by have := hvb0 k hk hne;omega)).mono ?_
  rintro e w3 ⟨ca,rfl,hca,hc3,u3'⟩
  have u3 : Upd (fun k => w.heap.size ≤ k) w w3 := (u2.comp hq.upd (T := fun k => w.heap.size ≤ k) fun k _ h => h.elim id fun y => (y trivial).elim).comp u3' fun k _ h => h.elim id fun h => by omega
  have z3 := u3'.size
  clear hq
  refine ⟨_,_,rfl,Hp.start w3,?_⟩
  repeat' first | refine Wl.move rfl rfl ?_ | refine Wl.assign rfl rfl ?_ | apply Wl.nil | apply St.seq | apply St.region | apply Gt.next
  apply Wl.callC
  ·exact rfl
  ·exact kd
  intro wq hq
  have zq' := hq.upd.size
  refine (cuTake ca _ l0 _ wq 8 (hc3.upd hq.upd nt0 fun _ _ _ _ y => y trivial)).mono ?_
  rintro e w4 ⟨x,rfl,hx,hc4,u4'⟩
  have u4 : Upd (fun k => w.heap.size ≤ k) w w4 := (u3.comp hq.upd (T := fun k => w.heap.size ≤ k) fun k _ h => h.elim id fun y => (y trivial).elim).comp u4' fun k _ h => h.elim id fun h => by omega
  have z4 := u4'.size
  clear hq
  have hx4 := hx w4 hc4.s
  refine ⟨_,_,rfl,Hp.start w4,?_⟩
  by_cases hmg : ((⟨l0,false⟩ : Cu).take 8).1 = magL
  ·have hdm : decide (((⟨l0,false⟩ : Cu).take 8).1 ≠ magL) = false := by simp [hmg]
   have hdec : decC M.L.length l = stateC M.L.length ((⟨l0,false⟩ : Cu).take 8).2 := by
    unfold decC
    rw [if_neg h32,hl0,if_neg (by simp [hdg]),if_neg (by simp [hmg])]
   repeat' first | (apply Wl.convBSo;exact rfl;exact rfl;exact hx4;(exact fun _ _ _ _ => trivial)) | (apply Wl.neqSB (q := magL);exact rfl;exact rfl;exact rfl) | refine Wl.move rfl rfl ?_ | apply Wl.nil | apply St.seq | apply St.region | (apply St.condF;exact rfl;exact k5) | apply St.skip | apply Gt.next
   apply Wl.callQ
   exact rfl
   (focus repeat constructor)
   ·intro wq hq
    exact hq.q (mCount base I M wq ((hM.new u4 (Nat.le_refl _)).upd hq.upd fun _ _ y => y trivial))
   apply Wl.callC
   ·exact rfl
   ·exact kd
   intro wq hq
   have zq2 := hq.upd.size
   refine (sState ca _ l0 _ M.L.length wq (hc4.upd hq.upd nt0 fun _ _ _ _ y => y trivial) (fun k hk hne => by have := hvb0 k hk hne;omega) hn).mono ?_
   rintro e w5 ⟨hans,u5'⟩
   have u5 : Upd (fun k => w.heap.size ≤ k) w w5 := (u4.comp hq.upd (T := fun k => w.heap.size ≤ k) fun k _ h => h.elim id fun y => (y trivial).elim).comp u5' fun k _ h => h.elim id fun h => h.elim (fun h => by omega) fun h => by omega
   have z5 := u5'.size
   clear hq
   rcases hsc : stateC M.L.length ((⟨l0,false⟩ : Cu).take 8).2 with _ | S
   ·rw [hsc] at hans
    obtain ⟨x0,x1,x2,x3,x4,x5,rfl,hone⟩ := hans
    refine ⟨_,_,rfl,Hp.start w5,?_⟩
    repeat' first | (apply Wl.storeA;exact rfl;exact rfl;exact rfl;exact hone;exact kd;exact .z (LOver.whole rfl)) | refine Wl.move rfl rfl ?_ | refine Wl.assign rfl rfl ?_ | refine Wl.extract rfl rfl rfl ?_ | refine Wl.not rfl rfl ?_ | (apply Wl.alloc;exact rfl;intro c hc ho) | apply Wl.nil | apply St.seq | apply St.region | (apply St.condT;exact rfl;exact k5) | apply St.ret | apply Gt.next | apply Gt.thenRet | (apply Gt.out2;exact rfl;exact rfl;exact rfl;intro w' hp)
    exact .inl ⟨hdec.trans hsc,u5.comp hp.upd fun k _ h => h.elim id fun y => qj,3,by decide,rfl⟩
   ·rw [hsc] at hans
    obtain ⟨sv,iv,bv,lv,cM,vs,rfl,hT,hcM⟩ := hans
    obtain ⟨o1,o2,o3,o4⟩ := hT.one
    refine ⟨_,_,rfl,Hp.start w5,?_⟩
    repeat' first | (apply Wl.storeA;exact rfl;exact rfl;exact rfl;(show (true && (Value.oneCell' sv && (Value.oneCell' iv && (Value.oneCell' bv && (Value.oneCell' lv && (true && true)))))) = true;rw [o1,o2,o3,o4];rfl);exact kd;exact .z (LOver.whole rfl)) | refine Wl.move rfl rfl ?_ | refine Wl.assign rfl rfl ?_ | refine Wl.extract rfl rfl rfl ?_ | refine Wl.not rfl rfl ?_ | (apply Wl.loadAH;exact rfl;exact rfl;exact kd;exact kd) | (apply Wl.alloc;exact rfl;intro c hc ho) | apply Wl.nil | apply St.seq | apply St.region | (apply St.condF;exact rfl;exact k5) | apply St.skip | apply Gt.next
    generalize c = c9 at *
    have hc9 : w5.heap.size ≤ c9 := by assumption
    apply Wl.callC
    ·exact rfl
    ·exact kd
    intro wq2 hq
    have k9 : ∀ {cs t} (k : Nat),¬ Off [(⟨c9,cs,t⟩ : Blk)] k → k = c9 := fun k y => by have := in_off y;simpa using this
    have u6 : Upd (fun k => w.heap.size ≤ k) w wq2 := u5.comp hq.upd fun k _ h => h.elim id fun y => (by have := k9 k y;omega)
    have lq9 : c9 < wq2.heap.size := lt_of_block (hq.own.at (.head _))
    refine (hW S (hdec.trans hsc) wq2 sv iv bv lv cM vs ((hT.new (hq.upd.mono fun k _ y => by have := k9 k y;omega)).baseLe kf) kf u6 (hM.new u6 (Nat.le_refl _))).mono ?_
    rintro e w7 ⟨⟨x',z,rfl⟩,u7,hR⟩
    have hH : Hp w7 _ w7 := ⟨Upd.refl _ _,hq.own.upd u7 zp,hq.apart⟩
    refine ⟨_,_,rfl,hH,?_⟩
    clear hq hH
    repeat' first | refine Wl.assign rfl rfl ?_ | refine Wl.extract rfl rfl rfl ?_ | apply Wl.nil | apply St.ret | apply Gt.next | (apply Gt.out2;exact rfl;exact rfl;exact rfl;intro w' hp)
    exact .inr ⟨S,hdec.trans hsc,wq2,w7,u6,u7,hR,hp.upd.mono fun k _ y => qj⟩
  ·have hdm : decide (((⟨l0,false⟩ : Cu).take 8).1 ≠ magL) = true := by simp [hmg]
   have e0 : decC M.L.length l = none := by unfold decC;rw [if_neg h32,hl0,if_neg (by simp [hdg]),if_pos hmg]
   repeat' first | (apply Wl.convBSo;exact rfl;exact rfl;exact hx4;(exact fun _ _ _ _ => trivial)) | (apply Wl.neqSB (q := magL);exact rfl;exact rfl;exact rfl) | refine Wl.assign rfl rfl ?_ | apply Wl.nil | apply St.seq | apply St.region | (apply St.condT;exact rfl;exact k5) | apply St.ret | apply Gt.next | apply Gt.thenRet | (apply Gt.out2;exact rfl;exact rfl;exact rfl;intro w' hp)
   exact .inl ⟨e0,u4.comp hp.upd fun k _ h => h.elim id fun y => (y trivial).elim,3,by decide,rfl⟩
 ·have hdd : decide (digE l0 ≠ l.drop (l.length - 32)) = true := by simp [hdg]
  have e0 : decC M.L.length l = none := by unfold decC;rw [if_neg h32,hl0,if_pos hdg]
  repeat' first | (apply Wl.sliceArrW;exact rfl;exact rfl;decide) | (apply Wl.convBS (l := digE l0);exact rfl;exact rfl;(intro w' h';exact hDig w' (h'.own.at (.head _)))) | (apply Wl.convBS (l := l.drop (l.length - 32));exact rfl;exact rfl;(intro w' h';exact hp1.upd h'.upd fun k hk hlt hne y => y ⟨fun e => hoffc k hk e,trivial⟩)) | refine Wl.move rfl rfl ?_ | refine Wl.assign rfl rfl ?_ | refine Wl.neqSB rfl rfl rfl ?_ | (apply Wl.sliceFull;exact rfl;exact rfl;exact kv;exact kv;exact kv;exact zj;omega;omega;omega) | apply Wl.nil | apply Wl.nilQ | apply St.seq | apply St.region | (apply St.draw;exact mixed;(kernel_rfl);exact (fun _ h => Hp.drew h)) | (apply St.condT;exact rfl;exact k5) | apply St.ret | apply Gt.next | apply Gt.thenRet | (apply Gt.out2;exact rfl;exact rfl;exact rfl;intro w' hp)
  exact .inl ⟨e0,hp.upd.mono fun k _ y => qj,7,by decide,rfl⟩
def wordV : Value → Nat
 | .int _ n => n.toNat
 | _ => 0
def staE (x : Sta) : List UInt8 := UInt8.ofNat x.s.toNat :: (leB 4 x.c.toNat ++ leB 4 x.p.toNat ++ (x.xs.map fun v => leB 4 (wordV v)).flatten)
def letE (x : Int × List UInt8) : List UInt8 := UInt8.ofNat x.1.toNat :: txtE x.2
def letsE (l : List (Int × List UInt8)) : List UInt8 := (l.map letE).flatten
def rowE (x : Sta) (s : List UInt8) (l : List (Int × List UInt8)) : List UInt8 := staE x ++ txtE s ++ (UInt8.ofNat l.length :: letsE l)
def rowsE : List Sta → List (List UInt8) → List (List (Int × List UInt8)) → List UInt8
 | x :: L,s :: ins,l :: bx => rowE x s l ++ rowsE L ins bx
 | _,_,_ => []
def turnE (t : Int) : UInt8 := UInt8.ofNat (if t < 0 then 255 else t.toNat)
def headE (n : Nat) (t : Int) : List UInt8 := magL ++ [UInt8.ofNat n,turnE t]
def linesE (ll : List (Int × List UInt8)) : List UInt8 := leB 2 ll.length ++ letsE ll
def bodyE (n : Nat) (t : Int) (L : List Sta) (ins : List (List UInt8)) (bx : List (List (Int × List UInt8))) (ll : List (Int × List UInt8)) (f : Nat → Int) : List UInt8 :=
 headE n t ++ rowsE L ins bx ++ linesE ll ++ runsE 65536 (memL f 0 65536)
def encE (n : Nat) (t : Int) (L : List Sta) (ins : List (List UInt8)) (bx : List (List (Int × List UInt8))) (ll : List (Int × List UInt8)) (f : Nat → Int) : List UInt8 := bodyE n t L ins bx ll f ++ digE (bodyE n t L ins bx ll f)
theorem rowsE_snoc : ∀ (L : List Sta) (ins : List (List UInt8)) (bx : List (List (Int × List UInt8))) (x : Sta) (s : List UInt8) (l : List (Int × List UInt8)),L.length = ins.length → L.length = bx.length → rowsE (L ++ [x]) (ins ++ [s]) (bx ++ [l]) = rowsE L ins bx ++ rowE x s l
 | [],[],[],_,_,_,_,_ => by simp [rowsE]
 | _ :: L,_ :: ins,_ :: bx,x,s,l,h1,h2 => by
  simp only [List.cons_append,rowsE]
  rw [rowsE_snoc L ins bx x s l (by simpa using h1) (by simpa using h2),List.append_assoc]
theorem txtE_len (s : List UInt8) : (txtE s).length = 2 + s.length := by simp [txtE,leB_length]
theorem staE_len {x : Sta} (h : x.xs.length = 32) : (staE x).length = 137 := by
 have e : ∀ l : List Value,((l.map fun v => leB 4 (wordV v)).flatten).length = 4 * l.length := by
  intro l
  induction l with
  | nil => rfl
  | cons a r ih => simp only [List.map_cons,List.flatten_cons,List.length_append,leB_length,ih,List.length_cons];omega
 simp only [staE,List.length_cons,List.length_append,leB_length,e,h]
theorem letsE_len {m : Nat} : ∀ {l : List (Int × List UInt8)},(∀ x ∈ l,x.2.length ≤ m) → (letsE l).length ≤ l.length * (m + 3)
 | [],_ => by simp [letsE]
 | x :: r,h => by
  have := letsE_len (l := r) fun y hy => h y (.tail _ hy)
  have h0 := h x (.head _)
  simp only [letsE,List.map_cons,List.flatten_cons,List.length_append,letE,List.length_cons,txtE_len] at this ⊢
  rw [Nat.add_mul]
  omega
structure EnJ (w1 w : World) (D : List Nat) (bv : Value) (l : List UInt8) : Prop where
 u : Upd (fun k => w1.heap.size ≤ k) w1 w
 row : Bo w w1.heap.size bv l
 o : ∀ k,bv.ownBlock = some k → k ∉ D
 d : ∀ k,k ∈ D → w1.heap.size ≤ k
section
variable {w1 w w2 wa : World} {D : List Nat} {bv bv' : Value} {l l' news : List UInt8} {H : List Blk}
theorem EnJ.hp (h : EnJ w1 w D bv l) (hq : Hp w H w2) (e : H.map Blk.b = D) : EnJ w1 w2 D bv l :=
 ⟨h.u.comp hq.upd fun k _ hs => hs.elim id fun y => h.d k (e ▸ in_off y),h.row.upd hq.upd fun k hk y => h.o k hk (e ▸ in_off y),h.o,h.d⟩
theorem EnJ.call (h : EnJ w1 w D bv l) (hD : ∀ k,k ∈ D → k < w.heap.size) (r1 : Bo w2 w1.heap.size bv' l') (r2 : Upd (fun k => bv.ownBlock = some k) w w2) (r3 : ∀ k,bv'.ownBlock = some k → bv.ownBlock = some k ∨ w.heap.size ≤ k) : EnJ w1 w2 D bv' l' :=
 ⟨h.u.comp r2 fun k _ hs => hs.elim id fun y => h.row.base y,r1,fun k hk hd => (r3 k hk).elim (fun e => h.o k e hd) fun e => by have := hD k hd;omega,h.d⟩
theorem EnJ.hpc (h : EnJ w1 w D bv l) (hq : Hp wa H w) (e : H.map Blk.b = D) (r2 : Upd (fun k => bv.ownBlock = some k) w w2) : Hp w2 H w2 ∧ ∀ k,k ∈ D → k < w.heap.size :=
 ⟨⟨Upd.refl _ _,hq.own.upd r2 fun x hx hk => h.o _ hk (e ▸ List.mem_map_of_mem hx),hq.apart⟩,fun k hk => by
  obtain ⟨x,hx,rfl⟩ := List.mem_map.1 (e ▸ hk)
  exact hq.own.lt hx⟩
theorem EnJ.new (h : EnJ w1 w D bv l) {k : Nat} (hk : w.heap.size ≤ k) : EnJ w1 w (k :: D) bv l :=
 ⟨h.u,h.row,fun j hj hd => by
  rcases List.mem_cons.1 hd with rfl | hd
  ·have := (h.row.lt j hj).2;omega
  ·exact h.o j hj hd,fun j hj => by
  rcases List.mem_cons.1 hj with rfl | hj
  ·have := h.u.size;omega
  ·exact h.d j hj⟩
theorem EnJ.pop {k : Nat} (h : EnJ w1 w (k :: D) bv l) : EnJ w1 w D bv l := ⟨h.u,h.row,fun j hj hd => h.o j hj (.tail _ hd),fun j hj => h.d j (.tail _ hj)⟩
theorem EnJ.app {v' : Value} {n : Nat} {cs : List Value} (h : EnJ w1 w D bv l) (e : H.map Blk.b = D) (a1 : w2.ownsRow w1.heap.size 5 1 v' n (byteCells l ++ cs)) (hn : n = l.length + news.length) (hc : cs = byteCells news) (a2 : Upd (fun k => bv.ownBlock = some k ∨ ¬ Off H k) w w2) (a4 : ∀ k,v'.ownBlock = some k → Off H k ∧ (bv.ownBlock = some k ∨ w.heap.size ≤ k)) : EnJ w1 w2 D v' (l ++ news) :=
 ⟨h.u.comp a2 fun k _ hs => hs.elim id fun y => y.elim h.row.base fun y => h.d k (e ▸ in_off y),Bo.of a1 hn hc,fun k hk hd => by
  obtain ⟨x,hx,e'⟩ := List.mem_map.1 (e ▸ hd)
  exact (a4 k hk).1.at hx e',h.d⟩
end
end Go.Proofs.YtabbklpalbikdaaGreatDoor
end
section
namespace Go.Pt
theorem Wl.appendG {P : Program} {N : Nat} {ops : Array Oper} {rest : List Oper} {Γ : Env} {Q : Exit → Act → World → Prop} {d : Nat} {ty : TypeId} {pos : String} {af : Array Edge} {w0 : World} {H : List Blk} {t e sz by_ n m cap c : Nat} {z : Value} {olds news : List Value} {b ad : Addr} {s x : Operand} [ht : TyD P t (.slice e)] [hs : TyS P e sz by_] [hz : TyZ P e z]
  (hd : Nat.blt d N = true) (hs' : ev Γ s = some (.slice (some b) n cap)) (hx : ev Γ x = some (.slice (some ad) m c)) (hlo : olds.length = n * sz) (holds : ∀ w,Hp w0 H w → ∀ j u,olds[j]? = some u → w.cell? (b.add j) = some u)
  (hl : news.length = m * sz) (hnews : ∀ w,Hp w0 H w → ∀ j u,news[j]? = some u → w.cell? (ad.add j) = some u) (hg : cap < n + m) (hzs : z.cells.size = sz) (hsz : 0 < sz) (h63 : n + m ≤ maxLen) (hb : (n + m) * by_ ≤ 140737488355328)
  (h : ∀ v' w1,w1.ownsRow w0.heap.size e sz v' (n + m) (olds ++ news) → Hp w0 H w1 → (∀ k,v'.ownBlock = some k → Off H k) → Wl rest P .seq ops N ((d,v') :: Γ) (Hp w1 H) Q) :
  Wl (⟨some d,.call { callee := .builtin .append,args := #[s,x],argTypes := #[t,t] },ty,pos,af,none⟩ :: rest) P .seq ops N Γ (Hp w0 H) Q :=
 Wl.eff fun a w ha hw => by
  obtain ⟨i,hi,hsz'⟩ := Option.map_eq_some_iff.1 hs.out
  have hzi : i.zero = some z := by have := hz.out;rw [hi] at this;exact this
  simp only [Prod.mk.injEq] at hsz'
  obtain ⟨v',w',hrun,ho,hgr⟩ := run_append_arg_grows (P := P) w t ty e i z sz by_ ht.out hi hzi hsz'.1 hsz'.2 hzs hsz b n cap olds hlo (holds w hw) ad m c news hl (hnews w hw) hg h63 hb
  have u : Upd (fun _ => False) w w' := Upd.grown hgr fun k hk => by cases hk
  have hw' : Hp w0 H w' := hw.step u (fun _ _ x => x) fun _ _ x => x.elim
  have ho' : w'.ownsRow w0.heap.size e sz v' (n + m) (olds ++ news) := by
   obtain ⟨h1,h2⟩ := ho
   refine ⟨h1,?_⟩
   rcases h2 with h2 | ⟨g,cap',cur,e1,hb',hx'⟩
   ·exact .inl h2
   ·exact .inr ⟨g,cap',cur,e1,Nat.le_trans hw.upd.size hb',hx'⟩
  refine ⟨v',w',.inl ?_,(h v' w' ho' hw' fun k hk => ?_).elim _ _ (ha.put hd _) hw'.rebase⟩
  ·simp [execOp,resolve,invoke,builtin,ha.ev hs',ha.ev hx,hrun]
  ·have := (ho.lt k hk).1
   exact Off.of fun y hy e => by have := hw.own.lt hy;omega
end Go.Pt
end
section
namespace Go.Pt
open Go.RowKit
theorem run_conv_mk2 {P : Program} {w : World} {t e : TypeId} {c n m : Nat} {cs : Array Value} {fr : Nat × Nat} (ht : P.underlying t = some (.slice e)) (he : P.underlying e = some (.int .u8)) (h : w.heap[c]? = some (.cells cs e fr)) :
  ∃ w' fr',(convert t t (.slice (some ⟨c,0,none⟩) n m)).run P w = .ok (.slice (some ⟨c,0,none⟩) n m) w' ∧ w'.heap[c]? = some (.cells cs e fr') ∧ Upd (· = c) w w' := by
 have hsh : w.shape? c = some (e,cs.size) := by unfold World.shape?;rw [h]
 have hlt := lt_of_block h
 refine ⟨w.freeze ⟨c,cs.size,none⟩ 1,if fr.1 == fr.2 then (cs.size,cs.size + 1) else (min fr.1 cs.size,max fr.2 (cs.size + 1)),?_,?_,?_⟩
 ·simp [convert,run_underlying ht,run_underlying he,markStringish,hsh]
 ·have h' : w.heap[c] = .cells cs e fr := by simpa [Array.getElem?_eq_getElem hlt] using h
  unfold World.freeze
  rw [if_neg ku]
  show (w.heap.modify c _)[c]? = _
  rw [Array.getElem?_eq_getElem (by simpa using hlt),Array.getElem_modify_self,h']
 ·refine ⟨rfl,rfl,rfl,by simp [World.freeze],fun k hk hs => ?_⟩
  unfold World.freeze
  rw [if_neg ku]
  show (w.heap.modify c _)[k]? = _
  rw [Array.getElem?_modify,if_neg (fun e => hs e.symm)]
theorem Wl.convMk2 {P : Program} {N : Nat} {ops : Array Oper} {rest : List Oper} {Γ : Env} {Q : Exit → Act → World → Prop} {d T : Nat} {ty : TypeId} {pos : String} {af : Array Edge} {t : TypeId} {x : Operand} {w0 : World} {H : List Blk} {c n : Nat} {cs : List Value} (l : List UInt8) [ht : TyD P t (.slice T)] [he : TyD P T (.int .u8)] (hd : Nat.blt d N = true)
  (hx : ev Γ x = some (.slice (some ⟨c,0,none⟩) n n)) (hn : n = l.length) (hcs : cs = byteCells l) (hl : l.length ≤ maxLen) (hc0 : w0.heap.size ≤ c)
  (h : ∀ w1,Bs w1 (.slice (some ⟨c,0,none⟩) n n) l → Upd (fun k => ¬ Off H k) w0 w1 → Own w1 H → Apart H → Off H c → c < w1.heap.size → Wl rest P .seq ops N ((d,.slice (some ⟨c,0,none⟩) n n) :: Γ) (Hp w1 H) Q) :
  Wl (⟨some d,.convert t t x,ty,pos,af,none⟩ :: rest) P .seq ops N Γ (Hp w0 (⟨c,cs,T⟩ :: H)) Q :=
 Wl.eff fun a w ha hw => by
  subst hcs hn
  obtain ⟨w',fr',hr,hc,hu⟩ := run_conv_mk2 (P := P) (w := w) (t := t) (n := l.length) (m := l.length) ht.out he.out hw.own.1
  have hown : Own w' H := hw.own.2.upd hu fun y hy e => (hw.apart.1).at hy (by simpa using e)
  refine ⟨_,w',.inl ?_,(h w' (Bs.ofBlk hc hl) ?_ hown hw.apart.2 hw.apart.1 (lt_of_block hc)).elim _ _ (ha.put hd _) ⟨Upd.refl _ _,hown,hw.apart.2⟩⟩
  ·simp only [execOp,ha.ev hx]
   simp [hr]
  ·exact hw.upd.comp hu fun k hk hs => hs.elim (fun y e => y ⟨fun e' => by simp only at e';omega,e⟩) fun e => by have e' : k = c := e;exact absurd e' kf
end Go.Pt
namespace Go.Proofs.YtabbklpalbikdaaGreatDoor
open Go.RowKit Go.Pt
theorem svShape {w : World} {sz n : Nat} {v : Value} {cs : List Value} (h : Sv w sz n v cs) : ∃ a cap,v = .slice a n cap := by
 obtain ⟨_,a,c,rfl,_⟩ := h
 exact ⟨a,c,rfl⟩
theorem svCells {w : World} {sz n cap : Nat} {a : Option Addr} {cs : List Value} (h : Sv w sz n (.slice a n cap) cs) (hne : cs ≠ []) : ∃ b off,a = some ⟨b,off,none⟩ ∧ b < w.heap.size ∧ ∀ (i : Nat) u,cs[i]? = some u → w.cell? ⟨b,off + i,none⟩ = some u := by
 obtain ⟨_,a',c,e,_,_,_,hc⟩ := h
 cases e
 obtain ⟨b,off,rfl,hb⟩ := hc hne
 have key : ∀ (i : Nat) u,cs[i]? = some u → w.cell? ⟨b,off + i,none⟩ = some u := fun i u hu => by
  obtain ⟨h1,h2⟩ := List.getElem?_eq_some_iff.1 hu
  rw [hb i h1,h2]
 refine ⟨b,off,rfl,?_,key⟩
 obtain ⟨x,r,rfl⟩ := List.exists_cons_of_ne_nil hne
 exact World.block_lt_of_cell? w _ (key 0 x rfl)
def bxs (ls : Nat → List (Int × List UInt8)) (n : Nat) : List (List (Int × List UInt8)) := (List.range n).map ls
theorem sEncode (base : Nat) (I : Mi) (M : Mv2) (ls : Nat → List (Int × List UInt8)) (w : World) (hM : MonS w base I M) (hb : base ≤ w.heap.size) (hbx : ∀ i,i < M.L.length → M.bx i = (ls i).map letV ∧ (ls i).length ≤ 4) (hll : M.ll.length ≤ 1000) (hn : M.L.length ≤ 16) (hFB : FB M.f) (hins : ∀ s ∈ M.ins,s.length ≤ 64)
  (hlx : ∀ i,i < M.L.length → ∀ x ∈ ls i,x.2.length ≤ 16 ∧ 0 ≤ x.1 ∧ x.1 < 256) (hly : ∀ x ∈ M.ll,x.2.length ≤ 64 ∧ 0 ≤ x.1 ∧ x.1 < 256) (hs : ∀ x ∈ M.L,0 ≤ x.s ∧ x.s < 256) (ht : -1 ≤ M.t ∧ M.t < 255) (hK : ArrAt w 1 0 .u32 64 Sha.K) (hKI : ∀ k,Zc I ls k → k ≠ 1) :
  Calls Tryz.prog 44 #[.pointer (some ⟨I.m,0,none⟩)] w fun e w' => ∃ v',e = .returned v' ∧ Bo w' w.heap.size v' (encE M.L.length (turnV M.t) M.L M.ins (bxs ls M.L.length) M.ll M.f) ∧ MonS w' base I M ∧ Upd (fun k => Zc I ls k ∨ w.heap.size ≤ k) w w' := by
 have hok := hM.ward.2.1
 have hlen := hM.len
 have hll' := hll
 refine enter (args := [_]) (Γ := [(0,_)]) Tryz.func44 Tryz.ntmps44 rfl odq (.cons rfl .nil) ?_
 repeat' first | refine Wl.move rfl rfl ?_ | refine Wl.assign rfl rfl ?_ | refine Wl.eqlPN rfl rfl rfl ?_ | apply Wl.nil | apply St.seq | apply St.region | (apply St.condF;exact rfl;exact k5) | apply St.skip | apply Gt.next
 apply Wl.callC
 ·exact rfl
 ·exact kd
 intro wq hq
 have zq := hq.upd.size
 refine (mStateL base I M ls wq (hM.upd hq.upd fun _ _ y => y trivial) kf hbx hll).mono ?_
 rintro e w1 ⟨sv,iv,bv,lv,cM,vs,rfl,hT,hcM,hM1,u1'⟩
 have u1 : Upd (fun k => Zc I ls k ∨ w.heap.size ≤ k) w w1 := Upd.comp (S := fun k => Zc I ls k ∨ w.heap.size ≤ k) (hq.upd.mono fun _ _ y => (y trivial).elim) u1' fun k _ h => h.elim id fun h => h.imp id fun h => by omega
 have z1 := u1'.size
 obtain ⟨aS,cs,rfl⟩ := svShape (Sv.ofOwn hT.s)
 obtain ⟨ai,ci,rfl⟩ := svShape (Sv.ofOwn hT.i)
 obtain ⟨ab,cb,rfl⟩ := svShape (Sv.ofOwn hT.b)
 obtain ⟨al,cl,rfl⟩ := svShape (Sv.ofOwn hT.l)
 clear hq
 refine ⟨_,_,rfl,Hp.start w1,?_⟩
 repeat' first | (apply Wl.storeA;exact rfl;exact rfl;exact rfl;exact rfl;exact kd;exact kj) | (apply Wl.alloc;exact rfl;intro c hc ho) | apply Wl.nil | apply Gt.next
 generalize c = c3 at *
 have hc3 : w1.heap.size ≤ c3 := by assumption
 refine St.cut (σ := World × Nat) (fun τ => Upd (fun k => w1.heap.size ≤ k) w1 τ.1 ∧ Bs τ.1 (.slice (some ⟨τ.2,0,none⟩) 8 8) magL ∧ w1.heap.size ≤ τ.2 ∧ τ.2 < τ.1.heap.size ∧ τ.2 ≠ c3) (fun τ => [(0,.pointer (some ⟨I.m,0,none⟩)),(2,.slice none 0 0),(3,.pointer (some ⟨c3,0,none⟩)),(4,.slice (some ⟨τ.2,0,none⟩) 8 8)]) (fun τ => Hp τ.1 [⟨c3,[.int .i64 (turnV M.t),.slice aS M.L.length cs,.slice ai M.L.length ci,.slice ab M.L.length cb,.slice al M.ll.length cl,.pointer (some ⟨cM,0,none⟩)],54⟩]) ?_ ?_
 ·repeat' first | (apply Wl.lit;exact rfl;exact kh;exact rfl;exact rfl;exact ke;intro c hc ho) | apply St.region
  apply Wl.convMk2 magL
  ·exact rfl
  ·exact rfl
  ·exact rfl
  ·exact rfl
  ·unfold maxLen;decide
  ·assumption
  intro wM hBs uM _ _ offM ltM
  repeat' first | refine Wl.assign rfl rfl ?_ | apply Wl.nil
  refine Gt.meet (wM,_) ⟨uM.mono fun k _ y => qj,hBs,by assumption,ltM,fun e => offM.1 e.symm⟩ kq (fun _ h => h)
 rintro ⟨wc,c8⟩ ⟨uC,hB8,h81,h82,h83⟩
 try simp only at uC hB8 h81 h82 h83 ⊢
 have htv : turnV M.t = -1 ∨ (0 ≤ turnV M.t ∧ turnV M.t < 255) := by unfold turnV;split <;> omega
 have hne : ([.int .u8 (M.L.length : Int),.int .u8 (IntKind.u8.wrap (turnV M.t))] : List Value) = byteCells [UInt8.ofNat M.L.length,turnE (turnV M.t)] := by
  have h1 : (UInt8.ofNat M.L.length).toNat = M.L.length := by rw [UInt8.toNat_ofNat',Nat.mod_eq_of_lt kf]
  have h2 : IntKind.u8.wrap (turnV M.t) = (((turnE (turnV M.t)).toNat : Nat) : Int) := by
   unfold turnE
   rcases htv with h | h
   ·rw [h];decide
   ·rw [if_neg kf,wrap8,show turnV M.t % 256 = turnV M.t by omega]
  simp only [byteCells,List.map_cons,List.map_nil,h1,h2]
 repeat' first | refine Wl.move rfl rfl ?_ | refine Wl.fieldAddr0 rfl rfl ?_ | refine Wl.fieldAddrZ rfl rfl ?_ | (apply Wl.loadH;exact rfl;exact rfl;exact kd;exact rfl) | (refine Wl.convU8 rfl rfl ?_ ?_;constructor <;> omega) | refine Wl.convI rfl rfl ?_ | refine Wl.len rfl rfl ?_ | (apply Wl.lit;exact rfl;exact kh;exact rfl;exact rfl;exact ke;intro c hc ho) | apply St.seq | apply St.region
 apply Wl.appendG (olds := byteCells magL) (news := [.int .u8 (M.L.length : Int),.int .u8 (IntKind.u8.wrap (turnV M.t))])
 ·exact rfl
 ·exact rfl
 ·exact rfl
 ·exact rfl
 ·intro w' hw' j u hj
  have hb' : Bs w' (.slice (some ⟨c8,0,none⟩) 8 8) magL := hB8.upd hw'.upd fun k hk _ _ y => by
   have h8 : k = c8 := by cases hk;rfl
   have := in_off y
   simp only [List.map_cons,List.map_nil,List.mem_cons,List.not_mem_nil,or_false] at this
   omega
  obtain ⟨g,og,e,hc'⟩ := hb'.cells ku
  cases e
  obtain ⟨h1,h2⟩ := List.getElem?_eq_some_iff.1 hj
  rw [addLit,hc' j (by simpa [byteCells] using h1),← h2]
  simp [byteCells]
 ·exact rfl
 ·intro w' hw' j u hj
  rw [addLit]
  exact hw'.cell (.head _) (by simpa using hj)
 ·omega
 ·exact rfl
 ·decide
 ·unfold maxLen;decide
 ·decide
 intro v' w5 a1 h5 a4
 repeat' first | refine Wl.move rfl rfl ?_ | refine Wl.assign rfl rfl ?_ | refine Wl.fieldAddrZ rfl rfl ?_ | (apply Wl.loadH;exact rfl;exact rfl;exact kd;exact rfl) | refine Wl.len rfl rfl ?_ | apply Wl.nil | apply St.seq | apply St.block | apply St.region | apply Gt.next
 refine St.reb (H' := [⟨c3,[.int .i64 (turnV M.t),.slice aS M.L.length cs,.slice ai M.L.length ci,.slice ab M.L.length cb,.slice al M.ll.length cl,.pointer (some ⟨cM,0,none⟩)],54⟩]) fun wd hd => ⟨hd.own.2,hd.apart.2,?_⟩
 have hJ : EnJ w1 wd [c3] v' (headE M.L.length (turnV M.t)) := by
  have hoff : ∀ {xs t ys t'} (k : Nat),¬ Off [(⟨c,xs,t⟩ : Blk),⟨c3,ys,t'⟩] k → k = c ∨ k = c3 := fun k y => by
   have := in_off y
   simpa only [List.map_cons,List.map_nil,List.mem_cons,List.not_mem_nil,or_false] using this
  refine ⟨(uC.comp h5.upd (T := fun k => w1.heap.size ≤ k) fun k _ h => h.elim id fun y => by have := hoff k y;have := uC.size;omega).comp hd.upd fun k _ h => h.elim id fun y => by have := hoff k y;have := uC.size;omega,?_,fun k hk hm => ?_,fun k hk => by simp at hk;omega⟩
  ·have := (Bo.of (l := magL) a1 rfl hne).upd hd.upd fun k hk y => y (a4 k hk)
   exact World.ownsRow.baseLe this uC.size
  ·simp at hm
   subst hm
   exact (a4 _ hk).2.1 rfl
 have hbl : (bxs ls M.L.length).length = M.L.length := by simp [bxs]
 have hLn : M.L ≠ [] := fun h => by have := hM.ward.2.2;rw [h] at this;simp at this
 obtain ⟨gs,os,rfl,hgs,hsta⟩ := svCells (Sv.ofOwn hT.s) (fun h => by
  have h1 : ((stas M.L).flatten).length = 0 := by rw [h];rfl
  obtain ⟨x,r,e⟩ := List.exists_cons_of_ne_nil hLn
  rw [e] at h1
  simp [stas,Sta.cells] at h1)
 obtain ⟨gi,oi,rfl,hgi,hinp⟩ := svCells (Sv.ofOwn hT.i) (fun h => by
  have h1 : (M.ins.map strV).length = 0 := by rw [h];rfl
  obtain ⟨x,r,e⟩ := List.exists_cons_of_ne_nil hLn
  have := hlen.2
  rw [e] at this
  simp at h1
  rw [h1] at this
  simp at this)
 obtain ⟨gb,ob,rfl,hgb,hbox⟩ := svCells (Sv.ofOwn hT.b) (fun h => by
  have h1 := hT.bl.1
  obtain ⟨x,r,e⟩ := List.exists_cons_of_ne_nil hLn
  rw [h,e] at h1
  simp at h1)
 have hat : ∀ (i : Nat) x,M.L[i]? = some x → ∀ q u,x.cells[q]? = some u → w1.cell? (Addr.add ⟨gs,os + i * 35,none⟩ q) = some u := fun i x hx q u hq => by
  have hq35 : q < 35 := by have := (List.getElem?_eq_some_iff.1 hq).1;rw [(hok x (List.mem_of_getElem? hx)).len] at this;exact this
  have := hsta (i * 35 + q) u qe
  rw [addLit,Nat.add_assoc]
  exact this
 refine St.loop (σ := Nat × World × Value) (fun τ => τ.1 ≤ M.L.length ∧ EnJ w1 τ.2.1 [c3] τ.2.2 (headE M.L.length (turnV M.t) ++ rowsE (M.L.take τ.1) (M.ins.take τ.1) ((bxs ls M.L.length).take τ.1)) ∧ (headE M.L.length (turnV M.t) ++ rowsE (M.L.take τ.1) (M.ins.take τ.1) ((bxs ls M.L.length).take τ.1)).length ≤ 10 + 300 * τ.1)
  (fun τ => [(0,.pointer (some ⟨I.m,0,none⟩)),(2,.slice none 0 0),(3,.pointer (some ⟨c3,0,none⟩)),(4,τ.2.2),(32,.slice (some ⟨gs,os,none⟩) M.L.length cs),(33,.int .i64 (M.L.length : Int)),(34,.int .i64 (τ.1 : Int))]) (fun τ => Hp τ.2.1 [⟨c3,[.int .i64 (turnV M.t),.slice (some ⟨gs,os,none⟩) M.L.length cs,.slice (some ⟨gi,oi,none⟩) M.L.length ci,.slice (some ⟨gb,ob,none⟩) M.L.length cb,.slice al M.ll.length cl,.pointer (some ⟨cM,0,none⟩)],54⟩]) (fun τ => M.L.length - τ.1)
  (0,wd,v') ⟨Nat.zero_le _,by simpa [rowsE] using hJ,by simp [rowsE,headE,magL]⟩ kq (fun _ h => h) ?_
 clear hJ
 rintro ⟨k,wk,bv4⟩ ⟨hk,hJ,hl0n⟩
 try simp only at hk hJ hl0n ⊢
 generalize hl0 : headE M.L.length (turnV M.t) ++ rowsE (M.L.take k) (M.ins.take k) ((bxs ls M.L.length).take k) = l0 at *
 by_cases hlt : k < M.L.length
 ·have hd : decide ((k : Int) < (M.L.length : Int)) = true := decide_eq_true kf
  obtain ⟨x,hx⟩ : ∃ x,M.L[k]? = some x := ⟨_,List.getElem?_eq_getElem hlt⟩
  obtain ⟨s,hs'⟩ : ∃ s,M.ins[k]? = some s := ⟨_,List.getElem?_eq_getElem (by have := hlen.2;omega)⟩
  have hxo := hok x (List.mem_of_getElem? hx)
  have hx3 := hs x (List.mem_of_getElem? hx)
  have hxc := hxo.2
  have hat' : ∀ q u,x.cells[q]? = some u → w1.cell? (Addr.add ⟨gs,os + (k : Int).toNat * 35,none⟩ q) = some u := fun q u hq => by rw [Int.toNat_natCast];exact hat k x hx q u hq
  have hatk : ∀ {H : List Blk} {w' : World},Hp wk H w' → H.map Blk.b = [c3] → ∀ q u,x.cells[q]? = some u → w'.cell? (Addr.add ⟨gs,os + (k : Int).toNat * 35,none⟩ q) = some u := fun hq e q u hu => (hJ.hp hq e).u.cell (hat' q u hu) (fun h => by rw [addLit] at h;simp only at h;omega)
  repeat' first | (apply Wl.storeA (xs := x.cells);exact rfl;exact rfl;exact hxo.len;exact hxo.one;exact kd;exact .z (LOver.whole (by rw [hxo.len];exact rfl))) | (apply Wl.loadAF (xs := x.cells);exact rfl;exact rfl;exact hxo.len;(intro w' h' q u hq';exact hatk h' rfl q u hq')) | refine Wl.move rfl rfl ?_ | refine Wl.assign rfl rfl ?_ | refine Wl.fieldAddr0 rfl rfl ?_ | (apply Wl.loadH;exact rfl;exact rfl;exact kd;exact rfl) | refine Wl.lss rfl rfl rfl ?_ | (refine Wl.convU8 rfl rfl ?_ ?_;constructor <;> omega) | (apply Wl.lit;exact rfl;exact kh;exact rfl;exact rfl;exact ke;intro c hc ho) | (apply Wl.alloc;exact rfl;intro c hc ho) | (refine Wl.indexAddr rfl rfl rfl ?_ ?_;constructor <;> omega) | apply Wl.nil | apply St.seq | apply St.block | apply St.region | (apply St.condT;exact rfl;exact k5) | apply St.skip | apply Gt.next
  rename_i c6 hc6 ho6
  have hJ := hJ.new hc6
  have hs1 : x.cells[0]? = some (.int .i64 x.s) := rfl
  have hs8 : ([.int .u8 x.s] : List Value) = byteCells [UInt8.ofNat x.s.toNat] := by
   simp only [byteCells,List.map_cons,List.map_nil,UInt8.toNat_ofNat',List.cons.injEq,and_true,Value.int.injEq,true_and]
   omega
  apply Wl.appendT (base := w1.heap.size) (n := l0.length) (m := 1) (sz := 1) (e := 5) (xs := byteCells l0)
  ·exact rfl
  ·exact rfl
  ·exact rfl
  ·assumption
  ·exact rfl
  ·exact hJ.row
  ·exact fun k hk => off_in (hJ.o k hk)
  ·exact rfl
  ·exact rfl
  ·decide
  ·unfold maxLen;omega
  ·omega
  ·exact hJ.u.size
  intro bv5 w5 a1 a2 a3 a4
  have hJ := hJ.app (news := [UInt8.ofNat x.s.toNat]) rfl a1 rfl hs8 a2 a4
  have z5 := a2.size
  clear a1 a2 a3 a4
  repeat' first | refine Wl.assign rfl rfl ?_ | apply Wl.nil | apply St.seq | apply Gt.next
  refine St.tree (fun w' => w'.heap[c6]? = some (.cells x.cells.toArray 44 (0,0))) mixed (fun _ h' => ⟨Hp.drew h',(Hp.drew h').own.at (.head _)⟩) ?_
  refine Mt.pm 0 ?_
  refine Mt.pz 1 ?_
  refine Mt.pz 4 ?_
  refine Mt.pu 2 ?_
  apply Wl.loadF;exact rfl;exact rfl;(intro w' h';exact cell_of h' rfl);apply Wl.nilB
  refine Mt.pu 5 ?_
  apply Wl.loadF;exact rfl;exact rfl;(intro w' h';exact cell_of h' rfl);apply Wl.nilB
  refine Mt.e1 3 ?_
  apply Wl.callC
  ·exact rfl
  ·exact kd
  intro wq hq
  have hJ := hJ.hp hq rfl
  have zq := hJ.u.size
  refine (p32X w1.heap.size _ _ x.c ⟨by omega,by omega⟩ wq hJ.row kf zd).mono ?_
  rintro e w2 ⟨bv2,rfl,r1,r2,r3⟩
  obtain ⟨hH,hD⟩ := hJ.hpc hq rfl r2
  have hJ := hJ.call hD r1 r2 r3
  refine ⟨_,_,rfl,hH,?_⟩
  clear hq r1 r2 r3 hH hD
  try simp only at hJ
  apply Wl.nil
  refine Mt.backE (fun _ h' => h'.own.at (.head _)) ?_
  refine Mt.e1 6 ?_
  apply Wl.callC
  ·exact rfl
  ·exact kd
  intro wq hq
  have hJ := hJ.hp hq rfl
  have zq := hJ.u.size
  refine (p32X w1.heap.size _ _ x.p ⟨by omega,by omega⟩ wq hJ.row kf zd).mono ?_
  rintro e w2 ⟨bv2,rfl,r1,r2,r3⟩
  obtain ⟨hH,hD⟩ := hJ.hpc hq rfl r2
  have hJ := hJ.call hD r1 r2 r3
  refine ⟨_,_,rfl,hH,?_⟩
  clear hq r1 r2 r3 hH hD
  try simp only at hJ
  apply Wl.nil
  refine Mt.backE (fun _ h' => h'.own.at (.head _)) ?_
  refine Mt.pu 7 ?_
  refine Wl.assign rfl rfl (Wl.nilB ?_)
  refine Mt.toGt ka ?_
  repeat' first | (apply Wl.loadAH;exact rfl;exact rfl;exact (.head _);exact (.s (.s (.s (LSub.whole hxo.1.1))))) | refine Wl.move rfl rfl ?_ | refine Wl.fieldAddrZ rfl rfl ?_ | apply Wl.nil | apply St.seq | apply St.block | apply St.region | apply Gt.next
  have hreg : ∀ m z,x.xs[m]? = some (.int .u32 z) → ((x.xs.take (m + 1)).map fun v => leB 4 (wordV v)).flatten = ((x.xs.take m).map fun v => leB 4 (wordV v)).flatten ++ leB 4 z.toNat := fun m z hz => by
   rw [List.take_add_one,hz]
   simp [wordV]
  generalize hl1 : l0 ++ [UInt8.ofNat x.s.toNat] ++ leB 4 x.c.toNat ++ leB 4 x.p.toNat = l1 at *
  have hl1n : l1.length = l0.length + 9 := by rw [← hl1];simp [leB_length]
  refine St.loop (σ := Nat × World × Value) (fun τ => τ.1 ≤ 32 ∧ EnJ w1 τ.2.1 [c6,c3] τ.2.2 (l1 ++ ((x.xs.take τ.1).map fun v => leB 4 (wordV v)).flatten) ∧ (((x.xs.take τ.1).map fun v => leB 4 (wordV v)).flatten).length = 4 * τ.1)
   (fun τ => [(0,.pointer (some ⟨I.m,0,none⟩)),(2,.slice none 0 0),(3,.pointer (some ⟨c3,0,none⟩)),(4,τ.2.2),(5,.int .i64 (k : Int)),(6,.pointer (some ⟨c6,0,none⟩)),(32,.slice (some ⟨gs,os,none⟩) M.L.length cs),(33,.int .i64 (M.L.length : Int)),(34,.int .i64 (k : Int)),(53,.agg x.xs.toArray),(54,.int .i64 (τ.1 : Int))])
   (fun τ => Hp τ.2.1 [⟨c6,x.cells,44⟩,⟨c3,[.int .i64 (turnV M.t),.slice (some ⟨gs,os,none⟩) M.L.length cs,.slice (some ⟨gi,oi,none⟩) M.L.length ci,.slice (some ⟨gb,ob,none⟩) M.L.length cb,.slice al M.ll.length cl,.pointer (some ⟨cM,0,none⟩)],54⟩]) (fun τ => 32 - τ.1) (0,_,_) ⟨Nat.zero_le _,by simpa using hJ,rfl⟩ kq (fun _ h => h) ?_
  clear hJ
  rintro ⟨m,wm,bvm⟩ ⟨hm,hJ,hmn⟩
  try simp only at hm hJ hmn ⊢
  by_cases hm32 : m < 32
  ·have hdm : decide ((m : Int) < 32) = true := decide_eq_true kf
   obtain ⟨z,hz,hz0,hz1⟩ := hxo.1.2 m hm32
   repeat' first | (apply Wl.indexVS;exact rfl;exact rfl;exact rfl;exact hz;exact hm32) | refine Wl.move rfl rfl ?_ | refine Wl.assign rfl rfl ?_ | refine Wl.lss rfl rfl rfl ?_ | apply Wl.nil | apply St.seq | apply St.block | apply St.region | (apply St.condT;exact rfl;exact k5) | apply St.skip | apply Gt.next
   apply Wl.callC
   ·exact rfl
   ·exact kd
   intro wq hq
   have hJ := hJ.hp hq rfl
   have zq := hJ.u.size
   refine (p32X w1.heap.size _ _ z ⟨by omega,by omega⟩ wq hJ.row kf zd).mono ?_
   rintro e w2 ⟨bv2,rfl,r1,r2,r3⟩
   obtain ⟨hH,hD⟩ := hJ.hpc hq rfl r2
   have hJ := hJ.call hD r1 r2 r3
   refine ⟨_,_,rfl,hH,?_⟩
   clear hq r1 r2 r3 hH hD
   try simp only at hJ
   repeat' first | refine Wl.move rfl rfl ?_ | refine Wl.assign rfl rfl ?_ | (refine Wl.addI rfl rfl rfl ?_ ?_;constructor <;> omega) | apply Wl.nil | apply St.region | apply Gt.next | apply Gt.inNormal
   exact Gt.round (m + 1,w2,bv2) ⟨hm32,(by rw [hreg m z hz,← List.append_assoc];exact hJ),(by rw [hreg m z hz,List.length_append,hmn,leB_length];omega)⟩ ky kq (fun _ h => h)
  ·obtain rfl : m = 32 := by omega
   have hdm : decide (((32 : Nat) : Int) < 32) = false := by decide
   have hxt : x.xs.take 32 = x.xs := List.take_of_length_le (by rw [hxo.1.1];exact Nat.le_refl _)
   rw [hxt] at hJ hmn
   have hl2n : (l1 ++ (x.xs.map fun v => leB 4 (wordV v)).flatten).length = l0.length + 137 := by rw [List.length_append,hmn,hl1n]
   generalize hl2 : l1 ++ (x.xs.map fun v => leB 4 (wordV v)).flatten = l2 at *
   have g6 := hJ.d c6 za
   have g3 := hJ.d c3 za
   have hsl : s.length ≤ 64 := hins s (List.mem_of_getElem? hs')
   have hik : wm.cell? ⟨gi,oi + (k : Int).toNat,none⟩ = some (strV s) := hJ.u.cell (by rw [Int.toNat_natCast];exact hinp k _ (by rw [List.getElem?_map,hs'];rfl)) ky
   repeat' first | (apply Wl.loadO;exact rfl;exact rfl;exact hik;exact qd) | refine Wl.move rfl rfl ?_ | refine Wl.fieldAddrZ rfl rfl ?_ | (apply Wl.loadH;exact rfl;exact rfl;exact kd;exact rfl) | refine Wl.lss rfl rfl rfl ?_ | (refine Wl.indexAddr1 rfl rfl rfl ?_ ?_;constructor <;> omega) | apply Wl.nil | apply St.seq | apply St.region | (apply St.condF;exact rfl;exact k5) | apply St.exit | apply Gt.next | apply Gt.thenExit | apply Gt.inExit
   apply Wl.callC
   ·exact rfl
   ·exact kd
   intro wq hq
   have hJ := hJ.hp hq rfl
   have zq := hJ.u.size
   refine (sText w1.heap.size _ _ s wq hJ.row kf zd kf).mono ?_
   rintro e w2 ⟨bv2,rfl,r1,r2,r3⟩
   obtain ⟨hH,hD⟩ := hJ.hpc hq rfl r2
   have hJ := hJ.call hD r1 r2 r3
   refine ⟨_,_,rfl,hH,?_⟩
   clear hq r1 r2 r3 hH hD
   try simp only at hJ
   obtain ⟨vk,ek,hvk⟩ := hT.bl.2 k hlt
   obtain ⟨ak,ck,rfl⟩ := svShape (Sv.ofOwn hvk)
   have hbk := (hbx k hlt).2
   have hbc : w2.cell? ⟨gb,ob + (k : Int).toNat,none⟩ = some (.slice ak (ls k).length ck) := hJ.u.cell (by rw [Int.toNat_natCast];exact hbox k _ ek) ky
   have hu8 : IntKind.u8.wrap ((ls k).length : Int) = ((ls k).length : Int) := by rw [wrap8,UInt8.toNat_ofNat'];omega
   repeat' first | (apply Wl.loadO;exact rfl;exact rfl;exact hbc;exact qd) | refine Wl.move rfl rfl ?_ | refine Wl.assign rfl rfl ?_ | refine Wl.fieldAddrZ rfl rfl ?_ | (apply Wl.loadH;exact rfl;exact rfl;exact kd;exact rfl) | (refine Wl.convU8 rfl rfl ?_ ?_;constructor <;> omega) | refine Wl.len rfl rfl ?_ | (apply Wl.lit;exact rfl;exact kh;exact rfl;exact rfl;exact ke;intro c hc ho) | (refine Wl.indexAddr1 rfl rfl rfl ?_ ?_;constructor <;> omega) | apply Wl.nil | apply St.seq | apply St.region | apply Gt.next
   have hs9 : ([.int .u8 ((ls k).length : Int)] : List Value) = byteCells [UInt8.ofNat (ls k).length] := by
    simp only [byteCells,List.map_cons,List.map_nil,UInt8.toNat_ofNat',List.cons.injEq,and_true,Value.int.injEq,true_and]
    omega
   have hl3m : (l2 ++ txtE s).length = l0.length + 139 + s.length := by rw [List.length_append,txtE_len,hl2n];omega
   apply Wl.appendT (base := w1.heap.size) (n := (l2 ++ txtE s).length) (m := 1) (sz := 1) (e := 5) (xs := byteCells (l2 ++ txtE s))
   ·exact rfl
   ·exact rfl
   ·exact rfl
   ·assumption
   ·exact rfl
   ·exact hJ.row
   ·exact fun k hk => off_in (hJ.o k hk)
   ·exact rfl
   ·exact rfl
   ·decide
   ·unfold maxLen;omega
   ·omega
   ·exact hJ.u.size
   intro bv5 w5 a1 a2 a3 a4
   have hJ := hJ.app (news := [UInt8.ofNat (ls k).length]) rfl a1 rfl hs9 a2 a4
   have z5 := a2.size
   clear a1 a2 a3 a4
   have hl3n : (l2 ++ txtE s ++ [UInt8.ofNat (ls k).length]).length ≤ l0.length + 204 := by rw [List.length_append,hl3m];simp only [List.length_cons,List.length_nil];omega
   generalize hl3 : l2 ++ txtE s ++ [UInt8.ofNat (ls k).length] = l3 at *
   have hbc5 : w5.cell? ⟨gb,ob + (k : Int).toNat,none⟩ = some (.slice ak (ls k).length ck) := hJ.u.cell (by rw [Int.toNat_natCast];exact hbox k _ ek) ky
   repeat' first | (apply Wl.loadO;exact rfl;exact rfl;exact hbc5;exact qd) | refine Wl.move rfl rfl ?_ | refine Wl.assign rfl rfl ?_ | refine Wl.fieldAddrZ rfl rfl ?_ | (apply Wl.loadH;exact rfl;exact rfl;exact kd;exact rfl) | refine Wl.len rfl rfl ?_ | (refine Wl.indexAddr1 rfl rfl rfl ?_ ?_;constructor <;> omega) | apply Wl.nil | apply St.seq | apply St.block | apply St.region | apply Gt.next
   have hlk := hlx k hlt
   have hdrop : ∀ (i : Nat) y,(ls k)[i]? = some y → letsE ((ls k).take (i + 1)) = letsE ((ls k).take i) ++ letE y := fun i y hy => by
    unfold letsE
    rw [List.take_add_one,hy]
    simp
   refine St.loop (σ := Nat × World × Value) (fun τ => τ.1 ≤ (ls k).length ∧ EnJ w1 τ.2.1 [c6,c3] τ.2.2 (l3 ++ letsE ((ls k).take τ.1)) ∧ (l3 ++ letsE ((ls k).take τ.1)).length ≤ l3.length + 19 * τ.1)
    (fun τ => [(0,.pointer (some ⟨I.m,0,none⟩)),(2,.slice none 0 0),(3,.pointer (some ⟨c3,0,none⟩)),(4,τ.2.2),(5,.int .i64 (k : Int)),(6,.pointer (some ⟨c6,0,none⟩)),(32,.slice (some ⟨gs,os,none⟩) M.L.length cs),(33,.int .i64 (M.L.length : Int)),(34,.int .i64 (k : Int)),(82,.slice ak (ls k).length ck),(83,.int .i64 ((ls k).length : Int)),(84,.int .i64 (τ.1 : Int))])
    (fun τ => Hp τ.2.1 [⟨c6,x.cells,44⟩,⟨c3,[.int .i64 (turnV M.t),.slice (some ⟨gs,os,none⟩) M.L.length cs,.slice (some ⟨gi,oi,none⟩) M.L.length ci,.slice (some ⟨gb,ob,none⟩) M.L.length cb,.slice al M.ll.length cl,.pointer (some ⟨cM,0,none⟩)],54⟩]) (fun τ => (ls k).length - τ.1) (0,_,_) ⟨Nat.zero_le _,by simpa [letsE] using hJ,by simp [letsE]⟩ kq (fun _ h => h) ?_
   clear hJ
   rintro ⟨i,wi,bvi⟩ ⟨hi,hJ,hin⟩
   try simp only at hi hJ hin ⊢
   by_cases hil : i < (ls k).length
   ·have hdi : decide ((i : Int) < ((ls k).length : Int)) = true := decide_eq_true kf
    obtain ⟨y,hy⟩ : ∃ y,(ls k)[i]? = some y := ⟨_,List.getElem?_eq_getElem hil⟩
    have hyb := hlk y (List.mem_of_getElem? hy)
    obtain ⟨gx,ox,rfl,hgx,hxc⟩ := svCells (Sv.ofOwn hvk) (fun h => by
     obtain ⟨y0,r0,e0⟩ := List.exists_cons_of_ne_nil (l := ls k) (fun e => by rw [e] at hil;simp at hil)
     rw [e0] at h
     simp [lineC] at h)
    have hay : ∀ q u,(lineC y)[q]? = some u → w1.cell? (Addr.add ⟨gx,ox + (i : Int).toNat * 2,none⟩ q) = some u := fun q u hq => by
     have hq2 : q < 2 := (List.getElem?_eq_some_iff.1 hq).1
     have := hxc (i * 2 + q) u zg
     rw [addLit,Int.toNat_natCast,Nat.add_assoc]
     exact this
    have hayk : ∀ {H : List Blk} {w' : World},Hp wi H w' → H.map Blk.b = [c6,c3] → ∀ q u,(lineC y)[q]? = some u → w'.cell? (Addr.add ⟨gx,ox + (i : Int).toNat * 2,none⟩ q) = some u := fun hq e q u hu => (hJ.hp hq e).u.cell (hay q u hu) (fun h => by rw [addLit] at h;simp only at h;omega)
    repeat' first | (apply Wl.loadAF (xs := lineC y);exact rfl;exact rfl;exact rfl;(intro w' h' q u hq';exact hayk h' rfl q u hq')) | refine Wl.lss rfl rfl rfl ?_ | (apply Wl.storeA;exact rfl;exact rfl;exact rfl;exact rfl;exact kd;exact kj) | (apply Wl.alloc;exact rfl;intro c hc ho) | (refine Wl.indexAddr rfl rfl rfl ?_ ?_;constructor <;> omega) | apply Wl.nil | apply St.seq | apply St.block | apply St.region | (apply St.condT;exact rfl;exact k5) | apply St.skip | apply Gt.next
    generalize c = c10 at *
    have hc10 : wi.heap.size ≤ c10 := by assumption
    have hJ := hJ.new hc10
    have hsA : ([.int .u8 y.1] : List Value) = byteCells [UInt8.ofNat y.1.toNat] := by
     simp only [byteCells,List.map_cons,List.map_nil,UInt8.toNat_ofNat',List.cons.injEq,and_true,Value.int.injEq,true_and]
     omega
    have hl0b : l0.length ≤ 10 + 300 * 16 := by omega
    generalize hl4 : l3 ++ letsE ((ls k).take i) = l4 at *
    refine St.tree (fun w' => w'.heap[c10]? = some (.cells (lineC y).toArray 78 (0,0))) mixed (fun _ h' => ⟨Hp.drew h',own_c (Hp.drew h').own (.head _)⟩) ?_
    refine Mt.pm 0 ?_
    refine Mt.pf 1 ?_
    refine Mt.pz 6 ?_
    refine Mt.pu 2 ?_
    apply Wl.loadF;exact rfl;exact rfl;(intro w' h';exact cell_of h' rfl);apply Wl.nilB
    refine Mt.pu 7 ?_
    apply Wl.loadF;exact rfl;exact rfl;(intro w' h';exact cell_of h' rfl);apply Wl.nilB
    refine Mt.pu 3 ?_
    refine Wl.convU8 rfl rfl ?_ ?_;constructor <;> omega;apply Wl.nilB
    refine Mt.e1 4 ?_
    repeat' first | (apply Wl.lit;exact rfl;exact kh;exact rfl;exact rfl;exact ke;intro c hc ho) | apply Wl.nil
    refine Mt.backE (fun _ h' => own_c h'.own (.tail _ (.head _))) ?_
    refine Mt.e1 5 ?_
    apply Wl.appendT (base := w1.heap.size) (n := l4.length) (m := 1) (sz := 1) (e := 5) (xs := byteCells l4)
    ·exact rfl
    ·exact rfl
    ·exact rfl
    ·assumption
    ·exact rfl
    ·exact hJ.row
    ·exact fun k hk => off_in (hJ.o k hk)
    ·exact rfl
    ·exact rfl
    ·decide
    ·unfold maxLen;omega
    ·omega
    ·exact hJ.u.size
    intro bv5 w5 a1 a2 a3 a4
    have hJ := hJ.app (news := [UInt8.ofNat y.1.toNat]) rfl a1 rfl hsA a2 a4
    have z5 := a2.size
    clear a1 a2 a3 a4
    have hl5n : (l4 ++ [UInt8.ofNat y.1.toNat]).length = l4.length + 1 := by simp
    apply Wl.nil
    refine Mt.backE (fun _ h' => own_c h'.own (.head _)) ?_
    refine Mt.e1 8 ?_
    apply Wl.callC
    ·exact rfl
    ·exact kd
    intro wq hq
    have hJ := hJ.hp hq rfl
    have zq := hJ.u.size
    refine (sText w1.heap.size _ _ y.2 wq hJ.row kf zd kf).mono ?_
    rintro e w2 ⟨bv2,rfl,r1,r2,r3⟩
    obtain ⟨hH,hD⟩ := hJ.hpc hq rfl r2
    have hJ := hJ.call hD r1 r2 r3
    refine ⟨_,_,rfl,hH,?_⟩
    clear hq r1 r2 r3 hH hD
    try simp only at hJ
    apply Wl.nil
    refine Mt.backE (fun _ h' => own_c h'.own (.head _)) ?_
    refine Mt.pu 9 ?_
    refine Wl.assign rfl rfl (Wl.nilB ?_)
    refine Mt.toGt ka ?_
    repeat' first | refine Wl.move rfl rfl ?_ | (refine Wl.addI rfl rfl rfl ?_ ?_;constructor <;> omega) | apply Wl.nil | apply St.region | apply Gt.next | apply Gt.inNormal
    refine Gt.reb (H' := [⟨c6,x.cells,44⟩,⟨c3,[.int .i64 (turnV M.t),.slice (some ⟨gs,os,none⟩) M.L.length cs,.slice (some ⟨gi,oi,none⟩) M.L.length ci,.slice (some ⟨gb,ob,none⟩) M.L.length cb,.slice al M.ll.length cl,.pointer (some ⟨cM,0,none⟩)],54⟩]) fun w6 h6 => ⟨h6.own.2,h6.apart.2,?_⟩
    have hJ := (hJ.hp h6 rfl).pop
    have el : l4 ++ [UInt8.ofNat y.1.toNat] ++ txtE y.2 = l3 ++ letsE ((ls k).take (i + 1)) := by rw [hdrop i y hy,← List.append_assoc,hl4];simp [letE]
    exact Gt.round (i + 1,w6,bv2) ⟨hil,(by rw [← el];exact hJ),(by rw [← el,List.length_append,hl5n,txtE_len];omega)⟩ ky kq (fun _ h => h)
   ·obtain rfl : i = (ls k).length := by omega
    have hdi : decide (((ls k).length : Int) < ((ls k).length : Int)) = false := decide_eq_false kf
    rw [List.take_length] at hJ hin
    have hbk' : (bxs ls M.L.length)[k]? = some (ls k) := by unfold bxs;rw [List.getElem?_map,List.getElem?_range hlt];rfl
    have er : l3 ++ letsE (ls k) = headE M.L.length (turnV M.t) ++ rowsE (M.L.take (k + 1)) (M.ins.take (k + 1)) ((bxs ls M.L.length).take (k + 1)) := by
     rw [List.take_add_one,List.take_add_one,List.take_add_one,hx,hs',hbk']
     simp only [Option.toList_some]
     rw [rowsE_snoc _ _ _ _ _ _ (by rw [List.length_take,List.length_take,hlen.2]) (by rw [List.length_take,List.length_take,hbl]),← List.append_assoc,hl0,← hl3,← hl2,← hl1]
     simp [rowE,staE]
    repeat' first | refine Wl.move rfl rfl ?_ | refine Wl.lss rfl rfl rfl ?_ | (refine Wl.addI rfl rfl rfl ?_ ?_;constructor <;> omega) | apply Wl.nil | apply St.seq | apply St.region | (apply St.condF;exact rfl;exact k5) | apply St.exit | apply Gt.next | apply Gt.thenExit | apply Gt.inNormal | apply Gt.inExit
    refine Gt.reb (H' := [⟨c3,[.int .i64 (turnV M.t),.slice (some ⟨gs,os,none⟩) M.L.length cs,.slice (some ⟨gi,oi,none⟩) M.L.length ci,.slice (some ⟨gb,ob,none⟩) M.L.length cb,.slice al M.ll.length cl,.pointer (some ⟨cM,0,none⟩)],54⟩]) fun w6 h6 => ⟨h6.own.2,h6.apart.2,?_⟩
    have hJ := (hJ.hp h6 rfl).pop
    exact Gt.round (k + 1,w6,bvi) ⟨hlt,(by rw [← er];exact hJ),(by rw [← er];omega)⟩ ky kq (fun _ h => h)
 ·have hke : k = M.L.length := by omega
  subst hke
  have hd : decide ((M.L.length : Int) < (M.L.length : Int)) = false := decide_eq_false kf
  have t1 : M.L.take M.L.length = M.L := List.take_length
  have t2 : M.ins.take M.L.length = M.ins := List.take_of_length_le (by rw [hlen.2];exact Nat.le_refl _)
  have t3 : (bxs ls M.L.length).take M.L.length = bxs ls M.L.length := List.take_of_length_le (by rw [hbl];exact Nat.le_refl _)
  rw [t1,t2,t3] at hl0
  repeat' first | refine Wl.move rfl rfl ?_ | refine Wl.fieldAddrZ rfl rfl ?_ | (apply Wl.loadH;exact rfl;exact rfl;exact kd;exact rfl) | refine Wl.lss rfl rfl rfl ?_ | refine Wl.len rfl rfl ?_ | apply Wl.nil | apply St.seq | apply St.region | (apply St.condF;exact rfl;exact k5) | apply St.exit | apply Gt.next | apply Gt.thenExit | apply Gt.inExit
  apply Wl.callC
  ·exact rfl
  ·exact kd
  intro wq hq
  have hJ := hJ.hp hq rfl
  have zq := hJ.u.size
  refine (p16X w1.heap.size _ _ (M.ll.length : Int) wq hJ.row kf zd).mono ?_
  rintro e w2 ⟨bv2,rfl,r1,r2,r3⟩
  obtain ⟨hH,hD⟩ := hJ.hpc hq rfl r2
  have hJ := hJ.call hD r1 r2 r3
  refine ⟨_,_,rfl,hH,?_⟩
  clear hq r1 r2 r3 hH hD
  try simp only at hJ
  have h16 : ((M.ll.length : Int) % 65536).toNat = M.ll.length := by omega
  rw [h16] at hJ
  have hl6n : (l0 ++ leB 2 M.ll.length).length = l0.length + 2 := by rw [List.length_append,leB_length]
  generalize hl6 : l0 ++ leB 2 M.ll.length = l6 at *
  repeat' first | refine Wl.move rfl rfl ?_ | refine Wl.assign rfl rfl ?_ | refine Wl.fieldAddrZ rfl rfl ?_ | (apply Wl.loadH;exact rfl;exact rfl;exact kd;exact rfl) | refine Wl.len rfl rfl ?_ | apply Wl.nil | apply St.seq | apply St.block | apply St.region | apply Gt.next
  have hdrop : ∀ (i : Nat) y,M.ll[i]? = some y → letsE (M.ll.take (i + 1)) = letsE (M.ll.take i) ++ letE y := fun i y hy => by
   unfold letsE
   rw [List.take_add_one,hy]
   simp
  refine St.loop (σ := Nat × World × Value) (fun τ => τ.1 ≤ M.ll.length ∧ EnJ w1 τ.2.1 [c3] τ.2.2 (l6 ++ letsE (M.ll.take τ.1)) ∧ (l6 ++ letsE (M.ll.take τ.1)).length ≤ l6.length + 67 * τ.1)
   (fun τ => [(0,.pointer (some ⟨I.m,0,none⟩)),(2,.slice none 0 0),(3,.pointer (some ⟨c3,0,none⟩)),(4,τ.2.2),(105,.slice al M.ll.length cl),(106,.int .i64 (M.ll.length : Int)),(107,.int .i64 (τ.1 : Int))])
   (fun τ => Hp τ.2.1 [⟨c3,[.int .i64 (turnV M.t),.slice (some ⟨gs,os,none⟩) M.L.length cs,.slice (some ⟨gi,oi,none⟩) M.L.length ci,.slice (some ⟨gb,ob,none⟩) M.L.length cb,.slice al M.ll.length cl,.pointer (some ⟨cM,0,none⟩)],54⟩]) (fun τ => M.ll.length - τ.1) (0,_,_) ⟨Nat.zero_le _,by simpa [letsE] using hJ,by simp [letsE]⟩ kq (fun _ h => h) ?_
  clear hJ
  rintro ⟨i,wi,bvi⟩ ⟨hi,hJ,hin⟩
  try simp only at hi hJ hin ⊢
  have g3 := hJ.d c3 za
  by_cases hil : i < M.ll.length
  ·have hdi : decide ((i : Int) < (M.ll.length : Int)) = true := decide_eq_true kf
   obtain ⟨y,hy⟩ : ∃ y,M.ll[i]? = some y := ⟨_,List.getElem?_eq_getElem hil⟩
   have hyb := hly y (List.mem_of_getElem? hy)
   obtain ⟨gx,ox,rfl,hgx,hxc⟩ := svCells (Sv.ofOwn hT.l) (fun h => by
    obtain ⟨y0,r0,e0⟩ := List.exists_cons_of_ne_nil (l := M.ll) (fun e => by rw [e] at hil;simp at hil)
    rw [e0] at h
    simp [lineC] at h)
   have hay : ∀ q u,(lineC y)[q]? = some u → w1.cell? (Addr.add ⟨gx,ox + (i : Int).toNat * 2,none⟩ q) = some u := fun q u hq => by
    have hq2 : q < 2 := (List.getElem?_eq_some_iff.1 hq).1
    have := hxc (i * 2 + q) u zg
    rw [addLit,Int.toNat_natCast,Nat.add_assoc]
    exact this
   have hayk : ∀ {H : List Blk} {w' : World},Hp wi H w' → H.map Blk.b = [c3] → ∀ q u,(lineC y)[q]? = some u → w'.cell? (Addr.add ⟨gx,ox + (i : Int).toNat * 2,none⟩ q) = some u := fun hq e q u hu => (hJ.hp hq e).u.cell (hay q u hu) (fun h => by rw [addLit] at h;simp only at h;omega)
   repeat' first | (apply Wl.loadAF (xs := lineC y);exact rfl;exact rfl;exact rfl;(intro w' h' q u hq';exact hayk h' rfl q u hq')) | refine Wl.lss rfl rfl rfl ?_ | (apply Wl.storeA;exact rfl;exact rfl;exact rfl;exact rfl;exact kd;exact kj) | (apply Wl.alloc;exact rfl;intro c hc ho) | (refine Wl.indexAddr rfl rfl rfl ?_ ?_;constructor <;> omega) | apply Wl.nil | apply St.seq | apply St.block | apply St.region | (apply St.condT;exact rfl;exact k5) | apply St.skip | apply Gt.next
   generalize c = c10 at *
   have hc10 : wi.heap.size ≤ c10 := by assumption
   have hJ := hJ.new hc10
   have hsA : ([.int .u8 y.1] : List Value) = byteCells [UInt8.ofNat y.1.toNat] := by
    simp only [byteCells,List.map_cons,List.map_nil,UInt8.toNat_ofNat',List.cons.injEq,and_true,Value.int.injEq,true_and]
    omega
   generalize hl4 : l6 ++ letsE (M.ll.take i) = l4 at *
   refine St.tree (fun w' => w'.heap[c10]? = some (.cells (lineC y).toArray 111 (0,0))) mixed (fun _ h' => ⟨Hp.drew h',own_c (Hp.drew h').own (.head _)⟩) ?_
   refine Mt.pm 0 ?_
   refine Mt.pf 1 ?_
   refine Mt.pz 6 ?_
   refine Mt.pu 2 ?_
   apply Wl.loadF;exact rfl;exact rfl;(intro w' h';exact cell_of h' rfl);apply Wl.nilB
   refine Mt.pu 7 ?_
   apply Wl.loadF;exact rfl;exact rfl;(intro w' h';exact cell_of h' rfl);apply Wl.nilB
   refine Mt.pu 3 ?_
   refine Wl.convU8 rfl rfl ?_ ?_;constructor <;> omega;apply Wl.nilB
   refine Mt.e1 4 ?_
   repeat' first | (apply Wl.lit;exact rfl;exact kh;exact rfl;exact rfl;exact ke;intro c hc ho) | apply Wl.nil
   refine Mt.backE (fun _ h' => own_c h'.own (.tail _ (.head _))) ?_
   refine Mt.e1 5 ?_
   apply Wl.appendT (base := w1.heap.size) (n := l4.length) (m := 1) (sz := 1) (e := 5) (xs := byteCells l4)
   ·exact rfl
   ·exact rfl
   ·exact rfl
   ·assumption
   ·exact rfl
   ·exact hJ.row
   ·exact fun k hk => off_in (hJ.o k hk)
   ·exact rfl
   ·exact rfl
   ·decide
   ·unfold maxLen;omega
   ·omega
   ·exact hJ.u.size
   intro bv5 w5 a1 a2 a3 a4
   have hJ := hJ.app (news := [UInt8.ofNat y.1.toNat]) rfl a1 rfl hsA a2 a4
   have z5 := a2.size
   clear a1 a2 a3 a4
   have hl5n : (l4 ++ [UInt8.ofNat y.1.toNat]).length = l4.length + 1 := by simp
   apply Wl.nil
   refine Mt.backE (fun _ h' => own_c h'.own (.head _)) ?_
   refine Mt.e1 8 ?_
   apply Wl.callC
   ·exact rfl
   ·exact kd
   intro wq hq
   have hJ := hJ.hp hq rfl
   have zq := hJ.u.size
   refine (sText w1.heap.size _ _ y.2 wq hJ.row kf zd kf).mono ?_
   rintro e w2 ⟨bv2,rfl,r1,r2,r3⟩
   obtain ⟨hH,hD⟩ := hJ.hpc hq rfl r2
   have hJ := hJ.call hD r1 r2 r3
   refine ⟨_,_,rfl,hH,?_⟩
   clear hq r1 r2 r3 hH hD
   try simp only at hJ
   apply Wl.nil
   refine Mt.backE (fun _ h' => own_c h'.own (.head _)) ?_
   refine Mt.pu 9 ?_
   refine Wl.assign rfl rfl (Wl.nilB ?_)
   refine Mt.toGt ka ?_
   repeat' first | refine Wl.move rfl rfl ?_ | (refine Wl.addI rfl rfl rfl ?_ ?_;constructor <;> omega) | apply Wl.nil | apply St.region | apply Gt.next | apply Gt.inNormal
   refine Gt.reb (H' := [⟨c3,[.int .i64 (turnV M.t),.slice (some ⟨gs,os,none⟩) M.L.length cs,.slice (some ⟨gi,oi,none⟩) M.L.length ci,.slice (some ⟨gb,ob,none⟩) M.L.length cb,.slice (some ⟨gx,ox,none⟩) M.ll.length cl,.pointer (some ⟨cM,0,none⟩)],54⟩]) fun w6 h6 => ⟨h6.own.2,h6.apart.2,?_⟩
   have hJ := (hJ.hp h6 rfl).pop
   have el : l4 ++ [UInt8.ofNat y.1.toNat] ++ txtE y.2 = l6 ++ letsE (M.ll.take (i + 1)) := by rw [hdrop i y hy,← List.append_assoc,hl4];simp [letE]
   exact Gt.round (i + 1,w6,bv2) ⟨hil,(by rw [← el];exact hJ),(by rw [← el,List.length_append,hl5n,txtE_len];omega)⟩ ky kq (fun _ h => h)
  ·have hie : i = M.ll.length := by omega
   subst hie
   have hdi : decide ((M.ll.length : Int) < (M.ll.length : Int)) = false := decide_eq_false kf
   rw [List.take_length] at hJ hin
   repeat' first | refine Wl.fieldAddrZ rfl rfl ?_ | (apply Wl.loadH;exact rfl;exact rfl;exact kd;exact rfl) | refine Wl.lss rfl rfl rfl ?_ | apply Wl.nil | apply St.seq | apply St.region | (apply St.condF;exact rfl;exact k5) | apply St.exit | apply Gt.next | apply Gt.thenExit | apply Gt.inExit
   apply Wl.callC
   ·exact rfl
   ·exact kd
   intro wq hq
   have hJ := hJ.hp hq rfl
   have lq3 : c3 < wq.heap.size := lt_of_block (own_c hq.own (.head _))
   have zq := hJ.u.size
   have lcM := lt_of_block hT.m
   have hmq : memH wq cM M.f := hJ.u.heap hT.m fun h => by omega
   refine (mgetX cM M.f (2147483648) 65536 wq hmq hFB ⟨by omega,by omega⟩ ⟨by omega,by omega⟩ (by unfold inM;omega)).mono ?_
   rintro e w2 ⟨vm,rfl,hvm,hvo,um⟩
   have zm := um.size
   have hH : Hp w2 _ w2 := ⟨Upd.refl _ _,hq.own.upd um zp,hq.apart⟩
   have hrl : ∀ k,bvi.ownBlock = some k → k < wq.heap.size := fun k hk => (hJ.row.lt k hk).2
   have hJ : EnJ w1 w2 [c3] bvi (l6 ++ letsE M.ll) := ⟨hJ.u.comp um fun k _ h => h.elim id fun h => by omega,hJ.row.upd um fun k hk h => by have := (hJ.row.lt k hk).2;omega,hJ.o,hJ.d⟩
   refine ⟨_,_,rfl,hH,?_⟩
   clear hq hH
   have em : memL M.f ((2147483648 : Int) - 2147483648).toNat (65536 : Int).toNat = memL M.f 0 65536 := rfl
   rw [em] at hvm
   generalize hr0 : memL M.f 0 65536 = r0 at *
   have hr0n : r0.length = 65536 := by rw [← hr0,memL_len]
   have hvl : ∀ k,vm.ownBlock = some k → k < w2.heap.size := by
    obtain ⟨a,cap,rfl,_,_⟩ := hvm.shape
    obtain ⟨b,off,rfl,hc⟩ := hvm.cells (fun e => by rw [e] at hr0n;simp at hr0n)
    intro k hk
    have := World.block_lt_of_cell? w2 _ (hc 0 kf)
    cases hk
    exact this
   have h0c : 1 < w.heap.size := hK.lt ku
   have zw := u1.size
   have hK1 := hK.upd u1 (fun h => h.elim (fun h => hKI _ h rfl) fun h => by omega)
   repeat' first | refine Wl.move rfl rfl ?_ | refine Wl.assign rfl rfl ?_ | refine Wl.extract rfl rfl rfl ?_ | apply Wl.nil | apply St.seq | apply St.region | apply Gt.next
   apply Wl.callC
   ·exact rfl
   ·exact kd
   intro wq2 hq2
   have zq2 := hq2.upd.size
   have hJ := hJ.hp hq2 rfl
   have k3 : ∀ {cs t} (k : Nat),¬ Off [(⟨c3,cs,t⟩ : Blk)] k → k = c3 := fun k y => by have := in_off y;simpa using this
   refine (sPack w1.heap.size bvi vm _ r0 wq2 hJ.row kf (hvm.upd hq2.upd fun k hk _ _ y => by have := k3 k y;have := hvo k hk;omega) (fun k hk e => by have := hrl k hk;have := hvo k e;omega) kf kf (fun k hk => by have := hvl k hk;omega) (hK1.upd hJ.u fun h => by omega) kf).mono ?_
   rintro e w4 ⟨v4,rfl,hb4,u4⟩
   have hH : Hp w4 _ w4 := ⟨Upd.refl _ _,hq2.own.upd u4 (fun x hx hk => hJ.o _ hk (by simp only [List.mem_cons,List.not_mem_nil,or_false] at hx;subst hx;simp)),hq2.apart⟩
   have n4 := row_neB hb4 (own_c hH.own (.head _)) ku
   refine ⟨_,_,rfl,hH,?_⟩
   clear hq2 hH
   repeat' first | refine Wl.assign rfl rfl ?_ | apply Wl.nil | apply St.ret | apply Gt.next | (apply Gt.out1;exact rfl;exact rfl;intro w' hp)
   have U : Upd (fun k => w1.heap.size ≤ k) w1 w' := (hJ.u.comp u4 (T := fun k => w1.heap.size ≤ k) fun k _ h => h.elim id fun h => hJ.row.base h).comp hp.upd fun k _ h => h.elim id fun y => by have := k3 k y;omega
   have eb : l6 ++ letsE M.ll ++ runsE r0.length r0 = bodyE M.L.length (turnV M.t) M.L M.ins (bxs ls M.L.length) M.ll M.f := by
    unfold bodyE linesE
    rw [hr0,hr0n,← hl6,← hl0]
    simp only [List.append_assoc]
   rw [eb] at hb4
   refine ⟨v4,rfl,World.ownsRow.baseLe (hb4.upd hp.upd fun k hk y => n4 k hk (k3 k y)) zw,hM1.new U (Nat.le_refl _),u1.comp U fun k _ h => h.elim id fun h => .inr kf⟩
abbrev cok (l : List UInt8) : Cu := ⟨l,false⟩
theorem take_app (l m : List UInt8) (n : Int) (h : n = l.length) : (cok (l ++ m)).take n = (l,cok m) := by
 unfold Cu.take
 rw [cTake_app l m n h]
theorem u_app (l m : List UInt8) (n : Nat) (h : n = l.length) : (cok (l ++ m)).u n = (leN l,cok m) := by
 unfold Cu.u
 rw [take_app l m n (by rw [h])]
theorem u_leB (k x : Nat) (m : List UInt8) (hx : x < 256 ^ k) : (cok (leB k x ++ m)).u k = (x,cok m) := by
 rw [u_app _ _ _ (leB_length k x).symm,leN_leB,Nat.mod_eq_of_lt hx]
theorem u_one (b : UInt8) (m : List UInt8) : (cok (b :: m)).u 1 = (b.toNat,cok m) := by
 have := u_app [b] m 1 rfl
 simpa [leN] using this
theorem get_txt (s m : List UInt8) (most : Nat) (h : s.length ≤ most) (h2 : s.length < 65536) : getC (cok (txtE s ++ m)) most = ((s,true),cok m) := by
 have e : (cok (txtE s ++ m)).u 2 = (s.length,cok (s ++ m)) := by
  unfold txtE
  rw [List.append_assoc]
  exact u_leB 2 _ _ kf
 unfold getC
 rw [e]
 simp only
 rw [if_neg kf,take_app s m _ rfl]
 rfl
def regsE (xs : List Value) : List UInt8 := (xs.map fun v => leB 4 (wordV v)).flatten
theorem regs_back (m : List UInt8) : ∀ (xs : List Value) (k : Nat),k ≤ xs.length → (∀ v ∈ xs,wordV v < 4294967296) → regsC (cok (regsE xs ++ m)) k = ((xs.take k).map wordV,cok (regsE (xs.drop k) ++ m))
 | xs,0,_,_ => by simp [regsC]
 | xs,k + 1,hk,hw => by
  unfold regsC
  rw [regs_back m xs k kf hw]
  obtain ⟨v,hv⟩ : ∃ v,xs[k]? = some v := ⟨_,List.getElem?_eq_getElem kf⟩
  have hlt : k < xs.length := by omega
  have e : xs.drop k = v :: xs.drop (k + 1) := by rw [List.drop_eq_getElem_cons hlt];rw [List.getElem?_eq_getElem hlt] at hv;cases hv;rfl
  simp only
  rw [e]
  have e2 : regsE (v :: xs.drop (k + 1)) ++ m = leB 4 (wordV v) ++ (regsE (xs.drop (k + 1)) ++ m) := by simp [regsE]
  rw [e2,u_leB 4 _ _ (hw v (List.mem_of_getElem? hv)),List.take_add_one,hv]
  simp
theorem regV_back {xs : List Value} (h : Rg xs) : regV (xs.map wordV) = xs ∧ ∀ v ∈ xs,wordV v < 4294967296 := by
 have key : ∀ v ∈ xs,(.int .u32 ((wordV v : Nat) : Int) : Value) = v ∧ wordV v < 4294967296 := fun v hv => by
  obtain ⟨i,hi,rfl⟩ := List.mem_iff_getElem.1 hv
  obtain ⟨z,hz,h0,h1⟩ := h.2 i (by rw [← h.1];exact hi)
  rw [List.getElem?_eq_getElem hi] at hz
  cases hz' : xs[i] with
  | int k n =>
   rw [hz'] at hz
   cases hz
   simp only [wordV]
   exact ⟨by rw [Int.toNat_of_nonneg h0],by omega⟩
  | _ => rw [hz'] at hz;cases hz
 refine ⟨?_,fun v hv => (key v hv).2⟩
 unfold regV
 rw [List.map_map]
 conv => rhs;rw [← List.map_id xs]
 exact List.map_congr_left fun v hv => (key v hv).1
def StaFit (x : Sta) : Prop := StaOk x ∧ 0 ≤ x.s ∧ x.s < 256
theorem sta_back {x : Sta} (h : StaFit x) (m : List UInt8) : staC (cok (staE x ++ m)) = x ∧ cuD (cok (staE x ++ m)) = cok m := by
 obtain ⟨⟨hr,hc,hp⟩,hs0,hs1⟩ := h
 obtain ⟨r1,r2⟩ := regV_back hr
 have e0 : staE x ++ m = UInt8.ofNat x.s.toNat :: (leB 4 x.c.toNat ++ (leB 4 x.p.toNat ++ (regsE x.xs ++ m))) := by simp [staE,regsE]
 have hA : (cok (staE x ++ m)).u 1 = (x.s.toNat,cok (leB 4 x.c.toNat ++ (leB 4 x.p.toNat ++ (regsE x.xs ++ m)))) := by
  rw [e0,u_one,UInt8.toNat_ofNat',Nat.mod_eq_of_lt kf]
 have eA : cuA (cok (staE x ++ m)) = cok (leB 4 x.c.toNat ++ (leB 4 x.p.toNat ++ (regsE x.xs ++ m))) := by unfold cuA;rw [hA]
 have hB : (cuA (cok (staE x ++ m))).u 4 = (x.c.toNat,cok (leB 4 x.p.toNat ++ (regsE x.xs ++ m))) := by rw [eA,u_leB 4 _ _ kf]
 have eB : cuB (cok (staE x ++ m)) = cok (leB 4 x.p.toNat ++ (regsE x.xs ++ m)) := by unfold cuB;rw [hB]
 have hC : (cuB (cok (staE x ++ m))).u 4 = (x.p.toNat,cok (regsE x.xs ++ m)) := by rw [eB,u_leB 4 _ _ kf]
 have eC : cuC (cok (staE x ++ m)) = cok (regsE x.xs ++ m) := by unfold cuC;rw [hC]
 have hD := regs_back m x.xs 32 (by rw [hr.1];exact Nat.le_refl _) r2
 have hxt : x.xs.take 32 = x.xs := List.take_of_length_le (by rw [hr.1];exact Nat.le_refl _)
 have hxd : x.xs.drop 32 = [] := List.drop_of_length_le (by rw [hr.1];exact Nat.le_refl _)
 rw [hxt,hxd] at hD
 constructor
 ·unfold staC
  rw [hA,hB,hC,eC,hD]
  simp only
  rw [r1,Int.toNat_of_nonneg hs0,Int.toNat_of_nonneg hc.1,Int.toNat_of_nonneg hp.1]
 ·unfold cuD
  rw [eC,hD]
  simp [regsE]
def LetFit (n m : Nat) (l : List (Int × List UInt8)) : Prop := ∀ x ∈ l,(0 ≤ x.1 ∧ x.1 < n) ∧ x.2 ≠ [] ∧ x.2.length ≤ m
theorem let_u {n : Nat} (hn : n ≤ 256) {y : Int × List UInt8} (h : 0 ≤ y.1 ∧ y.1 < n) (m : List UInt8) : (cok (letE y ++ m)).u 1 = (y.1.toNat,cok (txtE y.2 ++ m)) := by
 unfold letE
 rw [List.cons_append,u_one,UInt8.toNat_ofNat',Nat.mod_eq_of_lt kf]
theorem box_back {n : Nat} (hn : n ≤ 256) (m : List UInt8) : ∀ (l b : List (Int × List UInt8)),LetFit n 16 l → boxC n l.length b (cok (letsE l ++ m)) = some (b ++ l,cok m)
 | [],b,_ => by simp [boxC,letsE]
 | y :: l,b,h => by
  obtain ⟨h1,h2,h3⟩ := h y (.head _)
  have e : letsE (y :: l) ++ m = letE y ++ (letsE l ++ m) := by simp [letsE]
  have hu := let_u hn h1 (letsE l ++ m)
  rw [List.length_cons,e]
  have hg : getC ((cok (letE y ++ (letsE l ++ m))).u 1).2 16 = ((y.2,true),cok (letsE l ++ m)) := by rw [hu];exact get_txt _ _ _ h3 kf
  rw [boxC_so hg ⟨by rw [hu];simp only;omega,h2⟩,hu]
  have hy : ((y.1.toNat : Int),y.2) = y := by rw [Int.toNat_of_nonneg h1.1]
  simp only
  rw [hy,box_back hn m l _ fun x hx => h x (.tail _ hx)]
  simp
theorem row_back {n : Nat} (hn : n ≤ 256) {x : Sta} {s : List UInt8} {l : List (Int × List UInt8)} (hx : StaFit x) (hs : s.length ≤ 64) (hl : l.length ≤ 4) (hf : LetFit n 16 l) (m : List UInt8) : rowC n (cok (rowE x s l ++ m)) = some ((x,s,l),cok m) := by
 have e : rowE x s l ++ m = staE x ++ (txtE s ++ (UInt8.ofNat l.length :: (letsE l ++ m))) := by simp [rowE]
 obtain ⟨h1,h2⟩ := sta_back hx (txtE s ++ (UInt8.ofNat l.length :: (letsE l ++ m)))
 have hg : getC (cuD (cok (rowE x s l ++ m))) 64 = ((s,true),cok (UInt8.ofNat l.length :: (letsE l ++ m))) := by rw [e,h2];exact get_txt _ _ _ hs kf
 have hu : (cok (UInt8.ofNat l.length :: (letsE l ++ m))).u 1 = (l.length,cok (letsE l ++ m)) := by rw [u_one,UInt8.toNat_ofNat',Nat.mod_eq_of_lt kf]
 rw [rowC_bx hg (by rw [hu];exact hl),hu]
 simp only
 rw [box_back hn m l [] hf]
 simp only [List.nil_append]
 rw [e,h1]
theorem rows_back {n : Nat} (hn : n ≤ 256) (m : List UInt8) : ∀ (L : List Sta) (ins : List (List UInt8)) (bx : List (List (Int × List UInt8))) (r : Rws),ins.length = L.length → bx.length = L.length → (∀ x ∈ L,StaFit x) → (∀ s ∈ ins,s.length ≤ 64) → (∀ l ∈ bx,l.length ≤ 4 ∧ LetFit n 16 l) →
  rowsC n L.length r (cok (rowsE L ins bx ++ m)) = some (⟨r.L ++ L,r.ins ++ ins,r.bx ++ bx⟩,cok m)
 | [],[],[],r,_,_,_,_,_ => by
  have e : rowsC n ([] : List Sta).length r (cok (rowsE [] [] [] ++ m)) = some (r,cok (rowsE [] [] [] ++ m)) := rfl
  rw [e]
  simp [rowsE]
 | x :: L,s :: ins,l :: bx,r,h1,h2,h3,h4,h5 => by
  have e : rowsE (x :: L) (s :: ins) (l :: bx) ++ m = rowE x s l ++ (rowsE L ins bx ++ m) := by simp [rowsE]
  obtain ⟨h6,h7⟩ := h5 l (.head _)
  rw [List.length_cons,e,rowsC_so (row_back hn (h3 x (.head _)) (h4 s (.head _)) h6 h7 _)]
  simp only
  rw [rows_back hn m L ins bx _ (by simpa using h1) (by simpa using h2) (fun y hy => h3 y (.tail _ hy)) (fun y hy => h4 y (.tail _ hy)) fun y hy => h5 y (.tail _ hy)]
  simp
def usedN : List (Int × List UInt8) → Nat
 | [] => 0
 | y :: l => y.2.length + usedN l
theorem lin_back {n : Nat} (hn : n ≤ 256) (m : List UInt8) : ∀ (l b : List (Int × List UInt8)) (u : Nat),LetFit n 64 l → u + usedN l ≤ 256 → linC n l.length u b (cok (letsE l ++ m)) = some (b ++ l,cok m)
 | [],b,u,_,_ => by simp [linC,letsE]
 | y :: l,b,u,h,hu' => by
  obtain ⟨h1,h2,h3⟩ := h y (.head _)
  have e : letsE (y :: l) ++ m = letE y ++ (letsE l ++ m) := by simp [letsE]
  have hu := let_u hn h1 (letsE l ++ m)
  have hN : usedN (y :: l) = y.2.length + usedN l := rfl
  rw [List.length_cons,e]
  have hg : getC ((cok (letE y ++ (letsE l ++ m))).u 1).2 64 = ((y.2,true),cok (letsE l ++ m)) := by rw [hu];exact get_txt _ _ _ h3 kf
  rw [linC_so hg ⟨by rw [hu];simp only;omega,h2,by omega⟩,hu]
  have hy : ((y.1.toNat : Int),y.2) = y := by rw [Int.toNat_of_nonneg h1.1]
  simp only
  rw [hy,lin_back hn m l _ _ (fun x hx => h x (.tail _ hx)) kf]
  simp
theorem tw_get {p : UInt8 → Bool} : ∀ (r : List UInt8) (j : Nat),j < (r.takeWhile p).length → ∃ c,r[j]? = some c ∧ p c = true
 | [],j,h => by simp at h
 | c :: r,j,h => by
  by_cases hc : p c = true
  ·simp only [List.takeWhile,hc,List.length_cons] at h
   cases j with
   | zero => exact ⟨c,rfl,hc⟩
   | succ j => exact tw_get r j kf
  ·have : p c = false := by simpa using hc
   simp [List.takeWhile,this] at h
theorem unp_eq (m at_ : Nat) (f : Nat → Int) (c : Cu) (h : at_ < 65536) (h1 : (c.u 4).1 ≤ 65536 - at_ ∧ ((c.u 4).2.u 4).1 ≤ 65536 - at_ - (c.u 4).1 ∧ ((c.u 4).2.u 4).2.bad = false ∧ (c.u 4).1 + ((c.u 4).2.u 4).1 ≠ 0) (h2 : (((c.u 4).2.u 4).2.take (((c.u 4).2.u 4).1 : Int)).2.bad = false) :
  unpC (m + 1) at_ f c = unpC m (at_ + (c.u 4).1 + ((c.u 4).2.u 4).1) (putF f (at_ + (c.u 4).1) (((c.u 4).2.u 4).2.take (((c.u 4).2.u 4).1 : Int)).1) (((c.u 4).2.u 4).2.take (((c.u 4).2.u 4).1 : Int)).2 := by
 conv => lhs;unfold unpC
 rw [if_pos h,if_pos h1,if_pos h2]
theorem unp_back (tl : List UInt8) : ∀ (m1 m2 : Nat) (r : List UInt8) (at_ : Nat) (f : Nat → Int),r.length ≤ m1 → r.length ≤ m2 → at_ + r.length = 65536 → (∀ j,at_ ≤ j → f j = 0) →
  ∃ f',unpC m1 at_ f (cok (runsE m2 r ++ tl)) = some (f',cok tl) ∧ (∀ j,j < at_ → f' j = f j) ∧ ∀ (j : Nat) c,r[j]? = some c → f' (at_ + j) = (c.toNat : Int) := by
 intro m1
 induction m1 with
 | zero =>
  intro m2 r at_ f h1 h2 h3 h4
  have hr : r = [] := List.length_eq_zero_iff.1 kf
  subst hr
  refine ⟨f,?_,fun _ _ => rfl,fun j c h => by simp at h⟩
  have e : runsE m2 [] = [] := by cases m2 <;> simp [runsE]
  rw [e]
  unfold unpC
  rw [if_neg (by simp at h3;omega)]
  rfl
 | succ m1 ih =>
  intro m2 r at_ f h1 h2 h3 h4
  by_cases hr : r = []
  ·subst hr
   refine ⟨f,?_,fun _ _ => rfl,fun j c h => by simp at h⟩
   have e : runsE m2 [] = [] := by cases m2 <;> simp [runsE]
   rw [e]
   unfold unpC
   rw [if_neg (by simp at h3;omega)]
   rfl
  ·have hrl : 0 < r.length := List.length_pos_iff.2 hr
   obtain ⟨m2,rfl⟩ : ∃ m,m2 = m + 1 := ⟨m2 - 1,by omega⟩
   have hp := run_pos hr
   have hz := tw_le (fun c : UInt8 => decide (c = 0)) r
   change zN r ≤ r.length at hz
   have hk := tw_le (fun c : UInt8 => decide (c ≠ 0)) (r.drop (zN r))
   change nN (r.drop (zN r)) ≤ (r.drop (zN r)).length at hk
   rw [List.length_drop] at hk
   have hzz : ∀ j,j < zN r → r[j]? = some 0 := fun j hj => by
    obtain ⟨c,hc,hc0⟩ := tw_get (p := fun c : UInt8 => decide (c = 0)) r j hj
    rw [hc]
    simp at hc0
    rw [hc0]
   have e1 : runsE (m2 + 1) r = leB 4 (zN r) ++ leB 4 (nN (r.drop (zN r))) ++ (r.drop (zN r)).take (nN (r.drop (zN r))) ++ runsE m2 (r.drop (zN r + nN (r.drop (zN r)))) := by
    conv => lhs;unfold runsE
    rw [if_neg hr]
   generalize zN r = z at *
   generalize nN (r.drop z) = k at *
   have hpl : ((r.drop z).take k).length = k := by rw [List.length_take,List.length_drop];omega
   have hu1 : (cok (runsE (m2 + 1) r ++ tl)).u 4 = (z,cok (leB 4 k ++ ((r.drop z).take k ++ (runsE m2 (r.drop (z + k)) ++ tl)))) := by
    rw [e1]
    simp only [List.append_assoc]
    exact u_leB 4 _ _ kf
   have hu2 : (cok (leB 4 k ++ ((r.drop z).take k ++ (runsE m2 (r.drop (z + k)) ++ tl)))).u 4 = (k,cok ((r.drop z).take k ++ (runsE m2 (r.drop (z + k)) ++ tl))) := u_leB 4 _ _ kf
   have ht : (cok ((r.drop z).take k ++ (runsE m2 (r.drop (z + k)) ++ tl))).take (k : Int) = ((r.drop z).take k,cok (runsE m2 (r.drop (z + k)) ++ tl)) := take_app _ _ _ (by rw [hpl])
   have hst := unp_eq m1 at_ f (cok (runsE (m2 + 1) r ++ tl)) kf (by rw [hu1];simp only;rw [hu2];exact ⟨by (try simp only);omega,by (try simp only);omega,rfl,by (try simp only);omega⟩) (by rw [hu1];simp only;rw [hu2];simp only;rw [ht])
   rw [hu1] at hst
   simp only at hst
   rw [hu2] at hst
   simp only at hst
   rw [ht] at hst
   simp only at hst
   have hfa : ∀ j,¬ (at_ + z ≤ j ∧ j < at_ + z + k) → putF f (at_ + z) ((r.drop z).take k) j = f j := fun j hj => by
    unfold putF
    by_cases h5 : at_ + z ≤ j
    ·rw [if_pos h5,List.getElem?_eq_none (by rw [hpl];omega)]
    ·rw [if_neg h5]
   have hfb : ∀ j (c : UInt8),at_ + z ≤ j → ((r.drop z).take k)[j - (at_ + z)]? = some c → putF f (at_ + z) ((r.drop z).take k) j = (c.toNat : Int) := fun j c h5 hc => by
    unfold putF
    rw [if_pos h5,hc]
   obtain ⟨f',g1,g2,g3⟩ := ih m2 (r.drop (z + k)) (at_ + z + k) (putF f (at_ + z) ((r.drop z).take k)) (by rw [List.length_drop];omega) (by rw [List.length_drop];omega) (by rw [List.length_drop];omega) (fun j hj => by rw [hfa _ kf];exact h4 j kf)
   refine ⟨f',by rw [hst];exact g1,fun j hj => by rw [g2 j kf,hfa _ kf],fun j c hj => ?_⟩
   by_cases h5 : j < z
   ·have := hzz j h5
    rw [hj] at this
    cases this
    rw [g2 _ kf,hfa _ kf,h4 _ kf]
    rfl
   ·by_cases h6 : j < z + k
    ·rw [g2 _ kf]
     exact hfb _ _ kf (by rw [List.getElem?_take_of_lt kf,List.getElem?_drop,show z + (at_ + j - (at_ + z)) = j by omega,hj])
    ·have := g3 (j - (z + k)) c (by rw [List.getElem?_drop,show z + k + (j - (z + k)) = j by omega];exact hj)
     rw [show at_ + z + k + (j - (z + k)) = at_ + j by omega] at this
     exact this
structure SnFit (n : Nat) (t : Int) (L : List Sta) (ins : List (List UInt8)) (bx : List (List (Int × List UInt8))) (ll : List (Int × List UInt8)) (f : Nat → Int) : Prop where
 hn : L.length = n ∧ n ≤ 255
 ht : t = -1 ∨ (0 ≤ t ∧ t < 255)
 hL : ∀ x ∈ L,StaFit x
 hi : ins.length = n ∧ ∀ s ∈ ins,s.length ≤ 64
 hb : bx.length = n ∧ ∀ l ∈ bx,l.length ≤ 4 ∧ LetFit n 16 l
 hl : LetFit n 64 ll ∧ usedN ll ≤ 256 ∧ ll.length ≤ 1000
 hf : FB f
section
variable {n : Nat} {t : Int} {L : List Sta} {ins : List (List UInt8)} {bx : List (List (Int × List UInt8))} {ll : List (Int × List UInt8)} {f : Nat → Int}
theorem body_split : bodyE n t L ins bx ll f = magL ++ (UInt8.ofNat n :: turnE t :: (rowsE L ins bx ++ (linesE ll ++ runsE 65536 (memL f 0 65536)))) := by
 simp [bodyE,headE]
theorem turn_back (h : t = -1 ∨ (0 ≤ t ∧ t < 255)) : turnC (turnE t).toNat = t := by
 unfold turnC turnE
 rcases h with rfl | h
 ·rfl
 ·have e : (if t < 0 then 255 else t.toNat) = t.toNat := if_neg kf
  have e2 : (UInt8.ofNat t.toNat).toNat = t.toNat := by rw [UInt8.toNat_ofNat',Nat.mod_eq_of_lt kf]
  rw [e,e2,if_neg kf]
  omega
theorem state_back (h : SnFit n t L ins bx ll f) : ∃ f',stateC n (cok (UInt8.ofNat n :: turnE t :: (rowsE L ins bx ++ (linesE ll ++ runsE 65536 (memL f 0 65536))))) = some ⟨t,⟨L,ins,bx⟩,ll,f'⟩ ∧ ∀ j,j < 65536 → f' j = f j := by
 obtain ⟨⟨h1,h1'⟩,h2,h3,⟨h4,h4'⟩,⟨h5,h5'⟩,⟨h6,h7,h7'⟩,h8⟩ := h
 obtain ⟨f',g1,_,g3⟩ := unp_back [] 65536 65536 (memL f 0 65536) 0 (fun _ => 0) (by rw [memL_len];exact Nat.le_refl _) (by rw [memL_len];exact Nat.le_refl _) (by rw [memL_len]) (fun _ _ => rfl)
 rw [List.append_nil] at g1
 refine ⟨f',?_,fun j hj => ?_⟩
 ·have e1 : (cok (UInt8.ofNat n :: turnE t :: (rowsE L ins bx ++ (linesE ll ++ runsE 65536 (memL f 0 65536))))).u 1 = (n,cok (turnE t :: (rowsE L ins bx ++ (linesE ll ++ runsE 65536 (memL f 0 65536))))) := by
   rw [u_one,UInt8.toNat_ofNat',Nat.mod_eq_of_lt kf]
  have e2 : (cok (turnE t :: (rowsE L ins bx ++ (linesE ll ++ runsE 65536 (memL f 0 65536))))).u 1 = ((turnE t).toNat,cok (rowsE L ins bx ++ (linesE ll ++ runsE 65536 (memL f 0 65536)))) := u_one _ _
  have e3 := rows_back (n := n) kf (linesE ll ++ runsE 65536 (memL f 0 65536)) L ins bx ⟨[],[],[]⟩ (by rw [h4,h1]) (by rw [h5,h1]) h3 h4' h5'
  rw [h1] at e3
  simp only [List.nil_append] at e3
  have e4 : (cok (linesE ll ++ runsE 65536 (memL f 0 65536))).u 2 = (ll.length,cok (letsE ll ++ runsE 65536 (memL f 0 65536))) := by
   unfold linesE
   rw [List.append_assoc]
   exact u_leB 2 _ _ kf
  have e5 := lin_back (n := n) kf (runsE 65536 (memL f 0 65536)) ll [] 0 h6 kf
  rw [List.nil_append] at e5
  unfold stateC
  rw [e1]
  show (if n = n then _ else none) = _
  rw [if_pos rfl,e2]
  simp only
  rw [e3,turn_back h2]
  simp only
  unfold tailC
  rw [e4]
  simp only
  rw [e5]
  simp only
  rw [g1]
  rfl
 ·have := g3 j (UInt8.ofNat (f (0 + j)).toNat) (by unfold memL;rw [List.getElem?_map,List.getElem?_range hj];rfl)
  rw [Nat.zero_add] at this
  rw [this]
  have := h8 j
  rw [UInt8.toNat_ofNat',Nat.mod_eq_of_lt kf]
  omega
theorem state_other {n' : Nat} (hn : n ≤ 255) (h : n' ≠ n) (r : List UInt8) : stateC n' (cok (UInt8.ofNat n :: r)) = none := by
 unfold stateC
 rw [u_one,UInt8.toNat_ofNat',Nat.mod_eq_of_lt kf]
 exact if_neg fun e => h e.symm
theorem dec_enc {n' : Nat} : decC n' (encE n t L ins bx ll f) = stateC n' (cok (UInt8.ofNat n :: turnE t :: (rowsE L ins bx ++ (linesE ll ++ runsE 65536 (memL f 0 65536))))) := by
 have hd : (digE (bodyE n t L ins bx ll f)).length = 32 := by simp [digE]
 have e1 : (encE n t L ins bx ll f).length - 32 = (bodyE n t L ins bx ll f).length := by unfold encE;rw [List.length_append,hd];omega
 have e2 : (encE n t L ins bx ll f).take (bodyE n t L ins bx ll f).length = bodyE n t L ins bx ll f := by unfold encE;exact List.take_left
 have e3 : (encE n t L ins bx ll f).drop (bodyE n t L ins bx ll f).length = digE (bodyE n t L ins bx ll f) := by unfold encE;exact List.drop_left
 have e4 : (cok (bodyE n t L ins bx ll f)).take 8 = (magL,cok (UInt8.ofNat n :: turnE t :: (rowsE L ins bx ++ (linesE ll ++ runsE 65536 (memL f 0 65536))))) := by
  rw [body_split]
  exact take_app magL _ 8 rfl
 unfold decC
 rw [if_neg (by unfold encE;rw [List.length_append,hd];omega),e1,e2,e3,if_neg (fun h => h rfl),e4,if_neg (fun h => h rfl)]
end
end Go.Proofs.YtabbklpalbikdaaGreatDoor
end
