/-
 33 texts,one behind the other;each says what it proves. Conditions: as each text says.
-/
import Derived.Test.YtabbklpalbikdaaGreatDoorM05
import Derived.Test.YtabbklpalbikdaaGreatDoorM03
import Derived.Test.YtabbklpalbikdaaGreatDoorM01
import Derived.Lib.ConvBytes
import Derived.Test.YtabbklpalbikdaaGreatDoorM02
import Derived.Scope
import Derived.Test.YtabbklpalbikdaaGreatDoorM04
set_option maxHeartbeats 32000000
set_option linter.unusedVariables false
set_option linter.unusedSimpArgs false
section
namespace Go.Proofs.YtabbklpalbikdaaGreatDoor
open Go.RowKit Go.Pt
def hashC (h p : Nat → Nat) (n : Nat) : List Value := cellsN .u32 8 h ++ (cellsN .u8 64 p ++ [.int .u64 n])
theorem hashC_len (h p : Nat → Nat) (n : Nat) : (hashC h p n).length = 73 := by simp [hashC,cellsN_len]
theorem hashC_one (h p : Nat → Nat) (n : Nat) : (hashC h p n).all Value.oneCell' = true := by
 unfold hashC;rw [List.all_append,List.all_append,cellsN_one,cellsN_one];rfl
theorem hashC_h {h g : Nat → Nat} (p : Nat → Nat) (n : Nat) (e : ∀ j,j < 8 → h j = g j) : hashC h p n = hashC g p n := by unfold hashC;rw [cellsN_congr e]
theorem hash_hs (h p : Nat → Nat) (n : Nat) : LSub (hashC h p n) 0 8 (cellsN .u32 8 h) := by
 exact LSub.mid (a := []) rfl (cellsN_len _ _ _)
theorem hash_ps (h p : Nat → Nat) (n : Nat) : LSub (hashC h p n) 8 64 (cellsN .u8 64 p) := by
 exact LSub.mid (cellsN_len _ _ _) (cellsN_len _ _ _)
theorem hash_n (h p : Nat → Nat) (n : Nat) : (hashC h p n)[72]? = some (.int .u64 n) := by
 unfold hashC
 rw [List.getElem?_append_right (by rw [cellsN_len];omega),List.getElem?_append_right (by rw [cellsN_len,cellsN_len];omega),cellsN_len,cellsN_len];rfl
theorem hash_h (h p : Nat → Nat) (n : Nat) {j : Nat} (hj : j < 8) : (hashC h p n)[j]? = some (.int .u32 (h j)) := by
 unfold hashC
 rw [List.getElem?_append_left (by rw [cellsN_len];omega),cellsN_get hj]
theorem hash_sn (h p : Nat → Nat) (n m : Nat) : LSet (hashC h p n) 72 (.int .u64 m) (hashC h p m) := by
 have := LSet.appN (p := cellsN .u32 8 h ++ cellsN .u8 64 p) (r := []) (x := .int .u64 n) (v := .int .u64 m) (n := 72) (by simp [cellsN_len])
 simpa [hashC] using this
theorem LSet.appR {r r' : List Value} {v : Value} {i : Nat} (h : LSet r i v r') : ∀ (p : List Value) {n : Nat},p.length = n → LSet (p ++ r) (n + i) v (p ++ r')
 | [],n,e => by subst e;simpa using h
 | x :: p,n,e => by
  subst e
  show LSet (x :: (p ++ r)) ((p.length + 1) + i) v (x :: (p ++ r'))
  rw [show p.length + 1 + i = (p.length + i) + 1 by omega]
  exact .s (LSet.appR h p rfl)
theorem LSet.appL {r r' : List Value} {v : Value} {i : Nat} (h : LSet r i v r') (q : List Value) : LSet (r ++ q) i v (r' ++ q) := by
 induction h with
 | z => exact .z
 | s _ ih => exact .s ih
theorem hash_sp (h p : Nat → Nat) (n x : Nat) {j : Nat} (hj : j < 64) : LSet (hashC h p n) (8 + j) (.int .u8 x) (hashC h (updN p j x) n) := by
 unfold hashC
 exact LSet.appR (LSet.appL (cellsN_set hj) _) _ (cellsN_len _ _ _)
theorem hash_sh (h p : Nat → Nat) (n x : Nat) {j : Nat} (hj : j < 8) : LSet (hashC h p n) j (.int .u32 x) (hashC (updN h j x) p n) := by
 unfold hashC
 exact LSet.appL (cellsN_set hj) _
instance entRot : Ent Tryz.prog 225 := ent_of Tryz.func225 kt kt
theorem rotl (x r : Nat) (k : Int) (w : World) (hr : r ≤ 32) (hk : bits .and .u64 (IntKind.u64.wrap k) 31 = ((32 - r : Nat) : Int)) :
  Calls Tryz.prog 225 #[.int .u32 x,.int .i64 k] w fun e w' => e = .returned (.int .u32 (Sha.rr r x)) ∧ Hp w [] w' := by
 have hs : IntKind.u64.wrap (32 - ((32 - r : Nat) : Int)) = (r : Int) := by rw [IntKind.wrap_u64];omega
 have h1 : 32 - r ≤ 32 := by omega
 refine enter (args := [_,_]) (Γ := [(0,_),(1,_)]) Tryz.func225 Tryz.ntmps225 rfl odq (.cons rfl (.cons rfl .nil)) ?_
 repeat' first | (apply Wl.andE;exact rfl;exact rfl;exact rfl;exact hk) | (apply Wl.subE;exact rfl;exact rfl;exact rfl;exact hs) | (apply Wl.shlV;exact rfl;exact rfl;exact rfl;exact h1) | (apply Wl.shrV;exact rfl;exact rfl;exact rfl;exact hr) | refine Wl.orN32 rfl rfl rfl ?_ | refine Wl.move rfl rfl ?_ | refine Wl.assign rfl rfl ?_ | refine Wl.convI rfl rfl ?_ | apply Wl.nil | apply St.seq | apply St.region | apply St.ret | apply Gt.next | (apply Gt.out1;exact rfl;exact rfl;intro w' hp)
 exact ⟨rfl,hp⟩
theorem Wl.rotQ {N : Nat} {ops : Array Oper} {rest : List Oper} {Γ : Env} {w0 : World} {H : List Blk} {Q : Exit → Act → World → Prop} {d : Nat} {ty : TypeId} {pos : String} {af : Array Edge} {x y z : Operand} {ts : Array TypeId} {m : Nat} {k : Int} (r : Nat) (hd : Nat.blt d N = true)
  (hf : ev Γ x = some (.func (.func 225) #[] #[])) (hy : ev Γ y = some (.int .u32 (m : Int))) (hz : ev Γ z = some (.int .i64 k)) (hk : (decide (r ≤ 32) && decide (bits .and .u64 (IntKind.u64.wrap k) 31 = ((32 - r : Nat) : Int))) = true)
  (h : Wl rest Tryz.prog .seq ops N ((d,.int .u32 ((Sha.rr r m : Nat) : Int)) :: Γ) (Hp w0 H) Q) :
  Wl (⟨some d,.call { callee := .value x,args := #[y,z],argTypes := ts },ty,pos,af,none⟩ :: rest) Tryz.prog .seq ops N Γ (Hp w0 H) Q := by
 rw [Bool.and_eq_true] at hk
 exact Wl.callVQ hd hf inferInstance (.cons hy (.cons hz .nil)) (fun w hw => (rotl m r k w (of_decide_eq_true hk.1) (of_decide_eq_true hk.2)).mono fun e w' he => ⟨he.1,hw.keep he.2⟩) h
instance tz64 : TyZ Tryz.prog 334 (.agg (cellsN .u32 64 fun _ => 0).toArray) := ⟨by kernel_rfl⟩
theorem z64 : (Value.agg (cellsN .u32 64 fun _ => 0).toArray).cells.toList = cellsN .u32 64 fun _ => 0 := rfl
theorem v8_cells (a b c d e f g h : Nat) : [Value.int .u32 a,.int .u32 b,.int .u32 c,.int .u32 d,.int .u32 e,.int .u32 f,.int .u32 g,.int .u32 h] = cellsN .u32 8 (Sha.v8 a b c d e f g h) := by unfold cellsN;rfl
theorem shaBlock (b : Nat) (h p : Nat → Nat) (n : Nat) (w : World) (hc : w.heap[b]? = some (.cells (hashC h p n).toArray 311 (0,0))) (hp8 : ∀ j,p j < 256) (hK : ArrAt w 1 0 .u32 64 Sha.K) (h0 : b ≠ 1) :
  Calls Tryz.prog 186 #[mp b] w fun e w' => e = .returned (.tuple #[]) ∧ Hp w [⟨b,hashC (Sha.comp h p) p n,311⟩] w' := by
 have hKlt := hK.lt ku
 have hcl : b < w.heap.size := (Array.getElem?_eq_some_iff.1 hc).1
 refine enter (args := [_]) (Γ := [(0,_)]) Tryz.func186 Tryz.ntmps186 rfl odq (.cons rfl .nil) ?_
 refine St.cls (C' := Hp w [⟨b,hashC h p n,311⟩]) (fun _ h' => Hp.open h' hc) ?_
 repeat' first | (apply Wl.loadAH;exact rfl;exact rfl;exact kd;(first | exact hash_hs _ _ _ | exact hash_ps _ _ _)) | (apply Wl.allocN;exact rfl;exact z64;intro c hc ho) | refine Wl.move rfl rfl ?_ | refine Wl.nilCheck rfl rfl ?_ | refine Wl.fieldAddrZ rfl rfl ?_ | apply Wl.nil | apply St.seq | apply St.block | apply St.region | apply Gt.next
 refine St.loop (σ := Nat) (fun i => i ≤ 64) (fun i => [(0,mp b),(2,mp c),(21,.agg (cellsN .u8 64 p).toArray),(22,.int .i64 (i : Int))])
  (fun i => Hp w [⟨c,cellsN .u32 64 (Sha.ldw p i),334⟩,⟨b,hashC h p n,311⟩]) (fun i => 64 - i) 0 kc kq (fun _ h => h) ?_
 intro i hi
 by_cases hlt : i < 64
 ·have hpi := hp8 i
  have hi4 : i / 4 < 64 := by omega
  repeat' first | (apply Wl.indexVS;exact rfl;exact rfl;exact rfl;exact cellsN_get hlt;exact hlt) | (apply Wl.quoN (n := 4);exact rfl;exact rfl;exact rfl;(decide);exact IntWalk.i64_in _ kc) | refine Wl.orN32 rfl rfl rfl ?_ | (apply Wl.shlP 8;exact rfl;exact rfl;exact rfl;exact rfl;(decide)) | (refine Wl.indexA rfl rfl rfl ?_ ?_;omega) | (apply Wl.loadN;exact rfl;exact rfl;exact kd;omega) | (apply Wl.storeN;exact rfl;exact rfl;exact kd;omega) | refine Wl.move rfl rfl ?_ | refine Wl.assign rfl rfl ?_ | refine Wl.lss rfl rfl rfl ?_ | (refine Wl.addI rfl rfl rfl ?_ ?_;constructor <;> omega) | (refine Wl.convU32 rfl rfl ?_ ?_;constructor <;> omega) | apply Wl.nil | apply St.seq | apply St.block | apply St.region | apply St.skip | apply Gt.next | apply Gt.inNormal | (apply St.condP;exact rfl;all_goals (intros;try (exfalso;omega)))
  apply Gt.round (i + 1)
  rotate_left
  ·omega
  ·exact kd
  ·exact fun _ h => h
  ·omega
 have hi64 : i = 64 := by omega
 subst hi64
 repeat' first | refine Wl.assign rfl rfl ?_ | refine Wl.lss rfl rfl rfl ?_ | apply Wl.nil | apply St.seq | apply St.block | apply St.region | (apply St.condF;exact rfl;exact k5) | apply St.exit | apply Gt.next | apply Gt.thenExit | apply Gt.inExit
 generalize hWd : Sha.ldw p 64 = wd
 refine St.loop (σ := Nat) (fun i => i ≤ 48) (fun i => [(0,mp b),(2,mp c),(5,.func (.func 225) #[] #[]),(6,.int .i64 ((16 + i : Nat) : Int))])
  (fun i => Hp w [⟨c,cellsN .u32 64 (Sha.sch wd i),334⟩,⟨b,hashC h p n,311⟩]) (fun i => 48 - i) 0 kc kq (fun _ h => h) ?_
 clear hlt
 intro i hi
 by_cases hlt : i < 48
 ·have hd : decide (((16 + i : Nat) : Int) < 64) = true := decide_eq_true kc
  repeat' first | (apply St.bagX 10 [8,9];exact mixed;(decide +kernel);kernel_rfl) | (apply St.bagX 33 [];exact mixed;(decide +kernel);kernel_rfl) | apply OpsX.nil | (apply OpsX.v;(intro X hX;change Wl [_] _ _ _ _ _ _ _;apply Wl.catX;exact kd)) | (apply Gt.endX;exact rfl) | (apply EndX.on;exact rfl) | (apply EndX.off;exact rfl) | (apply EndX.nil';apply Wl.catE;exact kd) | (apply Wl.rotQ 7;exact rfl;exact rfl;exact rfl;exact rfl;(decide)) | (apply Wl.rotQ 17;exact rfl;exact rfl;exact rfl;exact rfl;(decide)) | (apply Wl.rotQ 18;exact rfl;exact rfl;exact rfl;exact rfl;(decide)) | (apply Wl.rotQ 19;exact rfl;exact rfl;exact rfl;exact rfl;(decide)) | (apply Wl.subC 15;exact rfl;exact rfl;exact rfl;exact rfl;omega;omega) | (apply Wl.subC 2;exact rfl;exact rfl;exact rfl;exact rfl;omega;omega) | (apply Wl.subC 16;exact rfl;exact rfl;exact rfl;exact rfl;omega;omega) | (apply Wl.subC 7;exact rfl;exact rfl;exact rfl;exact rfl;omega;omega) | refine Wl.xorN32 rfl rfl rfl ?_ | refine Wl.addP rfl rfl rfl ?_ | (apply Wl.shrP 3;exact rfl;exact rfl;exact rfl;exact rfl;(decide)) | (apply Wl.shrP 10;exact rfl;exact rfl;exact rfl;exact rfl;(decide)) | (refine Wl.indexA rfl rfl rfl ?_ ?_;omega) | (apply Wl.loadN;exact rfl;exact rfl;exact kd;omega) | (apply Wl.storeN;exact rfl;exact rfl;exact kd;omega) | refine Wl.move rfl rfl ?_ | refine Wl.assign rfl rfl ?_ | refine Wl.lss rfl rfl rfl ?_ | (refine Wl.addI rfl rfl rfl ?_ ?_;constructor <;> omega) | apply Wl.nil | apply St.seq | apply St.block | apply St.region | (apply St.condT;exact rfl;exact k5) | apply St.skip | apply Gt.next | apply Gt.inNormal
  apply Gt.round (i + 1)
  rotate_left
  ·omega
  ·exact kd
  ·exact fun _ h => h
  ·omega
 have hi48 : i = 48 := by omega
 subst hi48
 generalize c = CW at *
 repeat' first | (apply Wl.loadAH;exact rfl;exact rfl;exact kd;(first | exact hash_hs _ _ _ | exact hash_ps _ _ _)) | (apply Wl.storeW;exact rfl;exact rfl;exact kd;exact rfl;exact qt) | (apply Wl.allocN;exact rfl;(first | exact z8 | exact z16 | exact z17 | exact z33 | exact z10);intro c hc ho) | refine Wl.move rfl rfl ?_ | refine Wl.nilCheck rfl rfl ?_ | refine Wl.fieldAddr0 rfl rfl ?_ | refine Wl.lss rfl rfl rfl ?_ | apply Wl.nil | apply St.seq | apply St.block | apply St.region | (apply St.condF;exact rfl;exact k5) | apply St.exit | apply Gt.next | apply Gt.thenExit | apply Gt.inExit
 clear hlt
 generalize hW : Sha.sch wd 48 = W at *
 refine St.loop (σ := Nat) (fun i => i ≤ 64) (fun i => [(0,mp b),(2,mp CW),(5,.func (.func 225) #[] #[]),(9,mp c),(87,.int .i64 (i : Int))])
  (fun i => Hp w [⟨c,cellsN .u32 8 (Sha.rnds Sha.K W h i),308⟩,⟨CW,cellsN .u32 64 W,334⟩,⟨b,hashC h p n,311⟩]) (fun i => 64 - i) 0 kc kq (fun _ h => h) ?_
 intro i hi
 by_cases hlt : i < 64
 ·repeat' first | (apply St.bagXc 9 [6,7,8];exact mixed;(decide +kernel);(repeat (first | apply CleanX.nil | (apply CleanX.skip;exact rfl) | (apply CleanX.keep;exact rfl)));kernel_rfl) | (apply St.bagXc 31 [30];exact mixed;(decide +kernel);(repeat (first | apply CleanX.nil | (apply CleanX.skip;exact rfl) | (apply CleanX.keep;exact rfl)));kernel_rfl) | apply OpsX.nil | (apply OpsX.v;(intro X hX;change Wl [_] _ _ _ _ _ _ _;apply Wl.catX;exact kd)) | (apply Gt.endX;exact rfl) | (apply EndX.on;exact rfl) | (apply EndX.off;exact rfl) | (apply EndX.nil';apply Wl.catE;exact kd) | (apply Wl.loadME;exact rfl;exact rfl;exact hK;exact zp;omega) | (apply Wl.rotQ 2;exact rfl;exact rfl;exact rfl;exact rfl;(decide)) | (apply Wl.rotQ 6;exact rfl;exact rfl;exact rfl;exact rfl;(decide)) | (apply Wl.rotQ 11;exact rfl;exact rfl;exact rfl;exact rfl;(decide)) | (apply Wl.rotQ 13;exact rfl;exact rfl;exact rfl;exact rfl;(decide)) | (apply Wl.rotQ 22;exact rfl;exact rfl;exact rfl;exact rfl;(decide)) | (apply Wl.rotQ 25;exact rfl;exact rfl;exact rfl;exact rfl;(decide)) | refine Wl.xorN32 rfl rfl rfl ?_ | refine Wl.andN32 rfl rfl rfl ?_ | refine Wl.orN32 rfl rfl rfl ?_ | refine Wl.addP rfl rfl rfl ?_ | (apply Wl.buildN;exact rfl;exact kj;exact ka;exact v8_cells _ _ _ _ _ _ _ _) | (refine Wl.indexA rfl rfl rfl ?_ ?_;omega) | (apply Wl.loadN;exact rfl;exact rfl;exact kd;omega) | (apply Wl.storeW;exact rfl;exact rfl;exact kd;exact rfl;exact qt) | refine Wl.move rfl rfl ?_ | refine Wl.assign rfl rfl ?_ | refine Wl.lss rfl rfl rfl ?_ | (refine Wl.addI rfl rfl rfl ?_ ?_;constructor <;> omega) | (refine Wl.indexArr rfl rfl rfl ?_ ?_;constructor <;> omega) | apply Wl.nil | apply St.seq | apply St.block | apply St.region | apply St.skip | apply Gt.next | apply Gt.inNormal | (apply St.condP;exact rfl;all_goals (intros;try (exfalso;omega)))
  apply Gt.round (i + 1)
  rotate_left
  ·omega
  ·exact kd
  ·exact fun _ h => h
  ·omega
 have hi64 : i = 64 := by omega
 subst hi64
 generalize c = CV at *
 repeat' first | (apply Wl.loadW;exact rfl;exact rfl;exact kd;exact rfl) | refine Wl.move rfl rfl ?_ | refine Wl.lss rfl rfl rfl ?_ | apply Wl.nil | apply St.seq | apply St.block | apply St.region | (apply St.condF;exact rfl;exact k5) | apply St.exit | apply Gt.next | apply Gt.thenExit | apply Gt.inExit
 generalize hV : Sha.rnds Sha.K W h 64 = V at *
 refine St.loop (σ := Nat) (fun i => i ≤ 8) (fun i => [(0,mp b),(174,.agg (cellsN .u32 8 V).toArray),(175,.int .i64 (i : Int))])
  (fun i => Hp w [⟨CV,cellsN .u32 8 V,308⟩,⟨CW,cellsN .u32 64 W,334⟩,⟨b,hashC (fillN h (fun j => Sha.P (h j) (V j)) i) p n,311⟩]) (fun i => 8 - i) 0 kc kq (fun _ h => by rw [fillN_zero];exact h) ?_
 clear hlt
 intro i hi
 have hf : fillN h (fun j => Sha.P (h j) (V j)) i i = h i := fillN_at (Nat.le_refl _)
 by_cases hlt : i < 8
 ·repeat' first | (apply St.bagX 11 [];exact mixed;(decide +kernel);kernel_rfl) | apply OpsX.nil | (apply OpsX.v;(intro X hX;change Wl [_] _ _ _ _ _ _ _;apply Wl.catX;exact kd)) | (apply Gt.endX;exact rfl) | (apply EndX.on;exact rfl) | (apply EndX.off;exact rfl) | (apply EndX.nil';apply Wl.catE;exact kd) | (apply Wl.indexVS;exact rfl;exact rfl;exact rfl;exact cellsN_get hlt;exact hlt) | (apply Wl.loadH;exact rfl;exact rfl;exact kd;exact zu) | (apply Wl.store;exact rfl;exact rfl;exact rfl;exact kd;exact qa) | refine Wl.addP rfl rfl rfl ?_ | (refine Wl.indexA rfl rfl rfl ?_ ?_;omega) | refine Wl.move rfl rfl ?_ | refine Wl.assign rfl rfl ?_ | refine Wl.nilCheck rfl rfl ?_ | refine Wl.fieldAddr0 rfl rfl ?_ | refine Wl.lss rfl rfl rfl ?_ | (refine Wl.addI rfl rfl rfl ?_ ?_;constructor <;> omega) | apply Wl.nil | apply St.seq | apply St.block | apply St.region | apply St.skip | apply Gt.next | apply Gt.inNormal | (apply St.condP;exact rfl;all_goals (intros;try (exfalso;omega)))
  rw [hf]
  apply Gt.round (i + 1)
  rotate_left
  ·omega
  ·exact kd
  ·exact fun _ h => by rw [← fillN_step];exact h
  ·omega
 have hi8 : i = 8 := by omega
 subst hi8
 repeat' first | refine Wl.lss rfl rfl rfl ?_ | apply Wl.nil | apply St.seq | apply St.region | (apply St.condF;exact rfl;exact k5) | apply St.exit | apply Gt.next | apply Gt.thenExit | apply Gt.inExit | (apply Gt.out0n;exact rfl;intro w' hp)
 refine ⟨rfl,?_⟩
 rw [hashC_h (g := Sha.comp h p) p n (fun j hj => by unfold fillN Sha.comp;rw [if_pos hj,hWd,hW,hV])] at hp
 exact hpPop (hpPop hp ky) ky
def HashAt (w : World) (b : Nat) (s : Sha.St) : Prop := w.heap[b]? = some (.cells (hashC s.h s.p s.n).toArray 311 (0,0))
abbrev hashB (b : Nat) (s : Sha.St) : Blk := ⟨b,hashC s.h s.p s.n,311⟩
theorem wr_p {s : Sha.St} {c : Nat} (h : ∀ j,s.p j < 256) (hc : c < 256) : ∀ j,(Sha.wr s c).p j < 256 := by
 intro j
 have : (Sha.wr s c).p = updN s.p (s.n % 64) c := by unfold Sha.wr;split <;> rfl
 rw [this];unfold updN;split
 ·exact hc
 ·exact h j
theorem wrL_p (l : List UInt8) : ∀ {s : Sha.St},(∀ j,s.p j < 256) → ∀ j,(Sha.wrL s l).p j < 256 := by
 induction l with
 | nil => intro s h;exact h
 | cons c r ih => intro s h;exact ih (wr_p h c.toNat_lt)
theorem wrL_snoc (s : Sha.St) {l : List UInt8} {i : Nat} (hi : i < l.length) : Sha.wrL s (l.take (i + 1)) = Sha.wr (Sha.wrL s (l.take i)) l[i].toNat := by
 rw [List.take_succ_eq_append_getElem hi,Sha.wrL_app];rfl
theorem shaWrite (b : Nat) (s : Sha.St) (v : Value) (l : List UInt8) (w : World) (hc : HashAt w b s) (hp8 : ∀ j,s.p j < 256) (hn : s.n + l.length < 1152921504606846976) (hv : Bs w v l) (hvb : l ≠ [] → v.ownBlock ≠ some b) (hK : ArrAt w 1 0 .u32 64 Sha.K) (h0 : b ≠ 1) :
  Calls Tryz.prog 137 #[mp b,v] w fun e w' => e = .returned (.tuple #[]) ∧ Hp w [hashB b (Sha.wrL s l)] w' := by
 have hKlt := hK.lt ku
 have hbl : b < w.heap.size := (Array.getElem?_eq_some_iff.1 hc).1
 obtain ⟨a,cap,rfl,hl,hm⟩ := hv.shape
 unfold maxLen at hm
 refine enter (args := [_,_]) (Γ := [(0,_),(1,_)]) Tryz.func137 Tryz.ntmps137 rfl odq (.cons rfl (.cons rfl .nil)) ?_
 refine St.cls (C' := Hp w [hashB b s]) (fun _ h' => Hp.open h' hc) ?_
 repeat' first | refine Wl.move rfl rfl ?_ | refine Wl.eqlPN rfl rfl rfl ?_ | refine Wl.len rfl rfl ?_ | apply Wl.nil | apply St.seq | apply St.block | apply St.region | (apply St.condF;exact rfl;exact k5) | apply St.skip | apply Gt.next
 refine St.loop (σ := Nat) (fun i => i ≤ l.length) (fun i => [(0,mp b),(8,.slice a l.length cap),(9,.int .i64 (l.length : Int)),(10,.int .i64 (i : Int))])
  (fun i => Hp w [hashB b (Sha.wrL s (l.take i))]) (fun i => l.length - i) 0 kc kq (fun _ h => by rw [List.take_zero];exact h) ?_
 intro i hi
 by_cases hlt : i < l.length
 ·obtain ⟨ab,off,rfl,hcell⟩ := hv.cells (fun e => by subst e;simp at hlt)
  have hne : ab ≠ b := fun e => hvb (fun e => by subst e;simp at hlt) (by rw [e];rfl)
  have hne' : b ≠ ab := Ne.symm hne
  have hci := hcell i hlt
  have hci8 := l[i].toNat_lt
  have hsn : (Sha.wrL s (l.take i)).n = s.n + i := by rw [Sha.wrL_n,List.length_take,Nat.min_eq_left hi]
  have hpi := wrL_p (l.take i) hp8
  have hnext := wrL_snoc s hlt
  generalize hS : Sha.wrL s (l.take i) = S at *
  have hd : decide ((i : Int) < (l.length : Int)) = true := decide_eq_true kc
  have hn1 : S.n + 1 < 1152921504606846976 := by omega
  have hpu : ∀ j,updN S.p (S.n % 64) l[i].toNat j < 256 := fun j => by
   unfold updN;split
   ·exact hci8
   ·exact hpi j
  by_cases h64 : (S.n + 1) % 64 = 0
  ·have hd2 : decide ((((S.n + 1) % 64 : Nat) : Int) = 0) = true := decide_eq_true kc
   repeat' first | (apply St.bagX 10 [];exact mixed;(decide +kernel);kernel_rfl) | apply OpsX.nil | (apply OpsX.v;(intro X hX;change Wl [_] _ _ _ _ _ _ _;apply Wl.catX;exact kd)) | (apply Gt.endX;exact rfl) | (apply EndX.on;exact rfl) | (apply EndX.off;exact rfl) | (apply EndX.nil';apply Wl.catE;exact kd) | (apply Wl.loadH;exact rfl;exact rfl;exact kd;exact zu) | (apply Wl.store;exact rfl;exact rfl;exact rfl;exact kd;exact qa) | (apply Wl.remN (n := 64);exact rfl;exact rfl;exact rfl;(decide)) | (apply Wl.addNU (n := 1);exact rfl;exact rfl;exact rfl;omega) | (refine Wl.indexAo rfl rfl rfl ?_ ?_;omega) | refine Wl.move rfl rfl ?_ | refine Wl.assign rfl rfl ?_ | refine Wl.nilCheck rfl rfl ?_ | refine Wl.fieldAddrZ rfl rfl ?_ | (apply Wl.loadO;exact rfl;exact rfl;(assumption);exact q7) | refine Wl.eql rfl rfl rfl ?_ | refine Wl.lss rfl rfl rfl ?_ | (refine Wl.indexAddr1 rfl rfl rfl ?_ ?_;constructor <;> omega) | apply Wl.nil | apply St.seq | apply St.block | apply St.region | (apply St.condT;exact rfl;exact k5) | apply St.skip | apply Gt.next
   apply Wl.callC
   exact rfl
   (focus repeat constructor)
   intro wq hq
   refine (shaBlock b S.h (updN S.p (S.n % 64) l[i].toNat) (S.n + 1) wq (hq.own.at (.head _)) hpu (hK.hp hq zf) h0).mono ?_
   rintro e wr ⟨rfl,hp⟩
   refine ⟨_,_,rfl,hq.callSet kq hp,?_⟩
   clear hp hq wq wr
   repeat' first | refine Wl.move rfl rfl ?_ | (refine Wl.addI rfl rfl rfl ?_ ?_;constructor <;> omega) | apply Wl.nil | apply St.region | apply Gt.next | apply Gt.inNormal
   apply Gt.round (i + 1)
   rotate_left
   ·omega
   ·exact kd
   ·exact fun _ h => by
     rw [hnext]
     unfold Sha.wr
     rw [if_pos h64];exact h
   ·omega
  ·have hd2 : decide ((((S.n + 1) % 64 : Nat) : Int) = 0) = false := decide_eq_false kc
   repeat' first | (apply St.bagX 10 [];exact mixed;(decide +kernel);kernel_rfl) | apply OpsX.nil | (apply OpsX.v;(intro X hX;change Wl [_] _ _ _ _ _ _ _;apply Wl.catX;exact kd)) | (apply Gt.endX;exact rfl) | (apply EndX.on;exact rfl) | (apply EndX.off;exact rfl) | (apply EndX.nil';apply Wl.catE;exact kd) | (apply Wl.loadH;exact rfl;exact rfl;exact kd;exact zu) | (apply Wl.store;exact rfl;exact rfl;exact rfl;exact kd;exact qa) | (apply Wl.remN (n := 64);exact rfl;exact rfl;exact rfl;(decide)) | (apply Wl.addNU (n := 1);exact rfl;exact rfl;exact rfl;omega) | (refine Wl.indexAo rfl rfl rfl ?_ ?_;omega) | refine Wl.move rfl rfl ?_ | refine Wl.assign rfl rfl ?_ | refine Wl.nilCheck rfl rfl ?_ | refine Wl.fieldAddrZ rfl rfl ?_ | (apply Wl.loadO;exact rfl;exact rfl;(assumption);exact q7) | refine Wl.eql rfl rfl rfl ?_ | refine Wl.lss rfl rfl rfl ?_ | (refine Wl.addI rfl rfl rfl ?_ ?_;constructor <;> omega) | (refine Wl.indexAddr1 rfl rfl rfl ?_ ?_;constructor <;> omega) | apply Wl.nil | apply St.seq | apply St.block | apply St.region | (apply St.condT;exact rfl;exact k5) | (apply St.condF;exact rfl;exact k5) | apply St.skip | apply Gt.next | apply Gt.inNormal
   apply Gt.round (i + 1)
   rotate_left
   ·omega
   ·exact kd
   ·exact fun _ h => by
     rw [hnext]
     unfold Sha.wr
     rw [if_neg h64];exact h
   ·omega
 have hil : i = l.length := by omega
 subst hil
 have hd : decide ((l.length : Int) < (l.length : Int)) = false := decide_eq_false kc
 repeat' first | refine Wl.lss rfl rfl rfl ?_ | apply Wl.nil | apply St.seq | apply St.region | (apply St.condF;exact rfl;exact k5) | apply St.exit | apply Gt.next | apply Gt.thenExit | apply Gt.inExit | (apply Gt.out0n;exact rfl;intro w' hp)
 rw [List.take_length] at hp
 exact ⟨rfl,hp⟩
instance tzHash : TyZ Tryz.prog 311 (.agg (hashC (fun _ => 0) (fun _ => 0) 0).toArray) := ⟨by kernel_rfl⟩
theorem zHash : (Value.agg (hashC (fun _ => 0) (fun _ => 0) 0).toArray).cells.toList = hashC (fun _ => 0) (fun _ => 0) 0 := rfl
theorem z32b : (Value.agg #[.int .u8 0,.int .u8 0,.int .u8 0,.int .u8 0,.int .u8 0,.int .u8 0,.int .u8 0,.int .u8 0,.int .u8 0,.int .u8 0,.int .u8 0,.int .u8 0,.int .u8 0,.int .u8 0,.int .u8 0,.int .u8 0,.int .u8 0,.int .u8 0,.int .u8 0,.int .u8 0,.int .u8 0,.int .u8 0,.int .u8 0,.int .u8 0,.int .u8 0,.int .u8 0,.int .u8 0,.int .u8 0,.int .u8 0,.int .u8 0,.int .u8 0,.int .u8 0]).cells.toList = cellsN .u8 32 fun _ => 0 := by unfold cellsN;rfl
theorem Wl.allocC {P : Program} {t : TypeId} {N : Nat} {ops : Array Oper} {rest : List Oper} {Γ : Env} {Q : Exit → Act → World → Prop} {d : Nat} {ty : TypeId} {pos : String} {af : Array Edge} {w0 : World} {H : List Blk} {z : Value} {cs : List Value} [TyZ P t z] (hd : Nat.blt d N = true) (hz : z.cells.toList = cs)
  (h : ∀ c,w0.heap.size ≤ c → Off H c → Wl rest P .seq ops N ((d,.pointer (some ⟨c,0,none⟩)) :: Γ) (Hp w0 (⟨c,cs,t⟩ :: H)) Q) : Wl (⟨some d,.alloc t,ty,pos,af,none⟩ :: rest) P .seq ops N Γ (Hp w0 H) Q := Wl.alloc hd fun c hc ho => by rw [hz];exact h c hc ho
theorem Wl.convN8 {P : Program} {md : Md} {N : Nat} {ops : Array Oper} {rest : List Oper} {Γ : Env} {C : World → Prop} {Q : Exit → Act → World → Prop} {d : Nat} {ty : TypeId} {pos : String} {af : Array Edge} {s t : TypeId} {x : Operand} {k : IntKind} {m : Nat} [hs : TyD P s (.int k)] [ht : TyD P t (.int .u8)] (hd : Nat.blt d N = true) (hx : ev Γ x = some (.int k (m : Int))) (h : Wl rest P md ops N ((d,.int .u8 ((m % 256 : Nat) : Int)) :: Γ) C Q) : Wl (⟨some d,.convert s t x,ty,pos,af,none⟩ :: rest) P md ops N Γ C Q :=
 Wl.convI hd hx (by rw [IntKind.wrap_u8];exact h)
theorem hpShut {w0 w : World} {H : List Blk} {b t : Nat} {cs : List Value} (h : Hp w0 (⟨b,cs,t⟩ :: H) w) (hc : w0.heap[b]? = some (.cells cs.toArray t (0,0))) : Hp w0 H w :=
 ⟨⟨h.upd.os,h.upd.tape,h.upd.output,h.upd.size,fun k hk hs => by
  by_cases e : k = b
  ·subst e;rw [hc];exact h.own.1
  ·exact h.upd.block k hk fun y => hs fun ho => y ⟨fun e' => e e'.symm,ho⟩⟩,h.own.2,h.apart.2⟩
theorem bsOne {w : World} {b x t : Nat} {fr : Nat × Nat} (h : w.heap[b]? = some (.cells #[.int .u8 (x : Int)] t fr)) (hx : x < 256) : Bs w (.slice (some ⟨b,0,none⟩) 1 1) [UInt8.ofNat x] := by
 have e : (byteCells [UInt8.ofNat x]).toArray = #[.int .u8 (x : Int)] := by
  simp [byteCells,Nat.mod_eq_of_lt hx]
 have := Bs.ofBlk (w := w) (b := b) (l := [UInt8.ofNat x]) (t := t) (fr := fr) (by rw [e];exact h) (by simp [maxLen])
 exact this
theorem shaSum (b : Nat) (s : Sha.St) (w : World) (hA : HashAt w b s) (hp8 : ∀ j,s.p j < 256) (hn : s.n < 1000000000000000) (hK : ArrAt w 1 0 .u32 64 Sha.K) (h0 : b ≠ 1) :
  Calls Tryz.prog 138 #[mp b] w fun e w' => e = .returned (.agg (cellsN .u8 32 (Sha.sum s)).toArray) ∧ Hp w [] w' := by
 have hKlt := hK.lt ku
 have hbl : b < w.heap.size := (Array.getElem?_eq_some_iff.1 hA).1
 have hs0 : 0 < w.heap.size := by omega
 refine enter (args := [_]) (Γ := [(0,_)]) Tryz.func138 Tryz.ntmps138 rfl odq (.cons rfl .nil) ?_
 refine St.cls (C' := Hp w [hashB b s]) (fun _ h' => Hp.open h' hA) ?_
 repeat' first | (apply Wl.allocN;exact rfl;exact z32b;intro c hc ho) | (apply Wl.allocC;exact rfl;exact zHash;intro c hc ho) | (apply Wl.loadAH;exact rfl;exact rfl;exact kd;exact LSub.whole (hashC_len _ _ _)) | (apply Wl.storeAll;exact rfl;exact rfl;exact kd;exact hashC_len _ _ _;exact hashC_len _ _ _;exact hashC_one _ _ _) | (apply Wl.loadH;exact rfl;exact rfl;exact kd;exact zu) | (apply Wl.mulNU (n := 8);exact rfl;exact rfl;exact rfl;omega) | refine Wl.move rfl rfl ?_ | refine Wl.assign rfl rfl ?_ | refine Wl.nilCheck rfl rfl ?_ | refine Wl.fieldAddrZ rfl rfl ?_ | refine Wl.eqlPN rfl rfl rfl ?_ | (apply Wl.lit;exact rfl;exact kj;exact rfl;exact rfl;exact ke;intro c hc ho) | apply Wl.nil | apply St.seq | apply St.region | (apply St.condF;exact rfl;exact k5) | apply St.skip | apply Gt.next
 rename_i cr hr hor co hco hoo ch hch hoh
 have hne1 : ch ≠ c := ho.1
 have hov : ∀ x y : Nat,x ≠ y → [UInt8.ofNat 0] ≠ [] → (Value.slice (some ⟨y,0,none⟩) 1 1).ownBlock ≠ some x := fun x y h _ e => h (by simp [Value.ownBlock] at e;exact e.symm)
 apply Wl.callC
 exact rfl
 (focus repeat constructor)
 intro wq hq
 refine (shaWrite ch s (.slice (some ⟨c,0,none⟩) 1 1) [UInt8.ofNat 128] wq (hq.own.at (.tail _ (.head _))) hp8 zi (bsOne (x := 128) (hq.own.at (.head _)) ku) (fun _ => hov ch c hne1 zd) (hK.hp hq zf) kc).mono ?_
 rintro e wr ⟨rfl,hp⟩
 refine ⟨_,_,rfl,hq.callSet kq hp,?_⟩
 clear hp hq wq wr
 generalize hS1 : Sha.wrL s [UInt8.ofNat 128] = S1 at *
 have hn1 : S1.n = s.n + 1 := by rw [← hS1,Sha.wrL_n];rfl
 have hp1 : ∀ j,S1.p j < 256 := hS1 ▸ wrL_p _ hp8
 generalize hk : (119 - s.n % 64) % 64 = k at *
 repeat' first | apply Wl.nil | apply St.seq | apply St.block | apply Gt.next
 refine St.loop (σ := Nat) (fun j => j ≤ k) (fun _ => [(2,mp cr),(3,mp co),(4,mp ch),(5,.int .u64 ((s.n * 8 : Nat) : Int))])
  (fun j => Hp w [hashB ch (Sha.wrL S1 (Sha.zeros j)),⟨co,cellsN .u8 32 fun _ => 0,107⟩,⟨cr,cellsN .u8 32 fun _ => 0,107⟩,hashB b s]) (fun j => k - j) 0 kc kq (fun _ h => hpPop h ky) ?_
 intro j hj
 have hjn : (Sha.wrL S1 (Sha.zeros j)).n = s.n + 1 + j := by rw [Sha.wrL_n,hn1];simp [Sha.zeros]
 have hjp : ∀ i,(Sha.wrL S1 (Sha.zeros j)).p i < 256 := wrL_p _ hp1
 have hnx : Sha.wrL S1 (Sha.zeros (j + 1)) = Sha.wrL (Sha.wrL S1 (Sha.zeros j)) [UInt8.ofNat 0] := by
  rw [← Sha.wrL_app]
  unfold Sha.zeros
  rw [List.replicate_succ']
  rfl
 by_cases hlt : j < k
 ·generalize hSj : Sha.wrL S1 (Sha.zeros j) = Sj at *
  have hd : decide (((Sj.n % 64 : Nat) : Int) ≠ 56) = true := decide_eq_true kc
  repeat' first | (apply Wl.loadH;exact rfl;exact rfl;exact kd;exact zu) | (apply Wl.remN (n := 64);exact rfl;exact rfl;exact rfl;(decide)) | refine Wl.fieldAddrZ rfl rfl ?_ | refine Wl.neq rfl rfl rfl ?_ | (apply Wl.lit;exact rfl;exact kj;exact rfl;exact rfl;exact ke;intro c hc ho) | apply Wl.nil | apply St.seq | apply St.block | apply St.region | (apply St.condT;exact rfl;exact k5) | apply St.skip | apply Gt.next
  have hne2 : ch ≠ c := ho.1
  apply Wl.callC
  exact rfl
  (focus repeat constructor)
  intro wq hq
  refine (shaWrite ch Sj (.slice (some ⟨c,0,none⟩) 1 1) [UInt8.ofNat 0] wq (hq.own.at (.tail _ (.head _))) hjp zi (bsOne (x := 0) (hq.own.at (.head _)) ku) (fun _ => hov ch c hne2 zd) (hK.hp hq zf) kc).mono ?_
  rintro e wr ⟨rfl,hp⟩
  refine ⟨_,_,rfl,hq.callSet kq hp,?_⟩
  clear hp hq wq wr
  repeat' first | apply Wl.nil | apply Gt.inNormal
  apply Gt.round (j + 1)
  rotate_left
  ·omega
  ·exact kd
  ·exact fun _ h => by rw [hnx];exact hpPop h ky
  ·omega
 have hjk : j = k := by omega
 subst hjk
 generalize hS2 : Sha.wrL S1 (Sha.zeros j) = S2 at *
 have hd : decide (((S2.n % 64 : Nat) : Int) ≠ 56) = false := decide_eq_false kc
 repeat' first | (apply Wl.loadH;exact rfl;exact rfl;exact kd;exact zu) | (apply Wl.remN (n := 64);exact rfl;exact rfl;exact rfl;(decide)) | refine Wl.move rfl rfl ?_ | refine Wl.fieldAddrZ rfl rfl ?_ | refine Wl.neq rfl rfl rfl ?_ | apply Wl.nil | apply St.seq | apply St.block | apply St.region | (apply St.condF;exact rfl;exact k5) | apply St.exit | apply Gt.next | apply Gt.thenExit | apply Gt.inExit
 have hl8 : (Sha.be8 (s.n * 8)).length = 8 := by simp [Sha.be8]
 refine St.loop (σ := Nat) (fun i => i ≤ 8) (fun i => [(2,mp cr),(3,mp co),(4,mp ch),(5,.int .u64 ((s.n * 8 : Nat) : Int)),(25,.int .i64 (i : Int))])
  (fun i => Hp w [hashB ch (Sha.wrL S2 ((Sha.be8 (s.n * 8)).take i)),⟨co,cellsN .u8 32 fun _ => 0,107⟩,⟨cr,cellsN .u8 32 fun _ => 0,107⟩,hashB b s]) (fun i => 8 - i) 0 kc kq (fun _ h => by rw [List.take_zero];exact h) ?_
 clear hlt
 intro i hi
 have hin : (Sha.wrL S2 ((Sha.be8 (s.n * 8)).take i)).n = S2.n + i := by rw [Sha.wrL_n,List.length_take,hl8,Nat.min_eq_left hi]
 have hip : ∀ q,(Sha.wrL S2 ((Sha.be8 (s.n * 8)).take i)).p q < 256 := wrL_p _ hjp
 by_cases hlt : i < 8
 ·have hnx := wrL_snoc S2 (l := Sha.be8 (s.n * 8)) (i := i) kc
  have hge : (Sha.be8 (s.n * 8))[i]'(by omega) = UInt8.ofNat (s.n * 8 / 2 ^ (56 - 8 * i)) := by simp [Sha.be8]
  rw [hge] at hnx
  generalize hSi : Sha.wrL S2 ((Sha.be8 (s.n * 8)).take i) = Si at *
  repeat' first | (apply Wl.mulNI (m := 8);exact rfl;exact rfl;exact rfl;omega) | (apply Wl.subR 56;exact rfl;exact rfl;exact rfl;exact rfl;omega;omega) | (apply Wl.shrV;exact rfl;exact rfl;exact rfl;(show _ ≤ 64;omega)) | refine Wl.convN8 rfl rfl ?_ | refine Wl.move rfl rfl ?_ | refine Wl.assign rfl rfl ?_ | refine Wl.lss rfl rfl rfl ?_ | (apply Wl.lit;exact rfl;exact kj;exact rfl;exact rfl;exact ke;intro c hc ho) | apply Wl.nil | apply St.seq | apply St.block | apply St.region | apply St.skip | apply Gt.next | (apply St.condP;exact rfl;all_goals (intros;try (exfalso;omega)))
  have hne2 : ch ≠ c := ho.1
  have hlt8 : s.n * 8 / 2 ^ (56 - 8 * i) % 256 < 256 := Nat.mod_lt _ ku
  have hofn : UInt8.ofNat (s.n * 8 / 2 ^ (56 - 8 * i)) = UInt8.ofNat (s.n * 8 / 2 ^ (56 - 8 * i) % 256) := by
   apply UInt8.toNat_inj.1;simp
  apply Wl.callC
  exact rfl
  (focus repeat constructor)
  intro wq hq
  refine (shaWrite ch Si (.slice (some ⟨c,0,none⟩) 1 1) [UInt8.ofNat (s.n * 8 / 2 ^ (56 - 8 * i) % 256)] wq (hq.own.at (.tail _ (.head _))) hip zi (bsOne (hq.own.at (.head _)) hlt8) (fun _ e => hne2 (by simp [Value.ownBlock] at e;exact e.symm)) (hK.hp hq zf) kc).mono ?_
  rintro e wr ⟨rfl,hp⟩
  refine ⟨_,_,rfl,hq.callSet kq hp,?_⟩
  clear hp hq wq wr
  repeat' first | refine Wl.move rfl rfl ?_ | (refine Wl.addI rfl rfl rfl ?_ ?_;constructor <;> omega) | apply Wl.nil | apply St.region | apply Gt.next | apply Gt.inNormal
  apply Gt.round (i + 1)
  rotate_left
  ·omega
  ·exact kd
  ·exact fun _ h => by rw [hnx,hofn];exact hpPop h ky
  ·omega
 have hi8 : i = 8 := by omega
 subst hi8
 rw [show (Sha.be8 (s.n * 8)).take 8 = Sha.be8 (s.n * 8) from List.take_of_length_le kc] at hin hip ⊢
 have hfin : Sha.wrL s (Sha.pad s.n) = Sha.wrL S2 (Sha.be8 (s.n * 8)) := by
  unfold Sha.pad
  rw [hk,← hS2,← hS1,show (0x80 : UInt8) = UInt8.ofNat 128 from rfl,← Sha.wrL_app,← Sha.wrL_app]
  rfl
 generalize hS3 : Sha.wrL S2 (Sha.be8 (s.n * 8)) = S3 at *
 repeat' first | refine Wl.move rfl rfl ?_ | refine Wl.lss rfl rfl rfl ?_ | apply Wl.nil | apply St.seq | apply St.block | apply St.region | (apply St.condF;exact rfl;exact k5) | apply St.exit | apply Gt.next | apply Gt.thenExit | apply Gt.inExit
 refine St.loop (σ := Nat) (fun i => i ≤ 32) (fun i => [(2,mp cr),(3,mp co),(4,mp ch),(37,.int .i64 (i : Int))])
  (fun i => Hp w [hashB ch S3,⟨co,cellsN .u8 32 (fillN (fun _ => 0) (Sha.outB S3.h) i),107⟩,⟨cr,cellsN .u8 32 fun _ => 0,107⟩,hashB b s]) (fun i => 32 - i) 0 kc kq (fun _ h => by rw [fillN_zero];exact h) ?_
 clear hlt
 intro i hi
 by_cases hlt : i < 32
 ·have hi4 : i / 4 < 8 := by omega
  have hi3 : i % 4 < 4 := Nat.mod_lt _ ku
  repeat' first | (apply Wl.quoN (n := 4);exact rfl;exact rfl;exact rfl;(decide);exact IntWalk.i64_in _ kc) | (apply Wl.remN (n := 4);exact rfl;exact rfl;exact rfl;(decide)) | (apply Wl.loadH;exact rfl;exact rfl;exact kd;exact zu) | (apply Wl.mulNI (m := 8);exact rfl;exact rfl;exact rfl;omega) | (apply Wl.subR 24;exact rfl;exact rfl;exact rfl;exact rfl;omega;omega) | (apply Wl.shrV;exact rfl;exact rfl;exact rfl;(show _ ≤ 32;omega)) | refine Wl.convN8 rfl rfl ?_ | (refine Wl.indexA rfl rfl rfl ?_ ?_;omega) | (apply Wl.storeN;exact rfl;exact rfl;exact kd;omega) | refine Wl.move rfl rfl ?_ | refine Wl.assign rfl rfl ?_ | refine Wl.fieldAddr0 rfl rfl ?_ | refine Wl.lss rfl rfl rfl ?_ | (refine Wl.addI rfl rfl rfl ?_ ?_;constructor <;> omega) | apply Wl.nil | apply St.seq | apply St.block | apply St.region | apply St.skip | apply Gt.next | apply Gt.inNormal | (apply St.condP;exact rfl;all_goals (intros;try (exfalso;omega)))
  apply Gt.round (i + 1)
  rotate_left
  ·omega
  ·exact kd
  ·exact fun _ h => by rw [← fillN_step];exact h
  ·omega
 have hi32 : i = 32 := by omega
 subst hi32
 repeat' first | (apply Gt.outN;exact rfl;infer_instance;exact rfl;exact kd;exact rfl;intro w' hp) | (apply Wl.loadW;exact rfl;exact rfl;exact kd;exact rfl) | (apply Wl.storeW;exact rfl;exact rfl;exact kd;exact rfl;exact qt) | refine Wl.lss rfl rfl rfl ?_ | apply Wl.nil | apply St.seq | apply St.region | (apply St.condF;exact rfl;exact k5) | apply St.ret | apply St.exit | apply Gt.next | apply Gt.thenExit | apply Gt.inExit
 refine ⟨?_,hpShut (H := []) (hpPop (hpPop (hpPop hp ky) ky) ky) hA⟩
 rw [show Sha.sum s = Sha.outB S3.h by unfold Sha.sum;rw [hfin],show cellsN .u8 32 (fillN (fun _ => 0) (Sha.outB S3.h) 32) = cellsN .u8 32 (Sha.outB S3.h) from cellsN_congr fun j hj => by unfold fillN;rw [if_pos hj]]
theorem h08 : [Value.int .u32 1779033703,.int .u32 3144134277,.int .u32 1013904242,.int .u32 2773480762,.int .u32 1359893119,.int .u32 2600822924,.int .u32 528734635,.int .u32 1541459225] = cellsN .u32 8 Sha.H0 := by kernel_rfl
section
variable {md : Md} {N : Nat} {ops : Array Oper} {rest : List Oper} {Γ : Env} {C : World → Prop} {Q : Exit → Act → World → Prop} {d : Nat} {ty : TypeId} {pos : String} {af : Array Edge} {parts : Array (Nat × Operand)}
instance tyHash : TyP Tryz.prog 311 [(0,8),(8,64),(72,1)] (hashC (fun _ => 0) (fun _ => 0) 0) := ⟨by kernel_rfl⟩
theorem Wl.buildHash {h : Nat → Nat} (hd : Nat.blt d N = true) (hp : Parts Γ parts.toList [(0,.agg (cellsN .u32 8 h).toArray)]) (k : Wl rest Tryz.prog md ops N ((d,.agg (hashC h (fun _ => 0) 0).toArray) :: Γ) C Q) :
  Wl (⟨some d,.build 311 parts,ty,pos,af,none⟩ :: rest) Tryz.prog md ops N Γ C Q := by
 refine Wl.build hd hp (fun _ => run_build_struct ?_) k
 refine .agg rfl (by rw [cellsN_len];rfl) (cs1 := hashC h (fun _ => 0) 0) ?_ .nil
 unfold hashC
 exact LPut.appN (p := []) rfl (by rw [cellsN_len,cellsN_len])
end
theorem shaNew (w : World) : Calls Tryz.prog 136 #[] w fun e w' => ∃ c,e = .returned (mp c) ∧ w.heap.size ≤ c ∧ HashAt w' c Sha.ini ∧ Hp w [] w' := by
 refine enter (args := []) (Γ := []) Tryz.func136 Tryz.ntmps136 rfl odq .nil ?_
 repeat' first | (apply Wl.buildN;exact rfl;exact kj;exact ka;exact h08) | (apply Wl.buildHash;exact rfl;(focus ((repeat (first | exact Parts.nil | apply Parts.cons rfl));done))) | (apply Wl.boxA;exact rfl;exact rfl;intro c hc ho) | refine Wl.assign rfl rfl ?_ | apply Wl.nil | apply St.seq | apply St.region | apply St.ret | apply Gt.next | (apply Gt.out1;exact rfl;exact rfl;intro w' hp)
 exact ⟨c,rfl,hc,hp.own.at (.head _),hp.drop zi⟩
theorem shaOf (v : Value) (l : List UInt8) (w : World) (hv : Bs w v l) (hn : l.length < 500000000000000) (hvl : l ≠ [] → ∀ k,v.ownBlock = some k → k < w.heap.size) (hK : ArrAt w 1 0 .u32 64 Sha.K) :
  Calls Tryz.prog 99 #[v] w fun e w' => e = .returned (.agg (cellsN .u8 32 (Sha.of l)).toArray) ∧ Hp w [] w' := by
 have h0s := hK.lt ku
 refine enter (args := [_]) (Γ := [(0,_)]) Tryz.func99 Tryz.ntmps99 rfl odq (.cons rfl .nil) ?_
 repeat' first | (apply Wl.allocN;exact rfl;exact z32b;intro c hc ho) | apply Wl.nil | apply St.seq | apply St.region | apply Gt.next
 apply Wl.callC
 ·exact rfl
 ·exact kd
 intro wq hq
 refine (shaNew wq).mono ?_
 rintro e wr ⟨b,rfl,hb,hH,hr⟩
 have hqr := hq.keep hr
 have hs1 := hq.upd.size
 have lc := hq.own.lt (.head _)
 simp only at lc
 have hKr : ArrAt wr 1 0 .u32 64 Sha.K := hK.hp hqr zf
 have hvr : Bs wr v l := hv.upd hqr.upd fun k hk hlt hne hS => hS ⟨by simp only;omega,trivial⟩
 have hu : Upd (fun k => w.heap.size ≤ k) w wr := hpOn hqr (Upd.refl _ _) zi
 refine ⟨_,_,rfl,Hp.open (hpRb hqr) hH ⟨by simp only;omega,trivial⟩,?_⟩
 clear hq hr
 repeat' first | refine Wl.move rfl rfl ?_ | refine Wl.assign rfl rfl ?_ | apply Wl.nil | apply St.seq | apply St.region | apply Gt.next
 have hvw : ∀ {wq : World} {H : List Blk},Hp wr [hashB b Sha.ini,⟨c,cellsN .u8 32 fun _ => 0,107⟩] wq → Bs wq v l := fun hq => hvr.upd hq.upd fun k hk hlt hne hS => by
  have := hvl hne k hk
  exact hS ⟨by simp only;omega,by simp only;omega,trivial⟩
 apply Wl.callC
 exact rfl
 (focus repeat constructor)
 intro wq hq
 refine (shaWrite b Sha.ini v l wq (hq.own.at (.head _)) (fun _ => by show 0 < 256;decide) (by show 0 + _ < _;omega) (hvw (H := []) hq) (fun hne e => by have := hvl hne b e;omega) (hKr.hp hq zf) kc).mono ?_
 rintro e wr ⟨rfl,hp⟩
 refine ⟨_,_,rfl,hq.callSet kq hp,?_⟩
 clear hp hq wq wr
 repeat' first | refine Wl.move rfl rfl ?_ | apply Wl.nil | apply St.seq | apply St.region | apply Gt.next
 apply Wl.callQ
 exact rfl
 (focus repeat constructor)
 ·intro wq hq
  refine (shaSum b (Sha.wrL Sha.ini l) wq (hq.own.at (.head _)) (wrL_p l (fun _ => by show 0 < 256;decide)) (by rw [Sha.wrL_n];show 0 + _ < _;omega) (hKr.hp hq zf) kc).mono ?_
  rintro e wr ⟨rfl,hr⟩
  exact ⟨rfl,hq.keep hr⟩
 repeat' first | (apply Gt.outN;exact rfl;infer_instance;exact rfl;exact kd;exact rfl;intro w' hp) | (apply Wl.storeW;exact rfl;exact rfl;exact kd;exact rfl;exact qt) | apply Wl.nil | apply St.ret | apply Gt.next
 exact ⟨rfl,hpFin hp hu zi⟩
end Go.Proofs.YtabbklpalbikdaaGreatDoor
end
section
namespace Go.Pt
open Go.RowKit
end Go.Pt
end
section
namespace Go.Proofs.YtabbklpalbikdaaGreatDoor
open Go.RowKit Go.Pt
section
variable (base : Nat) (I : Mi) (M : Mv2) (lv : Value) (who : Nat) (w : World)
theorem Hp.restD {S : Nat → Prop} {w0 w w' : World} {H : List Blk} (h : Hp w0 H w) (u : Upd S w w') (hs : ∀ x ∈ H,¬ S x.b) : Hp w' H w' := ⟨Upd.refl _ _,h.own.upd u hs,h.apart⟩
end
end Go.Proofs.YtabbklpalbikdaaGreatDoor
end
section
namespace Go.Pt
open Go.RowKit
theorem Wl.loadAB {P : Program} {md : Md} {ops : Array Oper} {N : Nat} {rest : List Oper} {Γ : Env} {Q : Exit → Act → World → Prop} {d : Nat} {ty : TypeId} {pos : String} {af : Array Edge} {w0 : World} {H : List Blk} {t n : TypeId} [TyA P t n] {x : Operand} {b o : Nat} {xs : List Value}
  (hd : Nat.blt d N = true) (hx : ev Γ x = some (.pointer (some ⟨b,o,none⟩))) (hc : ∀ j v,xs[j]? = some v → w0.cell? ⟨b,o + j,none⟩ = some v) (ho : Off H b) (hn : xs.length = n)
  (h : Wl rest P md ops N ((d,.agg xs.toArray) :: Γ) (Hp w0 H) Q) : Wl (⟨some d,.load t x,ty,pos,af,none⟩ :: rest) P md ops N Γ (Hp w0 H) Q :=
 Wl.loadAF hd hx hn (fun w hw i v hv => by rw [addLit];exact hw.old (hc i v hv) ho) h
theorem Wl.sliceArrW {P : Program} {md : Md} {N : Nat} {ops : Array Oper} {rest : List Oper} {Γ : Env} {C : World → Prop} {Q : Exit → Act → World → Prop} {d : Nat} {ty : TypeId} {pos : String} {af : Array Edge} {t e n sz by_ : TypeId} {x : Operand} {b o : Nat} [ht : TyD P t (.array n e)] [TyS P e sz by_]
  (hd : Nat.blt d N = true) (hx : ev Γ x = some (.pointer (some ⟨b,o,none⟩))) (hn : n ≠ 0) (h : Wl rest P md ops N ((d,.slice (some ⟨b,o,none⟩) n n) :: Γ) C Q) : Wl (⟨some d,.slice t x none none none,ty,pos,af,none⟩ :: rest) P md ops N Γ C Q :=
 Wl.val hd (fun a w ha _ => by
  simp [execOp,ha.ev hx,Instr.sliceAt,run_underlying ht.out,Instr.sliceBounds,Instr.sureAddr,Addr.add,run_size (P := P) (t := e),hn]) h
end Go.Pt
namespace Go.Proofs.YtabbklpalbikdaaGreatDoor
open Go.RowKit Go.Pt
theorem tw_len {p : UInt8 → Bool} : ∀ (r : List UInt8) (n : Nat),(∀ j c,j < n → r[j]? = some c → p c = true) → n ≤ r.length → (∀ c,r[n]? = some c → p c = false) → (r.takeWhile p).length = n
 | [],n,_,h,_ => by
  have : n = 0 := by simpa using h
  subst this;rfl
 | c :: t,0,_,_,h => by
  have := h c rfl
  simp [List.takeWhile,this]
 | c :: t,n + 1,h1,h2,h3 => by
  have h0 := h1 0 c kc rfl
  simp only [List.takeWhile,h0,List.length_cons]
  rw [tw_len t n (fun j d hj hd => h1 (j + 1) d kc hd) (by simpa using h2) (fun d hd => h3 d hd)]
def zN (r : List UInt8) : Nat := (r.takeWhile fun c => decide (c = 0)).length
def nN (r : List UInt8) : Nat := (r.takeWhile fun c => decide (c ≠ 0)).length
theorem tw_le (p : UInt8 → Bool) : ∀ r : List UInt8,(r.takeWhile p).length ≤ r.length
 | [] => Nat.le_refl _
 | c :: t => by
  simp only [List.takeWhile]
  split
  ·simp only [List.length_cons];have := tw_le p t;omega
  ·exact Nat.zero_le _
def runsE : Nat → List UInt8 → List UInt8
 | 0,_ => []
 | m + 1,r => if r = [] then [] else leB 4 (zN r) ++ leB 4 (nN (r.drop (zN r))) ++ (r.drop (zN r)).take (nN (r.drop (zN r))) ++ runsE m (r.drop (zN r + nN (r.drop (zN r))))
theorem run_pos {r : List UInt8} (h : r ≠ []) : 1 ≤ zN r + nN (r.drop (zN r)) := by
 cases r with
 | nil => exact (h rfl).elim
 | cons c t =>
  by_cases h0 : c = 0
  ·have : 1 ≤ zN (c :: t) := by unfold zN;simp [List.takeWhile,h0]
   omega
  ·have h1 : zN (c :: t) = 0 := by unfold zN;simp [List.takeWhile,h0]
   have h2 : 1 ≤ nN (c :: t) := by unfold nN;simp [List.takeWhile,h0]
   rw [h1]
   simpa using h2
def digE (l : List UInt8) : List UInt8 := (List.range 32).map fun j => UInt8.ofNat (Sha.of l j)
structure PkI (w : World) (base : Nat) (src bv0 : Value) (l0 r0 : List UInt8) (m : Nat) (bv : Value) (l : List UInt8) (v1 : Value) (r : List UInt8) (wc : World) : Prop where
 row : Bo wc base bv l
 sub : ∀ u,Bs u src r0 → Bs u v1 r
 eq : l ++ runsE m r = l0 ++ runsE r0.length r0
 len : r.length ≤ m ∧ l.length + 9 * r.length ≤ l0.length + 9 * r0.length
 own : ∀ k,bv.ownBlock = some k → bv0.ownBlock = some k ∨ w.heap.size ≤ k
 up : Upd (fun k => bv0.ownBlock = some k) w wc
theorem sPack (base : Nat) (bv0 src : Value) (l0 r0 : List UInt8) (w : World) (h : Bo w base bv0 l0) (hb : base ≤ w.heap.size) (hs : Bs w src r0) (hne : ∀ k,bv0.ownBlock = some k → src.ownBlock ≠ some k) (hl : l0.length ≤ 100000) (hr : r0.length ≤ 65536) (hsb : ∀ k,(Value.ownBlock src) = some k → k < w.heap.size) (hK : ArrAt w 1 0 .u32 64 Sha.K) (hKb : 1 < base) :
  Calls Tryz.prog 94 #[bv0,src] w fun e w' => ∃ v',e = .returned v' ∧ Bo w' base v' (l0 ++ runsE r0.length r0 ++ digE (l0 ++ runsE r0.length r0)) ∧ Upd (fun k => bv0.ownBlock = some k) w w' := by
 have h0w := h.lt
 obtain ⟨sa,scap,rfl,hsc,hscm⟩ := hs.shape
 refine enter (args := [_,_]) (Γ := [(0,_),(1,_)]) Tryz.func94 Tryz.ntmps94 rfl odq (.cons rfl (.cons rfl .nil)) ?_
 repeat' first | refine Wl.assign rfl rfl ?_ | apply Wl.nil | apply St.seq | apply St.block | apply St.region | apply Gt.next
 refine St.loop (σ := Nat × Value × List UInt8 × Value × List UInt8 × World) (fun τ => PkI w base (.slice sa r0.length scap) bv0 l0 r0 τ.1 τ.2.1 τ.2.2.1 τ.2.2.2.1 τ.2.2.2.2.1 τ.2.2.2.2.2) (fun τ => [(0,τ.2.1),(1,τ.2.2.2.1)]) (fun τ => Hp τ.2.2.2.2.2 []) (fun τ => τ.2.2.2.2.1.length)
  (r0.length,bv0,l0,.slice sa r0.length scap,r0,w) ⟨h,fun _ h => h,rfl,⟨Nat.le_refl _,Nat.le_refl _⟩,fun _ h => .inl h,Upd.refl _ _⟩ kq (fun _ h => h) ?_
 rintro ⟨m,bv,l,v1,r,wc⟩ J
 simp only at J ⊢
 have zc := J.up.size
 have hsrc := hs.upd J.up fun k hk _ _ e => hne k e hk
 have hv1 := J.sub wc hsrc
 obtain ⟨a,cap,rfl,hrc,hcm⟩ := hv1.shape
 have hlen := J.len
 by_cases hr0 : r = []
 ·subst hr0
  have hd0 : decide (((0 : Nat) : Int) > 0) = false := by decide
  have he : l = l0 ++ runsE r0.length r0 := by
   rw [← J.eq]
   cases m <;> simp [runsE]
  have hKc := hK.upd J.up fun h => by have := (h0w _ h).1;omega
  rw [← he]
  repeat' first | refine Wl.move rfl rfl ?_ | refine Wl.gtr rfl rfl rfl ?_ | refine Wl.len rfl rfl ?_ | apply Wl.nil | apply St.seq | apply St.region | (apply St.condF;exact rfl;exact k5) | apply St.exit | apply Gt.next | apply Gt.thenExit | apply Gt.inExit
  apply Wl.callQ
  exact rfl
  (focus repeat constructor)
  ·intro wq hq
   exact hq.q (shaOf bv l wq ((J.row.upd hq.upd fun _ _ y => y trivial).bs) kc (fun _ k hk => by have := (J.row.lt k hk).2;have := hq.upd.size;omega) (hKc.upd hq.upd fun y => y trivial))
  repeat' first | (apply Wl.alloc;exact rfl;intro c hc ho)
  apply Wl.storeAll
  ·exact rfl
  ·exact rfl
  ·exact .here
  ·exact cellsN_len _ _ _
  ·exact rfl
  ·exact cellsN_one _ _ _
  repeat' first | refine Wl.move rfl rfl ?_ | apply Wl.nil | apply St.seq | apply St.region | apply Gt.next
  apply Wl.sliceArrW
  ·exact rfl
  ·exact rfl
  ·decide
  have hll : l.length ≤ 100000 + 9 * 65536 := by have := hlen.2;omega
  apply Wl.appendT (base := base) (n := l.length) (m := 32) (sz := 1) (e := 5) (xs := byteCells l) (news := cellsN .u8 32 (Sha.of l))
  ·exact rfl
  ·exact rfl
  ·exact rfl
  ·exact hc
  ·rw [cellsN_len];exact rfl
  ·exact J.row
  ·exact fun _ _ => trivial
  ·exact cellsN_one _ _ _
  ·exact rfl
  ·decide
  ·unfold maxLen;omega
  ·omega
  ·omega
  intro v' w1 ho2 u1 _ o1
  repeat' first | refine Wl.assign rfl rfl ?_ | apply Wl.nil | apply St.ret | apply Gt.next | (apply Gt.out1;exact rfl;exact rfl;intro w' hp)
  have hdig : cellsN .u8 32 (Sha.of l) = byteCells (digE l) := by
   simp only [digE,byteCells,List.map_map,cellsN]
   refine List.map_congr_left fun j hj => ?_
   simp only [Function.comp]
   have : Sha.of l j < 256 := Nat.mod_lt _ ku
   rw [UInt8.toNat_ofNat',Nat.mod_eq_of_lt this]
  refine ⟨_,rfl,(Bo.of ho2 (by simp [digE]) hdig).upd hp.upd fun _ _ y => y trivial,J.up.comp (u1.comp hp.upd (T := fun k => bv.ownBlock = some k) fun k _ h => h.elim (fun h => h.elim id fun y => (y trivial).elim) fun y => (y trivial).elim) fun k hk h => h.elim id fun h => (J.own k h).elim id fun h => by omega⟩
 have hrl : 0 < r.length := List.length_pos_iff.2 hr0
 have hd0 : decide ((r.length : Int) > 0) = true := decide_eq_true kc
 obtain ⟨gb,go,rfl,hcell⟩ := hv1.cells hr0
 apply St.seq
 apply St.seq
 repeat' first | refine Wl.move rfl rfl ?_ | refine Wl.gtr rfl rfl rfl ?_ | refine Wl.len rfl rfl ?_ | apply Wl.nil | apply St.block | apply St.region | (apply St.condT;exact rfl;exact k5) | apply St.skip | apply Gt.next
 apply St.seq
 repeat' first | refine Wl.assign rfl rfl ?_ | apply Wl.nil | apply St.region | apply Gt.next
 refine St.cut (σ := Nat) (fun n => n ≤ r.length ∧ zN r = n) (fun n => [(0,bv),(1,.slice (some ⟨gb,go,none⟩) r.length cap),(5,.int .i64 (n : Int))]) (fun _ => Hp wc []) ?_ ?_
 ·apply St.block
  refine St.loop (σ := Nat) (fun n => n ≤ r.length ∧ ∀ j c,j < n → r[j]? = some c → c = 0) (fun n => [(0,bv),(1,.slice (some ⟨gb,go,none⟩) r.length cap),(5,.int .i64 (n : Int))]) (fun _ => Hp wc []) (fun n => r.length - n) 0 ⟨Nat.zero_le _,fun _ _ h => (Nat.not_lt_zero _ h).elim⟩ kq (fun _ h => h) ?_
  rintro n ⟨hn,hz⟩
  try simp only at hn hz ⊢
  by_cases hnl : n < r.length
  ·have dn : decide ((n : Int) < (r.length : Int)) = true := decide_eq_true kc
   have hcc : wc.cell? ⟨gb,go + (n : Int).toNat,none⟩ = some (.int .u8 (r[n].toNat : Int)) := by rw [Int.toNat_natCast];exact hcell n hnl
   by_cases h0 : r[n] = 0
   ·have d0 : decide ((r[n].toNat : Int) = 0) = true := by rw [h0];rfl
    repeat' first | (apply Wl.loadO;exact rfl;exact rfl;exact zx;exact km) | refine Wl.move rfl rfl ?_ | refine Wl.assign rfl rfl ?_ | (apply Wl.on;exact rfl;exact rfl;exact k5) | (apply Wl.pickT;exact rfl;exact rfl;exact k5;exact rfl) | refine Wl.eql rfl rfl rfl ?_ | refine Wl.lss rfl rfl rfl ?_ | (refine Wl.addI rfl rfl rfl ?_ ?_;constructor <;> omega) | refine Wl.len rfl rfl ?_ | (refine Wl.indexAddr1 rfl rfl rfl ?_ ?_;constructor <;> omega) | apply Wl.nil | apply St.seq | apply St.block | apply St.region | (apply St.condT;exact rfl;exact k5) | apply St.skip | apply Gt.next | apply Gt.inNormal
    refine Gt.round (n + 1) ⟨hnl,fun j c hj hc => ?_⟩ zy kq (fun _ h => h)
    rcases Nat.lt_succ_iff_lt_or_eq.1 hj with h | rfl
    ·exact hz j c h hc
    ·rw [List.getElem?_eq_getElem hnl] at hc;cases hc;exact h0
   ·have d0 : decide ((r[n].toNat : Int) = 0) = false := decide_eq_false fun h => h0 (UInt8.toNat_inj.1 qz)
    repeat' first | (apply Wl.loadO;exact rfl;exact rfl;exact zx;exact km) | refine Wl.move rfl rfl ?_ | (apply Wl.on;exact rfl;exact rfl;exact k5) | (apply Wl.pickT;exact rfl;exact rfl;exact k5;exact rfl) | refine Wl.eql rfl rfl rfl ?_ | refine Wl.lss rfl rfl rfl ?_ | refine Wl.len rfl rfl ?_ | (refine Wl.indexAddr1 rfl rfl rfl ?_ ?_;constructor <;> omega) | apply Wl.nil | apply St.seq | apply St.region | (apply St.condF;exact rfl;exact k5) | apply St.exit | apply Gt.next | apply Gt.thenExit | apply Gt.inExit
    refine Gt.meet n ⟨hn,tw_len _ _ (fun j c hj hc => by simpa using hz j c hj hc) hn fun c hc => ?_⟩ kq (fun _ h => h)
    rw [List.getElem?_eq_getElem hnl] at hc
    cases hc
    simpa using h0
  ·have dn : decide ((n : Int) < (r.length : Int)) = false := decide_eq_false kc
   repeat' first | refine Wl.move rfl rfl ?_ | (apply Wl.off;exact rfl;exact rfl;exact rfl;exact kh) | (apply Wl.pickF;exact rfl;exact rfl;exact k5;exact rfl) | refine Wl.lss rfl rfl rfl ?_ | refine Wl.len rfl rfl ?_ | apply Wl.nil | apply St.seq | apply St.region | (apply St.condF;exact rfl;exact k5) | apply St.exit | apply Gt.next | apply Gt.thenExit | apply Gt.inExit
   refine Gt.meet n ⟨hn,tw_len _ _ (fun j c hj hc => by simpa using hz j c hj hc) hn fun c hc => ?_⟩ kq (fun _ h => h)
   rw [List.getElem?_eq_none kc] at hc
   cases hc
 rintro n ⟨hn,hz⟩
 try simp only at hn hz ⊢
 apply St.seq
 repeat' first | refine Wl.move rfl rfl ?_ | refine Wl.assign rfl rfl ?_ | apply Wl.nil | apply St.region | apply Gt.next
 refine St.cut (σ := Nat) (fun k => n ≤ k ∧ k ≤ r.length ∧ nN (r.drop n) = k - n) (fun k => [(0,bv),(1,.slice (some ⟨gb,go,none⟩) r.length cap),(5,.int .i64 (n : Int)),(6,.int .i64 (k : Int))]) (fun _ => Hp wc []) ?_ ?_
 ·apply St.block
  refine St.loop (σ := Nat) (fun k => n ≤ k ∧ k ≤ r.length ∧ ∀ j c,n ≤ j → j < k → r[j]? = some c → c ≠ 0) (fun k => [(0,bv),(1,.slice (some ⟨gb,go,none⟩) r.length cap),(5,.int .i64 (n : Int)),(6,.int .i64 (k : Int))]) (fun _ => Hp wc []) (fun k => r.length - k) n ⟨Nat.le_refl _,hn,fun _ _ h1 h2 => by omega⟩ kq (fun _ h => h) ?_
  rintro k ⟨hnk,hk,hz'⟩
  try simp only at hnk hk hz' ⊢
  have stop : (∀ c,r[k]? = some c → c = 0) → nN (r.drop n) = k - n := fun hs => tw_len _ _ (fun j c hj hc => by rw [List.getElem?_drop] at hc;simpa using hz' (n + j) c kc kc hc) j3 fun c hc => by
   rw [List.getElem?_drop,show n + (k - n) = k by omega] at hc
   simpa using hs c hc
  by_cases hkl : k < r.length
  ·have dn : decide ((k : Int) < (r.length : Int)) = true := decide_eq_true kc
   have hcc : wc.cell? ⟨gb,go + (k : Int).toNat,none⟩ = some (.int .u8 (r[k].toNat : Int)) := by rw [Int.toNat_natCast];exact hcell k hkl
   by_cases h0 : r[k] = 0
   ·have d0 : decide ((r[k].toNat : Int) ≠ 0) = false := by rw [h0];rfl
    repeat' first | (apply Wl.loadO;exact rfl;exact rfl;exact zx;exact km) | refine Wl.move rfl rfl ?_ | (apply Wl.on;exact rfl;exact rfl;exact k5) | (apply Wl.pickT;exact rfl;exact rfl;exact k5;exact rfl) | refine Wl.neq rfl rfl rfl ?_ | refine Wl.lss rfl rfl rfl ?_ | refine Wl.len rfl rfl ?_ | (refine Wl.indexAddr1 rfl rfl rfl ?_ ?_;constructor <;> omega) | apply Wl.nil | apply St.seq | apply St.region | (apply St.condF;exact rfl;exact k5) | apply St.exit | apply Gt.next | apply Gt.thenExit | apply Gt.inExit
    exact Gt.meet k ⟨hnk,hk,stop fun c hc => by rw [List.getElem?_eq_getElem hkl] at hc;cases hc;exact h0⟩ kq (fun _ h => h)
   ·have d0 : decide ((r[k].toNat : Int) ≠ 0) = true := decide_eq_true fun h => h0 (UInt8.toNat_inj.1 qz)
    repeat' first | (apply Wl.loadO;exact rfl;exact rfl;exact zx;exact km) | refine Wl.move rfl rfl ?_ | refine Wl.assign rfl rfl ?_ | (apply Wl.on;exact rfl;exact rfl;exact k5) | (apply Wl.pickT;exact rfl;exact rfl;exact k5;exact rfl) | refine Wl.neq rfl rfl rfl ?_ | refine Wl.lss rfl rfl rfl ?_ | (refine Wl.addI rfl rfl rfl ?_ ?_;constructor <;> omega) | refine Wl.len rfl rfl ?_ | (refine Wl.indexAddr1 rfl rfl rfl ?_ ?_;constructor <;> omega) | apply Wl.nil | apply St.seq | apply St.block | apply St.region | (apply St.condT;exact rfl;exact k5) | apply St.skip | apply Gt.next | apply Gt.inNormal
    refine Gt.round (k + 1) ⟨by first | omega | (simp only;omega),hkl,fun j c h1 hj hc => ?_⟩ zy kq (fun _ h => h)
    rcases Nat.lt_succ_iff_lt_or_eq.1 hj with h | rfl
    ·exact hz' j c h1 h hc
    ·rw [List.getElem?_eq_getElem hkl] at hc;cases hc;exact h0
  ·have dn : decide ((k : Int) < (r.length : Int)) = false := decide_eq_false kc
   repeat' first | refine Wl.move rfl rfl ?_ | (apply Wl.off;exact rfl;exact rfl;exact rfl;exact kh) | (apply Wl.pickF;exact rfl;exact rfl;exact k5;exact rfl) | refine Wl.lss rfl rfl rfl ?_ | refine Wl.len rfl rfl ?_ | apply Wl.nil | apply St.seq | apply St.region | (apply St.condF;exact rfl;exact k5) | apply St.exit | apply Gt.next | apply Gt.thenExit | apply Gt.inExit
   exact Gt.meet k ⟨hnk,hk,stop fun c hc => by rw [List.getElem?_eq_none kc] at hc;cases hc⟩ kq (fun _ h => h)
 rintro k ⟨hnk,hk,hz'⟩
 try simp only at hnk hk hz' ⊢
 apply St.seq
 refine St.tree (fun _ => True) mixed (fun _ h' => ⟨Hp.drew h',trivial⟩) ?_
 refine Mt.pm 0 ?_
 refine Mt.pm 1 ?_
 refine Mt.pm 4 ?_
 refine Mt.pm 5 ?_
 refine Mt.pm 9 ?_
 refine Mt.pm 10 ?_
 refine Mt.pm 11 ?_
 refine Mt.pu 2 ?_
 refine Wl.convU32 rfl rfl ?_ ?_;constructor <;> omega;apply Wl.nilB
 refine Mt.pu 6 ?_
 refine Wl.subI rfl rfl rfl ?_ ?_;constructor <;> omega;apply Wl.nilB
 refine Mt.pu 12 ?_
 apply Wl.sliceFull;exact rfl;exact rfl;exact kw;exact kw;exact kw;exact zk;omega;omega;omega;apply Wl.nilB
 refine Mt.pu 7 ?_
 refine Wl.convU32 rfl rfl ?_ ?_;constructor <;> omega;apply Wl.nilB
 refine Mt.e1 3 ?_
 apply Wl.callC
 ·exact rfl
 ·exact kd
 intro wq1 hq1
 have zq1 := hq1.upd.size
 refine (p32X base bv l (n : Int) ⟨by omega,by omega⟩ wq1 (J.row.upd hq1.upd fun _ _ y => y trivial) kc kc).mono ?_
 rintro e w1 ⟨b1,rfl,hb1,u1,o1⟩
 have z1 := u1.size
 rw [Int.toNat_natCast] at hb1
 have U1 : Upd (fun k => bv.ownBlock = some k) wc w1 := (hq1.upd.mono fun _ _ y => (y trivial).elim).comp u1 fun k _ h => h.elim id id
 refine ⟨_,_,rfl,Hp.start w1,?_⟩
 clear hq1 u1
 apply Wl.nil
 refine Mt.backE (fun _ _ => trivial) ?_
 refine Mt.e1 8 ?_
 apply Wl.callC
 ·exact rfl
 ·exact kd
 intro wq2 hq2
 have zq2 := hq2.upd.size
 have hl1 : (l ++ leB 4 n).length = l.length + 4 := by rw [List.length_append,leB_length]
 refine (p32X base b1 _ ((k : Int) - (n : Int)) ⟨by omega,by omega⟩ wq2 (hb1.upd hq2.upd fun _ _ y => y trivial) kc kc).mono ?_
 rintro e w2 ⟨b2,rfl,hb2,u2,o2⟩
 have z2 := u2.size
 rw [show ((k : Int) - (n : Int)).toNat = k - n by omega] at hb2
 have U2 : Upd (fun k => bv.ownBlock = some k) wc w2 := (U1.comp hq2.upd (T := fun k => bv.ownBlock = some k) fun k _ h => h.elim id fun y => (y trivial).elim).comp u2 fun k hk h => h.elim id fun h => (o1 k h).elim id fun h => by omega
 have O2 : ∀ k,b2.ownBlock = some k → bv.ownBlock = some k ∨ wc.heap.size ≤ k := fun k hk => (o2 k hk).elim (fun h => (o1 k h).imp id fun h => by omega) fun h => .inr kc
 have hsrc2 := (hs.upd J.up fun k hk _ _ e => hne k e hk).upd U2 fun k hk hlt _ h => (J.own k h).elim (fun h => hne k h hk) fun h => by have := hsb k hk;omega
 have hv2 := J.sub w2 hsrc2
 have hy := hv2.sub (lo := n) (hi := k) (mx := cap) hnk hk kc (Nat.le_refl _)
 rw [List.drop_take] at hy
 have hty : ((r.drop n).take (k - n)).length = k - n := by rw [List.length_take,List.length_drop];omega
 have hl2 : (l ++ leB 4 n ++ leB 4 (k - n)).length = l.length + 8 := by rw [List.length_append,List.length_append,leB_length,leB_length]
 refine ⟨_,_,rfl,Hp.start w2,?_⟩
 clear hq2 u2
 apply Wl.nil
 refine Mt.backE (fun _ _ => trivial) ?_
 refine Mt.e1 13 ?_
 simp only [Int.toNat_natCast]
 apply Wl.appendV (base := base) (n := (l ++ leB 4 n ++ leB 4 (k - n)).length) (m := k - n) (xs := byteCells (l ++ leB 4 n ++ leB 4 (k - n))) (news := byteCells ((r.drop n).take (k - n)))
 ·exact rfl
 ·exact rfl
 ·exact rfl
 ·have := hy;unfold Bs at this;rw [hty] at this;exact this
 ·exact fun _ _ _ _ => trivial
 ·exact hb2
 ·exact fun _ _ => trivial
 ·exact byteCells_all _
 ·exact rfl
 ·decide
 ·unfold maxLen;omega
 ·omega
 ·omega
 intro b3 w3 ho3 u3 _ o3
 have hb3 : Bo w3 base b3 (l ++ leB 4 n ++ leB 4 (k - n) ++ (r.drop n).take (k - n)) := Bo.of ho3 (by rw [hty]) rfl
 have z3 := u3.size
 have U3 : Upd (fun k => bv.ownBlock = some k) wc w3 := U2.comp u3 fun k hk h => h.elim id fun h => h.elim (fun h => (O2 k h).elim id fun h => by omega) fun h => (h trivial).elim
 apply Wl.nil
 refine Mt.backE (fun _ _ => trivial) ?_
 refine Mt.pu 14 ?_
 refine Wl.assign rfl rfl (Wl.nilB ?_)
 refine Mt.toGt kb ?_
 repeat' first | refine Wl.move rfl rfl ?_ | refine Wl.assign rfl rfl ?_ | (apply Wl.sliceFull;exact rfl;exact rfl;exact kw;exact kw;exact kw;exact zk;omega;omega;omega) | apply Wl.nil | apply St.region | apply Gt.next | apply Gt.inNormal
 simp only [Int.toNat_natCast]
 refine Gt.reb (H' := []) fun w4 h4 => ⟨trivial,trivial,?_⟩
 have hk1 : 1 ≤ k := by
  have := run_pos hr0
  rw [hz,hz'] at this
  omega
 obtain ⟨m,rfl⟩ : ∃ m',m = m' + 1 := ⟨m - 1,by omega⟩
 have hld : (r.drop k).length = r.length - k := List.length_drop
 refine Gt.round (m,b3,l ++ leB 4 n ++ leB 4 (k - n) ++ (r.drop n).take (k - n),(.slice (if cap = k then some ⟨gb,go,none⟩ else (some (⟨gb,go,none⟩ : Addr)).map (·.add (k * 1))) (r.length - k) (cap - k)),r.drop k,w4) ⟨hb3.upd h4.upd fun _ _ y => y trivial,fun u hu => ?_,?_,⟨by simp only [hld];omega,?_⟩,fun j hj => ?_,?_⟩ (by simp only [hld];omega) kq (fun _ h => h)
 ·have := (J.sub u hu).sub (lo := k) (hi := r.length) (mx := cap) hk (Nat.le_refl _) kc (Nat.le_refl _)
  rw [List.take_length] at this
  exact this
 ·rw [← J.eq]
  conv => rhs;unfold runsE
  rw [if_neg hr0,hz,hz',show n + (k - n) = k by omega]
  simp only [List.append_assoc]
 ·rw [List.length_append,hl2,hty,hld]
  omega
 ·exact ((o3 j hj).2.elim (fun h => O2 j h) fun h => .inr kc).elim (J.own j) fun h => .inr kc
 ·exact J.up.comp (U3.comp h4.upd fun j _ h => h.elim id fun y => (y trivial).elim) fun j hj h => h.elim id fun h => (J.own j h).elim id fun h => by omega
end Go.Proofs.YtabbklpalbikdaaGreatDoor
end
section
namespace Go.Pt
open Go.RowKit
end Go.Pt
namespace Go.Proofs.YtabbklpalbikdaaGreatDoor
open Go.RowKit Go.Pt
end Go.Proofs.YtabbklpalbikdaaGreatDoor
end
section
namespace Go.Pt
open Go.RowKit
end Go.Pt
namespace Go.Proofs.YtabbklpalbikdaaGreatDoor
open Go.RowKit Go.Pt
theorem storeX_FB {f : Nat → Int} (h : FB f) (a : Nat) (x : Int) (n : Nat) : FB (storeX f a x n) := by
 induction n with
 | zero => exact h
 | succ n ih =>
  intro j
  unfold storeX updI
  split
  ·rw [IntKind.wrap_u8];omega
  ·exact ih j
end Go.Proofs.YtabbklpalbikdaaGreatDoor
end
section
namespace Go.Pt
open Go.RowKit
end Go.Pt
namespace Go.Proofs.YtabbklpalbikdaaGreatDoor
open Go.RowKit Go.Pt
end Go.Proofs.YtabbklpalbikdaaGreatDoor
end
section
namespace Go.Pt
end Go.Pt
namespace Go.Proofs.YtabbklpalbikdaaGreatDoor
open Go.RowKit Go.Pt
theorem _root_.Go.Pt.Hp.onS {S : Nat → Prop} {w0 w w' : World} {H : List Blk} (h : Hp w H w') (u : Upd S w0 w) (hH : ∀ x ∈ H,S x.b) : Upd S w0 w' := u.comp h.upd fun k _ hs => hs.elim id fun y => Classical.byContradiction fun hn => y (Off.of fun x hx e => hn (e ▸ hH x hx))
theorem _root_.Go.Pt.Hp.on0 {S : Nat → Prop} {w0 w w' : World} (h : Hp w [] w') (u : Upd S w0 w) : Upd S w0 w' := h.onS u fun x hx => by cases hx
theorem _root_.Go.Pt.Hp.on1 {S : Nat → Prop} {w0 w w' : World} {a : Blk} (h : Hp w [a] w') (u : Upd S w0 w) (ha : S a.b) : Upd S w0 w' := h.onS u fun x hx => by
 rcases List.mem_cons.1 hx with rfl | hx
 ·exact ha
 ·cases hx
theorem _root_.Go.Pt.Hp.on2 {S : Nat → Prop} {w0 w w' : World} {a b : Blk} (h : Hp w [a,b] w') (u : Upd S w0 w) (ha : S a.b) (hb : S b.b) : Upd S w0 w' := h.onS u fun x hx => by
 rcases List.mem_cons.1 hx with rfl | hx
 ·exact ha
 ·rcases List.mem_cons.1 hx with rfl | hx
  ·exact hb
  ·cases hx
end Go.Proofs.YtabbklpalbikdaaGreatDoor
end
section
namespace Go.Pt
open Go.RowKit
end Go.Pt
namespace Go.Proofs.YtabbklpalbikdaaGreatDoor
open Go.RowKit Go.Pt
def napA (s z : Int) : Int := bits .or .u32 (s.fdiv (2 ^ min (Int.toNat 2) IntKind.u32.bits)) (IntKind.u32.wrap (z.fdiv (2 ^ min (Int.toNat 3) IntKind.u32.bits) - 1))
def gr3 (at_ : Int) (k : Nat) : Int × Int × Int := match k with
 | 0 => (at_,4096,5)
 | 1 => (IntKind.u32.wrap (at_ + 4096),4096,3)
 | _ => (IntKind.u32.wrap (at_ + 8192),32,1)
def en4 (at_ : Int) (k : Nat) : Int × Int × Int := match k with
 | 0 => (3,5,napA (gr3 at_ 0).1 4096)
 | 1 => (3,3,napA (gr3 at_ 1).1 4096)
 | 2 => (3,1,napA (gr3 at_ 2).1 32)
 | _ => (3,0,536870911)
def biasI (i : Nat) : Int := 2147487744 + 12288 * i
def dgK (i k : Nat) : List Value := (List.range 32).map fun q => .int .u8 (if q < k then IntKind.u8.wrap ((q : Int) * q + i) else 0)
theorem dgK_len (i k : Nat) : (dgK i k).length = 32 := by simp [dgK]
theorem dgK_set (i : Nat) {k : Nat} (hk : k < 32) : (dgK i k).set k (.int .u8 (IntKind.u8.wrap ((k : Int) * k + i))) = dgK i (k + 1) := by
 refine List.ext_getElem? fun q => ?_
 rw [List.getElem?_set]
 by_cases h : q < 32
 ·by_cases e : k = q
  ·subst e
   rw [if_pos rfl,if_pos (by rw [dgK_len];exact h)]
   simp [dgK,h]
  ·rw [if_neg e]
   have h2 : (q < k + 1) = (q < k) := by apply propext;omega
   simp [dgK,h,h2]
 ·rw [if_neg kc,List.getElem?_eq_none (by rw [dgK_len];omega),List.getElem?_eq_none (by rw [dgK_len];omega)]
def dgL (i : Nat) : List UInt8 := (List.range 32).map fun q => UInt8.ofNat (q * q + i)
theorem dgL_len (i : Nat) : (dgL i).length = 32 := by simp [dgL]
theorem dgL_cells {i : Nat} (hi : i < 3) : dgK i 32 = byteCells (dgL i) := by
 have h : i = 0 ∨ i = 1 ∨ i = 2 := by omega
 rcases h with rfl | rfl | rfl <;> rfl
def payX (i g : Nat) (ca : Int) : List Value := byteCells (dgL i) ++ [.int .u32 0,.int .u32 (biasI i),.slice (some ⟨g,0,none⟩) 3 3,.int .i64 ca]
theorem payX_len (i g : Nat) (ca : Int) : (payX i g ca).length = 36 := by simp [payX,byteCells_length,dgL_len]
def payRs (gs : Nat → Nat) (ca : Nat → Int) (n : Nat) : List (List Value) := (List.range n).map fun j => payX j (gs j) (ca j)
theorem payRs_succ (gs : Nat → Nat) (ca : Nat → Int) (n : Nat) : (payRs gs ca (n + 1)).flatten = (payRs gs ca n).flatten ++ payX n (gs n) (ca n) := by simp [payRs,List.range_succ]
theorem payRs_gs (gs gs' : Nat → Nat) (ca : Nat → Int) (n : Nat) (h : ∀ j,j < n → gs j = gs' j) : payRs gs ca n = payRs gs' ca n := by
 unfold payRs
 refine List.map_congr_left fun j hj => ?_
 rw [h j (List.mem_range.1 hj)]
def grC (at_ : Int) : List Value := [.int .u32 at_,.int .u32 4096,.int .i64 5,.int .u32 (IntKind.u32.wrap (at_ + 4096)),.int .u32 4096,.int .i64 3,.int .u32 (IntKind.u32.wrap (at_ + 8192)),.int .u32 32,.int .i64 1]
theorem payloads (n : Nat) (hn : n ≤ 3) (w : World) :
  Calls Tryz.prog 39 #[.int .i64 (n : Int)] w fun e w' => ∃ v gs,e = .returned v ∧ w'.ownsRow w.heap.size 116 36 v n (payRs gs (fun _ => 255) n).flatten ∧ (∀ j,j < n → w.heap.size ≤ gs j ∧ w'.heap[gs j]? = some (.cells (grC (biasI j)).toArray 180 (0,0))) ∧ Upd (fun k => w.heap.size ≤ k) w w' := by
 refine enter (args := [_]) (Γ := [(0,_)]) Tryz.func39 Tryz.ntmps39 rfl odq (.cons rfl .nil) ?_
 repeat' first | refine Wl.move rfl rfl ?_ | refine Wl.assign rfl rfl ?_ | apply Wl.nil | apply St.seq | apply St.block | apply St.region | apply Gt.next
 refine St.loop (σ := Nat × World × Value × (Nat → Nat)) (fun τ => τ.1 ≤ n ∧ Upd (fun k => w.heap.size ≤ k) w τ.2.1 ∧ τ.2.1.ownsRow w.heap.size 116 36 τ.2.2.1 τ.1 (payRs τ.2.2.2 (fun _ => 255) τ.1).flatten ∧ (∀ j,j < τ.1 → w.heap.size ≤ τ.2.2.2 j ∧ τ.2.1.heap[τ.2.2.2 j]? = some (.cells (grC (biasI j)).toArray 180 (0,0))))
  (fun τ => [(3,τ.2.2.1),(8,.int .i64 (n : Int)),(9,.int .i64 (τ.1 : Int))]) (fun τ => Hp τ.2.1 []) (fun τ => n - τ.1) (0,w,.slice none 0 0,fun _ => 0) ⟨Nat.zero_le _,Upd.refl _ _,World.ownsRow_nil w _ _ _,fun j hj => by cases hj⟩ kq (fun _ h => h) ?_
 rintro ⟨i,w0,v,gs⟩ ⟨hi,hu0,hv,hg⟩
 simp only at hi hu0 hv hg ⊢
 have s0 := hu0.size
 by_cases hlt : i < n
 ·have hd : decide ((i : Int) < (n : Int)) = true := decide_eq_true kc
  have hi3 : i < 3 := by omega
  repeat' first | refine Wl.move rfl rfl ?_ | refine Wl.assign rfl rfl ?_ | refine Wl.lss rfl rfl rfl ?_ | (refine Wl.addI rfl rfl rfl ?_ ?_;constructor <;> omega) | (refine Wl.mulI rfl rfl rfl ?_ ?_;constructor <;> omega) | refine Wl.add rfl rfl rfl ?_ | (refine Wl.convU32 rfl rfl ?_ ?_;constructor <;> omega) | (apply Wl.storeA;exact rfl;exact rfl;exact rfl;exact rfl;exact kd;exact kn) | (apply Wl.buildS;exact rfl;exact kj;exact ka) | (apply Wl.lit;exact rfl;exact kj;exact rfl;exact rfl;exact ke;intro c hc ho) | (apply Wl.alloc;exact rfl;intro c hc ho) | apply Wl.nil | apply St.seq | apply St.block | apply St.region | (apply St.condT;exact rfl;exact k5) | apply St.skip | apply Gt.next
  rename_i g hcg hog
  generalize c = c6 at *
  have hc6 : w0.heap.size ≤ c6 := by assumption
  refine St.loop (σ := Nat) (fun k => k ≤ 32) (fun k => [(3,v),(4,.int .i64 (i : Int)),(6,.pointer (some ⟨c6,0,none⟩)),(8,.int .i64 (n : Int)),(9,.int .i64 (i : Int)),(27,.int .i64 (k : Int))])
   (fun k => Hp w0 [⟨c6,dgK i k ++ [.int .u32 0,.int .u32 (biasI i),.slice (some ⟨g,0,none⟩) 3 3,.int .i64 255],116⟩,⟨g,grC (biasI i),180⟩]) (fun k => 32 - k) 0 zd kq (fun _ h => h) ?_
  intro k hk
  by_cases hk2 : k < 32
  ·have hd2 : decide ((k : Int) < 32) = true := decide_eq_true kc
   have hkk : (k : Int) * k ≤ 1024 ∧ 0 ≤ (k : Int) * k := ⟨by have : (k : Int) * k ≤ 32 * 32 := Int.mul_le_mul kc kc kc kc;omega,Int.mul_nonneg kc kc⟩
   have hset : LSet (dgK i k ++ [.int .u32 0,.int .u32 (biasI i),.slice (some ⟨g,0,none⟩) 3 3,.int .i64 255]) (0 + (k : Int).toNat * 1) (.int .u8 (IntKind.u8.wrap ((k : Int) * k + i))) (dgK i (k + 1) ++ [.int .u32 0,.int .u32 (biasI i),.slice (some ⟨g,0,none⟩) 3 3,.int .i64 255]) := by
    rw [Int.toNat_natCast,Nat.zero_add,Nat.mul_one,← dgK_set i hk2]
    exact LSet.left (by rw [dgK_len];exact hk2)
   repeat' first | (apply Wl.store;exact rfl;exact rfl;exact rfl;exact kd;exact hset) | refine Wl.move rfl rfl ?_ | refine Wl.assign rfl rfl ?_ | refine Wl.fieldAddr0 rfl rfl ?_ | refine Wl.lss rfl rfl rfl ?_ | (refine Wl.addI rfl rfl rfl ?_ ?_;constructor <;> omega) | (refine Wl.mulI rfl rfl rfl ?_ ?_;constructor <;> omega) | refine Wl.convI rfl rfl ?_ | (refine Wl.indexArr rfl rfl rfl ?_ ?_;constructor <;> omega) | apply Wl.nil | apply St.seq | apply St.block | apply St.region | (apply St.condT;exact rfl;exact k5) | apply St.skip | apply Gt.next | apply Gt.inNormal
   refine Gt.round (k + 1) kc kc kq (fun _ h => h)
  ·obtain rfl : k = 32 := by omega
   have hd2 : decide (((32 : Nat) : Int) < 32) = false := by decide
   repeat' first | (apply Wl.loadAH (xs := payX i g 255);exact rfl;exact rfl;exact kd;(rw [dgL_cells hi3];exact LSub.whole' (payX_len i g 255))) | refine Wl.move rfl rfl ?_ | refine Wl.lss rfl rfl rfl ?_ | (apply Wl.lit;exact rfl;exact kj;exact rfl;exact rfl;exact ke;intro c hc ho) | apply Wl.nil | apply St.seq | apply St.region | (apply St.condF;exact rfl;exact k5) | apply St.exit | apply Gt.next | apply Gt.thenExit | apply Gt.inExit
   apply Wl.appendT (base := w.heap.size) (n := i) (m := 1) (sz := 36) (e := 116) (xs := (payRs gs (fun _ => 255) i).flatten)
   ·exact rfl
   ·exact rfl
   ·exact rfl
   ·omega
   ·exact rfl
   ·exact hv
   ·exact fun j hj => ⟨fun e => by have := (hv.ge j hj).2;simp only at e;omega,fun e => by have := (hv.ge j hj).2;simp only at e;omega,trivial⟩
   ·exact rfl
   ·exact rfl
   ·decide
   ·unfold maxLen;omega
   ·omega
   ·exact s0
   intro v' w2 ho2 u2 _ hoff2
   repeat' first | refine Wl.move rfl rfl ?_ | refine Wl.assign rfl rfl ?_ | (refine Wl.addI rfl rfl rfl ?_ ?_;constructor <;> omega) | apply Wl.nil | apply St.region | apply Gt.next | apply Gt.inNormal
   refine Gt.reb (H' := []) fun w3 h3 => ⟨trivial,trivial,?_⟩
   have key : ∀ j,¬ Off [⟨c6,[],0⟩,⟨g,[],0⟩] j → w0.heap.size ≤ j := fun j hn => Classical.byContradiction fun hc => hn ⟨fun e => by simp only at e;omega,fun e => by simp only at e;omega,trivial⟩
   have hu3 : Upd (fun k => w.heap.size ≤ k) w w3 := by
    refine hu0.comp (u2.comp h3.upd (T := fun k => w.heap.size ≤ k) fun j hj hs => ?_) fun j hj hs => hs.elim id id
    exact hs.elim (fun hs => hs.elim (fun h => (hv.ge j h).1) fun h => Nat.le_trans s0 (key j h)) fun h => Nat.le_trans s0 (key j h)
   refine Gt.round (i + 1,w3,v',fun j => if j = i then g else gs j) ⟨by simp only;omega,hu3,?_,?_⟩ ky kq (fun _ h => h)
   ·simp only
    rw [payRs_succ,if_pos rfl,payRs_gs _ gs _ i (fun j hj => if_neg kc)]
    exact ownsRow_upd ho2 h3.upd fun j hj y => y (hoff2 j hj).1
   ·intro j hj
    simp only
    by_cases e : j = i
    ·rw [if_pos e,e]
     exact ⟨by omega,h3.own.at (.tail _ (.head _))⟩
    ·rw [if_neg e]
     obtain ⟨h1,h2⟩ := hg j (by simp only at hj;omega)
     have hl := lt_of_block h2
     have hne : v.ownBlock ≠ some (gs j) := fun hk => (hv.heap hk).elim fun _ hb => by rw [hb] at h2;cases h2
     refine ⟨h1,(h3.upd.heap (u2.heap h2 fun hs => hs.elim hne fun h => by have := key _ h;omega) fun h => by have := key _ h;omega)⟩
 ·obtain rfl : i = n := by omega
  have hd : decide ((i : Int) < (i : Int)) = false := decide_eq_false kc
  repeat' first | refine Wl.move rfl rfl ?_ | refine Wl.assign rfl rfl ?_ | refine Wl.lss rfl rfl rfl ?_ | apply Wl.nil | apply St.seq | apply St.region | (apply St.condF;exact rfl;exact k5) | apply St.ret | apply St.exit | apply Gt.next | apply Gt.thenExit | apply Gt.inExit | (apply Gt.out1;exact rfl;exact rfl;intro w' hp)
  exact ⟨v,gs,rfl,ownsRow_upd hv hp.upd fun _ _ y => y trivial,fun j hj => ⟨(hg j hj).1,hp.upd.heap (hg j hj).2 fun y => y trivial⟩,hu0.comp hp.upd fun k _ hs => hs.elim id fun y => (y trivial).elim⟩
def RW (w : World) (base c n : Nat) : Prop := ∃ rv xs,w.heap[c]? = some (.cells #[rv,.slice none 0 0] 167 (0,0)) ∧ w.ownsRow base 169 36 rv n xs
theorem RW.upd {w w' : World} {base c n : Nat} {S : Nat → Prop} (h : RW w base c n) (u : Upd S w w') (hc : ¬ S c) (hs : ∀ k,base ≤ k → k < w.heap.size → ¬ S k) : RW w' base c n := by
 obtain ⟨rv,xs,h1,h2⟩ := h
 exact ⟨rv,xs,u.heap h1 hc,ownsRow_upd h2 u fun k hk => hs k (h2.ge k hk).1 (h2.ge k hk).2⟩
theorem rwNew (a : Option Addr) (n cap : Nat) (p : Nat → Int) (w : World) (hn : n ≤ 4) (hA : WordF w a n p) :
  Calls Tryz.prog 107 #[.slice a n cap] w fun e w' => ∃ c,e = .returned (.pointer (some ⟨c,0,none⟩)) ∧ RW w' w.heap.size c n ∧ w.heap.size ≤ c ∧ Upd (fun k => w.heap.size ≤ k) w w' := by
 refine enter (args := [_]) (Γ := [(0,_)]) Tryz.func107 Tryz.ntmps107 rfl odq (.cons rfl .nil) ?_
 repeat' first | refine Wl.assign rfl rfl ?_ | (apply Wl.buildS;exact rfl;exact kj;exact ka) | (apply Wl.boxA;exact rfl;exact rfl;intro c hc ho) | apply Wl.nil | apply St.seq | apply St.block | apply St.region | apply Gt.next
 generalize c = c3 at *
 have hc3 : w.heap.size ≤ c3 := by assumption
 refine St.loop (σ := Nat × World × Value × List Value) (fun τ => τ.1 ≤ n ∧ Upd (fun k => w.heap.size ≤ k) w τ.2.1 ∧ τ.2.1.ownsRow w.heap.size 169 36 τ.2.2.1 τ.1 τ.2.2.2 ∧ ∀ k,τ.2.2.1.ownBlock = some k → k ≠ c3)
  (fun τ => [(0,.slice a n cap),(3,.pointer (some ⟨c3,0,none⟩)),(4,.int .i64 (τ.1 : Int))]) (fun τ => Hp τ.2.1 [⟨c3,[τ.2.2.1,.slice none 0 0],167⟩]) (fun τ => n - τ.1) (0,w,.slice none 0 0,[]) ⟨Nat.zero_le _,Upd.refl _ _,World.ownsRow_nil w _ _ _,fun k hk => by cases hk⟩ kq (fun _ h => h) ?_
 rintro ⟨i,w0,v,xs⟩ ⟨hi,hu0,hv,hoff⟩
 simp only at hi hu0 hv hoff ⊢
 have s0 := hu0.size
 by_cases hlt : i < n
 ·have hd : decide ((i : Int) < (n : Int)) = true := decide_eq_true kc
  obtain ⟨b,o,rfl,hc,_⟩ := hA i hlt
  have hbl : b < w.heap.size := World.block_lt_of_cell? w _ hc
  have hb : w0.cell? ⟨b,o + (i : Int).toNat,none⟩ = some (.int .u32 (p i)) := by
   rw [Int.toNat_natCast]
   exact hu0.cell hc (Nat.not_le.2 hbl)
  repeat' first | refine Wl.move rfl rfl ?_ | refine Wl.lss rfl rfl rfl ?_ | refine Wl.len rfl rfl ?_ | apply Wl.nil | apply St.seq | apply St.block | apply St.region | (apply St.condT;exact rfl;exact k5) | apply St.skip | apply Gt.next
  refine St.tree (fun w' => w'.cell? ⟨b,o + (i : Int).toNat,none⟩ = some (.int .u32 (p i))) mixed (fun _ h' => ⟨Hp.drew h',(Hp.drew h').upd.cell hb fun y => y ⟨by simp only;omega,trivial⟩⟩) ?_
  refine Mt.pm 0 ?_
  refine Mt.pm 1 ?_
  refine Mt.pm 5 ?_
  refine Mt.pm 6 ?_
  refine Mt.pm 7 ?_
  refine Mt.pn 2 ?_
  refine Mt.pu 8 ?_
  refine Wl.indexAddr1 rfl rfl rfl ?_ ?_;constructor <;> omega;apply Wl.nilB
  refine Mt.pf 3 ?_
  refine Mt.pu 9 ?_
  apply Wl.loadF;exact rfl;exact rfl;(intro w' h';exact h');apply Wl.nilB
  refine Mt.pu 10 ?_
  apply Wl.buildS;exact rfl;exact kj;exact ka;apply Wl.nilB
  refine Mt.pu 11 ?_
  apply Wl.buildS;exact rfl;exact kj;exact ka;apply Wl.nilB
  refine Mt.eff2 (i := 4) (j := 12) kb kf kf ?_ ?_
  ·repeat' first | (apply Wl.loadH;exact rfl;exact rfl;exact kd;exact rfl) | apply Wl.nil
   refine Mt.backE (fun _ h' => by first | exact h'.upd.cell hb (fun y => y ⟨by simp only;omega,trivial⟩) | exact h'.upd.cell hb (fun y => y ⟨by simp only;omega,by simp only;omega,trivial⟩) | exact h'.upd.cell (u1.cell hb (fun y => y.elim (fun h => by have := (hv.ge _ h).1;simp only at this;omega) fun y => y ⟨by simp only;omega,trivial⟩)) (fun y => y ⟨by simp only;omega,trivial⟩)) ?_
   refine Mt.e1 12 ?_
   repeat' first | (apply Wl.lit;exact rfl;exact kj;exact rfl;exact rfl;exact ke;intro c hc ho) | apply Wl.nil
   refine Mt.backE (fun _ h' => by first | exact h'.upd.cell hb (fun y => y ⟨by simp only;omega,trivial⟩) | exact h'.upd.cell hb (fun y => y ⟨by simp only;omega,by simp only;omega,trivial⟩) | exact h'.upd.cell (u1.cell hb (fun y => y.elim (fun h => by have := (hv.ge _ h).1;simp only at this;omega) fun y => y ⟨by simp only;omega,trivial⟩)) (fun y => y ⟨by simp only;omega,trivial⟩)) ?_
   refine Mt.e1 13 ?_
   apply Wl.appendT (base := w.heap.size) (n := i) (m := 1) (sz := 36) (e := 169) (xs := xs)
   ·exact rfl
   ·exact rfl
   ·exact rfl
   ·assumption
   ·exact rfl
   ·exact hv
   ·exact fun k hk => ⟨fun e => hoff k hk e.symm,trivial⟩
   ·exact rfl
   ·exact rfl
   ·decide
   ·unfold maxLen;omega
   ·omega
   ·exact s0
   intro v' w1 ho1 u1 _ hoff1
   have hov := ho1.one
   have s1 := u1.size
   apply Wl.nil
   refine Mt.backE (fun _ h' => by first | exact h'.upd.cell hb (fun y => y ⟨by simp only;omega,trivial⟩) | exact h'.upd.cell hb (fun y => y ⟨by simp only;omega,by simp only;omega,trivial⟩) | exact h'.upd.cell (u1.cell hb (fun y => y.elim (fun h => by have := (hv.ge _ h).1;simp only at this;omega) fun y => y ⟨by simp only;omega,trivial⟩)) (fun y => y ⟨by simp only;omega,trivial⟩)) ?_
   refine Mt.pn 14 ?_
   refine Mt.pf 15 ?_
   refine Mt.e1 16 ?_
   apply Wl.store
   ·exact rfl
   ·exact rfl
   ·first | exact hov | exact rfl
   ·exact kd
   ·exact ki
   apply Wl.nil
   refine Mt.backE (fun _ h' => by first | exact h'.upd.cell hb (fun y => y ⟨by simp only;omega,trivial⟩) | exact h'.upd.cell hb (fun y => y ⟨by simp only;omega,by simp only;omega,trivial⟩) | exact h'.upd.cell (u1.cell hb (fun y => y.elim (fun h => by have := (hv.ge _ h).1;simp only at this;omega) fun y => y ⟨by simp only;omega,trivial⟩)) (fun y => y ⟨by simp only;omega,trivial⟩)) ?_
   refine Mt.toGt kb ?_
   repeat' first | refine Wl.move rfl rfl ?_ | refine Wl.assign rfl rfl ?_ | (refine Wl.addI rfl rfl rfl ?_ ?_;constructor <;> omega) | apply Wl.nil | apply St.region | apply Gt.next | apply Gt.inNormal
   obtain ⟨ys,hys⟩ : ∃ ys,w1.ownsRow w.heap.size 169 36 v' (i + 1) ys := ⟨_,ho1⟩
   refine Gt.round (i + 1,w1,v',ys) ⟨by simp only;omega,?_,hys,?_⟩ ky kq (fun _ h => h)
   ·refine hu0.comp u1 fun k hk hs => ?_
    rcases hs with y | y | y
    ·exact y
    ·exact (hv.ge k y).1
    ·exact Classical.byContradiction fun hn => y ⟨fun e => hn qe,trivial⟩
   ·exact fun k hk e => (hoff1 k hk).1.1 e.symm
  ·repeat' first | (apply Wl.lit;exact rfl;exact kj;exact rfl;exact rfl;exact ke;intro c hc ho) | apply Wl.nil
   refine Mt.backE (fun _ h' => by first | exact h'.upd.cell hb (fun y => y ⟨by simp only;omega,trivial⟩) | exact h'.upd.cell hb (fun y => y ⟨by simp only;omega,by simp only;omega,trivial⟩) | exact h'.upd.cell (u1.cell hb (fun y => y.elim (fun h => by have := (hv.ge _ h).1;simp only at this;omega) fun y => y ⟨by simp only;omega,trivial⟩)) (fun y => y ⟨by simp only;omega,trivial⟩)) ?_
   refine Mt.e1 4 ?_
   repeat' first | (apply Wl.loadH;exact rfl;exact rfl;exact kd;exact rfl) | apply Wl.nil
   refine Mt.backE (fun _ h' => by first | exact h'.upd.cell hb (fun y => y ⟨by simp only;omega,trivial⟩) | exact h'.upd.cell hb (fun y => y ⟨by simp only;omega,by simp only;omega,trivial⟩) | exact h'.upd.cell (u1.cell hb (fun y => y.elim (fun h => by have := (hv.ge _ h).1;simp only at this;omega) fun y => y ⟨by simp only;omega,trivial⟩)) (fun y => y ⟨by simp only;omega,trivial⟩)) ?_
   refine Mt.e1 13 ?_
   apply Wl.appendT (base := w.heap.size) (n := i) (m := 1) (sz := 36) (e := 169) (xs := xs)
   ·exact rfl
   ·exact rfl
   ·exact rfl
   ·assumption
   ·exact rfl
   ·exact hv
   ·exact fun k hk => ⟨fun e => hoff k hk e.symm,trivial⟩
   ·exact rfl
   ·exact rfl
   ·decide
   ·unfold maxLen;omega
   ·omega
   ·exact s0
   intro v' w1 ho1 u1 _ hoff1
   have hov := ho1.one
   have s1 := u1.size
   apply Wl.nil
   refine Mt.backE (fun _ h' => by first | exact h'.upd.cell hb (fun y => y ⟨by simp only;omega,trivial⟩) | exact h'.upd.cell hb (fun y => y ⟨by simp only;omega,by simp only;omega,trivial⟩) | exact h'.upd.cell (u1.cell hb (fun y => y.elim (fun h => by have := (hv.ge _ h).1;simp only at this;omega) fun y => y ⟨by simp only;omega,trivial⟩)) (fun y => y ⟨by simp only;omega,trivial⟩)) ?_
   refine Mt.pn 14 ?_
   refine Mt.pf 15 ?_
   refine Mt.e1 16 ?_
   apply Wl.store
   ·exact rfl
   ·exact rfl
   ·first | exact hov | exact rfl
   ·exact kd
   ·exact ki
   apply Wl.nil
   refine Mt.backE (fun _ h' => by first | exact h'.upd.cell hb (fun y => y ⟨by simp only;omega,trivial⟩) | exact h'.upd.cell hb (fun y => y ⟨by simp only;omega,by simp only;omega,trivial⟩) | exact h'.upd.cell (u1.cell hb (fun y => y.elim (fun h => by have := (hv.ge _ h).1;simp only at this;omega) fun y => y ⟨by simp only;omega,trivial⟩)) (fun y => y ⟨by simp only;omega,trivial⟩)) ?_
   refine Mt.toGt kb ?_
   repeat' first | refine Wl.move rfl rfl ?_ | refine Wl.assign rfl rfl ?_ | (refine Wl.addI rfl rfl rfl ?_ ?_;constructor <;> omega) | apply Wl.nil | apply St.region | apply Gt.next | apply Gt.inNormal
   obtain ⟨ys,hys⟩ : ∃ ys,w1.ownsRow w.heap.size 169 36 v' (i + 1) ys := ⟨_,ho1⟩
   refine Gt.round (i + 1,w1,v',ys) ⟨by simp only;omega,?_,hys,?_⟩ ky kq (fun _ h => h)
   ·refine hu0.comp u1 fun k hk hs => ?_
    rcases hs with y | y | y
    ·exact y
    ·exact (hv.ge k y).1
    ·exact Classical.byContradiction fun hn => y ⟨fun e => hn qe,trivial⟩
   ·exact fun k hk e => (hoff1 k hk).1.1 e.symm
 ·obtain rfl : i = n := by omega
  have hd : decide ((i : Int) < (i : Int)) = false := decide_eq_false kc
  repeat' first | refine Wl.move rfl rfl ?_ | refine Wl.assign rfl rfl ?_ | refine Wl.lss rfl rfl rfl ?_ | refine Wl.len rfl rfl ?_ | apply Wl.nil | apply St.seq | apply St.region | (apply St.condF;exact rfl;exact k5) | apply St.ret | apply St.exit | apply Gt.next | apply Gt.thenExit | apply Gt.inExit | (apply Gt.out1;exact rfl;exact rfl;intro w' hp)
  refine ⟨c3,rfl,⟨v,xs,hp.own.at (.head _),ownsRow_upd hv hp.upd fun k hk y => y ⟨fun e => hoff k hk e.symm,trivial⟩⟩,hc3,hu0.comp hp.upd fun k hk hs => hs.elim id fun y => Classical.byContradiction fun hn => y ⟨fun e => hn qe,trivial⟩⟩
end Go.Proofs.YtabbklpalbikdaaGreatDoor
end
section
namespace Go.Pt
open Go.RowKit
theorem Hp.ext {w w' : World} (h : Hp w [] w') : Ext w w' := h.upd.mono fun _ _ y => y trivial
theorem Gt.bagEnd {N : Nat} {Γ : Env} {C : World → Prop} {E : World → World → Prop} {d : Nat} {v : Value} {w1 : World} {R : Value → World → Prop} (hv : look Γ d = some v) (h : ∀ w',C w' → E w1 w' ∧ R v w') : Gt N .normal Γ C (BagPost E N w1 d R) := Gt.intro fun a w ha hw =>
 ⟨rfl,(h w hw).1,v,ha.sub (.cons hv .nil),(h w hw).2⟩
end Go.Pt
namespace Go.Proofs.YtabbklpalbikdaaGreatDoor
open Go.RowKit Go.Pt
theorem RW.ext {w w' : World} {base c n : Nat} (h : RW w base c n) (e : Ext w w') : RW w' base c n := h.upd e (fun y => y) fun _ _ _ y => y
theorem refHasG (a n : Int) (w : World) (ha : -1000000 ≤ a ∧ a ≤ 4294967296000) (hn : 0 ≤ n ∧ n ≤ 5000) : Calls Tryz.prog 105 #[.int .i64 a,.int .i64 n] w fun e w' => (∃ z : Bool,e = .returned (.bool z)) ∧ Hp w [] w' := by
 refine enter (args := [_,_]) (Γ := [(0,_),(1,_)]) Tryz.func105 Tryz.ntmps105 rfl odq (.cons rfl (.cons rfl .nil)) ?_
 repeat' first | refine Wl.move rfl rfl ?_ | refine Wl.assign rfl rfl ?_ | (apply Wl.on;exact rfl;exact rfl;exact k5) | (apply Wl.off;exact rfl;exact rfl;exact rfl;exact kh) | (apply Wl.pickT;exact rfl;exact rfl;exact k5;exact rfl) | (apply Wl.pickF;exact rfl;exact rfl;exact k5;exact rfl) | refine Wl.leq rfl rfl rfl ?_ | refine Wl.geq rfl rfl rfl ?_ | (refine Wl.addI rfl rfl rfl ?_ ?_;constructor <;> omega) | apply Wl.nil | apply St.seq | apply St.region | apply St.ret | apply Gt.next | (apply Gt.out1;exact rfl;exact rfl;intro w' hp) | (apply Wl.splitP;exact rfl;exact rfl;all_goals (intros;try (exfalso;omega)))
 all_goals exact ⟨⟨_,rfl⟩,hp⟩
theorem ramPutG (c b n : Nat) (at_ : Int) (v : Value) (l : List UInt8) (w : World) (hR : RM w c b n) (hn : n < 1000000) (hl : l.length ≤ 5000) (hat : -1000000 ≤ at_ ∧ at_ ≤ 4294967296000) (hv : Bs w v l) (hvo : ∀ k,v.ownBlock = some k → l ≠ [] → k ≠ b) :
  Calls Tryz.prog 54 #[.pointer (some ⟨c,0,none⟩),.int .i64 at_,v] w fun e w' => (∃ z : Bool,e = .returned (.bool z)) ∧ RM w' c b (n + l.length) ∧ Upd (fun k => k = b) w w' := by
 have hlt := hR.lt
 obtain ⟨va,vc,rfl,_,hm⟩ := hv.shape
 unfold maxLen at hm
 have c0 : w.cell? ⟨c,0,none⟩ = some (.map (some b)) := cell_of hR.1 rfl
 have hcb : c ≠ b := by
  intro e
  obtain ⟨h1,D,es,clock,h2,_⟩ := hR
  rw [e] at h1
  rw [h1] at h2
  cases h2
 refine enter (args := [_,_,_]) (Γ := [(0,_),(1,_),(2,_)]) Tryz.func54 Tryz.ntmps54 rfl odq (.cons rfl (.cons rfl (.cons rfl .nil))) ?_
 repeat' first | refine Wl.move rfl rfl ?_ | refine Wl.assign rfl rfl ?_ | refine Wl.len rfl rfl ?_ | apply Wl.nil | apply St.seq | apply St.region | apply Gt.next
 apply Wl.callC
 ·exact rfl
 ·exact kd
 intro wq hq
 refine (refHasG _ _ wq hat kc).mono ?_
 rintro e wr ⟨⟨z,rfl⟩,hr⟩
 refine ⟨_,_,rfl,hq.keep hr,?_⟩
 clear hr hq wr wq
 cases z
 ·repeat' first | refine Wl.assign rfl rfl ?_ | refine Wl.not rfl rfl ?_ | apply Wl.nil | apply St.seq | apply St.region | (apply St.condT;exact rfl;exact k5) | apply St.ret | apply Gt.next | apply Gt.thenRet | (apply Gt.out1;exact rfl;exact rfl;intro w' hp)
  exact ⟨⟨_,rfl⟩,⟨hp.upd.heap hR.1 fun y => y trivial,by obtain ⟨D,hD⟩ := hR.2.upd hp.upd fun y => y trivial;exact ⟨D,hD.mono kc⟩⟩,hp.upd.mono fun _ _ y => (y trivial).elim⟩
 repeat' first | refine Wl.assign rfl rfl ?_ | refine Wl.not rfl rfl ?_ | apply Wl.nil | apply St.seq | apply St.block | apply St.region | (apply St.condF;exact rfl;exact k5) | apply St.skip | apply Gt.next
 refine St.loop (σ := Nat × World) (fun τ => τ.1 ≤ l.length ∧ RM τ.2 c b (n + τ.1) ∧ Upd (fun k => k = b) w τ.2)
  (fun τ => [(0,.pointer (some ⟨c,0,none⟩)),(1,.int .i64 at_),(2,.slice va l.length vc),(7,.int .i64 (τ.1 : Int))]) (fun τ => Hp τ.2 []) (fun τ => l.length - τ.1) (0,w) ⟨Nat.zero_le _,hR,Upd.refl _ _⟩ kq (fun _ h => h) ?_
 rintro ⟨i,w0⟩ ⟨hi,hR0,hu0⟩
 simp only at hi hR0 hu0 ⊢
 have c0' : w0.cell? ⟨c,0,none⟩ = some (.map (some b)) := cell_of hR0.1 rfl
 by_cases hlt2 : i < l.length
 ·have hd : decide ((i : Int) < (l.length : Int)) = true := decide_eq_true kc
  obtain ⟨vb,vo,rfl,hcells⟩ := hv.cells (fun e => by rw [e] at hlt2;simp at hlt2)
  have hb : w0.cell? ⟨vb,vo + (i : Int).toNat,none⟩ = some (.int .u8 (l[i].toNat : Int)) := by
   rw [Int.toNat_natCast]
   exact hu0.cell (hcells i hlt2) fun e => hvo vb rfl (fun e0 => by rw [e0] at hlt2;simp at hlt2) e
  have l1 := hR0.lt
  have l2 := World.block_lt_of_cell? w0 _ hb
  simp only at l2
  repeat' first | (apply St.bagX (i := 6) 11 [];exact mixed;(decide +kernel);kernel_rfl) | (apply Wl.loadO;exact rfl;exact rfl;(first | exact c0' | exact hb);(repeat (first | exact trivial | exact hX.off zy))) | apply OpsX.nil | (apply OpsX.v;(intro X hX;change Wl [_] _ _ _ _ _ _ _;apply Wl.catX;exact kd)) | (apply Gt.endX;exact rfl) | (apply EndX.on;exact rfl) | (apply EndX.off;exact rfl) | (apply EndX.nil';apply Wl.catE;exact kd) | refine Wl.move rfl rfl ?_ | refine Wl.nilCheck rfl rfl ?_ | refine Wl.fieldAddr0 rfl rfl ?_ | refine Wl.lss rfl rfl rfl ?_ | (refine Wl.addI rfl rfl rfl ?_ ?_;constructor <;> omega) | refine Wl.len rfl rfl ?_ | (refine Wl.indexAddr1 rfl rfl rfl ?_ ?_;constructor <;> omega) | apply Wl.nil | apply St.seq | apply St.block | apply St.region | (apply St.condT;exact rfl;exact k5) | apply St.skip | apply Gt.next
  apply Wl.storeMB (k := 3) (e := 5) (b := b) (n := n + i)
  ·exact rfl
  ·exact rfl
  ·exact rfl
  ·unfold I64;omega
  ·have := l[i].toNat_lt
   simp [Lit.wf,IntKind.min,IntKind.max,IntKind.signed,IntKind.bits]
   omega
  ·unfold maxLen;omega
  ·exact hR0.2
  ·exact trivial
  intro w1 hM hu1
  repeat' first | refine Wl.move rfl rfl ?_ | refine Wl.assign rfl rfl ?_ | (refine Wl.addI rfl rfl rfl ?_ ?_;constructor <;> omega) | apply Wl.nil | apply St.region | apply Gt.next | apply Gt.inNormal
  apply Gt.round (i + 1,w1)
  rotate_left
  ·simp only;omega
  ·exact kd
  ·exact fun _ h => h
  ·refine ⟨hlt2,⟨hu1.heap hR0.1 fun y => y.elim hcb fun y => y trivial,hM⟩,hu0.trans (hu1.mono fun k _ y => y.elim id fun y => (y trivial).elim)⟩
 ·obtain rfl : i = l.length := by omega
  have hd : decide ((l.length : Int) < (l.length : Int)) = false := decide_eq_false kc
  repeat' first | refine Wl.move rfl rfl ?_ | refine Wl.assign rfl rfl ?_ | refine Wl.lss rfl rfl rfl ?_ | refine Wl.len rfl rfl ?_ | apply Wl.nil | apply St.seq | apply St.region | (apply St.condF;exact rfl;exact k5) | apply St.ret | apply St.exit | apply Gt.next | apply Gt.thenExit | apply Gt.inExit | (apply Gt.out1;exact rfl;exact rfl;intro w' hp)
  exact ⟨⟨_,rfl⟩,⟨hp.upd.heap hR0.1 fun y => y trivial,by obtain ⟨D,hD⟩ := hR0.2.upd hp.upd fun y => y trivial;exact ⟨D,hD.mono kc⟩⟩,hu0.trans (hp.upd.mono fun _ _ y => (y trivial).elim)⟩
structure LoadD where
 code : List Int
 data : List UInt8
 calls : Int
 regs : List (Int × Int)
def WordsV (w : World) (v : Value) (l : List Int) : Prop := ∃ a c,v = .slice a l.length c ∧ ∀ (i : Nat) x,l[i]? = some x → ∃ b o,a = some ⟨b,o,none⟩ ∧ w.cell? ⟨b,o + i,none⟩ = some (.int .u32 x) ∧ 0 ≤ x ∧ x < 4294967296
def PairsV (w : World) (v : Value) (l : List (Int × Int)) : Prop := ∃ a c,v = .slice a l.length c ∧ ∀ (i : Nat) x,l[i]? = some x → ∃ b o,a = some ⟨b,o,none⟩ ∧ (w.cell? ⟨b,o + i * 2,none⟩ = some (.int .u32 x.1) ∧ 0 ≤ x.1 ∧ x.1 < 4294967296) ∧ w.cell? ⟨b,o + i * 2 + 1,none⟩ = some (.int .u32 x.2) ∧ 0 ≤ x.2 ∧ x.2 < 4294967296
theorem WordsV.upd {w w' : World} {v : Value} {l : List Int} {S : Nat → Prop} (h : WordsV w v l) (u : Upd S w w') (hs : ∀ k,k < w.heap.size → ¬ S k) : WordsV w' v l := by
 obtain ⟨a,c,e,h⟩ := h
 refine ⟨a,c,e,fun i x hx => ?_⟩
 obtain ⟨b,o,e,h1,h2⟩ := h i x hx
 exact ⟨b,o,e,u.cell h1 (hs _ (cell_old h1)),h2⟩
theorem PairsV.upd {w w' : World} {v : Value} {l : List (Int × Int)} {S : Nat → Prop} (h : PairsV w v l) (u : Upd S w w') (hs : ∀ k,k < w.heap.size → ¬ S k) : PairsV w' v l := by
 obtain ⟨a,c,e,h⟩ := h
 refine ⟨a,c,e,fun i x hx => ?_⟩
 obtain ⟨b,o,e,⟨h1,h2⟩,h3,h4⟩ := h i x hx
 exact ⟨b,o,e,⟨u.cell h1 (hs _ (cell_old h1)),h2⟩,u.cell h3 (hs _ (cell_old h3)),h4⟩
structure LoadV (w : World) (x : LoadD) (v0 v1 v3 : Value) : Prop where
 code : WordsV w v0 x.code
 data : Bs w v1 x.data
 dlt : ∀ k,v1.ownBlock = some k → x.data ≠ [] → k < w.heap.size
 regs : PairsV w v3 x.regs
 len : x.code.length ≤ 1024 ∧ x.data.length ≤ 4096 ∧ x.regs.length ≤ 1500
 cal : I64 x.calls
def loadC (v0 v1 v3 : Value) (x : LoadD) : List Value := [v0,v1,.int .i64 x.calls,v3]
def LoadsF (w : World) (a : Option Addr) (l : List LoadD) : Prop := ∀ (i : Nat) x,l[i]? = some x → ∃ b o,a = some ⟨b,o,none⟩ ∧ ∃ v0 v1 v3,(∀ q v,(loadC v0 v1 v3 x)[q]? = some v → w.cell? ⟨b,o + i * 4 + q,none⟩ = some v) ∧ LoadV w x v0 v1 v3
def codeF (f : Nat → Int) (o : Nat) : List Int → Nat → (Nat → Int)
 | _,0 => f
 | l,k + 1 => storeX (codeF f o l k) (o + 4 * k) (l.getD k 0) 4
def loadF1 (f : Nat → Int) (i : Nat) (x : LoadD) : Nat → Int := putF (codeF f (4096 + 12288 * i) x.code x.code.length) (8192 + 12288 * i) x.data
def loadF (l : List LoadD) : Nat → (Nat → Int)
 | 0 => fun _ => 0
 | i + 1 => loadF1 (loadF l i) i (l.getD i ⟨[],[],0,[]⟩)
def caF (l : List LoadD) (i j : Nat) : Int := if j < i then bits .and .i64 ((l.getD j ⟨[],[],0,[]⟩).calls) 255 else 255
structure BegS (w w0 : World) (n i : Nat) (pb : Nat) (J : List Value) (gs : Nat → Nat) (ca : Nat → Int) (cM rb rm rn : Nat) (f : Nat → Int) (v6 v7 : Value) (eb ec : Nat → Nat) : Prop where
 pay : w0.heap[pb]? = some (.cells ((payRs gs ca n).flatten ++ J).toArray 116 (0,0))
 gr : ∀ j,j < n → w.heap.size ≤ gs j ∧ w0.heap[gs j]? = some (.cells (grC (biasI j)).toArray 180 (0,0))
 mem : memH w0 cM f
 ram : RM w0 rb rm rn
 ent : w0.ownsRow w.heap.size 65 1 v6 i ((List.range i).map fun j => .slice (some ⟨eb j,0,none⟩) 4 (ec j))
 enx : ∀ j,j < i → w.heap.size ≤ eb j ∧ ∃ cs : List Value,w0.heap[eb j]? = some (.cells cs.toArray 160 (0,0)) ∧ EntX w0 (some ⟨eb j,0,none⟩) 4 (en4 (biasI j))
 st : w0.ownsRow w.heap.size 25 1 v7 i ((List.range i).map fun j => .int .u32 (biasI j))
 up : Upd (fun k => w.heap.size ≤ k) w w0
 ge : w.heap.size ≤ pb ∧ w.heap.size ≤ cM ∧ w.heap.size ≤ rb ∧ w.heap.size ≤ rm
def BegF (n i pb : Nat) (gs : Nat → Nat) (cM rb rm : Nat) (v6 v7 : Value) (eb : Nat → Nat) (b : Nat) : Prop := b = pb ∨ (∃ j,j < n ∧ b = gs j) ∨ b = cM ∨ b = rb ∨ b = rm ∨ v6.ownBlock = some b ∨ (∃ j,j < i ∧ b = eb j) ∨ v7.ownBlock = some b
section
variable {w w0 w' : World} {n i pb cM rb rm rn : Nat} {J : List Value} {gs eb ec : Nat → Nat} {ca : Nat → Int} {f : Nat → Int} {v6 v7 : Value}
theorem BegS.lt (k : BegS w w0 n i pb J gs ca cM rb rm rn f v6 v7 eb ec) : ∀ b,BegF n i pb gs cM rb rm v6 v7 eb b → w.heap.size ≤ b ∧ b < w0.heap.size := by
 rintro b (rfl | ⟨j,hj,rfl⟩ | rfl | rfl | rfl | h | ⟨j,hj,rfl⟩ | h)
 ·exact ⟨k.ge.1,lt_of_block k.pay⟩
 ·exact ⟨(k.gr j hj).1,lt_of_block (k.gr j hj).2⟩
 ·exact ⟨k.ge.2.1,lt_of_block k.mem⟩
 ·exact ⟨k.ge.2.2.1,k.ram.lt.1⟩
 ·exact ⟨k.ge.2.2.2,k.ram.lt.2⟩
 ·exact k.ent.ge b h
 ·exact ⟨(k.enx j hj).1,by obtain ⟨cs,h,_⟩ := (k.enx j hj).2;exact lt_of_block h⟩
 ·exact k.st.ge b h
theorem BegS.upd {S : Nat → Prop} (k : BegS w w0 n i pb J gs ca cM rb rm rn f v6 v7 eb ec) (u : Upd S w0 w') (hs : ∀ b,BegF n i pb gs cM rb rm v6 v7 eb b → ¬ S b) (hn : ∀ b,b < w.heap.size → ¬ S b) : BegS w w' n i pb J gs ca cM rb rm rn f v6 v7 eb ec where
 pay := u.heap k.pay (hs _ (.inl rfl))
 gr := fun j hj => ⟨(k.gr j hj).1,u.heap (k.gr j hj).2 (hs _ (.inr (.inl ⟨j,hj,rfl⟩)))⟩
 mem := u.heap k.mem (hs _ (.inr (.inr (.inl rfl))))
 ram := k.ram.upd u (hs _ (.inr (.inr (.inr (.inl rfl))))) (hs _ (.inr (.inr (.inr (.inr (.inl rfl))))))
 ent := ownsRow_upd k.ent u fun b hb => hs _ (.inr (.inr (.inr (.inr (.inr (.inl hb))))))
 enx := fun j hj => by
  obtain ⟨h1,cs,h2,h3⟩ := k.enx j hj
  refine ⟨h1,cs,u.heap h2 (hs _ (.inr (.inr (.inr (.inr (.inr (.inr (.inl ⟨j,hj,rfl⟩)))))))),fun q hq => ?_⟩
  obtain ⟨b,o,e,c1,c2,c3⟩ := h3 q hq
  cases e
  have hh := hs (eb j) (.inr (.inr (.inr (.inr (.inr (.inr (.inl ⟨j,hj,rfl⟩)))))))
  exact ⟨_,_,rfl,u.cell c1 hh,u.cell c2 hh,u.cell c3 hh⟩
 st := ownsRow_upd k.st u fun b hb => hs _ (.inr (.inr (.inr (.inr (.inr (.inr (.inr hb)))))))
 up := ⟨u.os.trans k.up.os,u.tape.trans k.up.tape,u.output.trans k.up.output,Nat.le_trans k.up.size u.size,fun q hq hsq => (u.block q (Nat.lt_of_lt_of_le hq k.up.size) (hn q hq)).trans (k.up.block q hq hsq)⟩
 ge := k.ge
theorem hne {w0 : World} {x b t t' : Nat} {cs cs' : Array Value} (hx : w0.heap[x]? = some (.cells cs' t' (0,0))) (hb : w0.heap[b]? = some (.cells cs t (0,0))) (hn : t ≠ t') : x ≠ b := fun e => by rw [e,hb] at hx;cases hx;exact hn rfl
theorem BegS.rmne (k : BegS w w0 n i pb J gs ca cM rb rm rn f v6 v7 eb ec) {b t : Nat} {cs : Array Value} (hb : w0.heap[b]? = some (.cells cs t (0,0))) : rm ≠ b := by
 intro e
 obtain ⟨D,es,clock,h2,_⟩ := k.ram.2
 rw [e,hb] at h2
 cases h2
theorem BegS.mem' {f' : Nat → Int} (k : BegS w w0 n i pb J gs ca cM rb rm rn f v6 v7 eb ec) (hm : memH w' cM f') (u : Upd (fun b => b = cM) w0 w') : BegS w w' n i pb J gs ca cM rb rm rn f' v6 v7 eb ec where
 pay := u.heap k.pay (hne k.pay k.mem ku)
 gr := fun j hj => ⟨(k.gr j hj).1,u.heap (k.gr j hj).2 (hne (k.gr j hj).2 k.mem ku)⟩
 mem := hm
 ram := k.ram.upd u (hne k.ram.1 k.mem ku) (k.rmne k.mem)
 ent := ownsRow_upd k.ent u fun b hb => (k.ent.heap hb).elim fun _ hg => hne hg k.mem ku
 enx := fun j hj => by
  obtain ⟨h1,cs,h2,h3⟩ := k.enx j hj
  have hh := hne h2 k.mem ku
  refine ⟨h1,cs,u.heap h2 hh,fun q hq => ?_⟩
  obtain ⟨b,o,e,c1,c2,c3⟩ := h3 q hq
  cases e
  exact ⟨_,_,rfl,u.cell c1 hh,u.cell c2 hh,u.cell c3 hh⟩
 st := ownsRow_upd k.st u fun b hb => (k.st.heap hb).elim fun _ hg => hne hg k.mem ku
 up := k.up.comp u fun b hb hs => hs.elim id fun e => e ▸ k.ge.2.1
 ge := k.ge
theorem BegS.ram' {rn' : Nat} (k : BegS w w0 n i pb J gs ca cM rb rm rn f v6 v7 eb ec) (hr : RM w' rb rm rn') (u : Upd (fun b => b = rm ∨ w0.heap.size ≤ b) w0 w') : BegS w w' n i pb J gs ca cM rb rm rn' f v6 v7 eb ec := by
 have key : ∀ {x t : Nat} {cs : Array Value},w0.heap[x]? = some (.cells cs t (0,0)) → ¬ (x = rm ∨ w0.heap.size ≤ x) := fun hx hs => hs.elim (fun e => k.rmne hx e.symm) fun h => absurd (lt_of_block hx) (Nat.not_lt.2 h)
 exact {
  pay := u.heap k.pay (key k.pay)
  gr := fun j hj => ⟨(k.gr j hj).1,u.heap (k.gr j hj).2 (key (k.gr j hj).2)⟩
  mem := u.heap k.mem (key k.mem)
  ram := hr
  ent := ownsRow_upd k.ent u fun b hb => (k.ent.heap hb).elim fun _ hg => key hg
  enx := fun j hj => by
   obtain ⟨h1,cs,h2,h3⟩ := k.enx j hj
   have hh := key h2
   refine ⟨h1,cs,u.heap h2 hh,fun q hq => ?_⟩
   obtain ⟨b,o,e,c1,c2,c3⟩ := h3 q hq
   cases e
   exact ⟨_,_,rfl,u.cell c1 hh,u.cell c2 hh,u.cell c3 hh⟩
  st := ownsRow_upd k.st u fun b hb => (k.st.heap hb).elim fun _ hg => key hg
  up := k.up.comp u fun b hb hs => hs.elim id fun e => e.elim (fun e => e ▸ k.ge.2.2.2) fun h => Nat.le_trans k.up.size h
  ge := k.ge }
end
theorem MonF.with {I : Mi} {M : Mv2} {L : List Sta} {t : Int} {ins : List (List UInt8)} {sa b : Nat} (h : MonF {I with sa := sa} {M with L := L,t := t,ins := ins} b) : MonF I M b ∨ b = sa := by
 rcases h with h | h | h | h | h | h | h | h | h | h | h | h | h
 ·exact .inl (.inl h)
 ·exact .inl (.inr (.inl h))
 ·exact .inl (.inr (.inr (.inl h)))
 ·exact .inl (.inr (.inr (.inr (.inl h))))
 ·exact .inr h
 ·exact .inl (.inr (.inr (.inr (.inr (.inr (.inl h))))))
 ·exact .inl (.inr (.inr (.inr (.inr (.inr (.inr (.inl h)))))))
 ·exact .inl (.inr (.inr (.inr (.inr (.inr (.inr (.inr (.inl h))))))))
 ·exact .inl (.inr (.inr (.inr (.inr (.inr (.inr (.inr (.inr (.inl h)))))))))
 ·exact .inl (.inr (.inr (.inr (.inr (.inr (.inr (.inr (.inr (.inr (.inl h))))))))))
 ·exact .inl (.inr (.inr (.inr (.inr (.inr (.inr (.inr (.inr (.inr (.inr (.inl h)))))))))))
 ·exact .inl (.inr (.inr (.inr (.inr (.inr (.inr (.inr (.inr (.inr (.inr (.inr (.inl h))))))))))))
 ·exact .inl (.inr (.inr (.inr (.inr (.inr (.inr (.inr (.inr (.inr (.inr (.inr (.inr h))))))))))))
def insK (ins : List (List UInt8)) (k n : Nat) : List (List UInt8) := ins.take k ++ List.replicate (n - k) []
theorem insK_0 (ins : List (List UInt8)) (n : Nat) : insK ins 0 n = List.replicate n [] := by simp [insK]
theorem insK_n (ins : List (List UInt8)) {n : Nat} (h : ins.length = n) : insK ins n n = ins := by simp [insK,← h]
theorem insK_at (ins : List (List UInt8)) {k n : Nat} (hk : k < n) (hl : n ≤ ins.length) : (insK ins k n)[k]? = some [] := by
 unfold insK
 rw [List.getElem?_append_right qs,List.getElem?_replicate,if_pos qs]
theorem insK_set {ins : List (List UInt8)} {k n : Nat} {s : List UInt8} (hk : k < n) (hs : ins[k]? = some s) : (insK ins k n).set k ([] ++ s) = insK ins (k + 1) n := by
 have hl := (List.getElem?_eq_some_iff.1 hs).1
 unfold insK
 rw [List.set_append_right _ _ qs,List.take_add_one,hs,show n - k = (n - (k + 1)) + 1 by omega,List.replicate_succ,List.length_take,show k - min k ins.length = 0 by omega]
 simp
structure WiB (w w' : World) (I : Mi) (M : Mv2) (c : Nat) (cs : List Value) : Prop where
 mm : w'.heap[I.m]? = some (.cells #[.pointer (some ⟨I.h,0,none⟩),.pointer (some ⟨I.d,0,none⟩),.pointer (some ⟨I.wd,0,none⟩),M.seen] 130 (0,0))
 dd : w'.heap[I.d]? = some (.cells #[M.pv,M.ev,.pointer (some ⟨I.cM,0,none⟩),.pointer (some ⟨I.pp,0,none⟩),.pointer (some ⟨I.bd,0,none⟩)] 139 (0,0))
 cc : w'.heap[c]? = some (.cells cs.toArray 54 (0,0))
 u : Upd (fun k => w.heap.size ≤ k) w w'
theorem mZ0 : (madeCells (Value.int .u32 0).cells (0 * 1)).toList = List.replicate 0 (Value.int .u32 0) := by kernel_rfl
theorem mZ1 : (madeCells (Value.int .u32 0).cells (1 * 1)).toList = List.replicate 1 (Value.int .u32 0) := by kernel_rfl
theorem mZ2 : (madeCells (Value.int .u32 0).cells (2 * 1)).toList = List.replicate 2 (Value.int .u32 0) := by kernel_rfl
theorem mZ3 : (madeCells (Value.int .u32 0).cells (3 * 1)).toList = List.replicate 3 (Value.int .u32 0) := by kernel_rfl
theorem mZ4 : (madeCells (Value.int .u32 0).cells (4 * 1)).toList = List.replicate 4 (Value.int .u32 0) := by kernel_rfl
theorem mZ (n : Nat) (hn : n ≤ 4) : (madeCells (Value.int .u32 0).cells (n * 1)).toList = List.replicate n (Value.int .u32 0) := by
 have h : n = 0 ∨ n = 1 ∨ n = 2 ∨ n = 3 ∨ n = 4 := by omega
 rcases h with rfl | rfl | rfl | rfl | rfl
 ·exact mZ0
 ·exact mZ1
 ·exact mZ2
 ·exact mZ3
 ·exact mZ4
theorem wordZ {w : World} {b n t : Nat} (h : w.heap[b]? = some (.cells (List.replicate n (Value.int .u32 0)).toArray t (0,0))) : WordF w (some ⟨b,0,none⟩) n (fun _ => 0) := fun i hi =>
 ⟨b,0,rfl,cell_of h (by rw [Nat.zero_add,List.getElem?_replicate,if_pos hi]),Int.le_refl _,by show (0 : Int) < 4294967296;decide⟩
theorem pSendNo (pp pa : Nat) (cs : List Nat) (bx : Nat → List Value) (i ch : Nat) (x : Int × List UInt8) (w : World) (hP : PostS w pp pa cs bx) (hi : cs[i]? = some ch) (hx : x.2 = []) :
  Calls Tryz.prog 80 #[.pointer (some ⟨pp,0,none⟩),.int .i64 i,letV x] w fun e w' => e = .returned (.int .i64 1) ∧ Hp w [] w' := by
 have hP0 := hP
 have hs1 := strV_size x.2
 rw [hx] at hs1
 have hlts := hP.lt
 have hd0 : decide (((strOf x.2).size : Int) < 1) = true := decide_eq_true (by rw [hx];simp only [List.length_nil] at hs1;omega)
 refine enter (args := [_,_,_]) (Γ := [(0,_),(1,_),(2,_)]) Tryz.func80 Tryz.ntmps80 rfl odq (.cons rfl (.cons rfl (.cons rfl .nil))) ?_
 repeat' first | refine Wl.move rfl rfl ?_ | refine Wl.assign rfl rfl ?_ | (apply Wl.boxA;exact rfl;exact rfl;intro c hc ho) | apply Wl.nil | apply St.seq | apply St.region | apply Gt.next
 apply Wl.callQ
 exact rfl
 (focus repeat constructor)
 ·intro wq hq
  exact hq.q (pBox pp pa cs bx i ch wq (hP0.upd hq.upd (fun y => y ⟨by simp only;omega,trivial⟩) (fun y => y ⟨by simp only;omega,trivial⟩) fun z hz y => y ⟨by have := hlts.2.2 z hz;simp only;omega,trivial⟩) hi)
 repeat' first | (apply Wl.eqlC (r := false) chTy;exact rfl;exact rfl;exact rfl;exact rfl) | refine Wl.move rfl rfl ?_ | refine Wl.assign rfl rfl ?_ | (apply Wl.on;exact rfl;exact rfl;exact k5) | (apply Wl.off;exact rfl;exact rfl;exact rfl;exact kh) | (apply Wl.pickT;exact rfl;exact rfl;exact k5;exact rfl) | (apply Wl.pickF;exact rfl;exact rfl;exact k5;exact rfl) | refine Wl.fieldAddrZ rfl rfl ?_ | (apply Wl.loadH;exact rfl;exact rfl;exact kd;exact rfl) | refine Wl.lss rfl rfl rfl ?_ | refine Wl.lenS rfl rfl ?_ | apply Wl.nil | apply St.seq | apply St.region | (apply St.condT;exact rfl;exact k5) | apply St.ret | apply Gt.next | apply Gt.thenRet | (apply Gt.out1;exact rfl;exact rfl;intro w' hp)
 exact ⟨rfl,hp.drop k6⟩
theorem bFeedNo (base bd ia : Nat) (lv : Value) (ll : List (Int × List UInt8)) (used : Int) (ins : List (List UInt8)) (i : Nat) (s z : List UInt8) (w : World) (hB : BoardS w base bd ia lv ll used ins) (hi : ins[i]? = some s) (hz : 64 < s.length + z.length ∧ s.length + z.length ≤ 100000) :
  Calls Tryz.prog 78 #[.pointer (some ⟨bd,0,none⟩),.int .i64 i,strV z] w fun e w' => e = .returned (.int .i64 16) ∧ Hp w [] w' := by
 have hil := (List.getElem?_eq_some_iff.1 hi).1
 have hB0 := hB
 obtain ⟨⟨cap,J,a,b⟩,hr,r1,r2⟩ := hB
 have p0 : w.cell? ⟨bd,2,none⟩ = some (.slice (some ⟨ia,0,none⟩) ins.length cap) := cell_of a rfl
 have p1 : w.cell? ⟨ia,0 + (i : Int).toNat,none⟩ = some (strV s) := by rw [Int.toNat_natCast,Nat.zero_add];exact cell_of b (ins_at hi)
 have hne : bd ≠ ia := blk_ne a b
 have hs1 := strV_size s
 have hs2 := strV_size z
 have hd : decide (((strOf s).size : Int) + ((strOf z).size : Int) > 64) = true := decide_eq_true kc
 refine enter (args := [_,_,_]) (Γ := [(0,_),(1,_),(2,_)]) Tryz.func78 Tryz.ntmps78 rfl odq (.cons rfl (.cons rfl (.cons rfl .nil))) ?_
 repeat' first | refine Wl.move rfl rfl ?_ | refine Wl.assign rfl rfl ?_ | apply Wl.nil | apply St.seq | apply St.block | apply St.region | apply Gt.next
 apply Wl.callQ
 exact rfl
 (focus repeat constructor)
 ·intro wq hq
  exact hq.q (bHas base bd ia lv ll used ins i wq (hB0.upd hq.upd nt0 nt0 fun _ _ y => y trivial) hil)
 repeat' first | (apply Wl.loadO;exact rfl;exact rfl;exact zx;exact km) | refine Wl.move rfl rfl ?_ | refine Wl.assign rfl rfl ?_ | refine Wl.nilCheck rfl rfl ?_ | refine Wl.not rfl rfl ?_ | refine Wl.fieldAddrZ rfl rfl ?_ | refine Wl.gtr rfl rfl rfl ?_ | (refine Wl.addI rfl rfl rfl ?_ ?_;constructor <;> omega) | refine Wl.lenS rfl rfl ?_ | (refine Wl.indexAddr1 rfl rfl rfl ?_ ?_;constructor <;> omega) | apply Wl.nil | apply St.seq | apply St.region | (apply St.condT;exact rfl;exact k5) | (apply St.condF;exact rfl;exact k5) | apply St.ret | apply Gt.next | apply Gt.thenRet | apply Gt.inRet | (apply Gt.out1;exact rfl;exact rfl;intro w' hp)
 exact ⟨rfl,hp⟩
theorem wSetT (wd sa : Nat) (L : List Sta) (n : Nat) (t t' : Int) (v : Value) (cells : List Value) (w : World) (hW : WardS w wd sa L t) (hA : Sv w 35 n v cells) (hl' : n = L.length) (ht : (n : Int) ≤ t') :
  Calls Tryz.prog 79 #[.pointer (some ⟨wd,0,none⟩),v,.int .i64 t'] w fun e w' => e = .returned (.int .i64 3) ∧ Hp w [] w' := by
 obtain ⟨⟨cap0,J,a,b⟩,hl,h1,h4⟩ := hW
 obtain ⟨hlen,va,vc,rfl,hc1,hc2,hc3,hcell⟩ := id hA
 have p0 : w.cell? ⟨wd,0,none⟩ = some (.slice (some ⟨sa,0,none⟩) L.length cap0) := cell_of a rfl
 have hlw := lt_of_block a
 have d1 : decide ((n : Int) ≠ (L.length : Int)) = false := decide_eq_false kc
 have d2 : decide (t' < -1) = false := decide_eq_false kc
 have d3 : decide (t' ≥ (n : Int)) = true := decide_eq_true kc
 refine enter (args := [_,_,_]) (Γ := [(0,_),(1,_),(2,_)]) Tryz.func79 Tryz.ntmps79 rfl odq (.cons rfl (.cons rfl (.cons rfl .nil))) ?_
 repeat' first | (apply Wl.loadO;exact rfl;exact rfl;exact zx;exact km) | refine Wl.move rfl rfl ?_ | refine Wl.assign rfl rfl ?_ | (apply Wl.on;exact rfl;exact rfl;exact k5) | refine Wl.nilCheck rfl rfl ?_ | (apply Wl.pickF;exact rfl;exact rfl;exact k5;exact rfl) | refine Wl.fieldAddr0 rfl rfl ?_ | refine Wl.eqlPN rfl rfl rfl ?_ | refine Wl.neq rfl rfl rfl ?_ | refine Wl.lss rfl rfl rfl ?_ | refine Wl.geq rfl rfl rfl ?_ | refine Wl.len rfl rfl ?_ | apply Wl.nil | apply St.seq | apply St.region | (apply St.condT;exact rfl;exact k5) | apply St.ret | apply Gt.next | apply Gt.thenRet | (apply Gt.out1;exact rfl;exact rfl;intro w' hp)
 exact ⟨rfl,hp⟩
theorem Wl.neqBn {P : Program} {md : Md} {ops : Array Oper} {N : Nat} {rest : List Oper} {Γ : Env} {C : World → Prop} {Q : Exit → Act → World → Prop} {d : Nat} {ty : TypeId} {pos : String} {af : Array Edge} {t u : TypeId} {x y : Operand} [TyD P t .bool] {p q : Bool} (hd : Nat.blt d N = true) (hx : ev Γ x = some (.bool p)) (hy : ev Γ y = some (.bool q)) (e : p = !q)
  (h : Wl rest P md ops N ((d,.bool true) :: Γ) C Q) : Wl (⟨some d,.binOp .neq t x y u,ty,pos,af,none⟩ :: rest) P md ops N Γ C Q := by
 refine Wl.neqB hd hx hy ?_
 have e2 : (!(p == q)) = true := by subst e;cases q <;> rfl
 rw [e2]
 exact h
theorem wSetAny (wd sa : Nat) (L L' : List Sta) (t t' : Int) (v : Value) (w : World) (hW : WardS w wd sa L t) (hA : Sv w 35 L'.length v (stas L').flatten) (hl' : L'.length = L.length) (hok : ∀ x ∈ L',StaOk x) (hno : ¬ SetOk L' t') :
  Calls Tryz.prog 79 #[.pointer (some ⟨wd,0,none⟩),v,.int .i64 t'] w fun e w' => e = .returned (.int .i64 3) ∧ Hp w [] w' := by
 by_cases hge : (L'.length : Int) ≤ t'
 ·exact wSetT wd sa L L'.length t t' v _ w hW hA hl' hge
 obtain ⟨⟨cap0,J,a,b⟩,hl,h1,h4⟩ := hW
 obtain ⟨hlen,va,vc,rfl,hc1,hc2,hc3,hcell⟩ := id hA
 have p0 : w.cell? ⟨wd,0,none⟩ = some (.slice (some ⟨sa,0,none⟩) L.length cap0) := cell_of a rfl
 have hlw := lt_of_block a
 have d1 : decide ((L'.length : Int) ≠ (L.length : Int)) = false := decide_eq_false kc
 have d3 : decide (t' ≥ (L'.length : Int)) = false := decide_eq_false kc
 by_cases hlow : t' < -1
 ·have d2 : decide (t' < -1) = true := decide_eq_true hlow
  refine enter (args := [_,_,_]) (Γ := [(0,_),(1,_),(2,_)]) Tryz.func79 Tryz.ntmps79 rfl odq (.cons rfl (.cons rfl (.cons rfl .nil))) ?_
  repeat' first | (apply Wl.loadO;exact rfl;exact rfl;exact zx;exact km) | refine Wl.move rfl rfl ?_ | refine Wl.assign rfl rfl ?_ | (apply Wl.on;exact rfl;exact rfl;exact k5) | (apply Wl.off;exact rfl;exact rfl;exact rfl;exact kh) | refine Wl.nilCheck rfl rfl ?_ | (apply Wl.pickT;exact rfl;exact rfl;exact k5;exact rfl) | (apply Wl.pickF;exact rfl;exact rfl;exact k5;exact rfl) | refine Wl.fieldAddr0 rfl rfl ?_ | refine Wl.eqlPN rfl rfl rfl ?_ | refine Wl.neq rfl rfl rfl ?_ | refine Wl.lss rfl rfl rfl ?_ | refine Wl.len rfl rfl ?_ | apply Wl.nil | apply St.seq | apply St.region | (apply St.condT;exact rfl;exact k5) | apply St.ret | apply Gt.next | apply Gt.thenRet | (apply Gt.out1;exact rfl;exact rfl;intro w' hp)
  exact ⟨rfl,hp⟩
 have d2 : decide (t' < -1) = false := decide_eq_false hlow
 have hL1 : 1 ≤ L'.length := by omega
 obtain ⟨vb,vo,rfl,hcs⟩ := hcell (fun e => by rw [e] at hlen;simp at hlen;omega)
 have hat : ∀ (i : Nat) (x : Sta),L'[i]? = some x → ∀ (q : Nat) (u : Value),x.cells[q]? = some u → w.cell? ⟨vb,vo + i * 35 + q,none⟩ = some u := fun i x hx q u hq => by
  have hq35 : q < 35 := by
   have h := (List.getElem?_eq_some_iff.1 hq).1
   rw [(hok x (List.mem_of_getElem? hx)).len] at h
   exact h
  have e := flat_get (stas_len fun y hy => hok y hy) (stas_at hx) hq35
  rw [hq] at e
  obtain ⟨hj,e2⟩ := List.getElem?_eq_some_iff.1 e
  rw [Nat.add_assoc,hcs _ hj,e2]
 have hvb : vb < w.heap.size := by
  obtain ⟨x,hx⟩ : ∃ x,L'[0]? = some x := ⟨_,List.getElem?_eq_getElem kc⟩
  exact World.block_lt_of_cell? w _ (hat 0 x hx 0 _ rfl)
 refine enter (args := [_,_,_]) (Γ := [(0,_),(1,_),(2,_)]) Tryz.func79 Tryz.ntmps79 rfl odq (.cons rfl (.cons rfl (.cons rfl .nil))) ?_
 repeat' first | (apply Wl.loadO;exact rfl;exact rfl;exact zx;exact km) | refine Wl.move rfl rfl ?_ | refine Wl.assign rfl rfl ?_ | (apply Wl.on;exact rfl;exact rfl;exact k5) | refine Wl.nilCheck rfl rfl ?_ | (apply Wl.pickF;exact rfl;exact rfl;exact k5;exact rfl) | refine Wl.fieldAddr0 rfl rfl ?_ | refine Wl.eqlPN rfl rfl rfl ?_ | refine Wl.neq rfl rfl rfl ?_ | refine Wl.lss rfl rfl rfl ?_ | refine Wl.geq rfl rfl rfl ?_ | refine Wl.len rfl rfl ?_ | apply Wl.nil | apply St.seq | apply St.block | apply St.region | (apply St.condF;exact rfl;exact k5) | apply St.skip | apply Gt.next
 refine St.loop (σ := Nat) (fun i => i ≤ L'.length ∧ ∀ j x,j < i → L'[j]? = some x → StaV x) (fun i => [(0,.pointer (some ⟨wd,0,none⟩)),(1,.slice (some ⟨vb,vo,none⟩) L'.length vc),(2,.int .i64 t'),(7,.bool (anyR (L'.take i))),(32,.slice (some ⟨vb,vo,none⟩) L'.length vc),(33,.int .i64 L'.length),(34,.int .i64 (i : Int))])
  (fun _ => Hp w []) (fun i => L'.length - i) 0 ⟨Nat.zero_le _,fun j x h => by omega⟩ kq (fun _ h => h) ?_
 rintro i ⟨hi,hall⟩
 by_cases hlt : i < L'.length
 ·have hd : decide ((i : Int) < (L'.length : Int)) = true := decide_eq_true kc
  obtain ⟨x,hx⟩ : ∃ x,L'[i]? = some x := ⟨_,List.getElem?_eq_getElem hlt⟩
  have hxo := hok x (List.mem_of_getElem? hx)
  have hati := hat i x hx
  have hsn := anyR_snoc L' hx
  have hati' : ∀ q u,x.cells[q]? = some u → w.cell? (Addr.add ⟨vb,vo + (i : Int).toNat * 35,none⟩ q) = some u := fun q u hq => by rw [addLit,Int.toNat_natCast];exact hati q u hq
  obtain ⟨g,hg,_,_⟩ := hxo.1.2 0 ku
  have hx3 : x.cells[3 + (0 : Int).toNat * 1]? = some (.int .u32 g) := hg
  generalize anyR (L'.take i) = an at *
  by_cases b1 : x.s < 0
  ·have e1 : decide (x.s < 0) = true := decide_eq_true b1
   repeat' first | (apply Wl.storeA (xs := x.cells);exact rfl;exact rfl;exact hxo.len;exact hxo.one;exact kd;exact .z (LOver.whole qj)) | (apply Wl.loadH;exact rfl;exact rfl;exact (.head _);exact qq) | (apply Wl.loadAF (xs := x.cells);exact rfl;exact rfl;exact hxo.len;(intro wq hq q u hq';exact hq.old (hati' q u hq') ze)) | refine Wl.move rfl rfl ?_ | refine Wl.assign rfl rfl ?_ | (apply Wl.off;exact rfl;exact rfl;exact rfl;exact kh) | refine Wl.offU rfl rfl rfl ?_ | (apply Wl.pickT;exact rfl;exact rfl;exact k5;exact rfl) | refine Wl.fieldAddr0 rfl rfl ?_ | refine Wl.lss rfl rfl rfl ?_ | (apply Wl.alloc;exact rfl;intro c hc ho) | (refine Wl.indexAddr rfl rfl rfl ?_ ?_;constructor <;> omega) | apply Wl.nil | apply St.seq | apply St.block | apply St.region | (apply St.condT;exact rfl;exact k5) | apply St.ret | apply St.skip | apply Gt.next | apply Gt.thenRet | apply Gt.inRet | (apply Gt.out1;exact rfl;exact rfl;intro w' hp)
   exact ⟨rfl,hp.drop k6⟩
  have e1 : decide (x.s < 0) = false := decide_eq_false b1
  by_cases b2 : x.s > 2
  ·have e2 : decide (x.s > 2) = true := decide_eq_true b2
   repeat' first | (apply Wl.storeA (xs := x.cells);exact rfl;exact rfl;exact hxo.len;exact hxo.one;exact kd;exact .z (LOver.whole qj)) | (apply Wl.loadH;exact rfl;exact rfl;exact (.head _);exact qq) | (apply Wl.loadAF (xs := x.cells);exact rfl;exact rfl;exact hxo.len;(intro wq hq q u hq';exact hq.old (hati' q u hq') ze)) | refine Wl.move rfl rfl ?_ | refine Wl.assign rfl rfl ?_ | (apply Wl.on;exact rfl;exact rfl;exact k5) | (apply Wl.off;exact rfl;exact rfl;exact rfl;exact kh) | refine Wl.offU rfl rfl rfl ?_ | (apply Wl.pickT;exact rfl;exact rfl;exact k5;exact rfl) | (apply Wl.pickF;exact rfl;exact rfl;exact k5;exact rfl) | refine Wl.fieldAddr0 rfl rfl ?_ | refine Wl.lss rfl rfl rfl ?_ | refine Wl.gtr rfl rfl rfl ?_ | (apply Wl.alloc;exact rfl;intro c hc ho) | (refine Wl.indexAddr rfl rfl rfl ?_ ?_;constructor <;> omega) | apply Wl.nil | apply St.seq | apply St.block | apply St.region | (apply St.condT;exact rfl;exact k5) | apply St.ret | apply St.skip | apply Gt.next | apply Gt.thenRet | apply Gt.inRet | (apply Gt.out1;exact rfl;exact rfl;intro w' hp)
   exact ⟨rfl,hp.drop k6⟩
  have e2 : decide (x.s > 2) = false := decide_eq_false b2
  by_cases b3 : g ≠ 0
  ·have e9 : decide (g ≠ 0) = true := decide_eq_true b3
   repeat' first | (apply Wl.storeA (xs := x.cells);exact rfl;exact rfl;exact hxo.len;exact hxo.one;exact kd;exact .z (LOver.whole qj)) | (apply Wl.loadH;exact rfl;exact rfl;exact (.head _);exact qq) | (apply Wl.loadAF (xs := x.cells);exact rfl;exact rfl;exact hxo.len;(intro wq hq q u hq';exact hq.old (hati' q u hq') ze)) | refine Wl.move rfl rfl ?_ | refine Wl.assign rfl rfl ?_ | (apply Wl.on;exact rfl;exact rfl;exact k5) | (apply Wl.off;exact rfl;exact rfl;exact rfl;exact kh) | refine Wl.offU rfl rfl rfl ?_ | (apply Wl.pickT;exact rfl;exact rfl;exact k5;exact rfl) | (apply Wl.pickF;exact rfl;exact rfl;exact k5;exact rfl) | refine Wl.fieldAddr0 rfl rfl ?_ | refine Wl.fieldAddrZ rfl rfl ?_ | refine Wl.neq rfl rfl rfl ?_ | refine Wl.lss rfl rfl rfl ?_ | refine Wl.gtr rfl rfl rfl ?_ | (apply Wl.alloc;exact rfl;intro c hc ho) | (refine Wl.indexAddr rfl rfl rfl ?_ ?_;constructor <;> omega) | (refine Wl.indexArr rfl rfl rfl ?_ ?_;constructor <;> omega) | apply Wl.nil | apply St.seq | apply St.block | apply St.region | (apply St.condT;exact rfl;exact k5) | apply St.ret | apply St.skip | apply Gt.next | apply Gt.thenRet | apply Gt.inRet | (apply Gt.out1;exact rfl;exact rfl;intro w' hp)
   exact ⟨rfl,hp.drop k6⟩
  have e9 : decide (g ≠ 0) = false := decide_eq_false b3
  by_cases hz : x.s = 0
  ·have e3 : decide (x.s = 0) = true := decide_eq_true hz
   by_cases hc0 : x.c = 0
   ·have e4 : decide (x.c ≠ 0) = false := decide_eq_false fun h => h hc0
    have hsn' : anyR (L'.take (i + 1)) = true := by rw [hsn,e3,Bool.or_true]
    have hV : StaV x := ⟨by omega,by rw [hg,Classical.not_not.1 b3],fun _ => hc0⟩
    cases an
    all_goals
     repeat' first | (apply Wl.storeA (xs := x.cells);exact rfl;exact rfl;exact hxo.len;exact hxo.one;exact kd;exact .z (LOver.whole qj)) | (apply Wl.loadH;exact rfl;exact rfl;exact (.head _);exact qq) | (apply Wl.loadAF (xs := x.cells);exact rfl;exact rfl;exact hxo.len;(intro wq hq q u hq';exact hq.old (hati' q u hq') ze)) | refine Wl.move rfl rfl ?_ | refine Wl.assign rfl rfl ?_ | (apply Wl.on;exact rfl;exact rfl;exact k5) | (apply Wl.off;exact rfl;exact rfl;exact rfl;exact kh) | (apply Wl.pickT;exact rfl;exact rfl;exact k5;exact rfl) | (apply Wl.pickF;exact rfl;exact rfl;exact k5;exact rfl) | refine Wl.fieldAddr0 rfl rfl ?_ | refine Wl.fieldAddrZ rfl rfl ?_ | (apply Wl.eqlIs;exact rfl;exact rfl;exact rfl;exact kx) | (apply Wl.neqIs;exact rfl;exact rfl;exact rfl;exact kx) | refine Wl.neq rfl rfl rfl ?_ | refine Wl.lss rfl rfl rfl ?_ | refine Wl.gtr rfl rfl rfl ?_ | (refine Wl.addI rfl rfl rfl ?_ ?_;constructor <;> omega) | (apply Wl.alloc;exact rfl;intro c hc ho) | (refine Wl.indexAddr rfl rfl rfl ?_ ?_;constructor <;> omega) | (refine Wl.indexArr rfl rfl rfl ?_ ?_;constructor <;> omega) | apply Wl.nil | apply St.seq | apply St.block | apply St.region | (apply St.condT;exact rfl;exact k5) | (apply St.condF;exact rfl;exact k5) | apply St.skip | apply Gt.next | apply Gt.inNormal
    all_goals
     apply Gt.round (i + 1)
     rotate_left
     ·omega
     ·rw [hsn'];exact kd
     ·exact fun _ h => Hp.pop h (by simp only;assumption)
     ·exact ⟨hlt,fun j y hj hy => (Nat.lt_succ_iff_lt_or_eq.1 hj).elim (fun h => hall j y h hy) fun h => by subst h;rw [hx] at hy;cases hy;exact hV⟩
   ·have e4 : decide (x.c ≠ 0) = true := decide_eq_true hc0
    repeat' first | (apply Wl.storeA (xs := x.cells);exact rfl;exact rfl;exact hxo.len;exact hxo.one;exact kd;exact .z (LOver.whole qj)) | (apply Wl.loadH;exact rfl;exact rfl;exact (.head _);exact qq) | (apply Wl.loadAF (xs := x.cells);exact rfl;exact rfl;exact hxo.len;(intro wq hq q u hq';exact hq.old (hati' q u hq') ze)) | refine Wl.move rfl rfl ?_ | refine Wl.assign rfl rfl ?_ | (apply Wl.on;exact rfl;exact rfl;exact k5) | (apply Wl.pickT;exact rfl;exact rfl;exact k5;exact rfl) | (apply Wl.pickF;exact rfl;exact rfl;exact k5;exact rfl) | refine Wl.fieldAddr0 rfl rfl ?_ | refine Wl.fieldAddrZ rfl rfl ?_ | (apply Wl.eqlIs;exact rfl;exact rfl;exact rfl;exact kx) | refine Wl.neq rfl rfl rfl ?_ | refine Wl.lss rfl rfl rfl ?_ | refine Wl.gtr rfl rfl rfl ?_ | (apply Wl.alloc;exact rfl;intro c hc ho) | (refine Wl.indexAddr rfl rfl rfl ?_ ?_;constructor <;> omega) | (refine Wl.indexArr rfl rfl rfl ?_ ?_;constructor <;> omega) | apply Wl.nil | apply St.seq | apply St.block | apply St.region | (apply St.condT;exact rfl;exact k5) | apply St.ret | apply St.skip | apply Gt.next | apply Gt.thenRet | apply Gt.inRet | (apply Gt.out1;exact rfl;exact rfl;intro w' hp)
    exact ⟨rfl,hp.drop k6⟩
  ·have e3 : decide (x.s = 0) = false := decide_eq_false hz
   have hsn' : anyR (L'.take (i + 1)) = an := by rw [hsn,e3,Bool.or_false]
   have hV : StaV x := ⟨by omega,by rw [hg,Classical.not_not.1 b3],fun h => (hz h).elim⟩
   cases an
   all_goals
    repeat' first | (apply Wl.storeA (xs := x.cells);exact rfl;exact rfl;exact hxo.len;exact hxo.one;exact kd;exact .z (LOver.whole qj)) | (apply Wl.loadH;exact rfl;exact rfl;exact (.head _);exact qq) | (apply Wl.loadAF (xs := x.cells);exact rfl;exact rfl;exact hxo.len;(intro wq hq q u hq';exact hq.old (hati' q u hq') ze)) | refine Wl.move rfl rfl ?_ | refine Wl.assign rfl rfl ?_ | (apply Wl.on;exact rfl;exact rfl;exact k5) | (apply Wl.off;exact rfl;exact rfl;exact rfl;exact kh) | (apply Wl.pickT;exact rfl;exact rfl;exact k5;exact rfl) | (apply Wl.pickF;exact rfl;exact rfl;exact k5;exact rfl) | refine Wl.fieldAddr0 rfl rfl ?_ | refine Wl.fieldAddrZ rfl rfl ?_ | refine Wl.eql rfl rfl rfl ?_ | refine Wl.neq rfl rfl rfl ?_ | refine Wl.lss rfl rfl rfl ?_ | refine Wl.gtr rfl rfl rfl ?_ | (refine Wl.addI rfl rfl rfl ?_ ?_;constructor <;> omega) | (apply Wl.alloc;exact rfl;intro c hc ho) | (refine Wl.indexAddr rfl rfl rfl ?_ ?_;constructor <;> omega) | (refine Wl.indexArr rfl rfl rfl ?_ ?_;constructor <;> omega) | apply Wl.nil | apply St.seq | apply St.block | apply St.region | (apply St.condT;exact rfl;exact k5) | (apply St.condF;exact rfl;exact k5) | apply St.skip | apply Gt.next | apply Gt.inNormal
   all_goals
    apply Gt.round (i + 1)
    rotate_left
    ·omega
    ·rw [hsn];exact kd
    ·exact fun _ h => Hp.pop h (by simp only;assumption)
    ·exact ⟨hlt,fun j y hj hy => (Nat.lt_succ_iff_lt_or_eq.1 hj).elim (fun h => hall j y h hy) fun h => by subst h;rw [hx] at hy;cases hy;exact hV⟩
 ·obtain rfl : i = L'.length := by omega
  have hd : decide ((L'.length : Int) < (L'.length : Int)) = false := decide_eq_false kc
  have hallV : ∀ x ∈ L',StaOk x ∧ StaV x := fun x hx => ⟨hok x hx,by
   obtain ⟨j,hj⟩ := List.mem_iff_getElem?.1 hx
   exact hall j x (List.getElem?_eq_some_iff.1 hj).1 hj⟩
  rw [List.take_length]
  by_cases hpos : 0 ≤ t'
  ·have d5 : decide (t' ≥ 0) = true := decide_eq_true hpos
   obtain ⟨x,hx⟩ : ∃ x,L'[t'.toNat]? = some x := ⟨_,List.getElem?_eq_getElem kc⟩
   have p3 : w.cell? ⟨vb,vo + t'.toNat * 35,none⟩ = some (.int .i64 x.s) := hat _ x hx 0 _ rfl
   cases han : anyR L'
   ·have hpq : false = !decide (t' ≥ 0) := by rw [d5];rfl
    repeat' first | (apply Wl.neqBn;exact rfl;exact rfl;exact rfl;exact hpq) | refine Wl.move rfl rfl ?_ | refine Wl.assign rfl rfl ?_ | (apply Wl.off;exact rfl;exact rfl;exact rfl;exact kh) | refine Wl.offU rfl rfl rfl ?_ | (apply Wl.pickT;exact rfl;exact rfl;exact k5;exact rfl) | refine Wl.lss rfl rfl rfl ?_ | refine Wl.geq rfl rfl rfl ?_ | apply Wl.nil | apply St.seq | apply St.region | (apply St.condT;exact rfl;exact k5) | (apply St.condF;exact rfl;exact k5) | apply St.ret | apply St.exit | apply Gt.next | apply Gt.thenRet | apply Gt.thenExit | apply Gt.inExit | (apply Gt.out1;exact rfl;exact rfl;intro w' hp)
    exact ⟨rfl,hp⟩
   ·have hpq : true = decide (t' ≥ 0) := d5.symm
    have hxs : x.s ≠ 0 := fun h => hno ⟨hallV,⟨by omega,by omega⟩,by rw [han];exact (decide_eq_true hpos).symm,fun y _ hy => by rw [hx] at hy;cases hy;exact h⟩
    have d6 : decide (x.s ≠ 0) = true := decide_eq_true hxs
    repeat' first | (apply Wl.loadO;exact rfl;exact rfl;exact zx;exact km) | (apply Wl.neqBs;exact rfl;exact rfl;exact rfl;exact hpq) | refine Wl.move rfl rfl ?_ | refine Wl.assign rfl rfl ?_ | (apply Wl.on;exact rfl;exact rfl;exact k5) | (apply Wl.pickT;exact rfl;exact rfl;exact k5;exact rfl) | (apply Wl.pickF;exact rfl;exact rfl;exact k5;exact rfl) | refine Wl.fieldAddr0 rfl rfl ?_ | refine Wl.neq rfl rfl rfl ?_ | refine Wl.lss rfl rfl rfl ?_ | refine Wl.geq rfl rfl rfl ?_ | (refine Wl.indexAddr rfl rfl rfl ?_ ?_;constructor <;> omega) | apply Wl.nil | apply St.seq | apply St.region | (apply St.condT;exact rfl;exact k5) | (apply St.condF;exact rfl;exact k5) | apply St.ret | apply St.exit | apply Gt.next | apply Gt.thenRet | apply Gt.thenExit | apply Gt.inExit | (apply Gt.out1;exact rfl;exact rfl;intro w' hp)
    exact ⟨rfl,hp⟩
  ·have d5 : decide (t' ≥ 0) = false := decide_eq_false hpos
   cases han : anyR L'
   ·exact (hno ⟨hallV,⟨by omega,by omega⟩,by rw [han];exact (decide_eq_false hpos).symm,fun y h _ => (hpos h).elim⟩).elim
   ·have hpq : true = !decide (t' ≥ 0) := by rw [d5];rfl
    repeat' first | (apply Wl.neqBn;exact rfl;exact rfl;exact rfl;exact hpq) | refine Wl.move rfl rfl ?_ | refine Wl.assign rfl rfl ?_ | (apply Wl.off;exact rfl;exact rfl;exact rfl;exact kh) | refine Wl.offU rfl rfl rfl ?_ | (apply Wl.pickT;exact rfl;exact rfl;exact k5;exact rfl) | refine Wl.lss rfl rfl rfl ?_ | refine Wl.geq rfl rfl rfl ?_ | apply Wl.nil | apply St.seq | apply St.region | (apply St.condT;exact rfl;exact k5) | (apply St.condF;exact rfl;exact k5) | apply St.ret | apply St.exit | apply Gt.next | apply Gt.thenRet | apply Gt.thenExit | apply Gt.inExit | (apply Gt.out1;exact rfl;exact rfl;intro w' hp)
    exact ⟨rfl,hp⟩
end Go.Proofs.YtabbklpalbikdaaGreatDoor
end
