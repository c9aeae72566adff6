/-
 18 texts,one behind the other;each says what it proves. Conditions: as each text says.
-/
import Derived.Test.YtabbklpalbikdaaGreatDoorM02
import Derived.Test.YtabbklpalbikdaaGreatDoorM01
import Derived.Laws.StructEq
import Derived.Conc.LoneCalls
import Derived.Conc.LoneSelect
set_option maxHeartbeats 32000000
set_option linter.unusedVariables false
set_option linter.unusedSimpArgs false
section
namespace Go.Proofs.YtabbklpalbikdaaGreatDoor
open Go.RowKit Go.Pt
def inM (a n : Int) : Prop := 2147483648 ≤ a ∧ a + n ≤ 2147483648 + 65536
def MemP (cf : List Value) (f f' : Nat → Int) (at_ wi : Int) (st : Bool) : Prop :=
 (wi = 0 ∧ f' = f) ∨ (W124 wi ∧ (0 ≤ at_ ∧ at_ < 4294967296) ∧ inM at_ wi ∧ mayB cf at_ wi (if st then 2 else 1) = true ∧ ∀ j : Nat,¬ (st = true ∧ at_ ≤ 2147483648 + (j : Int) ∧ 2147483648 + (j : Int) < at_ + wi) → f' j = f j)
def OutP (w' : World) (h cf cM : Nat) (xs : List Value) (pc : Int) (F : Fs) (f : Nat → Int) (v : Value) : Prop :=
 ∃ (wd c1 tl1 at_ wi : Int) (tr st : Bool),v = trc wd tr c1 tl1 at_ wi st ∧ c1 ≠ 2147483655 ∧ ((tr = true ∧ TrapP w' h cf cM xs pc F f c1 tl1) ∨ (tr = false ∧ c1 = 0 ∧ ∃ xs' pc' f',SS w' h cf cM xs' pc' (F.tick true) f' ∧ MemP F.cf f f' at_ wi st))
theorem finU {w w1 w' : World} {H : List Blk} {h cf cM : Nat} (hu : Upd (Mv h cf cM w.heap.size) w w1) (hp : Hp w1 H w') (hH : ∀ x ∈ H,w.heap.size ≤ x.b) : Upd (fun k => k = h ∨ k = cf ∨ k = cM) w w' :=
 hu.comp hp.upd fun k hk hs => by
  rcases hs with (e | e | e | e) | y
  ·exact .inl e
  ·exact .inr (.inl e)
  ·exact .inr (.inr e)
  ·omega
  ·exact (y (Off.of fun x hx e => by have := hH x hx;omega)).elim
theorem TrapP.hp {w w0 w' : World} {H : List Blk} {h cf cM : Nat} {xs : List Value} {pc : Int} {F : Fs} {f : Nat → Int} {c1 tl1 : Int} (k : TrapP w h cf cM xs pc F f c1 tl1) (hq : Hp w H w') (hw : h < w0.heap.size ∧ cf < w0.heap.size ∧ cM < w0.heap.size ∧ 0 < w0.heap.size) (hH : ∀ x ∈ H,w0.heap.size ≤ x.b) : TrapP w' h cf cM xs pc F f c1 tl1 := by
 obtain ⟨s',h1,h2,h3,hS⟩ := k
 exact ⟨s',h1,h2,h3,hS.hp hq hw hH⟩
theorem fdiv8 (n : Int) (h : IsReg n) : bits .and .u32 (n.fdiv (2 ^ min (Int.toNat 8) IntKind.u32.bits)) 3 ≠ 0 := by
 have e : n.fdiv (2 ^ min (Int.toNat 8) IntKind.u32.bits) = n / 256 := by
  rw [show ((2 : Int) ^ min (Int.toNat 8) IntKind.u32.bits) = 256 from rfl,Int.fdiv_eq_ediv_of_nonneg _ ze]
 rw [e]
 unfold IsReg at h
 have : n / 256 = 3 ∨ n / 256 = 11 ∨ n / 256 = 15 := by omega
 rcases this with e | e | e <;> rw [e] <;> decide
theorem fmayU (c : Nat) (F : Fs) (n : Int) (w : World) (hF : FX w c F) (hmd : F.md = 0) (hn : IsReg n) :
  Calls Tryz.prog 195 #[.pointer (some ⟨c,0,none⟩),.int .u32 n] w fun e w' => e = .returned (.bool false) ∧ Hp w [] w' := by
 obtain ⟨hl,hk,hc⟩ := hF
 obtain ⟨md,st,mie,mip,tv,sc,ep,ca,tl,cy,re,cf⟩ := F
 simp only at hmd
 subst hmd
 simp only [Fs.cells] at hc
 have m0 : w.cell? ⟨c,0,none⟩ = some (.int .i64 0) := cell_of hc rfl
 have hd := fdiv8 n hn
 have hd1 : decide (bits .and .u32 (n.fdiv (2 ^ min (Int.toNat 8) IntKind.u32.bits)) 3 = 0) = false := decide_eq_false hd
 refine enter (args := [_,_]) (Γ := [(0,_),(1,_)]) Tryz.func195 Tryz.ntmps195 rfl odq (.cons rfl (.cons rfl .nil)) ?_
 repeat' first | (apply Wl.loadO;exact rfl;exact rfl;exact m0;exact trivial) | refine Wl.move rfl rfl ?_ | refine Wl.assign rfl rfl ?_ | (apply Wl.on;exact rfl;exact rfl;exact ka) | refine Wl.nilCheck rfl rfl ?_ | (apply Wl.pickT;exact rfl;exact rfl;exact ka;exact rfl) | (apply Wl.pickF;exact rfl;exact rfl;exact ka;exact rfl) | refine Wl.fieldAddr0 rfl rfl ?_ | refine Wl.neqPN rfl rfl rfl ?_ | refine Wl.eql rfl rfl rfl ?_ | refine Wl.and rfl rfl rfl ?_ | (refine Wl.shr rfl rfl rfl ?_ ?_;omega) | apply Wl.nil | apply St.seq | apply St.region | apply St.ret | apply Gt.next | (apply Gt.out1;exact rfl;exact rfl;intro w' hp)
 all_goals first
  | exact ⟨by rw [hd1],hp⟩
  | exact ⟨rfl,hp⟩
theorem widthE (o : Int) : ∃ v : Int,(v = 0 ∨ W124 v) ∧ ∀ w : World,Calls Tryz.prog 152 #[.int .i64 o] w fun e w' => e = .returned (.int .i64 v) ∧ Hp w [] w' := by
 by_cases h11 : o = 11
 ·subst h11
  refine ⟨1,.inr j8,fun w => ?_⟩
  refine enter (args := [_]) (Γ := [(0,_)]) Tryz.func152 Tryz.ntmps152 rfl odq (.cons rfl .nil) ?_
  repeat' first | refine Wl.move rfl rfl ?_ | refine Wl.assign rfl rfl ?_ | (apply Wl.eqlIs;exact rfl;exact rfl;exact rfl;exact kv) | apply Wl.nil | apply St.seq | apply St.block | apply St.region | (apply St.condT;exact rfl;exact ka) | apply St.ret | apply St.skip | apply Gt.next | apply Gt.thenRet | apply Gt.inRet | (apply Gt.out1;exact rfl;exact rfl;intro w' hp)
  exact ⟨rfl,hp⟩
 by_cases h14 : o = 14
 ·subst h14
  refine ⟨1,.inr j8,fun w => ?_⟩
  refine enter (args := [_]) (Γ := [(0,_)]) Tryz.func152 Tryz.ntmps152 rfl odq (.cons rfl .nil) ?_
  repeat' first | refine Wl.move rfl rfl ?_ | refine Wl.assign rfl rfl ?_ | (apply Wl.eqlIs;exact rfl;exact rfl;exact rfl;exact kv) | refine Wl.eql rfl rfl rfl ?_ | apply Wl.nil | apply St.seq | apply St.block | apply St.region | (apply St.condT;exact rfl;exact ka) | (apply St.condF;exact rfl;exact ka) | apply St.ret | apply St.skip | apply Gt.next | apply Gt.thenRet | apply Gt.inRet | (apply Gt.out1;exact rfl;exact rfl;intro w' hp)
  exact ⟨rfl,hp⟩
 by_cases h16 : o = 16
 ·subst h16
  refine ⟨1,.inr j8,fun w => ?_⟩
  refine enter (args := [_]) (Γ := [(0,_)]) Tryz.func152 Tryz.ntmps152 rfl odq (.cons rfl .nil) ?_
  repeat' first | refine Wl.move rfl rfl ?_ | refine Wl.assign rfl rfl ?_ | (apply Wl.eqlIs;exact rfl;exact rfl;exact rfl;exact kv) | refine Wl.eql rfl rfl rfl ?_ | apply Wl.nil | apply St.seq | apply St.block | apply St.region | (apply St.condT;exact rfl;exact ka) | (apply St.condF;exact rfl;exact ka) | apply St.ret | apply Gt.next | apply Gt.thenRet | apply Gt.inRet | (apply Gt.out1;exact rfl;exact rfl;intro w' hp)
  exact ⟨rfl,hp⟩
 by_cases h12 : o = 12
 ·subst h12
  refine ⟨2,.inr j8,fun w => ?_⟩
  refine enter (args := [_]) (Γ := [(0,_)]) Tryz.func152 Tryz.ntmps152 rfl odq (.cons rfl .nil) ?_
  repeat' first | refine Wl.move rfl rfl ?_ | refine Wl.assign rfl rfl ?_ | (apply Wl.eqlIs;exact rfl;exact rfl;exact rfl;exact kv) | refine Wl.eql rfl rfl rfl ?_ | apply Wl.nil | apply St.seq | apply St.block | apply St.region | (apply St.condT;exact rfl;exact ka) | (apply St.condF;exact rfl;exact ka) | apply St.ret | apply St.skip | apply Gt.next | apply Gt.thenRet | apply Gt.inRet | (apply Gt.out1;exact rfl;exact rfl;intro w' hp)
  exact ⟨rfl,hp⟩
 by_cases h15 : o = 15
 ·subst h15
  refine ⟨2,.inr j8,fun w => ?_⟩
  refine enter (args := [_]) (Γ := [(0,_)]) Tryz.func152 Tryz.ntmps152 rfl odq (.cons rfl .nil) ?_
  repeat' first | refine Wl.move rfl rfl ?_ | refine Wl.assign rfl rfl ?_ | (apply Wl.eqlIs;exact rfl;exact rfl;exact rfl;exact kv) | refine Wl.eql rfl rfl rfl ?_ | apply Wl.nil | apply St.seq | apply St.block | apply St.region | (apply St.condT;exact rfl;exact ka) | (apply St.condF;exact rfl;exact ka) | apply St.ret | apply St.skip | apply Gt.next | apply Gt.thenRet | apply Gt.inRet | (apply Gt.out1;exact rfl;exact rfl;intro w' hp)
  exact ⟨rfl,hp⟩
 by_cases h17 : o = 17
 ·subst h17
  refine ⟨2,.inr j8,fun w => ?_⟩
  refine enter (args := [_]) (Γ := [(0,_)]) Tryz.func152 Tryz.ntmps152 rfl odq (.cons rfl .nil) ?_
  repeat' first | refine Wl.move rfl rfl ?_ | refine Wl.assign rfl rfl ?_ | (apply Wl.eqlIs;exact rfl;exact rfl;exact rfl;exact kv) | refine Wl.eql rfl rfl rfl ?_ | apply Wl.nil | apply St.seq | apply St.block | apply St.region | (apply St.condT;exact rfl;exact ka) | (apply St.condF;exact rfl;exact ka) | apply St.ret | apply Gt.next | apply Gt.thenRet | apply Gt.inRet | (apply Gt.out1;exact rfl;exact rfl;intro w' hp)
  exact ⟨rfl,hp⟩
 by_cases h13 : o = 13
 ·subst h13
  refine ⟨4,.inr j8,fun w => ?_⟩
  refine enter (args := [_]) (Γ := [(0,_)]) Tryz.func152 Tryz.ntmps152 rfl odq (.cons rfl .nil) ?_
  repeat' first | refine Wl.move rfl rfl ?_ | refine Wl.assign rfl rfl ?_ | (apply Wl.eqlIs;exact rfl;exact rfl;exact rfl;exact kv) | refine Wl.eql rfl rfl rfl ?_ | apply Wl.nil | apply St.seq | apply St.block | apply St.region | (apply St.condT;exact rfl;exact ka) | (apply St.condF;exact rfl;exact ka) | apply St.ret | apply St.skip | apply Gt.next | apply Gt.thenRet | apply Gt.inRet | (apply Gt.out1;exact rfl;exact rfl;intro w' hp)
  exact ⟨rfl,hp⟩
 by_cases h18 : o = 18
 ·subst h18
  refine ⟨4,.inr j8,fun w => ?_⟩
  refine enter (args := [_]) (Γ := [(0,_)]) Tryz.func152 Tryz.ntmps152 rfl odq (.cons rfl .nil) ?_
  repeat' first | refine Wl.move rfl rfl ?_ | refine Wl.assign rfl rfl ?_ | (apply Wl.eqlIs;exact rfl;exact rfl;exact rfl;exact kv) | refine Wl.eql rfl rfl rfl ?_ | apply Wl.nil | apply St.seq | apply St.block | apply St.region | (apply St.condT;exact rfl;exact ka) | (apply St.condF;exact rfl;exact ka) | apply St.ret | apply Gt.next | apply Gt.thenRet | apply Gt.inRet | (apply Gt.out1;exact rfl;exact rfl;intro w' hp)
  exact ⟨rfl,hp⟩
 refine ⟨0,.inl rfl,fun w => ?_⟩
 have d11 : decide (o = 11) = false := decide_eq_false h11
 have d14 : decide (o = 14) = false := decide_eq_false h14
 have d16 : decide (o = 16) = false := decide_eq_false h16
 have d12 : decide (o = 12) = false := decide_eq_false h12
 have d15 : decide (o = 15) = false := decide_eq_false h15
 have d17 : decide (o = 17) = false := decide_eq_false h17
 have d13 : decide (o = 13) = false := decide_eq_false h13
 have d18 : decide (o = 18) = false := decide_eq_false h18
 refine enter (args := [_]) (Γ := [(0,_)]) Tryz.func152 Tryz.ntmps152 rfl odq (.cons rfl .nil) ?_
 repeat' first | refine Wl.move rfl rfl ?_ | refine Wl.assign rfl rfl ?_ | refine Wl.eql rfl rfl rfl ?_ | apply Wl.nil | apply St.seq | apply St.block | apply St.region | (apply St.condF;exact rfl;exact ka) | apply St.ret | apply St.skip | apply Gt.next | apply Gt.inNormal | (apply Gt.out1;exact rfl;exact rfl;intro w' hp)
 exact ⟨rfl,hp⟩
theorem regU (h cf cM : Nat) (xs : List Value) (pc o rd r1 r2 im a : Int) (F : Fs) (f : Nat → Int) (w : World) (hS : SS w h cf cM xs pc F f) (hmd : F.md = 0) (hR : InstR rd r1 r2 im) :
  Calls Tryz.prog 155 #[.pointer (some ⟨h,0,none⟩),.agg #[.int .i64 o,.int .i64 rd,.int .i64 r1,.int .i64 r2,.int .u32 im],.int .u32 a] w fun e w' => e = .returned (.bool false) ∧ Hp w [] w' := by
 obtain ⟨k1,k2,k3,k4⟩ := id hR
 obtain ⟨c32,c33,c34⟩ := hS.1.at1
 obtain ⟨l1,l2,l3,l4⟩ := hS.lts
 have hFq : ∀ {H : List Blk} {wq : World},Hp w H wq → (∀ x ∈ H,w.heap.size ≤ x.b) → FX wq cf F := fun hq hH => (hS.hp hq hS.lts hH).2.1
 refine enter (args := [_,_,_]) (Γ := [(0,_),(1,_),(2,_)]) Tryz.func155 Tryz.ntmps155 rfl odq (.cons rfl (.cons rfl (.cons rfl .nil))) ?_
 by_cases hreg : IsReg im
 ·have hd1 : decide (IsReg im) = true := decide_eq_true hreg
  have hd2 : (!decide (IsReg im)) = false := by rw [hd1];rfl
  repeat' first | (apply Wl.loadO;exact rfl;exact rfl;exact zw;(repeat (first | exact trivial | refine ⟨by simp only;omega,?_⟩))) | (apply Wl.callC (f := 149);exact rfl;exact ke;(intro wq hq;refine (form_any _ wq).mono ?_;rintro e wr ⟨⟨fv_,rfl⟩,hr⟩;refine ⟨_,_,rfl,hq.keep hr,?_⟩;clear hr hq wr wq)) | (apply Wl.callC (f := 109);exact rfl;exact ke;(intro wq hq;refine (fread_any cf im _ _ _ _ _ _ _ _ _ _ wq k4 (hFq hq zx).2.1 (hFq hq zx).2.2).mono ?_;rintro e wr ⟨⟨rv_,rfl⟩,hr⟩;refine ⟨_,_,rfl,hq.keep hr,?_⟩;clear hr hq wr wq)) | (apply Wl.callQ (f := 195);exact rfl;exact ke;(intro wq hq;exact hq.q (fmayU cf F im wq (hFq hq zx) hmd hreg))) | refine Wl.move rfl rfl ?_ | refine Wl.assign rfl rfl ?_ | (apply Wl.on;exact rfl;exact rfl;exact ka) | (apply Wl.off;exact rfl;exact rfl;exact rfl;exact kq) | refine Wl.offU rfl rfl rfl ?_ | refine Wl.extract rfl rfl rfl ?_ | refine Wl.nilCheck rfl rfl ?_ | (apply Wl.pickT;exact rfl;exact rfl;exact ka;exact rfl) | (apply Wl.pickF;exact rfl;exact rfl;exact ka;exact rfl) | refine Wl.not rfl rfl ?_ | refine Wl.fieldAddr0 rfl rfl ?_ | refine Wl.fieldAddrZ rfl rfl ?_ | (apply Wl.loadH;exact rfl;exact rfl;exact ke;exact rfl) | refine Wl.eql rfl rfl rfl ?_ | refine Wl.neq rfl rfl rfl ?_ | (refine Wl.convU32 rfl rfl ?_ ?_;constructor <;> omega) | (apply Wl.boxA;exact rfl;exact rfl;intro c hc ho) | apply Wl.nil | apply St.seq | apply St.region | (apply St.condT;exact rfl;exact ka) | apply St.ret | apply St.skip | apply Gt.next | apply Gt.thenRet | (apply Gt.out1;exact rfl;exact rfl;intro w' hp) | (apply Wl.splitP;exact rfl;exact rfl;all_goals (intros;try (exfalso;omega))) | (apply St.condP;exact rfl;all_goals (intros;try (exfalso;omega)))
  all_goals exact ⟨rfl,hp.drop zx⟩
 ·have hd1 : decide (IsReg im) = false := decide_eq_false hreg
  have hd2 : (!decide (IsReg im)) = true := by rw [hd1];rfl
  repeat' first | (apply Wl.loadO;exact rfl;exact rfl;exact zw;(repeat (first | exact trivial | refine ⟨by simp only;omega,?_⟩))) | (apply Wl.callC (f := 149);exact rfl;exact ke;(intro wq hq;refine (form_any _ wq).mono ?_;rintro e wr ⟨⟨fv_,rfl⟩,hr⟩;refine ⟨_,_,rfl,hq.keep hr,?_⟩;clear hr hq wr wq)) | (apply Wl.callC (f := 109);exact rfl;exact ke;(intro wq hq;refine (fread_any cf im _ _ _ _ _ _ _ _ _ _ wq k4 (hFq hq zx).2.1 (hFq hq zx).2.2).mono ?_;rintro e wr ⟨⟨rv_,rfl⟩,hr⟩;refine ⟨_,_,rfl,hq.keep hr,?_⟩;clear hr hq wr wq)) | refine Wl.move rfl rfl ?_ | refine Wl.assign rfl rfl ?_ | (apply Wl.on;exact rfl;exact rfl;exact ka) | (apply Wl.off;exact rfl;exact rfl;exact rfl;exact kq) | refine Wl.offU rfl rfl rfl ?_ | refine Wl.extract rfl rfl rfl ?_ | refine Wl.nilCheck rfl rfl ?_ | (apply Wl.pickT;exact rfl;exact rfl;exact ka;exact rfl) | (apply Wl.pickF;exact rfl;exact rfl;exact ka;exact rfl) | refine Wl.not rfl rfl ?_ | refine Wl.fieldAddr0 rfl rfl ?_ | refine Wl.fieldAddrZ rfl rfl ?_ | (apply Wl.loadH;exact rfl;exact rfl;exact ke;exact rfl) | refine Wl.eql rfl rfl rfl ?_ | refine Wl.neq rfl rfl rfl ?_ | (refine Wl.convU32 rfl rfl ?_ ?_;constructor <;> omega) | (apply Wl.boxA;exact rfl;exact rfl;intro c hc ho) | apply Wl.nil | apply St.seq | apply St.region | (apply St.condT;exact rfl;exact ka) | apply St.ret | apply St.skip | apply Gt.next | apply Gt.thenRet | (apply Gt.out1;exact rfl;exact rfl;intro w' hp) | (apply Wl.splitP;exact rfl;exact rfl;all_goals (intros;try (exfalso;omega))) | (apply St.condP;exact rfl;all_goals (intros;try (exfalso;omega)))
  all_goals exact ⟨rfl,hp.drop zx⟩
theorem sysU (h cf cM : Nat) (xs : List Value) (pc wd o rd r1 r2 im nx : Int) (F : Fs) (f : Nat → Int) (w : World) (hS : SS w h cf cM xs pc F f) (hmd : F.md = 0) (hnx : 0 ≤ nx ∧ nx < 4294967296) :
  Calls Tryz.prog 156 #[.pointer (some ⟨h,0,none⟩),.agg #[.int .u32 wd,.bool false,.int .u32 0,.int .u32 0,.int .u32 0,.int .i64 0,.bool false],.agg #[.int .i64 o,.int .i64 rd,.int .i64 r1,.int .i64 r2,.int .u32 im],.int .u32 nx] w fun e w' => ∃ v,e = .returned v ∧ OutP w' h cf cM xs pc F f v ∧ Upd (fun k => k = h ∨ k = cf ∨ k = cM) w w' := by
 have hw := hS.lts
 have hu0 : Upd (Mv h cf cM w.heap.size) w w := Upd.refl _ _
 obtain ⟨c32,c33,c34⟩ := hS.1.at1
 obtain ⟨l1,l2,l3,l4⟩ := hS.lts
 have m0 : w.cell? ⟨cf,0,none⟩ = some (.int .i64 F.md) := hS.2.1.ff.two
 rw [hmd] at m0
 refine enter (args := [_,_,_,_]) (Γ := [(0,_),(1,_),(2,_),(3,_)]) Tryz.func156 Tryz.ntmps156 rfl odq (.cons rfl (.cons rfl (.cons rfl (.cons rfl .nil)))) ?_
 repeat' first | (apply Wl.callS (f := 113) (w0 := w);exact rfl;exact ke;assumption;assumption;exact hw;(simp only [List.mem_cons,List.not_mem_nil,or_false,forall_eq_or_imp,forall_eq];omega);(intro wq hSq;exact htrapS h cf cM _ _ F _ _ _ _ _ _ _ _ _ _ wq hSq hmd);(rintro v w1 ⟨rfl,hT1⟩ hu1;have hz1 := hu1.size)) | (apply Wl.callS (f := 157) (w0 := w);exact rfl;exact ke;assumption;assumption;exact hw;(simp only [List.mem_cons,List.not_mem_nil,or_false,forall_eq_or_imp,forall_eq];omega);(intro wq hSq;exact hdoneS h cf cM _ _ _ F _ _ _ _ _ _ _ _ wq hSq qd);(rintro v w1 ⟨rfl,hS1⟩ hu1;have hz1 := hu1.size)) | (apply St.bagX 6 [];exact mixed;(decide +kernel);kernel_rfl) | (apply Wl.loadO;exact rfl;exact rfl;exact zw;exact qy) | apply OpsX.nil | (apply OpsX.v;(intro X hX;change Wl [_] _ _ _ _ _ _ _;apply Wl.catX;exact ke)) | (apply Gt.endX;exact rfl) | (apply EndX.on;exact rfl) | (apply EndX.off;exact rfl) | (apply EndX.nil';apply Wl.catE;exact ke) | (apply Gt.outC';exact rfl;infer_instance;exact rfl;exact ke;exact ke;intro w' hp) | refine Wl.move rfl rfl ?_ | refine Wl.assign rfl rfl ?_ | (apply Wl.on;exact rfl;exact rfl;exact ka) | (apply Wl.off;exact rfl;exact rfl;exact rfl;exact kq) | refine Wl.nilCheck rfl rfl ?_ | (apply Wl.pickT;exact rfl;exact rfl;exact ka;exact rfl) | (apply Wl.pickF;exact rfl;exact rfl;exact ka;exact rfl) | refine Wl.fieldAddr0 rfl rfl ?_ | refine Wl.fieldAddrZ rfl rfl ?_ | (apply Wl.loadH;exact rfl;exact rfl;exact ke;exact rfl) | (apply Wl.eqlIs;exact rfl;exact rfl;exact rfl;exact kv) | refine Wl.eql rfl rfl rfl ?_ | (apply Wl.storeA;exact rfl;exact rfl;exact rfl;exact rfl;exact ke;exact kf) | (apply Wl.loadAH;exact rfl;exact rfl;exact ke;exact ke) | (apply Wl.boxA;exact rfl;exact rfl;intro c hc ho) | (apply Wl.alloc;exact rfl;intro c hc ho) | apply Wl.nil | apply St.seq | apply St.block | apply St.region | (apply St.condT;exact rfl;exact ka) | (apply St.condF;exact rfl;exact ka) | apply St.ret | apply St.skip | apply Gt.next | apply Gt.thenRet | apply Gt.inNormal | apply Gt.inRet | (apply Wl.splitP;exact rfl;exact rfl;all_goals (intros;try (exfalso;omega))) | (apply St.condP;exact rfl;all_goals (intros;try (exfalso;omega)))
 all_goals first
  | exact ⟨_,rfl,⟨_,_,_,_,_,true,_,rfl,by decide,.inl ⟨rfl,hT1.hp hp hw kb⟩⟩,finU hu1 hp kb⟩
  | exact ⟨_,rfl,⟨_,_,_,_,_,false,_,rfl,by decide,.inr ⟨rfl,rfl,_,_,_,hS1.hp hp hw kb,.inl ⟨rfl,rfl⟩⟩⟩,finU hu1 hp kb⟩
theorem OutP.hp {w w0 w' : World} {H : List Blk} {h cf cM : Nat} {xs : List Value} {pc : Int} {F : Fs} {f : Nat → Int} {v : Value} (k : OutP w h cf cM xs pc F f v) (hq : Hp w H w') (hw : h < w0.heap.size ∧ cf < w0.heap.size ∧ cM < w0.heap.size ∧ 0 < w0.heap.size) (hH : ∀ x ∈ H,w0.heap.size ≤ x.b) : OutP w' h cf cM xs pc F f v := by
 obtain ⟨a1,a2,a3,a4,a5,a6,a7,rfl,hc,hO⟩ := k
 refine ⟨a1,a2,a3,a4,a5,a6,a7,rfl,hc,hO.imp (fun k => ⟨k.1,k.2.hp hq hw hH⟩) fun k => ?_⟩
 obtain ⟨b1,b2,xs',pc',f',hS,hm⟩ := k
 exact ⟨b1,b2,xs',pc',f',hS.hp hq hw hH,hm⟩
theorem loadX_rng (f : Nat → Int) (a : Nat) (n : Nat) : 0 ≤ loadX f a n ∧ loadX f a n < 4294967296 := by
 cases n with
 | zero => unfold loadX;decide
 | succ n => rw [loadX_succ];exact br32 _ _ _
theorem mloadP (c : Nat) (a n : Int) (f : Nat → Int) (w : World) (ha : 0 ≤ a ∧ a < 4294967296) (hn : W124 n) (hi : inM a n) (hc : memH w c f) :
  Calls Tryz.prog 114 #[.pointer (some ⟨c,0,none⟩),.int .u32 a,.int .i64 n] w fun e w' => e = .returned (.tuple #[.int .u32 (loadX f (a - 2147483648).toNat n.toNat),.int .i64 0]) ∧ Hp w [] w' := by
 have := mload c a n f w ha hn hc
 rw [if_pos (show 2147483648 ≤ a ∧ a + n ≤ 2147483648 + 65536 from hi)] at this
 exact this
theorem mloadNo (c : Nat) (a n : Int) (f : Nat → Int) (w : World) (ha : 0 ≤ a ∧ a < 4294967296) (hn : W124 n) (hi : ¬ inM a n) (hc : memH w c f) :
  Calls Tryz.prog 114 #[.pointer (some ⟨c,0,none⟩),.int .u32 a,.int .i64 n] w fun e w' => e = .returned (.tuple #[.int .u32 0,.int .i64 18]) ∧ Hp w [] w' := by
 have := mload c a n f w ha hn hc
 rw [if_neg (show ¬ (2147483648 ≤ a ∧ a + n ≤ 2147483648 + 65536) from hi)] at this
 exact this
theorem hasP (c : Nat) (a n : Int) (b : Bool) (w : World) (ha : 0 ≤ a ∧ a < 4294967296) (hn : 0 ≤ n ∧ n < 4294967296) (hb : b = true ↔ inM a n) :
  Calls Tryz.prog 76 #[.pointer (some ⟨c,0,none⟩),.int .u32 a,.int .u32 n] w fun e w' => e = .returned (.bool b) ∧ Hp w [] w' := by
 have e : decide (2147483648 ≤ a ∧ a + n ≤ 2147483648 + 65536) = b := by
  cases b
  ·exact decide_eq_false fun h => (by cases hb.2 h)
  ·exact decide_eq_true (hb.1 rfl)
 rw [← e]
 exact has_any c a n w ha hn
theorem mstoreS (h cf cM : Nat) (xs : List Value) (pc a n x : Int) (F : Fs) (f : Nat → Int) (w : World) (hS : SS w h cf cM xs pc F f) (ha : 0 ≤ a ∧ a < 4294967296) (hn : W124 n) (hi : inM a n) :
  Calls Tryz.prog 51 #[.pointer (some ⟨cM,0,none⟩),.int .u32 a,.int .i64 n,.int .u32 x] w
   fun e w' => ∃ v,e = .returned v ∧ ((∃ z,v = .int .i64 z) ∧ SS w' h cf cM xs pc F (storeX f (a - 2147483648).toNat x n.toNat)) ∧ Upd (fun k => k = h ∨ k = cf ∨ k = cM) w w' := by
 refine (mstore cM a n x f w ha hn hS.2.2.1).mono ?_
 rintro e w' ⟨⟨v,rfl⟩,hp⟩
 rw [if_pos (show 2147483648 ≤ a ∧ a + n ≤ 2147483648 + 65536 from hi)] at hp
 have u := Hp.turned hp
 obtain ⟨a1,a2,a3,a4,a5,a6,a7,⟨z1,z2,z3⟩,n1,n2,n3⟩ := hS
 exact ⟨_,rfl,⟨⟨v,rfl⟩,a1.upd u n2,a2.upd u n3,hp.own.at (.head _),a4,a5,a6,a7.upd u fun e => z3 e.symm,⟨z1,z2,z3⟩,n1,n2,n3⟩,u.mono fun k _ e => .inr (.inr e)⟩
theorem widenE (o x : Int) (hx : 0 ≤ x ∧ x < 4294967296) : ∃ v : Int,(0 ≤ v ∧ v < 4294967296) ∧ ∀ w : World,Calls Tryz.prog 192 #[.int .i64 o,.int .u32 x] w fun e w' => e = .returned (.int .u32 v) ∧ Hp w [] w' := by
 by_cases h11 : o = 11
 ·subst h11
  apply Exists.intro
  refine And.intro ?rng (fun w => ?z)
  case z =>
   refine enter (args := [_,_]) (Γ := [(0,_),(1,_)]) Tryz.func192 Tryz.ntmps192 rfl odq (.cons rfl (.cons rfl .nil)) ?_
   repeat' first | refine Wl.move rfl rfl ?_ | refine Wl.assign rfl rfl ?_ | (apply Wl.eqlIs;exact rfl;exact rfl;exact rfl;exact kv) | refine Wl.convI rfl rfl ?_ | apply Wl.nil | apply St.seq | apply St.block | apply St.region | (apply St.condT;exact rfl;exact ka) | apply St.ret | apply Gt.next | apply Gt.thenRet | apply Gt.inRet | (apply Gt.out1;exact rfl;exact rfl;intro w' hp)
   exact ⟨rfl,hp⟩
  case rng => (first | assumption | exact wr32 _ | exact br32 _ _ _ | exact and31 _ | (constructor <;> omega) | (apply fd32;first | assumption | exact wr32 _ | exact br32 _ _ _))
 by_cases h12 : o = 12
 ·subst h12
  apply Exists.intro
  refine And.intro ?rng (fun w => ?z)
  case z =>
   refine enter (args := [_,_]) (Γ := [(0,_),(1,_)]) Tryz.func192 Tryz.ntmps192 rfl odq (.cons rfl (.cons rfl .nil)) ?_
   repeat' first | refine Wl.move rfl rfl ?_ | refine Wl.assign rfl rfl ?_ | (apply Wl.eqlIs;exact rfl;exact rfl;exact rfl;exact kv) | refine Wl.eql rfl rfl rfl ?_ | refine Wl.convI rfl rfl ?_ | apply Wl.nil | apply St.seq | apply St.block | apply St.region | (apply St.condT;exact rfl;exact ka) | (apply St.condF;exact rfl;exact ka) | apply St.ret | apply Gt.next | apply Gt.thenRet | apply Gt.inRet | (apply Gt.out1;exact rfl;exact rfl;intro w' hp)
   exact ⟨rfl,hp⟩
  case rng => (first | assumption | exact wr32 _ | exact br32 _ _ _ | exact and31 _ | (constructor <;> omega) | (apply fd32;first | assumption | exact wr32 _ | exact br32 _ _ _))
 by_cases h14 : o = 14
 ·subst h14
  apply Exists.intro
  refine And.intro ?rng (fun w => ?z)
  case z =>
   refine enter (args := [_,_]) (Γ := [(0,_),(1,_)]) Tryz.func192 Tryz.ntmps192 rfl odq (.cons rfl (.cons rfl .nil)) ?_
   repeat' first | refine Wl.move rfl rfl ?_ | refine Wl.assign rfl rfl ?_ | (apply Wl.eqlIs;exact rfl;exact rfl;exact rfl;exact kv) | refine Wl.eql rfl rfl rfl ?_ | refine Wl.and rfl rfl rfl ?_ | apply Wl.nil | apply St.seq | apply St.block | apply St.region | (apply St.condT;exact rfl;exact ka) | (apply St.condF;exact rfl;exact ka) | apply St.ret | apply Gt.next | apply Gt.thenRet | apply Gt.inRet | (apply Gt.out1;exact rfl;exact rfl;intro w' hp)
   exact ⟨rfl,hp⟩
  case rng => (first | assumption | exact wr32 _ | exact br32 _ _ _ | exact and31 _ | (constructor <;> omega) | (apply fd32;first | assumption | exact wr32 _ | exact br32 _ _ _))
 by_cases h15 : o = 15
 ·subst h15
  apply Exists.intro
  refine And.intro ?rng (fun w => ?z)
  case z =>
   refine enter (args := [_,_]) (Γ := [(0,_),(1,_)]) Tryz.func192 Tryz.ntmps192 rfl odq (.cons rfl (.cons rfl .nil)) ?_
   repeat' first | refine Wl.move rfl rfl ?_ | refine Wl.assign rfl rfl ?_ | (apply Wl.eqlIs;exact rfl;exact rfl;exact rfl;exact kv) | refine Wl.eql rfl rfl rfl ?_ | refine Wl.and rfl rfl rfl ?_ | apply Wl.nil | apply St.seq | apply St.block | apply St.region | (apply St.condT;exact rfl;exact ka) | (apply St.condF;exact rfl;exact ka) | apply St.ret | apply Gt.next | apply Gt.thenRet | apply Gt.inRet | (apply Gt.out1;exact rfl;exact rfl;intro w' hp)
   exact ⟨rfl,hp⟩
  case rng => (first | assumption | exact wr32 _ | exact br32 _ _ _ | exact and31 _ | (constructor <;> omega) | (apply fd32;first | assumption | exact wr32 _ | exact br32 _ _ _))
 have d11 : decide (o = 11) = false := decide_eq_false h11
 have d12 : decide (o = 12) = false := decide_eq_false h12
 have d14 : decide (o = 14) = false := decide_eq_false h14
 have d15 : decide (o = 15) = false := decide_eq_false h15
 apply Exists.intro
 refine And.intro ?rng (fun w => ?z)
 case z =>
  refine enter (args := [_,_]) (Γ := [(0,_),(1,_)]) Tryz.func192 Tryz.ntmps192 rfl odq (.cons rfl (.cons rfl .nil)) ?_
  repeat' first | refine Wl.move rfl rfl ?_ | refine Wl.assign rfl rfl ?_ | refine Wl.eql rfl rfl rfl ?_ | apply Wl.nil | apply St.seq | apply St.block | apply St.region | (apply St.condF;exact rfl;exact ka) | apply St.ret | apply St.skip | apply Gt.next | apply Gt.inNormal | (apply Gt.out1;exact rfl;exact rfl;intro w' hp)
  exact ⟨rfl,hp⟩
 case rng => (first | assumption | exact wr32 _ | exact br32 _ _ _ | exact and31 _ | (constructor <;> omega) | (apply fd32;first | assumption | exact wr32 _ | exact br32 _ _ _))
theorem memU (h cf cM : Nat) (xs : List Value) (pc wd o rd r1 r2 im at_ b n : Int) (F : Fs) (f : Nat → Int) (w : World) (hS : SS w h cf cM xs pc F f) (hmd : F.md = 0) (hR : InstR rd r1 r2 im) (hat : 0 ≤ at_ ∧ at_ < 4294967296) (hn : W124 n) (hW : ∀ w : World,Calls Tryz.prog 152 #[.int .i64 o] w fun e w' => e = .returned (.int .i64 n) ∧ Hp w [] w') :
  Calls Tryz.prog 153 #[.pointer (some ⟨h,0,none⟩),.agg #[.int .u32 wd,.bool false,.int .u32 0,.int .u32 0,.int .u32 0,.int .i64 0,.bool false],.agg #[.int .i64 o,.int .i64 rd,.int .i64 r1,.int .i64 r2,.int .u32 im],.int .u32 at_,.int .u32 b] w fun e w' => ∃ v,e = .returned v ∧ OutP w' h cf cM xs pc F f v ∧ Upd (fun k => k = h ∨ k = cf ∨ k = cM) w w' := by
 obtain ⟨k1,k2,k3,k4⟩ := id hR
 have hw := hS.lts
 have hu0 : Upd (Mv h cf cM w.heap.size) w w := Upd.refl _ _
 obtain ⟨c32,c33,c34⟩ := hS.1.at1
 obtain ⟨l1,l2,l3,l4⟩ := hS.lts
 have m0 : w.cell? ⟨cf,0,none⟩ = some (.int .i64 F.md) := hS.2.1.ff.two
 rw [hmd] at m0
 have hn14 : 1 ≤ n ∧ n ≤ 4 := by unfold W124 at hn;omega
 have hSQ : ∀ {H : List Blk} {wq : World},Hp w H wq → (hH : ∀ x ∈ H,w.heap.size ≤ x.b := by simp only [List.mem_cons,List.not_mem_nil,or_false,forall_eq_or_imp,forall_eq];omega) → SS wq h cf cM xs pc F f := fun hq hH => hS.hp hq hw hH
 refine enter (args := [_,_,_,_,_]) (Γ := [(0,_),(1,_),(2,_),(3,_),(4,_)]) Tryz.func153 Tryz.ntmps153 rfl odq (.cons rfl (.cons rfl (.cons rfl (.cons rfl (.cons rfl .nil))))) ?_
 obtain ⟨wv,hwv,hWd⟩ := widenE o _ (loadX_rng f (at_ - 2147483648).toNat n.toNat)
 by_cases hin : inM at_ n
 ·obtain ⟨bi,hbt,hbi⟩ : ∃ b : Bool,b = true ∧ (b = true ↔ inM at_ n) := ⟨true,rfl,fun _ => hin,fun _ => rfl⟩
  have hbn : (!bi) = false := by rw [hbt];rfl
  repeat' first | (apply Wl.callQ (f := 152);exact rfl;exact ke;(intro wq hq;exact hq.q (hW wq))) | (apply Wl.callC (f := 149);exact rfl;exact ke;(intro wq hq;refine (form_any _ wq).mono ?_;rintro e wr ⟨⟨fv_,rfl⟩,hr⟩;refine ⟨_,_,rfl,hq.keep hr,?_⟩;clear hr hq wr wq;by_cases hfv : fv_ = 4;have hfd : decide (fv_ = 4) = true := decide_eq_true hfv;rotate_left;have hfd : decide (fv_ = 4) = false := decide_eq_false hfv;rotate_left)) | (apply Wl.callS (f := 113) (w0 := w);exact rfl;exact ke;assumption;assumption;exact hw;(simp only [List.mem_cons,List.not_mem_nil,or_false,forall_eq_or_imp,forall_eq];omega);(intro wq hSq;exact htrapS h cf cM _ _ F _ _ _ _ _ _ _ _ _ _ wq hSq hmd);(rintro v w1 ⟨rfl,hT1⟩ hu1;have hz1 := hu1.size)) | (apply Wl.callS (f := 157) (w0 := w);exact rfl;exact ke;assumption;assumption;exact hw;(simp only [List.mem_cons,List.not_mem_nil,or_false,forall_eq_or_imp,forall_eq];omega);(intro wq hSq;exact hdoneS h cf cM _ _ _ F _ _ _ _ _ _ _ _ wq hSq qd);(rintro v w1 ⟨rfl,hS1⟩ hu1;have hz1 := hu1.size)) | (apply Wl.callS (f := 150) (w0 := w);exact rfl;exact ke;assumption;assumption;exact hw;(simp only [List.mem_cons,List.not_mem_nil,or_false,forall_eq_or_imp,forall_eq];omega);(intro wq hSq;exact hsetS h cf cM _ _ _ _ F _ wq hSq (by first | assumption | omega) qd);(rintro v w2 ⟨rfl,hS2⟩ hu2;have hz2 := hu2.size;obtain ⟨e32,e33,e34⟩ := hS2.1.at1)) | (apply Wl.callS (f := 51) (w0 := w);exact rfl;exact ke;assumption;assumption;exact hw;(simp only [List.mem_cons,List.not_mem_nil,or_false,forall_eq_or_imp,forall_eq];omega);(intro wq hSq;exact mstoreS h cf cM _ _ _ _ _ F _ wq hSq hat hn hin);(rintro v w2 ⟨⟨z_,rfl⟩,hS2⟩ hu2;have hz2 := hu2.size;obtain ⟨e32,e33,e34⟩ := hS2.1.at1)) | (apply Wl.callQ (f := 76);exact rfl;exact ke;(intro wq hq;exact hq.q (hasP cM at_ n bi wq hat ky hbi))) | (apply Wl.callQ (f := 115);exact rfl;exact ke;(intro wq hq;exact hq.q (may1X cf F at_ n _ wq (hSQ hq).2.1 hmd (hSQ hq).2.2.2.2.2.2.1))) | (apply Wl.callQ (f := 114);exact rfl;exact ke;(intro wq hq;exact hq.q (mloadP cM at_ n f wq hat hn hin (hSQ hq).2.2.1))) | (apply Wl.callQ (f := 192);exact rfl;exact ke;(intro wq hq;exact hq.q (hWd wq))) | (apply St.bagX (i := 8) 7 [];exact mixed;(decide +kernel);kernel_rfl) | (apply St.bagX (i := 15) 7 [];exact mixed;(decide +kernel);kernel_rfl) | (apply Wl.loadO;exact rfl;exact rfl;exact zw;exact zj) | apply OpsX.nil | (apply OpsX.v;(intro X hX;change Wl [_] _ _ _ _ _ _ _;apply Wl.catX;exact ke)) | (apply Gt.endX;exact rfl) | (apply EndX.on;exact rfl) | (apply EndX.off;exact rfl) | (apply EndX.nil';apply Wl.catE;exact ke) | (apply Gt.outC';exact rfl;infer_instance;exact rfl;exact ke;exact ke;intro w' hp) | refine Wl.move rfl rfl ?_ | refine Wl.assign rfl rfl ?_ | (apply Wl.on;exact rfl;exact rfl;exact ka) | refine Wl.extract rfl rfl rfl ?_ | refine Wl.nilCheck rfl rfl ?_ | (apply Wl.pickF;exact rfl;exact rfl;exact ka;exact rfl) | refine Wl.not rfl rfl ?_ | refine Wl.fieldAddr0 rfl rfl ?_ | refine Wl.fieldAddrZ rfl rfl ?_ | (apply Wl.loadH;exact rfl;exact rfl;exact ke;exact rfl) | (apply Wl.eqlIs;exact rfl;exact rfl;exact rfl;exact kv) | refine Wl.eql rfl rfl rfl ?_ | refine Wl.neq rfl rfl rfl ?_ | refine Wl.add rfl rfl rfl ?_ | (apply Wl.rem;exact rfl;exact rfl;exact rfl;exact qx) | (refine Wl.convU32 rfl rfl ?_ ?_;constructor <;> omega) | (apply Wl.store;exact rfl;exact rfl;exact rfl;exact ke;exact kx) | (apply Wl.storeA;exact rfl;exact rfl;exact rfl;exact rfl;exact ke;exact kf) | (apply Wl.loadAH;exact rfl;exact rfl;exact ke;exact ke) | (apply Wl.boxA;exact rfl;exact rfl;intro c hc ho) | (apply Wl.alloc;exact rfl;intro c hc ho) | apply Wl.nil | apply St.seq | apply St.block | apply St.region | (apply St.condT;exact rfl;exact ka) | (apply St.condF;exact rfl;exact ka) | apply St.ret | apply St.skip | apply Gt.next | apply Gt.thenRet | apply Gt.inNormal | apply Gt.inRet | (apply St.condP;exact rfl;all_goals (intros;try (exfalso;omega))) | (apply St.condB;exact rfl;all_goals intros)
  all_goals first
   | exact ⟨_,rfl,⟨_,_,_,_,_,true,_,rfl,by decide,.inl ⟨rfl,hT1.hp hp hw kb⟩⟩,finU hu1 hp kb⟩
   | exact ⟨_,rfl,⟨_,_,_,_,_,false,decide (fv_ = 4),rfl,by decide,.inr ⟨rfl,rfl,_,_,_,hS1.hp hp hw kb,.inr ⟨hn,hat,hin,by rw [hfd];simpa using ‹(!mayB F.cf at_ n 1) = false›,fun j _ => rfl⟩⟩⟩,finU hu1 hp kb⟩
   | exact ⟨_,rfl,⟨_,_,_,_,_,false,true,rfl,by decide,.inr ⟨rfl,rfl,_,_,_,hS1.hp hp hw kb,.inr ⟨hn,hat,hin,by simpa using ‹(!mayB F.cf at_ n 2) = false›,fun j hj => storeX_out (by have hj2 : ¬ (at_ ≤ 2147483648 + (j : Int) ∧ 2147483648 + (j : Int) < at_ + n) := fun h => hj ⟨rfl,h⟩;unfold inM at hin;omega)⟩⟩⟩,finU hu1 hp kb⟩
 ·obtain ⟨bi,hbt,hbi⟩ : ∃ b : Bool,b = false ∧ (b = true ↔ inM at_ n) := ⟨false,rfl,fun h => (by cases h),fun h => (hin h).elim⟩
  have hbn : (!bi) = true := by rw [hbt];rfl
  repeat' first | (apply Wl.callQ (f := 152);exact rfl;exact ke;(intro wq hq;exact hq.q (hW wq))) | (apply Wl.callC (f := 149);exact rfl;exact ke;(intro wq hq;refine (form_any _ wq).mono ?_;rintro e wr ⟨⟨fv_,rfl⟩,hr⟩;refine ⟨_,_,rfl,hq.keep hr,?_⟩;clear hr hq wr wq;by_cases hfv : fv_ = 4;have hfd : decide (fv_ = 4) = true := decide_eq_true hfv;rotate_left;have hfd : decide (fv_ = 4) = false := decide_eq_false hfv;rotate_left)) | (apply Wl.callS (f := 113) (w0 := w);exact rfl;exact ke;assumption;assumption;exact hw;(simp only [List.mem_cons,List.not_mem_nil,or_false,forall_eq_or_imp,forall_eq];omega);(intro wq hSq;exact htrapS h cf cM _ _ F _ _ _ _ _ _ _ _ _ _ wq hSq hmd);(rintro v w1 ⟨rfl,hT1⟩ hu1;have hz1 := hu1.size)) | (apply Wl.callQ (f := 76);exact rfl;exact ke;(intro wq hq;exact hq.q (hasP cM at_ n bi wq hat ky hbi))) | (apply Wl.loadO;exact rfl;exact rfl;exact zw;exact zj) | (apply Gt.outC';exact rfl;infer_instance;exact rfl;exact ke;exact ke;intro w' hp) | refine Wl.move rfl rfl ?_ | refine Wl.assign rfl rfl ?_ | (apply Wl.off;exact rfl;exact rfl;exact rfl;exact kq) | refine Wl.nilCheck rfl rfl ?_ | (apply Wl.pickT;exact rfl;exact rfl;exact ka;exact rfl) | refine Wl.not rfl rfl ?_ | refine Wl.fieldAddr0 rfl rfl ?_ | refine Wl.fieldAddrZ rfl rfl ?_ | (apply Wl.loadH;exact rfl;exact rfl;exact ke;exact rfl) | (apply Wl.eqlIs;exact rfl;exact rfl;exact rfl;exact kv) | refine Wl.eql rfl rfl rfl ?_ | refine Wl.neq rfl rfl rfl ?_ | (apply Wl.rem;exact rfl;exact rfl;exact rfl;exact qx) | (refine Wl.convU32 rfl rfl ?_ ?_;constructor <;> omega) | (apply Wl.store;exact rfl;exact rfl;exact rfl;exact ke;exact kx) | (apply Wl.storeA;exact rfl;exact rfl;exact rfl;exact rfl;exact ke;exact kf) | (apply Wl.loadAH;exact rfl;exact rfl;exact ke;exact ke) | (apply Wl.boxA;exact rfl;exact rfl;intro c hc ho) | (apply Wl.alloc;exact rfl;intro c hc ho) | apply Wl.nil | apply St.seq | apply St.block | apply St.region | (apply St.condT;exact rfl;exact ka) | (apply St.condF;exact rfl;exact ka) | apply St.ret | apply St.skip | apply Gt.next | apply Gt.thenRet | apply Gt.inRet | (apply St.condP;exact rfl;all_goals (intros;try (exfalso;omega)))
  all_goals exact ⟨_,rfl,⟨_,_,_,_,_,true,_,rfl,by decide,.inl ⟨rfl,hT1.hp hp hw kb⟩⟩,finU hu1 hp kb⟩
theorem doU (h cf cM : Nat) (xs : List Value) (pc wd o rd r1 r2 im : Int) (F : Fs) (f : Nat → Int) (w : World) (hS : SS w h cf cM xs pc F f) (hmd : F.md = 0) (hR : InstR rd r1 r2 im) :
  Calls Tryz.prog 116 #[.pointer (some ⟨h,0,none⟩),.agg #[.int .u32 wd,.bool false,.int .u32 0,.int .u32 0,.int .u32 0,.int .i64 0,.bool false],.agg #[.int .i64 o,.int .i64 rd,.int .i64 r1,.int .i64 r2,.int .u32 im]] w fun e w' => ∃ v,e = .returned v ∧ OutP w' h cf cM xs pc F f v ∧ Upd (fun k => k = h ∨ k = cf ∨ k = cM) w w' := by
 obtain ⟨k1,k2,k3,k4⟩ := id hR
 have hw := hS.lts
 have hu0 : Upd (Mv h cf cM w.heap.size) w w := Upd.refl _ _
 obtain ⟨c32,c33,c34⟩ := hS.1.at1
 obtain ⟨l1,l2,l3,l4⟩ := hS.lts
 have m0 : w.cell? ⟨cf,0,none⟩ = some (.int .i64 F.md) := hS.2.1.ff.two
 rw [hmd] at m0
 have hSQ : ∀ {H : List Blk} {wq : World},Hp w H wq → (hH : ∀ x ∈ H,w.heap.size ≤ x.b := by simp only [List.mem_cons,List.not_mem_nil,or_false,forall_eq_or_imp,forall_eq];omega) → SS wq h cf cM xs pc F f := fun hq hH => hS.hp hq hw hH
 obtain ⟨za,hza,ra⟩ := hS.reg k2
 obtain ⟨zb,hzb,rb⟩ := hS.reg k3
 obtain ⟨n,hn,hW⟩ := widthE o
 refine enter (args := [_,_,_]) (Γ := [(0,_),(1,_),(2,_)]) Tryz.func116 Tryz.ntmps116 rfl odq (.cons rfl (.cons rfl (.cons rfl .nil))) ?_
 repeat' first | (apply Wl.callC (f := 149);exact rfl;exact ke;(intro wq hq;refine (form_any _ wq).mono ?_;rintro e wr ⟨⟨fv_,rfl⟩,hr⟩;refine ⟨_,_,rfl,hq.keep hr,?_⟩;clear hr hq wr wq)) | (apply Wl.callQ (f := 152);exact rfl;exact ke;(intro wq hq;exact hq.q (hW wq))) | (apply Wl.callC (f := 151);exact rfl;exact ke;(intro wq hq;refine (goes_any _ _ _ wq).mono ?_;rintro e wr ⟨⟨gx_,gy_,rfl⟩,hr⟩;refine ⟨_,_,rfl,hq.keep hr,?_⟩;clear hr hq wr wq)) | (apply Wl.callC (f := 154);exact rfl;exact ke;(intro wq hq;refine (reckon_any _ _ _ wq qg qg).mono ?_;rintro e wr ⟨⟨rv_,ry_,rfl,hrv_⟩,hr⟩;refine ⟨_,_,rfl,hq.keep hr,?_⟩;clear hr hq wr wq)) | (apply Wl.callS (f := 113) (w0 := w);exact rfl;exact ke;assumption;assumption;exact hw;(simp only [List.mem_cons,List.not_mem_nil,or_false,forall_eq_or_imp,forall_eq];omega);(intro wq hSq;exact htrapS h cf cM _ _ F _ _ _ _ _ _ _ _ _ _ wq hSq hmd);(rintro v w1 ⟨rfl,hT1⟩ hu1;have hz1 := hu1.size)) | (apply Wl.callS (f := 157) (w0 := w);exact rfl;exact ke;assumption;assumption;exact hw;(simp only [List.mem_cons,List.not_mem_nil,or_false,forall_eq_or_imp,forall_eq];omega);(intro wq hSq;exact hdoneS h cf cM _ _ _ F _ _ _ _ _ _ _ _ wq hSq qd);(rintro v w1 ⟨rfl,hS1⟩ hu1;have hz1 := hu1.size)) | (apply Wl.callS (f := 150) (w0 := w);exact rfl;exact ke;assumption;assumption;exact hw;(simp only [List.mem_cons,List.not_mem_nil,or_false,forall_eq_or_imp,forall_eq];omega);(intro wq hSq;exact hsetS h cf cM _ _ _ _ F _ wq hSq (by first | assumption | omega) qd);(rintro v w2 ⟨rfl,hS2⟩ hu2;have hz2 := hu2.size;obtain ⟨e32,e33,e34⟩ := hS2.1.at1)) | (apply Wl.callS (f := 153) (w0 := w);exact rfl;exact ke;assumption;assumption;exact hw;(simp only [List.mem_cons,List.not_mem_nil,or_false,forall_eq_or_imp,forall_eq];omega);(intro wq hSq;exact memU h cf cM _ _ _ _ _ _ _ _ _ _ n F _ wq hSq hmd hR (by exact wr32 _) (by unfold W124 at hn ⊢;omega) hW);(rintro v w1 ⟨a1_,a2_,a3_,a4_,a5_,a6_,a7_,rfl,hc1,hO⟩ hu1;have hz1 := hu1.size)) | (apply Wl.callS (f := 156) (w0 := w);exact rfl;exact ke;assumption;assumption;exact hw;(simp only [List.mem_cons,List.not_mem_nil,or_false,forall_eq_or_imp,forall_eq];omega);(intro wq hSq;exact sysU h cf cM _ _ _ _ _ _ _ _ _ F _ wq hSq hmd (by exact wr32 _));(rintro v w1 ⟨a1_,a2_,a3_,a4_,a5_,a6_,a7_,rfl,hc1,hO⟩ hu1;have hz1 := hu1.size)) | (apply Wl.callQ (f := 155);exact rfl;exact ke;(intro wq hq;exact hq.q (regU h cf cM _ _ _ _ _ _ _ _ F _ wq (hSQ hq) hmd hR))) | (apply St.bagX (i := 7) 8 [];exact mixed;(decide +kernel);kernel_rfl) | (apply Wl.loadO;exact rfl;exact rfl;exact zw;exact zj) | apply OpsX.nil | (apply OpsX.v;(intro X hX;change Wl [_] _ _ _ _ _ _ _;apply Wl.catX;exact ke)) | (apply Gt.endX;exact rfl) | (apply EndX.on;exact rfl) | (apply EndX.off;exact rfl) | (apply EndX.nil';apply Wl.catE;exact ke) | (apply Gt.outC';exact rfl;infer_instance;exact rfl;exact ke;exact ke;intro w' hp) | refine Wl.move rfl rfl ?_ | refine Wl.assign rfl rfl ?_ | (apply Wl.on;exact rfl;exact rfl;exact ka) | (apply Wl.off;exact rfl;exact rfl;exact rfl;exact kq) | refine Wl.extract rfl rfl rfl ?_ | refine Wl.nilCheck rfl rfl ?_ | (apply Wl.pickT;exact rfl;exact rfl;exact ka;exact rfl) | (apply Wl.pickF;exact rfl;exact rfl;exact ka;exact rfl) | refine Wl.not rfl rfl ?_ | refine Wl.fieldAddr0 rfl rfl ?_ | refine Wl.fieldAddrZ rfl rfl ?_ | (apply Wl.loadH;exact rfl;exact rfl;exact ke;exact rfl) | (apply Wl.eqlIs;exact rfl;exact rfl;exact rfl;exact kv) | refine Wl.eql rfl rfl rfl ?_ | refine Wl.neq rfl rfl rfl ?_ | refine Wl.gtr rfl rfl rfl ?_ | refine Wl.add rfl rfl rfl ?_ | (apply Wl.rem;exact rfl;exact rfl;exact rfl;exact qx) | refine Wl.andNot rfl rfl rfl ?_ | (apply Wl.store;exact rfl;exact rfl;exact rfl;exact ke;exact kx) | (apply Wl.storeA;exact rfl;exact rfl;exact rfl;exact rfl;exact ke;exact kf) | (apply Wl.loadAH;exact rfl;exact rfl;exact ke;exact ke) | (apply Wl.boxA;exact rfl;exact rfl;intro c hc ho) | (apply Wl.alloc;exact rfl;intro c hc ho) | (refine Wl.indexArr rfl rfl rfl ?_ ?_;constructor <;> omega) | apply Wl.nil | apply Wl.nilQ | apply St.seq | apply St.block | apply St.region | (apply St.draw;exact mixed;(kernel_rfl);exact (fun _ h => Hp.drew h)) | (apply St.condT;exact rfl;exact ka) | apply St.ret | apply St.skip | apply Gt.next | apply Gt.thenRet | apply Gt.inNormal | apply Gt.inRet | (apply Wl.splitP;exact rfl;exact rfl;all_goals (intros;try (exfalso;omega))) | (apply St.condP;exact rfl;all_goals (intros;try (exfalso;omega))) | (apply St.condB;exact rfl;all_goals intros)
 all_goals first
  | exact ⟨_,rfl,⟨_,_,_,_,_,true,_,rfl,by decide,.inl ⟨rfl,hT1.hp hp hw kb⟩⟩,finU hu1 hp kb⟩
  | exact ⟨_,rfl,⟨_,_,_,_,_,false,_,rfl,by decide,.inr ⟨rfl,rfl,_,_,_,hS1.hp hp hw kb,.inl ⟨rfl,rfl⟩⟩⟩,finU hu1 hp kb⟩
  | exact ⟨_,rfl,OutP.hp ⟨_,_,_,_,_,_,_,rfl,hc1,hO⟩ hp hw kb,finU hu1 hp kb⟩
def StepO (w' : World) (h cf cM : Nat) (xs : List Value) (pc : Int) (F : Fs) (f : Nat → Int) (v : Value) : Prop :=
 (dueOf F.md F.st F.mie F.mip = true ∧ v = trc 0 true 2147483655 0 0 0 false ∧ TrapP w' h cf cM xs pc F f 2147483655 0) ∨
 (dueOf F.md F.st F.mie F.mip = false ∧ OutP w' h cf cM xs pc F f v ∧ (mayB F.cf pc 4 4 = true ∨ ∃ wd c1 tl1 at_ wi st,v = trc wd true c1 tl1 at_ wi st))
theorem stepU (h cf cM : Nat) (xs : List Value) (pc : Int) (F : Fs) (f : Nat → Int) (w : World) (hS : SS w h cf cM xs pc F f) (hmd : F.md = 0) :
  Calls Tryz.prog 63 #[.pointer (some ⟨h,0,none⟩)] w fun e w' => ∃ v,e = .returned v ∧ StepO w' h cf cM xs pc F f v ∧ Upd (fun k => k = h ∨ k = cf ∨ k = cM) w w' := by
 have hw := hS.lts
 have hu0 : Upd (Mv h cf cM w.heap.size) w w := Upd.refl _ _
 obtain ⟨c32,c33,c34⟩ := hS.1.at1
 obtain ⟨l1,l2,l3,l4⟩ := hS.lts
 have m0 : w.cell? ⟨cf,0,none⟩ = some (.int .i64 F.md) := hS.2.1.ff.two
 rw [hmd] at m0
 have hSQ : ∀ {H : List Blk} {wq : World},Hp w H wq → (hH : ∀ x ∈ H,w.heap.size ≤ x.b := by simp only [List.mem_cons,List.not_mem_nil,or_false,forall_eq_or_imp,forall_eq];omega) → SS wq h cf cM xs pc F f := fun hq hH => hS.hp hq hw hH
 have hpcr := hS.2.2.2.2.1
 have hDue : ∀ wq : World,FX wq cf F → Calls Tryz.prog 112 #[.pointer (some ⟨cf,0,none⟩)] wq fun e w' => e = .returned (.bool (dueOf F.md F.st F.mie F.mip)) ∧ Hp wq [] w' := fun wq hF => fdue cf _ _ _ _ _ _ _ _ _ _ wq hF.2.2
 refine enter (args := [_]) (Γ := [(0,_)]) Tryz.func63 Tryz.ntmps63 rfl odq (.cons rfl .nil) ?_
 generalize hdv : dueOf F.md F.st F.mie F.mip = du at *
 cases du
 rotate_left
 ·repeat' first | (apply Wl.callQ (f := 112);exact rfl;exact ke;exact j1) | (apply Wl.callS (f := 113) (w0 := w);exact rfl;exact ke;assumption;assumption;exact hw;(simp only [List.mem_cons,List.not_mem_nil,or_false,forall_eq_or_imp,forall_eq];omega);(intro wq hSq;exact htrapS h cf cM _ _ F _ _ _ _ _ _ _ _ _ _ wq hSq hmd);(rintro v w1 ⟨rfl,hT1⟩ hu1;have hz1 := hu1.size)) | (apply Wl.loadO;exact rfl;exact rfl;exact zw;exact zj) | (apply Gt.outC';exact rfl;infer_instance;exact rfl;exact ke;exact ke;intro w' hp) | refine Wl.move rfl rfl ?_ | refine Wl.nilCheck rfl rfl ?_ | refine Wl.fieldAddrZ rfl rfl ?_ | refine Wl.eqlPN rfl rfl rfl ?_ | (apply Wl.storeA;exact rfl;exact rfl;exact rfl;exact rfl;exact ke;exact kf) | (apply Wl.buildS;exact rfl;exact ki;exact kc) | (apply Wl.alloc;exact rfl;intro c hc ho) | apply Wl.nil | apply St.seq | apply St.region | (apply St.condT;exact rfl;exact ka) | (apply St.condF;exact rfl;exact ka) | apply St.ret | apply St.skip | apply Gt.next | apply Gt.thenRet
  exact ⟨_,rfl,.inl ⟨hdv,rfl,hT1.hp hp hw kb⟩,finU hu1 hp kb⟩
 ·by_cases hin : inM pc 4
  ·repeat' first | (apply Wl.callQ (f := 112);exact rfl;exact ke;exact j1) | (apply Wl.callS (f := 113) (w0 := w);exact rfl;exact ke;assumption;assumption;exact hw;(simp only [List.mem_cons,List.not_mem_nil,or_false,forall_eq_or_imp,forall_eq];omega);(intro wq hSq;exact htrapS h cf cM _ _ F _ _ _ _ _ _ _ _ _ _ wq hSq hmd);(rintro v w1 ⟨rfl,hT1⟩ hu1;have hz1 := hu1.size)) | (apply Wl.callQQ (f := 114);exact rfl;exact ke;(intro wq hq;exact hq.q (mloadP cM pc 4 f wq hpcr (.inr (.inr rfl)) hin (hSQ hq).2.2.1))) | (apply Wl.callQQ (f := 115);exact rfl;exact ke;(intro wq hq;exact hq.q (may1X cf F pc 4 4 wq (hSQ hq).2.1 hmd (hSQ hq).2.2.2.2.2.2.1))) | (apply Wl.callC (f := 117);exact rfl;exact ke;(intro wq hq;refine (dec_any _ wq (loadX_rng _ _ _)).mono ?_;rintro e wr ⟨⟨o1_,o2_,o3_,o4_,o5_,rfl,hoR_⟩,hr⟩;refine ⟨_,_,rfl,hq.keep hr,?_⟩;clear hr hq wr wq)) | (apply Wl.callS (f := 116) (w0 := w);exact rfl;exact ke;assumption;assumption;exact hw;(simp only [List.mem_cons,List.not_mem_nil,or_false,forall_eq_or_imp,forall_eq];omega);(intro wq hSq;exact doU h cf cM _ _ _ _ _ _ _ _ F _ wq hSq hmd hoR_);(rintro v w1 ⟨a1_,a2_,a3_,a4_,a5_,a6_,a7_,rfl,hc1,hO⟩ hu1;have hz1 := hu1.size)) | (apply Wl.loadO;exact rfl;exact rfl;exact zw;exact zj) | (apply Gt.outC';exact rfl;infer_instance;exact rfl;exact ke;exact ke;intro w' hp) | refine Wl.move rfl rfl ?_ | refine Wl.assign rfl rfl ?_ | (apply Wl.on;exact rfl;exact rfl;exact ka) | refine Wl.extract rfl rfl rfl ?_ | refine Wl.nilCheck rfl rfl ?_ | (apply Wl.pickF;exact rfl;exact rfl;exact ka;exact rfl) | refine Wl.not rfl rfl ?_ | refine Wl.fieldAddrZ rfl rfl ?_ | refine Wl.eqlPN rfl rfl rfl ?_ | (apply Wl.neqIs;exact rfl;exact rfl;exact rfl;exact kv) | refine Wl.neq rfl rfl rfl ?_ | (apply Wl.rem;exact rfl;exact rfl;exact rfl;exact qx) | (apply Wl.storeA;exact rfl;exact rfl;exact rfl;exact rfl;exact ke;exact kf) | (apply Wl.buildS;exact rfl;exact ki;exact kc) | (apply Wl.alloc;exact rfl;intro c hc ho) | apply Wl.nil | apply Wl.nilQ | apply St.seq | apply St.region | (apply St.draw;exact mixed;(kernel_rfl);exact (fun _ h => Hp.drew h)) | (apply St.condF;exact rfl;exact ka) | apply St.ret | apply St.skip | apply Gt.next | apply Gt.thenRet | (apply St.condP;exact rfl;all_goals (intros;try (exfalso;omega))) | (apply St.condB;exact rfl;all_goals intros)
   all_goals first
    | exact ⟨_,rfl,.inr ⟨hdv,⟨_,_,_,_,_,true,_,rfl,by decide,.inl ⟨rfl,hT1.hp hp hw kb⟩⟩,.inr ⟨_,_,_,_,_,_,rfl⟩⟩,finU hu1 hp kb⟩
    | exact ⟨_,rfl,.inr ⟨hdv,OutP.hp ⟨_,_,_,_,_,_,_,rfl,hc1,hO⟩ hp hw kb,.inl (by simpa using ‹(!mayB F.cf pc 4 4) = false›)⟩,finU hu1 hp kb⟩
  ·repeat' first | (apply Wl.callQ (f := 112);exact rfl;exact ke;exact j1) | (apply Wl.callS (f := 113) (w0 := w);exact rfl;exact ke;assumption;assumption;exact hw;(simp only [List.mem_cons,List.not_mem_nil,or_false,forall_eq_or_imp,forall_eq];omega);(intro wq hSq;exact htrapS h cf cM _ _ F _ _ _ _ _ _ _ _ _ _ wq hSq hmd);(rintro v w1 ⟨rfl,hT1⟩ hu1;have hz1 := hu1.size)) | (apply Wl.callQQ (f := 114);exact rfl;exact ke;(intro wq hq;exact hq.q (mloadNo cM pc 4 f wq hpcr (.inr (.inr rfl)) hin (hSQ hq).2.2.1))) | (apply Wl.loadO;exact rfl;exact rfl;exact zw;exact zj) | (apply Gt.outC';exact rfl;infer_instance;exact rfl;exact ke;exact ke;intro w' hp) | refine Wl.move rfl rfl ?_ | refine Wl.assign rfl rfl ?_ | (apply Wl.off;exact rfl;exact rfl;exact rfl;exact kq) | refine Wl.extract rfl rfl rfl ?_ | refine Wl.nilCheck rfl rfl ?_ | (apply Wl.pickT;exact rfl;exact rfl;exact ka;exact rfl) | refine Wl.fieldAddrZ rfl rfl ?_ | refine Wl.eqlPN rfl rfl rfl ?_ | refine Wl.neq rfl rfl rfl ?_ | (apply Wl.rem;exact rfl;exact rfl;exact rfl;exact qx) | (apply Wl.storeA;exact rfl;exact rfl;exact rfl;exact rfl;exact ke;exact kf) | (apply Wl.buildS;exact rfl;exact ki;exact kc) | (apply Wl.alloc;exact rfl;intro c hc ho) | apply Wl.nil | apply Wl.nilQ | apply St.seq | apply St.region | (apply St.draw;exact mixed;(kernel_rfl);exact (fun _ h => Hp.drew h)) | (apply St.condT;exact rfl;exact ka) | (apply St.condF;exact rfl;exact ka) | apply St.ret | apply St.skip | apply Gt.next | apply Gt.thenRet | (apply St.condP;exact rfl;all_goals (intros;try (exfalso;omega)))
   all_goals exact ⟨_,rfl,.inr ⟨hdv,⟨_,_,_,_,_,true,_,rfl,by decide,.inl ⟨rfl,hT1.hp hp hw kb⟩⟩,.inr ⟨_,_,_,_,_,_,rfl⟩⟩,finU hu1 hp kb⟩
def Bo (w : World) (base : Nat) (v : Value) (l : List UInt8) : Prop := w.ownsRow base 5 1 v l.length (byteCells l)
theorem Bo.nil (w : World) (base : Nat) : Bo w base (.slice none 0 0) [] := World.ownsRow_nil w base 5 1
theorem Bo.bs {w : World} {base : Nat} {v : Value} {l : List UInt8} (h : Bo w base v l) : Bs w v l := Sv.ofOwn h
theorem Bo.upd {S : Nat → Prop} {w w' : World} {base : Nat} {v : Value} {l : List UInt8} (h : Bo w base v l) (u : Upd S w w') (hs : ∀ k,v.ownBlock = some k → ¬ S k) : Bo w' base v l := ownsRow_upd h u hs
theorem Bo.of {w : World} {base : Nat} {v : Value} {l m : List UInt8} {n : Nat} {cs : List Value} (h : w.ownsRow base 5 1 v n (byteCells l ++ cs)) (hn : n = l.length + m.length) (hc : cs = byteCells m) : Bo w base v (l ++ m) := by
 unfold Bo
 subst hc
 rw [List.length_append,← hn]
 simpa [byteCells] using h
theorem u8_cell (x : Int) : (Value.int .u8 (IntKind.u8.wrap x)) = .int .u8 ((UInt8.ofNat (x % 256).toNat).toNat : Int) := by
 congr 1
 rw [IntKind.wrap_u8]
 simp
 omega
end Go.Proofs.YtabbklpalbikdaaGreatDoor
end
section
namespace Go.Pt
open Go.RowKit
def MapB (P : Program) (k e : TypeId) (w : World) (b n : Nat) : Prop := ∃ D : DataW Unit,w.ownsMap P k (plainElem P e) b n D
theorem MapB.upd {P : Program} {k e : TypeId} {w w' : World} {b n : Nat} {S : Nat → Prop} (h : MapB P k e w b n) (u : Upd S w w') (hs : ¬ S b) : MapB P k e w' b n := by
 obtain ⟨D,es,clock,hb,r⟩ := h
 exact ⟨D,es,clock,u.heap hb hs,r⟩
theorem MapB.lt {P : Program} {k e : TypeId} {w : World} {b n : Nat} (h : MapB P k e w b n) : b < w.heap.size := by
 obtain ⟨D,h1⟩ := h
 exact h1.lt
section
variable {P : Program} {N : Nat} {ops : Array Oper} {rest : List Oper} {Γ : Env} {Q : Exit → Act → World → Prop} {d : Nat} {ty mt k e : TypeId} {pos : String} {af : Array Edge} {w0 : World} {H : List Blk}
theorem Wl.makeMapB (hd : Nat.blt d N = true)
  (h : ∀ b w1,w0.heap.size ≤ b → MapB P k e w1 b 0 → Upd (fun j => ¬ Off H j) w0 w1 → Off H b → Wl rest P .seq ops N ((d,.map (some b)) :: Γ) (Hp w1 H) Q) :
  Wl (⟨some d,.makeMap mt none,ty,pos,af,none⟩ :: rest) P .seq ops N Γ (Hp w0 H) Q :=
 Wl.eff fun a w ha hw => by
  have u : Upd (fun _ => False) w (w.alloc (.map #[] 0)) := Upd.alloc _ _ _
  refine ⟨.map (some w.heap.size),w.alloc (.map #[] 0),.inl ?_,(h w.heap.size _ hw.upd.size ⟨_,World.ownsMap_made w P k _⟩ (hw.upd.trans (Upd.alloc _ _ _)) (Off.lt hw.own)).elim _ _ (ha.put hd _) ⟨Upd.refl _ _,hw.own.upd u fun _ _ h => h,hw.apart⟩⟩
  simp [execOp,run_makeMap,Option.map]
theorem Wl.storeMB {m x y : Operand} {b n : Nat} {t v : Int} [ht : TyD P mt (.map k e)] [hk : TyD P k (.int .i64)] [he : TyD P e (.int .u8)]
  (hm : ev Γ m = some (.map (some b))) (hx : ev Γ x = some (.int .i64 t)) (hy : ev Γ y = some (.int .u8 v)) (hlt : I64 t) (hvt : (Lit.int .u8 v).wf = true) (hn : n < maxLen) (hown : MapB P k e w0 b n) (ho : Off H b)
  (h : ∀ w1,MapB P k e w1 b (n + 1) → Upd (fun j => j = b ∨ ¬ Off H j) w0 w1 → Wl rest P .seq ops N Γ (Hp w1 H) Q) :
  Wl (⟨none,.mapUpdate mt m x y,ty,pos,af,none⟩ :: rest) P .seq ops N Γ (Hp w0 H) Q :=
 Wl.eff fun a w ha hw => by
  obtain ⟨D,h1⟩ := hown.upd hw.upd fun y => y ho
  obtain ⟨w',hr,h3,hg⟩ := h1.update (Maps.int_keyed hk.out) ht.out hn (keyOf64 hlt) (plainElem_int he.out hvt)
  have u : Upd (fun j => j = b) w w' := Upd.grown hg fun k hk => by cases hk;rfl
  refine ⟨undef,w',.inr ⟨?_,rfl⟩,(h w' ⟨_,h3⟩ ((hw.upd.mono fun _ _ y => .inr y).trans (u.mono fun _ _ y => .inl y))).elim _ _ (ha.put0 _) ⟨Upd.refl _ _,hw.own.upd u fun y hy e => ?_,hw.apart⟩⟩
  ·simp [execOp,ha.ev hm,ha.ev hx,ha.ev hy,hr]
  ·exact ho.at hy e
end
end Go.Pt
namespace Go.Proofs.YtabbklpalbikdaaGreatDoor
open Go.RowKit Go.Pt
def RM (w : World) (c b n : Nat) : Prop := w.heap[c]? = some (.cells #[.map (some b)] 178 (0,0)) ∧ MapB Tryz.prog 3 5 w b n
theorem RM.upd {w w' : World} {c b n : Nat} {S : Nat → Prop} (h : RM w c b n) (u : Upd S w w') (h1 : ¬ S c) (h2 : ¬ S b) : RM w' c b n := ⟨u.heap h.1 h1,h.2.upd u h2⟩
theorem RM.lt {w : World} {c b n : Nat} (h : RM w c b n) : c < w.heap.size ∧ b < w.heap.size := ⟨lt_of_block h.1,h.2.lt⟩
theorem ramNew (w : World) : Calls Tryz.prog 50 #[] w fun e w' => ∃ c b,e = .returned (.pointer (some ⟨c,0,none⟩)) ∧ RM w' c b 0 ∧ w.heap.size ≤ b ∧ b < c ∧ Upd (fun k => w.heap.size ≤ k) w w' := by
 refine enter (args := []) (Γ := []) Tryz.func50 Tryz.ntmps50 rfl odq .nil ?_
 repeat' first | refine Wl.assign rfl rfl ?_ | apply Wl.nil | apply St.seq | apply St.region | apply Gt.next
 apply Wl.makeMapB (k := 3) (e := 5)
 ·exact rfl
 intro b w1 hb hM hu _
 have s1 := hu.size
 have hbl := hM.lt
 repeat' first | refine Wl.assign rfl rfl ?_ | (apply Wl.buildS;exact rfl;exact ki;exact kc) | (apply Wl.boxA;exact rfl;exact rfl;intro c hc ho) | apply Wl.nil | apply St.ret | apply Gt.next | (apply Gt.out1;exact rfl;exact rfl;intro w' hp)
 refine ⟨_,_,rfl,⟨hp.own.at (.head _),hM.upd hp.upd fun y => y ⟨by simp only;omega,trivial⟩⟩,hb,by omega,hu.comp hp.upd fun k hk hs => ?_⟩
 rcases hs with y | y
 ·exact (y trivial).elim
 ·exact Classical.byContradiction fun hn => y ⟨fun e => by simp only at e;omega,trivial⟩
theorem refHas (a n : Int) (w : World) (ha : -1000000 ≤ a ∧ a ≤ 4294967296000) (hn : 0 ≤ n ∧ n ≤ 8) : Calls Tryz.prog 105 #[.int .i64 a,.int .i64 n] w fun e w' => (∃ z : Bool,e = .returned (.bool z)) ∧ Hp w [] w' := by
 refine enter (args := [_,_]) (Γ := [(0,_),(1,_)]) Tryz.func105 Tryz.ntmps105 rfl odq (.cons rfl (.cons rfl .nil)) ?_
 repeat' first | refine Wl.move rfl rfl ?_ | refine Wl.assign rfl rfl ?_ | (apply Wl.on;exact rfl;exact rfl;exact ka) | (apply Wl.off;exact rfl;exact rfl;exact rfl;exact kq) | (apply Wl.pickT;exact rfl;exact rfl;exact ka;exact rfl) | (apply Wl.pickF;exact rfl;exact rfl;exact ka;exact rfl) | refine Wl.leq rfl rfl rfl ?_ | refine Wl.geq rfl rfl rfl ?_ | (refine Wl.addI rfl rfl rfl ?_ ?_;constructor <;> omega) | apply Wl.nil | apply St.seq | apply St.region | apply St.ret | apply Gt.next | (apply Gt.out1;exact rfl;exact rfl;intro w' hp) | (apply Wl.splitP;exact rfl;exact rfl;all_goals (intros;try (exfalso;omega)))
 all_goals exact ⟨⟨_,rfl⟩,hp⟩
theorem ramPut (c b n : Nat) (at_ : Int) (v : Value) (l : List UInt8) (w : World) (hR : RM w c b n) (hn : n < 1000000) (hl : l.length ≤ 8) (hat : -1000000 ≤ at_ ∧ at_ ≤ 4294967296000) (hv : Bs w v l) (hvo : ∀ k,v.ownBlock = some k → k ≠ b) :
  Calls Tryz.prog 54 #[.pointer (some ⟨c,0,none⟩),.int .i64 at_,v] w fun e w' => (∃ z : Bool,e = .returned (.bool z)) ∧ RM w' c b (n + 8) ∧ Upd (fun k => k = b) w w' := by
 have hlt := hR.lt
 obtain ⟨va,vc,rfl,_,hm⟩ := hv.shape
 unfold maxLen at hm
 have c0 : w.cell? ⟨c,0,none⟩ = some (.map (some b)) := cell_of hR.1 rfl
 have hcb : c ≠ b := by
  intro e
  obtain ⟨h1,D,es,clock,h2,_⟩ := hR
  rw [e] at h1
  rw [h1] at h2
  cases h2
 refine enter (args := [_,_,_]) (Γ := [(0,_),(1,_),(2,_)]) Tryz.func54 Tryz.ntmps54 rfl odq (.cons rfl (.cons rfl (.cons rfl .nil))) ?_
 repeat' first | refine Wl.move rfl rfl ?_ | refine Wl.assign rfl rfl ?_ | refine Wl.len rfl rfl ?_ | apply Wl.nil | apply St.seq | apply St.region | apply Gt.next
 apply Wl.callC
 ·exact rfl
 ·exact ke
 intro wq hq
 refine (refHas _ _ wq hat ky).mono ?_
 rintro e wr ⟨⟨z,rfl⟩,hr⟩
 refine ⟨_,_,rfl,hq.keep hr,?_⟩
 clear hr hq wr wq
 cases z
 ·repeat' first | refine Wl.assign rfl rfl ?_ | refine Wl.not rfl rfl ?_ | apply Wl.nil | apply St.seq | apply St.region | (apply St.condT;exact rfl;exact ka) | apply St.ret | apply Gt.next | apply Gt.thenRet | (apply Gt.out1;exact rfl;exact rfl;intro w' hp)
  exact ⟨⟨_,rfl⟩,⟨hp.upd.heap hR.1 fun y => y trivial,by obtain ⟨D,hD⟩ := hR.2.upd hp.upd fun y => y trivial;exact ⟨D,hD.mono ky⟩⟩,hp.upd.mono fun _ _ y => (y trivial).elim⟩
 repeat' first | refine Wl.assign rfl rfl ?_ | refine Wl.not rfl rfl ?_ | apply Wl.nil | apply St.seq | apply St.block | apply St.region | (apply St.condF;exact rfl;exact ka) | apply St.skip | apply Gt.next
 refine St.loop (σ := Nat × World) (fun τ => τ.1 ≤ l.length ∧ RM τ.2 c b (n + τ.1) ∧ Upd (fun k => k = b) w τ.2)
  (fun τ => [(0,.pointer (some ⟨c,0,none⟩)),(1,.int .i64 at_),(2,.slice va l.length vc),(7,.int .i64 (τ.1 : Int))]) (fun τ => Hp τ.2 []) (fun τ => l.length - τ.1) (0,w) ⟨Nat.zero_le _,hR,Upd.refl _ _⟩ kw (fun _ h => h) ?_
 rintro ⟨i,w0⟩ ⟨hi,hR0,hu0⟩
 simp only at hi hR0 hu0 ⊢
 have c0' : w0.cell? ⟨c,0,none⟩ = some (.map (some b)) := cell_of hR0.1 rfl
 by_cases hlt2 : i < l.length
 ·have hd : decide ((i : Int) < (l.length : Int)) = true := decide_eq_true ky
  obtain ⟨vb,vo,rfl,hcells⟩ := hv.cells (fun e => by rw [e] at hlt2;simp at hlt2)
  have hb : w0.cell? ⟨vb,vo + (i : Int).toNat,none⟩ = some (.int .u8 (l[i].toNat : Int)) := by
   rw [Int.toNat_natCast]
   exact hu0.cell (hcells i hlt2) fun e => hvo vb rfl e
  have l1 := hR0.lt
  have l2 := World.block_lt_of_cell? w0 _ hb
  simp only at l2
  repeat' first | (apply St.bagX (i := 6) 11 [];exact mixed;(decide +kernel);kernel_rfl) | (apply Wl.loadO;exact rfl;exact rfl;(first | exact c0' | exact hb);(repeat (first | exact trivial | exact hX.off q4))) | apply OpsX.nil | (apply OpsX.v;(intro X hX;change Wl [_] _ _ _ _ _ _ _;apply Wl.catX;exact ke)) | (apply Gt.endX;exact rfl) | (apply EndX.on;exact rfl) | (apply EndX.off;exact rfl) | (apply EndX.nil';apply Wl.catE;exact ke) | refine Wl.move rfl rfl ?_ | refine Wl.nilCheck rfl rfl ?_ | refine Wl.fieldAddr0 rfl rfl ?_ | refine Wl.lss rfl rfl rfl ?_ | (refine Wl.addI rfl rfl rfl ?_ ?_;constructor <;> omega) | refine Wl.len rfl rfl ?_ | (refine Wl.indexAddr1 rfl rfl rfl ?_ ?_;constructor <;> omega) | apply Wl.nil | apply St.seq | apply St.block | apply St.region | (apply St.condT;exact rfl;exact ka) | apply St.skip | apply Gt.next
  apply Wl.storeMB (k := 3) (e := 5) (b := b) (n := n + i)
  ·exact rfl
  ·exact rfl
  ·exact rfl
  ·unfold I64;omega
  ·have := l[i].toNat_lt
   simp [Lit.wf,IntKind.min,IntKind.max,IntKind.signed,IntKind.bits]
   omega
  ·unfold maxLen;omega
  ·exact hR0.2
  ·exact trivial
  intro w1 hM hu1
  repeat' first | refine Wl.move rfl rfl ?_ | refine Wl.assign rfl rfl ?_ | (refine Wl.addI rfl rfl rfl ?_ ?_;constructor <;> omega) | apply Wl.nil | apply St.region | apply Gt.next | apply Gt.inNormal
  apply Gt.round (i + 1,w1)
  rotate_left
  ·simp only;omega
  ·exact ke
  ·exact fun _ h => h
  ·refine ⟨hlt2,⟨hu1.heap hR0.1 fun y => y.elim hcb fun y => y trivial,hM⟩,hu0.trans (hu1.mono fun k _ y => y.elim id fun y => (y trivial).elim)⟩
 ·obtain rfl : i = l.length := by omega
  have hd : decide ((l.length : Int) < (l.length : Int)) = false := decide_eq_false ky
  repeat' first | refine Wl.move rfl rfl ?_ | refine Wl.assign rfl rfl ?_ | refine Wl.lss rfl rfl rfl ?_ | refine Wl.len rfl rfl ?_ | apply Wl.nil | apply St.seq | apply St.region | (apply St.condF;exact rfl;exact ka) | apply St.ret | apply St.exit | apply Gt.next | apply Gt.thenExit | apply Gt.inExit | (apply Gt.out1;exact rfl;exact rfl;intro w' hp)
  exact ⟨⟨_,rfl⟩,⟨hp.upd.heap hR0.1 fun y => y trivial,by obtain ⟨D,hD⟩ := hR0.2.upd hp.upd fun y => y trivial;exact ⟨D,hD.mono ky⟩⟩,hu0.trans (hp.upd.mono fun _ _ y => (y trivial).elim)⟩
theorem ramStore (c b n : Nat) (at_ x : Int) (w : World) (hR : RM w c b n) (hn : n < 1000000) (hat : -1000000 ≤ at_ ∧ at_ ≤ 4294967296000) :
  Calls Tryz.prog 52 #[.pointer (some ⟨c,0,none⟩),.int .i64 at_,.int .i64 4,.int .i64 x] w fun e w' => (∃ z : Bool,e = .returned (.bool z)) ∧ RM w' c b (n + 8) ∧ Upd (fun k => k = b ∨ w.heap.size ≤ k) w w' := by
 have hlt := hR.lt
 refine enter (args := [_,_,_,_]) (Γ := [(0,_),(1,_),(2,_),(3,_)]) Tryz.func52 Tryz.ntmps52 rfl odq (.cons rfl (.cons rfl (.cons rfl (.cons rfl .nil)))) ?_
 repeat' first | refine Wl.move rfl rfl ?_ | refine Wl.assign rfl rfl ?_ | (apply Wl.on;exact rfl;exact rfl;exact ka) | (apply Wl.pickT;exact rfl;exact rfl;exact ka;exact rfl) | (apply Wl.neqIs;exact rfl;exact rfl;exact rfl;exact kv) | refine Wl.neq rfl rfl rfl ?_ | apply Wl.nil | apply St.seq | apply St.block | apply St.region | (apply St.condF;exact rfl;exact ka) | apply St.skip | apply Gt.next
 refine St.loop (σ := Nat × World × Value × List UInt8) (fun τ => τ.1 ≤ 4 ∧ Upd (fun k => w.heap.size ≤ k) w τ.2.1 ∧ Bo τ.2.1 w.heap.size τ.2.2.1 τ.2.2.2 ∧ τ.2.2.2.length = τ.1)
  (fun τ => [(0,.pointer (some ⟨c,0,none⟩)),(1,.int .i64 at_),(2,.int .i64 4),(3,.int .i64 x),(9,τ.2.2.1),(10,.int .i64 (τ.1 : Int))]) (fun τ => Hp τ.2.1 []) (fun τ => 4 - τ.1) (0,w,.slice none 0 0,[]) ⟨Nat.zero_le _,Upd.refl _ _,Bo.nil _ _,rfl⟩ kw (fun _ h => h) ?_
 rintro ⟨i,w0,v,l⟩ ⟨hi,hu0,hb0,hl0⟩
 simp only at hi hu0 hb0 hl0 ⊢
 have s0 := hu0.size
 by_cases hlt2 : i < 4
 ·have hd : decide ((i : Int) < 4) = true := decide_eq_true ky
  repeat' first | refine Wl.move rfl rfl ?_ | refine Wl.lss rfl rfl rfl ?_ | (refine Wl.mulI rfl rfl rfl ?_ ?_;constructor <;> omega) | (refine Wl.shr rfl rfl rfl ?_ ?_;omega) | refine Wl.convI rfl rfl ?_ | (apply Wl.lit;exact rfl;exact ki;exact rfl;exact rfl;exact kj;intro c hc ho) | apply Wl.nil | apply St.seq | apply St.block | apply St.region | (apply St.condT;exact rfl;exact ka) | apply St.skip | apply Gt.next
  apply Wl.appendT
  ·exact rfl
  ·exact rfl
  ·exact rfl
  ·assumption
  ·exact rfl
  ·exact hb0
  ·exact fun k hk => trivial
  ·exact rfl
  ·exact rfl
  ·decide
  ·unfold maxLen;omega
  ·omega
  ·exact s0
  intro v' w1 ho1 u1 _ hoff1
  repeat' first | refine Wl.move rfl rfl ?_ | refine Wl.assign rfl rfl ?_ | (refine Wl.addI rfl rfl rfl ?_ ?_;constructor <;> omega) | apply Wl.nil | apply St.region | apply Gt.next | apply Gt.inNormal
  apply Gt.round (i + 1,w1,v',l ++ [UInt8.ofNat ((x.fdiv (2 ^ min (Int.toNat (8 * (i : Int))) IntKind.i64.bits)) % 256).toNat])
  rotate_left
  ·simp only;omega
  ·exact ke
  ·exact fun _ h => h
  ·refine ⟨hlt2,hu0.comp u1 fun k hk hs => ?_,Bo.of (m := [UInt8.ofNat ((x.fdiv (2 ^ min (Int.toNat (8 * (i : Int))) IntKind.i64.bits)) % 256).toNat]) ho1 qs ?_,by simp [hl0]⟩
   ·rcases hs with y | y | y
    ·exact y
    ·exact (hb0.lt k y).1
    ·exact (y trivial).elim
   ·rw [u8_cell];rfl
 ·obtain rfl : i = 4 := by omega
  have hd : decide (((4 : Nat) : Int) < 4) = false := by decide
  repeat' first | refine Wl.move rfl rfl ?_ | refine Wl.lss rfl rfl rfl ?_ | apply Wl.nil | apply St.seq | apply St.region | (apply St.condF;exact rfl;exact ka) | apply St.exit | apply Gt.next | apply Gt.thenExit | apply Gt.inExit
  apply Wl.callC
  ·exact rfl
  ·exact ke
  intro wq hq
  have hbq : Bs wq v l := (hb0.upd hq.upd fun _ _ y => y trivial).bs
  have hRq : RM wq c b n := (hR.upd hu0 ky ky).upd hq.upd nt0 nt0
  refine (ramPut c b n at_ v l wq hRq hn ky hat hbq fun k hk e => by have := (hb0.lt k hk).1;omega).mono ?_
  rintro e w2 ⟨⟨z,rfl⟩,hR2,hu2⟩
  refine ⟨_,_,rfl,Hp.start w2,?_⟩
  have hq' := hq.upd
  have s1 := hq'.size
  have s2 := hu2.size
  clear hq
  repeat' first | refine Wl.assign rfl rfl ?_ | apply Wl.nil | apply St.ret | apply Gt.next | (apply Gt.out1;exact rfl;exact rfl;intro w' hp)
  refine ⟨⟨_,rfl⟩,hR2.upd hp.upd nt0 nt0,((hu0.mono fun k _ e => .inr e).trans ((hq'.mono fun _ _ y => (y trivial).elim).trans (hu2.mono fun _ _ e => .inl e))).trans (hp.upd.mono fun _ _ y => (y trivial).elim)⟩
end Go.Proofs.YtabbklpalbikdaaGreatDoor
end
section
namespace Go.Pt
open Go.RowKit
theorem flat_len {α : Type} {L : List (List α)} {k : Nat} (hk : ∀ x ∈ L,x.length = k) : L.flatten.length = L.length * k := by
 induction L with
 | nil => simp
 | cons x r ih =>
  rw [List.flatten_cons,List.length_append,ih fun y hy => hk y (.tail _ hy),hk x (.head _),List.length_cons,Nat.succ_mul]
  omega
theorem flat_get {α : Type} {L : List (List α)} {k : Nat} (hk : ∀ x ∈ L,x.length = k) {i q : Nat} {x : List α} (hi : L[i]? = some x) (hq : q < k) : L.flatten[i * k + q]? = x[q]? := by
 induction L generalizing i with
 | nil => cases hi
 | cons y r ih =>
  have hy := hk y (.head _)
  rw [List.flatten_cons]
  cases i with
  | zero =>
   cases hi
   rw [Nat.zero_mul,Nat.zero_add,List.getElem?_append_left ky]
  | succ i =>
   rw [List.getElem?_append_right (by rw [Nat.succ_mul];omega),show (i + 1) * k + q - y.length = i * k + q by rw [Nat.succ_mul,hy];omega]
   exact ih (fun z hz => hk z (.tail _ hz)) ja
theorem flat_lt {α : Type} {L : List (List α)} {i k q n : Nat} (hi : i < L.length) (hq : q < k) (hn : L.length = n) : i * k + q < n * k := by
 subst hn
 have := Nat.mul_le_mul_right k (show i + 1 ≤ L.length by omega)
 rw [Nat.succ_mul] at this
 omega
theorem LSet.flat {L : List (List Value)} {J x : List Value} {k : Nat} {v : Value} (hk : ∀ x ∈ L,x.length = k) {i q : Nat} (hi : L[i]? = some x) (hq : q < k) : LSet (L.flatten ++ J) (i * k + q) v ((L.set i (x.set q v)).flatten ++ J) := by
 induction L generalizing i with
 | nil => cases hi
 | cons y r ih =>
  have hy := hk y (.head _)
  cases i with
  | zero =>
   cases hi
   rw [Nat.zero_mul,Nat.zero_add,List.set_cons_zero,List.flatten_cons,List.flatten_cons,List.append_assoc,List.append_assoc]
   exact LSet.left ky
  | succ i =>
   rw [List.set_cons_succ,List.flatten_cons,List.flatten_cons,List.append_assoc,List.append_assoc,show (i + 1) * k + q = y.length + (i * k + q) by rw [Nat.succ_mul,hy];omega]
   exact LSet.app (ih (fun z hz => hk z (.tail _ hz)) ja)
theorem LOver.left {xs ys r : List Value} (h : ys.length ≤ xs.length) : LOver (xs ++ r) ys (ys ++ xs.drop ys.length ++ r) := by
 induction ys generalizing xs with
 | nil => exact .nil
 | cons y s ih =>
  cases xs with
  | nil => cases h
  | cons x xs => exact .cons (ih (by simpa using h))
theorem LPut.app {xs l l' ys : List Value} {n : Nat} (h : LPut l n ys l') : LPut (xs ++ l) (xs.length + n) ys (xs ++ l') := by
 induction xs with
 | nil => simpa using h
 | cons x xs ih =>
  rw [List.length_cons,show xs.length + 1 + n = (xs.length + n) + 1 by omega]
  exact .s ih
theorem LPut.flat {L : List (List Value)} {J x ys : List Value} {k : Nat} (hk : ∀ x ∈ L,x.length = k) {i q : Nat} (hi : L[i]? = some x) (hq : q + ys.length = k) : LPut (L.flatten ++ J) (i * k + q) ys ((L.set i (x.take q ++ ys)).flatten ++ J) := by
 induction L generalizing i with
 | nil => cases hi
 | cons y r ih =>
  have hy := hk y (.head _)
  cases i with
  | zero =>
   cases hi
   rw [Nat.zero_mul,Nat.zero_add,List.set_cons_zero,List.flatten_cons,List.flatten_cons,List.append_assoc]
   have e : x = x.take q ++ x.drop q := (List.take_append_drop q x).symm
   have hl : (x.take q).length = q := by rw [List.length_take];omega
   have hd : (x.drop q).length = ys.length := by rw [List.length_drop];omega
   have h1 := LPut.app (xs := x.take q) (LPut.z (LOver.left (xs := x.drop q) (ys := ys) (r := r.flatten ++ J) ky))
   rw [hl,Nat.add_zero,← List.append_assoc,← e,List.drop_of_length_le ky,List.append_nil] at h1
   rw [List.append_assoc,List.append_assoc]
   exact h1
  | succ i =>
   rw [List.set_cons_succ,List.flatten_cons,List.flatten_cons,List.append_assoc,List.append_assoc,show (i + 1) * k + q = y.length + (i * k + q) by rw [Nat.succ_mul,hy];omega]
   exact LPut.app (ih (fun z hz => hk z (.tail _ hz)) ja)
theorem LSub.whole' {xs : List Value} {n : Nat} (h : xs.length = n) : LSub xs 0 n xs := by
 subst h
 induction xs with
 | nil => exact .z
 | cons x xs ih => exact .t ih
section
variable {P : Program} {N : Nat} {Γ : Env} {C : World → Prop} {Q : Exit → Act → World → Prop} {i k : Nat} {l : Array Oper} {b : Bool} {x : Operand} {p q r y : Code}
theorem St.seqK (hk : Nat.beq i k = false) (h : St (.region i l b) P N Γ C (Exit.then (y.wp P Q) Q)) : St (.seq (.region i l b) y) P N Γ C Q := St.seq h
theorem St.seqKS (hk : Nat.beq i k = false) (h : St (.seq (.region i l b) p) P N Γ C (Exit.then (y.wp P Q) Q)) : St (.seq (.seq (.region i l b) p) y) P N Γ C Q := St.seq h
theorem St.seqC (h : St (.cond x p q) P N Γ C (Exit.then (y.wp P Q) Q)) : St (.seq (.cond x p q) y) P N Γ C Q := St.seq h
end
theorem blk_ne {w : World} {b c t t' : Nat} {cs cs' : Array Value} (h1 : w.heap[b]? = some (.cells cs t (0,0))) (h2 : w.heap[c]? = some (.cells cs' t' (0,0))) (ht : t ≠ t' := by decide) : b ≠ c := by
 intro e
 subst e
 rw [h1] at h2
 cases h2
 exact ht rfl
end Go.Pt
end
section
namespace Go.Proofs.YtabbklpalbikdaaGreatDoor
open Go.RowKit Go.Pt
theorem _root_.Go.Pt.Hp.newer {w0 w w' : World} {H : List Blk} (h : Hp w0 H w) (u : Upd (fun k => w.heap.size ≤ k) w w') : Hp w0 H w' :=
 h.step u (fun x hx hle => by have := h.own.lt hx;omega) (fun k hk hle => by have := h.upd.size;omega)
theorem _root_.Go.Pt.Hp.rb {w0 w : World} {H : List Blk} (h : Hp w0 H w) : Hp w H w := ⟨Upd.refl _ _,h.own,h.apart⟩
theorem _root_.Go.Pt.Hp.on {w w1 w2 : World} {H : List Blk} (h : Hp w1 H w2) (hu : Upd (fun k => w.heap.size ≤ k) w w1) (hH : ∀ x ∈ H,w.heap.size ≤ x.b) : Upd (fun k => w.heap.size ≤ k) w w2 :=
 hu.comp h.upd fun j _ hs => hs.elim id fun y => Classical.byContradiction fun hlt => y (Off.of fun x hx e => by have := hH x hx;omega)
theorem xz_rg : Rg xz := by
 refine ⟨rfl,fun i hi => ⟨0,?_,by decide⟩⟩
 have e : xz = List.replicate 32 (Value.int .u32 0) := rfl
 rw [e,List.getElem?_replicate,if_pos hi]
section
variable {md : Md} {N : Nat} {ops : Array Oper} {rest : List Oper} {Γ : Env} {C : World → Prop} {Q : Exit → Act → World → Prop} {d : Nat} {ty : TypeId} {pos : String} {af : Array Edge} {x y : Operand} {u : TypeId}
end
end Go.Proofs.YtabbklpalbikdaaGreatDoor
end
section
namespace Go.Pt
open Go.RowKit
section
variable {P : Program} {md : Md} {N : Nat} {ops : Array Oper} {rest : List Oper} {Γ : Env} {C : World → Prop} {Q : Exit → Act → World → Prop} {d : Nat} {ty : TypeId} {pos : String} {af : Array Edge}
end
end Go.Pt
namespace Go.Proofs.YtabbklpalbikdaaGreatDoor
open Go.RowKit Go.Pt
theorem memC_one (f : Nat → Int) : (memC f).all Value.oneCell' = true := by
 rw [List.all_eq_true]
 intro v hv
 obtain ⟨i,hi,e⟩ := List.mem_iff_getElem.1 hv
 rw [memC_len] at hi
 have h := memC_get (f := f) hi
 rw [List.getElem?_eq_getElem (by rw [memC_len];exact hi),e] at h
 cases h
 rfl
theorem tyZ0 : TyZ Tryz.prog 156 (.agg Tryz.zeroCells156) := ⟨by kernel_rfl⟩
theorem zcellsA : Tryz.zeroCells156 = (memC fun _ => 0).toArray := by rw [← zcells]
instance tyZM : TyZ Tryz.prog 156 (.agg (memC fun _ => 0).toArray) := zcellsA ▸ tyZ0
theorem mcopy (c : Nat) (f : Nat → Int) (w : World) (hc : memH w c f) :
  Calls Tryz.prog 72 #[.pointer (some ⟨c,0,none⟩)] w fun e w' => ∃ d,e = .returned (.pointer (some ⟨d,0,none⟩)) ∧ w.heap.size ≤ d ∧ memH w' d f ∧ Upd (fun k => w.heap.size ≤ k) w w' := by
 unfold memH at hc
 refine enter (args := [_]) (Γ := [(0,_)]) Tryz.func72 Tryz.ntmps72 rfl odq (.cons rfl .nil) ?_
 repeat' first | (apply Wl.loadAF (xs := memC f);exact rfl;exact rfl;exact memC_len f;(intro wq hq q v hq';rw [addLit];exact hq.old (cell_of hc jb) trivial)) | (apply Wl.storeA;exact rfl;exact rfl;exact memC_len f;exact memC_one f;exact ke;exact .z (LOver.whole ((memC_len _).trans (memC_len f).symm))) | refine Wl.move rfl rfl ?_ | refine Wl.assign rfl rfl ?_ | refine Wl.nilCheck rfl rfl ?_ | refine Wl.eqlPN rfl rfl rfl ?_ | (apply Wl.alloc;exact rfl;intro c hc ho) | apply Wl.nil | apply St.seq | apply St.region | (apply St.condF;exact rfl;exact ka) | apply St.ret | apply St.skip | apply Gt.next | (apply Gt.out1;exact rfl;exact rfl;intro w' hp)
 exact ⟨_,rfl,by assumption,hp.own.at (.head _),hp.on (Upd.refl _ _) zx⟩
theorem rgN {xs : List Value} (h : Rg xs) : ∃ g : Nat → Nat,xs = cellsN .u32 32 g ∧ ∀ j,j < 32 → IntKind.u32.min ≤ (g j : Int) ∧ (g j : Int) ≤ IntKind.u32.max := by
 refine ⟨fun i => match xs[i]? with | some (.int _ z) => z.toNat | _ => 0,?_,?_⟩
 ·apply List.ext_getElem?
  intro j
  by_cases hj : j < 32
  ·obtain ⟨z,hz,h0,h1⟩ := h.2 j hj
   rw [cellsN_get hj,hz]
   simp only [hz]
   congr 2
   omega
  ·rw [List.getElem?_eq_none (by rw [h.1];omega),List.getElem?_eq_none (by rw [cellsN_len];omega)]
 ·intro j hj
  obtain ⟨z,hz,h0,h1⟩ := h.2 j hj
  simp only [hz]
  have e1 : IntKind.u32.min = 0 := rfl
  have e2 : IntKind.u32.max = 4294967295 := rfl
  omega
theorem Rg.one {xs : List Value} (h : Rg xs) : xs.all Value.oneCell' = true := by
 rw [List.all_eq_true]
 intro v hv
 obtain ⟨i,hi,e⟩ := List.mem_iff_getElem.1 hv
 rw [h.1] at hi
 obtain ⟨z,hz,_⟩ := h.2 i hi
 rw [List.getElem?_eq_getElem (by rw [h.1];exact hi),e] at hz
 cases hz
 rfl
structure Sta where
 (s c p : Int)
 xs : List Value
def Sta.cells (x : Sta) : List Value := .int .i64 x.s :: .int .u32 x.c :: .int .u32 x.p :: x.xs
def StaOk (x : Sta) : Prop := Rg x.xs ∧ (0 ≤ x.c ∧ x.c < 4294967296) ∧ (0 ≤ x.p ∧ x.p < 4294967296)
theorem StaOk.one {x : Sta} (h : StaOk x) : x.cells.all Value.oneCell' = true := by
 have := h.1.one
 simp [Sta.cells,Value.oneCell'] at this ⊢
 exact this
theorem StaOk.len {x : Sta} (h : StaOk x) : x.cells.length = 35 := by simp [Sta.cells,h.1.1]
def staZ : Sta := ⟨0,0,0,xz⟩
def stas (L : List Sta) : List (List Value) := L.map Sta.cells
def WardS (w : World) (wd sa : Nat) (L : List Sta) (t : Int) : Prop :=
 (∃ cap J,w.heap[wd]? = some (.cells #[.slice (some ⟨sa,0,none⟩) L.length cap,.int .i64 t] 210 (0,0)) ∧ w.heap[sa]? = some (.cells ((stas L).flatten ++ J).toArray 44 (0,0))) ∧ (∀ x ∈ L,StaOk x) ∧ 1 ≤ L.length ∧ L.length ≤ 4
theorem WardS.upd {w w' : World} {wd sa : Nat} {L : List Sta} {t : Int} {S : Nat → Prop} (k : WardS w wd sa L t) (u : Upd S w w') (h1 : ¬ S wd) (h2 : ¬ S sa) : WardS w' wd sa L t := by
 obtain ⟨⟨cap,J,a,b⟩,r⟩ := k
 exact ⟨⟨cap,J,u.heap a h1,u.heap b h2⟩,r⟩
theorem WardS.lt {w : World} {wd sa : Nat} {L : List Sta} {t : Int} (k : WardS w wd sa L t) : wd < w.heap.size ∧ sa < w.heap.size := by
 obtain ⟨⟨cap,J,a,b⟩,r⟩ := k
 exact ⟨lt_of_block a,lt_of_block b⟩
theorem WardS.ne {w : World} {wd sa : Nat} {L : List Sta} {t : Int} (k : WardS w wd sa L t) : wd ≠ sa := by
 obtain ⟨⟨cap,J,a,b⟩,r⟩ := k
 exact blk_ne a b
theorem stas_len {L : List Sta} (h : ∀ x ∈ L,StaOk x) : ∀ x ∈ stas L,x.length = 35 := by
 intro x hx
 obtain ⟨y,hy,rfl⟩ := List.mem_map.1 hx
 exact (h y hy).len
theorem stas_at {L : List Sta} {i : Nat} {x : Sta} (h : L[i]? = some x) : (stas L)[i]? = some x.cells := by
 unfold stas
 rw [List.getElem?_map,h];rfl
theorem WardS.at {w : World} {wd sa : Nat} {L : List Sta} {t : Int} (k : WardS w wd sa L t) {i : Nat} {x : Sta} (h : L[i]? = some x) {q : Nat} {v : Value} (hq : x.cells[q]? = some v) : w.cell? ⟨sa,0 + i * 35 + q,none⟩ = some v := by
 obtain ⟨⟨cap,J,a,b⟩,hl,r⟩ := k
 have hx := hl x (List.mem_of_getElem? h)
 have hql : q < 35 := by
  have := (List.getElem?_eq_some_iff.1 hq).1
  rw [hx.len] at this
  exact this
 have e := flat_get (stas_len hl) (stas_at h) hql
 refine cell_of b ?_
 rw [Nat.zero_add,List.getElem?_append_left (by rw [flat_len (stas_len hl)];exact flat_lt (by unfold stas;rw [List.length_map];exact (List.getElem?_eq_some_iff.1 h).1) hql rfl),e]
 exact hq
theorem wTurn (wd sa : Nat) (L : List Sta) (t : Int) (w : World) (hW : WardS w wd sa L t) :
  Calls Tryz.prog 58 #[.pointer (some ⟨wd,0,none⟩)] w fun e w' => e = .returned (.int .i64 (if t < 0 then -1 else t)) ∧ Hp w [] w' := by
 obtain ⟨⟨cap,J,a,b⟩,hl,h1,h4⟩ := hW
 have p1 : w.cell? ⟨wd,1,none⟩ = some (.int .i64 t) := cell_of a rfl
 refine enter (args := [_]) (Γ := [(0,_)]) Tryz.func58 Tryz.ntmps58 rfl odq (.cons rfl .nil) ?_
 by_cases ht : t < 0
 ·have hd : decide (t < 0) = true := decide_eq_true ht
  rw [if_pos ht]
  repeat' first | (apply Wl.loadO;exact rfl;exact rfl;exact zw;exact kh) | refine Wl.move rfl rfl ?_ | refine Wl.assign rfl rfl ?_ | (apply Wl.on;exact rfl;exact rfl;exact ka) | refine Wl.nilCheck rfl rfl ?_ | (apply Wl.pickF;exact rfl;exact rfl;exact ka;exact rfl) | refine Wl.fieldAddrZ rfl rfl ?_ | refine Wl.eqlPN rfl rfl rfl ?_ | refine Wl.lss rfl rfl rfl ?_ | apply Wl.nil | apply St.seq | apply St.region | (apply St.condT;exact rfl;exact ka) | apply St.ret | apply Gt.next | apply Gt.thenRet | (apply Gt.out1;exact rfl;exact rfl;intro w' hp)
  exact ⟨rfl,hp⟩
 ·have hd : decide (t < 0) = false := decide_eq_false ht
  rw [if_neg ht]
  repeat' first | (apply Wl.loadO;exact rfl;exact rfl;exact zw;exact kh) | refine Wl.move rfl rfl ?_ | refine Wl.assign rfl rfl ?_ | (apply Wl.on;exact rfl;exact rfl;exact ka) | refine Wl.nilCheck rfl rfl ?_ | (apply Wl.pickF;exact rfl;exact rfl;exact ka;exact rfl) | refine Wl.fieldAddrZ rfl rfl ?_ | refine Wl.eqlPN rfl rfl rfl ?_ | refine Wl.lss rfl rfl rfl ?_ | apply Wl.nil | apply St.seq | apply St.region | (apply St.condF;exact rfl;exact ka) | apply St.ret | apply St.skip | apply Gt.next | (apply Gt.out1;exact rfl;exact rfl;intro w' hp)
  exact ⟨rfl,hp⟩
theorem wCount (wd sa : Nat) (L : List Sta) (t : Int) (w : World) (hW : WardS w wd sa L t) :
  Calls Tryz.prog 73 #[.pointer (some ⟨wd,0,none⟩)] w fun e w' => e = .returned (.int .i64 L.length) ∧ Hp w [] w' := by
 obtain ⟨⟨cap,J,a,b⟩,hl,h1,h4⟩ := hW
 have p0 : w.cell? ⟨wd,0,none⟩ = some (.slice (some ⟨sa,0,none⟩) L.length cap) := cell_of a rfl
 refine enter (args := [_]) (Γ := [(0,_)]) Tryz.func73 Tryz.ntmps73 rfl odq (.cons rfl .nil) ?_
 repeat' first | (apply Wl.loadO;exact rfl;exact rfl;exact zw;exact kh) | refine Wl.move rfl rfl ?_ | refine Wl.assign rfl rfl ?_ | refine Wl.nilCheck rfl rfl ?_ | refine Wl.fieldAddr0 rfl rfl ?_ | refine Wl.eqlPN rfl rfl rfl ?_ | refine Wl.len rfl rfl ?_ | apply Wl.nil | apply St.seq | apply St.region | (apply St.condF;exact rfl;exact ka) | apply St.ret | apply St.skip | apply Gt.next | (apply Gt.out1;exact rfl;exact rfl;intro w' hp)
 exact ⟨rfl,hp⟩
theorem wStatus (wd sa : Nat) (L : List Sta) (t : Int) (i : Nat) (x : Sta) (w : World) (hW : WardS w wd sa L t) (hi : L[i]? = some x) :
  Calls Tryz.prog 59 #[.pointer (some ⟨wd,0,none⟩),.int .i64 i] w fun e w' => e = .returned (.agg x.cells.toArray) ∧ Hp w [] w' := by
 have hil := (List.getElem?_eq_some_iff.1 hi).1
 have hat : ∀ (q : Nat) (v : Value),x.cells[q]? = some v → w.cell? ⟨sa,0 + (i : Int).toNat * 35 + q,none⟩ = some v := fun q v hq => by rw [Int.toNat_natCast];exact hW.at hi hq
 have hx : x.cells.length = 35 := stas_len hW.2.1 _ (List.mem_map.2 ⟨x,List.mem_of_getElem? hi,rfl⟩)
 obtain ⟨⟨cap,J,a,b⟩,hl,h1,h4⟩ := hW
 have hlw := lt_of_block b
 have p0 : w.cell? ⟨wd,0,none⟩ = some (.slice (some ⟨sa,0,none⟩) L.length cap) := cell_of a rfl
 have hlw2 := lt_of_block a
 have hone := (hl x (List.mem_of_getElem? hi)).one
 have hd0 : decide ((i : Int) < 0) = false := decide_eq_false ky
 have hd1 : decide ((i : Int) ≥ (L.length : Int)) = false := decide_eq_false ky
 refine enter (args := [_,_]) (Γ := [(0,_),(1,_)]) Tryz.func59 Tryz.ntmps59 rfl odq (.cons rfl (.cons rfl .nil)) ?_
 repeat' first | (apply Wl.storeA (xs := x.cells);exact rfl;exact rfl;exact hx;exact hone;exact ke;exact .z (LOver.whole (by rw [hx];exact rfl))) | (apply Gt.outC' (xs := x.cells);exact rfl;infer_instance;exact rfl;(exact .head _);exact LSub.whole' hx;intro w' hp) | (apply Wl.loadO;exact rfl;exact rfl;exact zw;exact kh) | (apply Wl.loadAF (xs := x.cells);exact rfl;exact rfl;exact hx;(intro wq hq q v hq';rw [addLit];exact hq.old (hat q v hq') (by show Off _ sa;repeat (first | exact trivial | refine ⟨by first | omega | (simp only;omega),?_⟩)))) | refine Wl.move rfl rfl ?_ | (apply Wl.on;exact rfl;exact rfl;exact ka) | refine Wl.nilCheck rfl rfl ?_ | (apply Wl.pickF;exact rfl;exact rfl;exact ka;exact rfl) | refine Wl.fieldAddr0 rfl rfl ?_ | refine Wl.eqlPN rfl rfl rfl ?_ | refine Wl.lss rfl rfl rfl ?_ | refine Wl.geq rfl rfl rfl ?_ | refine Wl.len rfl rfl ?_ | (apply Wl.alloc;exact rfl;intro c hc ho) | (refine Wl.indexAddr rfl rfl rfl ?_ ?_;constructor <;> omega) | apply Wl.nil | apply St.seq | apply St.region | (apply St.condF;exact rfl;exact ka) | apply St.ret | apply St.skip | apply Gt.next
 exact ⟨rfl,hp.drop zx⟩
theorem _root_.Go.Pt.Wl.remIs {P : Program} {md : Md} {ops : Array Oper} {N : Nat} {rest : List Oper} {Γ : Env} {C : World → Prop} {Q : Exit → Act → World → Prop} {d : Nat} {ty : TypeId} {pos : String} {af : Array Edge} {t u : TypeId} {x y : Operand} {k : IntKind} {m n z : Int}
  (hd : Nat.blt d N = true) (hx : ev Γ x = some (.int k m)) (hy : ev Γ y = some (.int k n)) (hn : n ≠ 0) (hz : m.tmod n = z) (h : Wl rest P md ops N ((d,.int k z) :: Γ) C Q) : Wl (⟨some d,.binOp .rem t x y u,ty,pos,af,none⟩ :: rest) P md ops N Γ C Q := by
 subst hz
 exact Wl.rem hd hx hy hn h
def passG (L : List Sta) (t : Nat) : Nat → Nat → Int
 | _,0 => -1
 | k,f + 1 => if (L[(t + k) % L.length]?.map Sta.s) = some 0 then (((t + k) % L.length : Nat) : Int) else passG L t (k + 1) f
def passF (L : List Sta) (t : Int) : Int := if t < 0 then t else passG L t.toNat 1 L.length
theorem wPass (wd sa : Nat) (L : List Sta) (t : Int) (w : World) (hW : WardS w wd sa L t) (ht : t < L.length) :
  Calls Tryz.prog 70 #[.pointer (some ⟨wd,0,none⟩)] w fun e w' => e = .returned (.tuple #[]) ∧ WardS w' wd sa L (passF L t) ∧ Upd (fun k => k = wd) w w' := by
 have hW0 := hW
 have hne := hW.ne
 obtain ⟨⟨cap,J,a,b⟩,hl,h1,h4⟩ := hW
 have hlw := lt_of_block b
 have hlw2 := lt_of_block a
 refine enter (args := [_]) (Γ := [(0,_)]) Tryz.func70 Tryz.ntmps70 rfl odq (.cons rfl .nil) ?_
 unfold passF
 by_cases hneg : t < 0
 ·have hd : decide (t < 0) = true := decide_eq_true hneg
  have p1 : w.cell? ⟨wd,1,none⟩ = some (.int .i64 t) := cell_of a rfl
  rw [if_pos hneg]
  repeat' first | (apply Wl.loadO;exact rfl;exact rfl;exact zw;exact kh) | refine Wl.move rfl rfl ?_ | (apply Wl.on;exact rfl;exact rfl;exact ka) | refine Wl.nilCheck rfl rfl ?_ | (apply Wl.pickF;exact rfl;exact rfl;exact ka;exact rfl) | refine Wl.fieldAddrZ rfl rfl ?_ | refine Wl.eqlPN rfl rfl rfl ?_ | refine Wl.lss rfl rfl rfl ?_ | apply Wl.nil | apply St.seq | apply St.region | (apply St.condT;exact rfl;exact ka) | apply St.ret | apply Gt.next | apply Gt.thenRet | (apply Gt.out0;exact rfl;intro w' hp)
  exact ⟨rfl,hW0.upd hp.upd nt0 nt0,hp.upd.mono fun _ _ y => (y trivial).elim⟩
 ·have hd : decide (t < 0) = false := decide_eq_false hneg
  rw [if_neg hneg]
  obtain ⟨n,rfl⟩ := Int.eq_ofNat_of_zero_le (by omega : 0 ≤ t)
  rw [Int.toNat_natCast]
  have hn4 : n < L.length := by omega
  have fin : ∀ (w' : World) (z : Int),Hp w [⟨wd,[.slice (some ⟨sa,0,none⟩) L.length cap,.int .i64 z],210⟩] w' → WardS w' wd sa L z ∧ Upd (fun k => k = wd) w w' := fun w' z hp =>
   ⟨⟨⟨cap,J,hp.own.at (.head _),hp.upd.heap b fun y => y ⟨hne,trivial⟩⟩,hl,h1,h4⟩,Hp.turned hp⟩
  refine St.cls (C' := Hp w [⟨wd,[.slice (some ⟨sa,0,none⟩) L.length cap,.int .i64 (n : Int)],210⟩]) (fun _ h' => Hp.open h' a) ?_
  generalize hB : passG L n 1 L.length = B
  repeat' first | refine Wl.move rfl rfl ?_ | refine Wl.assign rfl rfl ?_ | (apply Wl.on;exact rfl;exact rfl;exact ka) | refine Wl.nilCheck rfl rfl ?_ | (apply Wl.pickF;exact rfl;exact rfl;exact ka;exact rfl) | refine Wl.fieldAddrZ rfl rfl ?_ | (apply Wl.loadH;exact rfl;exact rfl;exact ke;exact rfl) | refine Wl.eqlPN rfl rfl rfl ?_ | refine Wl.lss rfl rfl rfl ?_ | apply Wl.nil | apply St.seq | apply St.block | apply St.region | (apply St.condF;exact rfl;exact ka) | apply St.skip | apply Gt.next
  refine St.loop (σ := Nat) (fun k => 1 ≤ k ∧ k ≤ L.length + 1 ∧ B = passG L n k (L.length + 1 - k)) (fun k => [(0,.pointer (some ⟨wd,0,none⟩)),(2,.int .i64 (k : Int))])
   (fun _ => Hp w [⟨wd,[.slice (some ⟨sa,0,none⟩) L.length cap,.int .i64 (n : Int)],210⟩]) (fun k => L.length + 1 - k) 1 ⟨Nat.le_refl _,by omega,by rw [Nat.add_sub_cancel];exact hB.symm⟩ kw (fun _ h => h) ?_
  clear hB
  rintro k ⟨hk1,hk2,hk⟩
  by_cases hle : k ≤ L.length
  ·have hd2 : decide ((k : Int) ≤ (L.length : Int)) = true := decide_eq_true ky
   have hmod : (n + k) % L.length < L.length := Nat.mod_lt _ ky
   obtain ⟨x,hx⟩ : ∃ x,L[(n + k) % L.length]? = some x := ⟨_,List.getElem?_eq_getElem hmod⟩
   have hrem : ((n : Int) + (k : Int)).tmod (L.length : Int) = (((n + k) % L.length : Nat) : Int) := by
    rw [Int.tmod_eq_emod_of_nonneg ky,Int.natCast_emod,Int.natCast_add]
   have hs : w.cell? ⟨sa,0 + ((((n + k) % L.length : Nat) : Int)).toNat * 35,none⟩ = some (.int .i64 x.s) := by rw [Int.toNat_natCast];exact hW0.at hx (q := 0) rfl
   rw [show L.length + 1 - k = (L.length + 1 - (k + 1)) + 1 by omega] at hk
   unfold passG at hk
   rw [hx] at hk
   simp only [Option.map_some,Option.some.injEq] at hk
   generalize (n + k) % L.length = r at *
   by_cases h0 : x.s = 0
   ·have hd3 : decide (x.s = 0) = true := decide_eq_true h0
    rw [if_pos h0] at hk
    repeat' first | (apply Wl.loadO;exact rfl;exact rfl;exact zw;exact kh) | (apply Wl.remIs;exact rfl;exact rfl;exact rfl;omega;exact hrem) | refine Wl.move rfl rfl ?_ | refine Wl.assign rfl rfl ?_ | refine Wl.nilCheck rfl rfl ?_ | refine Wl.fieldAddr0 rfl rfl ?_ | refine Wl.fieldAddrZ rfl rfl ?_ | (apply Wl.loadH;exact rfl;exact rfl;exact ke;exact rfl) | (apply Wl.eqlIs;exact rfl;exact rfl;exact rfl;exact kv) | refine Wl.leq rfl rfl rfl ?_ | (refine Wl.addI rfl rfl rfl ?_ ?_;constructor <;> omega) | refine Wl.len rfl rfl ?_ | (apply Wl.store;exact rfl;exact rfl;exact rfl;exact ke;exact kx) | (refine Wl.indexAddr rfl rfl rfl ?_ ?_;constructor <;> omega) | apply Wl.nil | apply Wl.nilQ | apply St.seq | apply St.block | apply St.region | (apply St.draw;exact mixed;(kernel_rfl);exact (fun _ h => Hp.drew h)) | (apply St.condT;exact rfl;exact ka) | apply St.ret | apply St.skip | apply Gt.next | apply Gt.thenRet | apply Gt.inRet | (apply Gt.out0;exact rfl;intro w' hp)
    exact ⟨rfl,by rw [hk];exact fin _ _ hp⟩
   ·have hd3 : decide (x.s = 0) = false := decide_eq_false h0
    rw [if_neg h0] at hk
    repeat' first | (apply Wl.loadO;exact rfl;exact rfl;exact zw;exact kh) | (apply Wl.remIs;exact rfl;exact rfl;exact rfl;omega;exact hrem) | refine Wl.move rfl rfl ?_ | refine Wl.assign rfl rfl ?_ | refine Wl.nilCheck rfl rfl ?_ | refine Wl.fieldAddr0 rfl rfl ?_ | refine Wl.fieldAddrZ rfl rfl ?_ | (apply Wl.loadH;exact rfl;exact rfl;exact ke;exact rfl) | refine Wl.eql rfl rfl rfl ?_ | refine Wl.leq rfl rfl rfl ?_ | (refine Wl.addI rfl rfl rfl ?_ ?_;constructor <;> omega) | refine Wl.len rfl rfl ?_ | (refine Wl.indexAddr rfl rfl rfl ?_ ?_;constructor <;> omega) | apply Wl.nil | apply Wl.nilQ | apply St.seq | apply St.block | apply St.region | (apply St.draw;exact mixed;(kernel_rfl);exact (fun _ h => Hp.drew h)) | (apply St.condT;exact rfl;exact ka) | (apply St.condF;exact rfl;exact ka) | apply St.skip | apply Gt.next | apply Gt.inNormal
    apply Gt.round (k + 1)
    rotate_left
    ·omega
    ·exact ke
    ·exact fun _ h => h
    ·exact ⟨by omega,by omega,hk⟩
  ·have hke : k = L.length + 1 := by omega
   have hd2 : decide ((k : Int) ≤ (L.length : Int)) = false := decide_eq_false ky
   rw [hke,Nat.sub_self] at hk
   repeat' first | refine Wl.move rfl rfl ?_ | refine Wl.nilCheck rfl rfl ?_ | refine Wl.fieldAddr0 rfl rfl ?_ | refine Wl.fieldAddrZ rfl rfl ?_ | (apply Wl.loadH;exact rfl;exact rfl;exact ke;exact rfl) | refine Wl.leq rfl rfl rfl ?_ | refine Wl.len rfl rfl ?_ | (apply Wl.store;exact rfl;exact rfl;exact rfl;exact ke;exact kx) | apply Wl.nil | apply St.seq | apply St.region | (apply St.condF;exact rfl;exact ka) | apply St.exit | apply Gt.next | apply Gt.thenExit | apply Gt.inExit | (apply Gt.out0n;exact rfl;intro w' hp)
   exact ⟨rfl,by rw [hk];exact fin _ _ hp⟩
theorem rgOk_set {L : List Sta} {n : Nat} {y : Sta} (hl : ∀ x ∈ L,StaOk x) (hy : StaOk y) : ∀ x ∈ L.set n y,StaOk x := by
 intro x hx
 rcases List.mem_or_eq_of_mem_set hx with h | rfl
 ·exact hl x h
 ·exact hy
theorem stas_set (L : List Sta) (n : Nat) (y : Sta) : stas (L.set n y) = (stas L).set n y.cells := by unfold stas;rw [List.map_set]
theorem Rg.set0 {xs : List Value} (h : Rg xs) : Rg (xs.set 0 (.int .u32 0)) := by
 have := h.set (r := 0) (x := 0) ze
 refine ⟨by rw [List.length_set];exact h.1,fun i hi => ?_⟩
 by_cases e : i = 0
 ·subst e
  exact ⟨0,by rw [List.getElem?_set_self (by rw [h.1];exact hi)],by decide⟩
 ·obtain ⟨z,hz,hz2⟩ := h.2 i hi
  exact ⟨z,by rw [List.getElem?_set_ne (fun h => e h.symm)];exact hz,hz2⟩
theorem Hp.turnedN {w w' : World} {c b t u : Nat} {cs ds : List Value} {ba : Array Value} (h : Hp w [⟨c,cs,t⟩,⟨b,ds,u⟩] w') (_ : w.heap[c]? = some (.cells ba t (0,0))) (ha : w.heap[b]? = some (.cells ds.toArray u (0,0))) (ha' : w'.heap[b]? = some (.cells ds.toArray u (0,0))) : Upd (fun k => k = c) w w' :=
 ⟨h.upd.os,h.upd.tape,h.upd.output,h.upd.size,fun k hk hs => by
  by_cases e : k = b
  ·subst e
   rw [ha,ha']
  ·exact h.upd.block k hk fun y => y ⟨fun e => hs e.symm,fun e' => e e'.symm,trivial⟩⟩
def endL (L : List Sta) (n : Nat) (x : Sta) (s c : Int) : List Sta := L.set n ⟨s,c,x.p,x.xs⟩
theorem wEnd (wd sa : Nat) (L : List Sta) (n : Nat) (x : Sta) (st co : Int) (w : World) (hW : WardS w wd sa L n) (hi : L[n]? = some x) (hco : 0 ≤ co ∧ co < 4294967296) :
  Calls Tryz.prog 65 #[.pointer (some ⟨wd,0,none⟩),.int .i64 st,.int .u32 co] w fun e w' => e = .returned (.tuple #[]) ∧ WardS w' wd sa (endL L n x st co) (passF (endL L n x st co) n) ∧ Upd (fun k => k = sa ∨ k = wd) w w' := by
 have hW0 := hW
 have hne := hW.ne
 have hil := (List.getElem?_eq_some_iff.1 hi).1
 have hTn := wTurn wd sa L n
 rw [if_neg (by omega : ¬ (n : Int) < 0)] at hTn
 obtain ⟨⟨cap,J,a,b⟩,hl,h1,h4⟩ := hW
 have hxo := hl x (List.mem_of_getElem? hi)
 have hlw := lt_of_block b
 have hlw2 := lt_of_block a
 have hd : decide ((n : Int) ≥ 0) = true := decide_eq_true ky
 have hset1 : LSet ((stas L).flatten ++ J) (0 + (n : Int).toNat * 35) (.int .i64 st) (((stas L).set n (x.cells.set 0 (.int .i64 st))).flatten ++ J) := by
  rw [Int.toNat_natCast,Nat.zero_add]
  have h := LSet.flat (J := J) (v := .int .i64 st) (q := 0) (stas_len hl) (stas_at hi) ze
  rw [Nat.add_zero] at h
  exact h
 have hset2 : LSet (((stas L).set n (x.cells.set 0 (.int .i64 st))).flatten ++ J) (0 + (n : Int).toNat * 35 + 1) (.int .u32 co) ((stas (endL L n x st co)).flatten ++ J) := by
  unfold endL
  rw [Int.toNat_natCast,Nat.zero_add,stas_set]
  have h := LSet.flat (L := (stas L).set n (x.cells.set 0 (.int .i64 st))) (J := J) (v := .int .u32 co) (k := 35) (i := n) (q := 1) (x := x.cells.set 0 (.int .i64 st)) (by
   intro z hz
   rcases List.mem_or_eq_of_mem_set hz with h | rfl
   ·exact stas_len hl z h
   ·rw [List.length_set];exact hxo.len) (by rw [List.getElem?_set_self];unfold stas;rw [List.length_map];exact hil) ze
  rw [List.set_set] at h
  exact h
 refine enter (args := [_,_,_]) (Γ := [(0,_),(1,_),(2,_)]) Tryz.func65 Tryz.ntmps65 rfl odq (.cons rfl (.cons rfl (.cons rfl .nil))) ?_
 refine St.cls (C' := Hp w [⟨sa,(stas L).flatten ++ J,44⟩,⟨wd,[.slice (some ⟨sa,0,none⟩) L.length cap,.int .i64 (n : Int)],210⟩]) (fun _ h' => Hp.open (Hp.open h' a) b ⟨hne,trivial⟩) ?_
 repeat' first | (apply Wl.callQ (f := 58);exact rfl;exact ke;exact qb) | refine Wl.move rfl rfl ?_ | refine Wl.assign rfl rfl ?_ | refine Wl.geq rfl rfl rfl ?_ | apply Wl.nil | apply St.seq | apply St.region | (apply St.condT;exact rfl;exact ka) | apply Gt.next
 refine St.tree (fun w' => w'.cell? ⟨wd,0,none⟩ = some (.slice (some ⟨sa,0,none⟩) L.length cap)) mixed (fun _ h' => ⟨Hp.drew h',cell_of ((Hp.drew h').own.at (x := ⟨wd,[.slice (some ⟨sa,0,none⟩) L.length cap,.int .i64 (n : Int)],210⟩) (.tail _ (.head _))) rfl⟩) ?_
 refine Mt.pm 0 ?_
 refine Mt.pn 1 ?_
 refine Mt.pf 2 ?_
 refine Mt.pu 3 ?_
 apply Wl.loadF;exact rfl;exact rfl;(intro w' h';exact h');apply Wl.nilB
 refine Mt.pm 4 ?_
 refine Mt.pm 5 ?_
 refine Mt.pn 6 ?_
 refine Mt.pf 7 ?_
 refine Mt.pu 8 ?_
 apply Wl.loadF;exact rfl;exact rfl;(intro w' h';exact h');apply Wl.nilB
 refine Mt.pm 9 ?_
 refine Mt.pm 10 ?_
 refine Mt.pm 11 ?_
 refine Mt.pu 12 ?_
 refine Wl.indexAddr rfl rfl rfl ?_ ?_;constructor <;> omega;apply Wl.nilB
 refine Mt.pf 13 ?_
 refine Mt.e1 14 ?_
 repeat' first | (apply Wl.store;exact rfl;exact rfl;exact rfl;exact ke;exact hset1) | apply Wl.nil
 refine Mt.backE (fun _ h' => cell_of (h'.own.at (x := ⟨wd,[.slice (some ⟨sa,0,none⟩) L.length cap,.int .i64 (n : Int)],210⟩) (.tail _ (.head _))) rfl) ?_
 refine Mt.pu 15 ?_
 refine Wl.indexAddr rfl rfl rfl ?_ ?_;constructor <;> omega;apply Wl.nilB
 refine Mt.pu 16 ?_
 refine Wl.fieldAddr rfl rfl (Wl.nilB ?_)
 refine Mt.e1 17 ?_
 repeat' first | (apply Wl.store;exact rfl;exact rfl;exact rfl;exact ke;exact hset2) | apply Wl.nil
 refine Mt.backE (fun _ h' => cell_of (h'.own.at (x := ⟨wd,[.slice (some ⟨sa,0,none⟩) L.length cap,.int .i64 (n : Int)],210⟩) (.tail _ (.head _))) rfl) ?_
 refine Mt.toGt kg ?_
 repeat' first | refine Wl.move rfl rfl ?_ | apply St.region | apply Gt.next
 have hlen : (endL L n x st co).length = L.length := by unfold endL;rw [List.length_set]
 have hlE : ∀ y ∈ endL L n x st co,StaOk y := rgOk_set hl ⟨hxo.1,hco,hxo.2.2⟩
 apply Wl.callC
 ·exact rfl
 ·exact ke
 intro wq hq
 have hWq : WardS wq wd sa (endL L n x st co) n := ⟨⟨cap,J,by rw [hlen];exact hq.own.at (x := ⟨wd,[.slice (some ⟨sa,0,none⟩) L.length cap,.int .i64 (n : Int)],210⟩) (.tail _ (.head _)),hq.own.at (x := ⟨sa,(stas (endL L n x st co)).flatten ++ J,44⟩) (.head _)⟩,hlE,by rw [hlen];exact ⟨h1,h4⟩⟩
 refine (wPass wd sa (endL L n x st co) n wq hWq (by rw [hlen];omega)).mono ?_
 rintro e w1 ⟨rfl,hW1,u1⟩
 have hu1 : Upd (fun k => k = sa ∨ k = wd) w w1 := hq.upd.comp u1 fun k hk hs => by
  rcases hs with y | y
  ·exact Classical.byContradiction fun hn => y ⟨fun e => hn (.inl e.symm),fun e => hn (.inr e.symm),trivial⟩
  ·exact .inr y
 refine ⟨_,_,rfl,Hp.start w1,?_⟩
 repeat' first | apply Wl.nil | (apply Gt.out0n;exact rfl;intro w' hp)
 exact ⟨rfl,hW1.upd hp.upd nt0 nt0,hu1.comp hp.upd fun k _ hs => hs.elim id fun y => (y trivial).elim⟩
theorem wKeep (wd sa : Nat) (L : List Sta) (n : Nat) (x : Sta) (xs : List Value) (pc : Int) (w : World) (hW : WardS w wd sa L n) (hi : L[n]? = some x) (hxs : Rg xs) (hpc : 0 ≤ pc ∧ pc < 4294967296) :
  Calls Tryz.prog 68 #[.pointer (some ⟨wd,0,none⟩),.agg xs.toArray,.int .u32 pc] w fun e w' => e = .returned (.tuple #[]) ∧ WardS w' wd sa (L.set n ⟨x.s,x.c,pc,xs.set 0 (.int .u32 0)⟩) n ∧ Upd (fun k => k = sa) w w' := by
 have hW0 := hW
 have hne := hW.ne
 have hil := (List.getElem?_eq_some_iff.1 hi).1
 have hTn := wTurn wd sa L n
 rw [if_neg (by omega : ¬ (n : Int) < 0)] at hTn
 obtain ⟨⟨cap,J,a,b⟩,hl,h1,h4⟩ := hW
 have hxo := hl x (List.mem_of_getElem? hi)
 have hlw := lt_of_block b
 have hlw2 := lt_of_block a
 have hd : decide ((n : Int) ≥ 0) = true := decide_eq_true ky
 have hls0 : LSet xs (0 + (0 : Int).toNat * 1) (.int .u32 0) (xs.set 0 (.int .u32 0)) := LSet.of (by have := hxs.1;simp;omega)
 have hys := hxs.set0
 generalize xs.set 0 (.int .u32 0) = ys at *
 have hput : LPut ((stas L).flatten ++ J) (0 + (n : Int).toNat * 35 + 3) ys (((stas L).set n (x.cells.take 3 ++ ys)).flatten ++ J) := by
  rw [Int.toNat_natCast,Nat.zero_add]
  exact LPut.flat (stas_len hl) (stas_at hi) (by rw [hys.1])
 have hset : LSet (((stas L).set n (x.cells.take 3 ++ ys)).flatten ++ J) (0 + (n : Int).toNat * 35 + 2) (.int .u32 pc) ((stas (L.set n ⟨x.s,x.c,pc,ys⟩)).flatten ++ J) := by
  rw [Int.toNat_natCast,Nat.zero_add,stas_set]
  have h := LSet.flat (L := (stas L).set n (x.cells.take 3 ++ ys)) (J := J) (v := .int .u32 pc) (k := 35) (i := n) (q := 2) (x := x.cells.take 3 ++ ys) (by
   intro z hz
   rcases List.mem_or_eq_of_mem_set hz with h | rfl
   ·exact stas_len hl z h
   ·simp [Sta.cells,hys.1]) (by rw [List.getElem?_set_self];unfold stas;rw [List.length_map];exact hil) ze
  rw [List.set_set] at h
  exact h
 refine enter (args := [_,_,_]) (Γ := [(0,_),(1,_),(2,_)]) Tryz.func68 Tryz.ntmps68 rfl odq (.cons rfl (.cons rfl (.cons rfl .nil))) ?_
 refine St.cls (C' := Hp w [⟨sa,(stas L).flatten ++ J,44⟩,⟨wd,[.slice (some ⟨sa,0,none⟩) L.length cap,.int .i64 (n : Int)],210⟩]) (fun _ h' => Hp.open (Hp.open h' a) b ⟨hne,trivial⟩) ?_
 repeat' first | (apply Wl.store;exact rfl;exact rfl;exact rfl;exact ke;exact hls0) | (apply Wl.callQ (f := 58);exact rfl;exact ke;exact qb) | refine Wl.move rfl rfl ?_ | refine Wl.assign rfl rfl ?_ | refine Wl.geq rfl rfl rfl ?_ | (apply Wl.boxA;exact rfl;exact rfl;intro c hc ho) | (refine Wl.indexArr rfl rfl rfl ?_ ?_;constructor <;> omega) | apply Wl.nil | apply St.seq | apply St.region | (apply St.condT;exact rfl;exact ka) | apply Gt.next
 generalize c = c4 at *
 have hc4 : w.heap.size ≤ c4 := by assumption
 refine St.tree (fun w' => w'.cell? ⟨wd,0,none⟩ = some (.slice (some ⟨sa,0,none⟩) L.length cap) ∧ w'.heap[c4]? = some (.cells ys.toArray 42 (0,0))) mixed (fun _ h' => ⟨Hp.drew h',cell_of ((Hp.drew h').own.at (x := ⟨wd,[.slice (some ⟨sa,0,none⟩) L.length cap,.int .i64 (n : Int)],210⟩) (.tail _ (.tail _ (.head _)))) rfl,own_at (Hp.drew h').own (.head _)⟩) ?_
 refine Mt.pm 0 ?_
 refine Mt.pn 1 ?_
 refine Mt.pf 2 ?_
 refine Mt.pu 3 ?_
 apply Wl.loadF;exact rfl;exact rfl;(intro w' h';exact h'.1);apply Wl.nilB
 refine Mt.pm 4 ?_
 refine Mt.pm 5 ?_
 refine Mt.pn 6 ?_
 refine Mt.pf 7 ?_
 refine Mt.pu 8 ?_
 apply Wl.loadF;exact rfl;exact rfl;(intro w' h';exact h'.1);apply Wl.nilB
 refine Mt.pm 9 ?_
 refine Mt.pu 10 ?_
 apply Wl.loadAF (xs := ys);exact rfl;exact rfl;exact hys.1;(intro w' h' q v hq';rw [addLit,Nat.zero_add];exact cell_of h'.2 hq');apply Wl.nilB
 refine Mt.pm 11 ?_
 refine Mt.pu 12 ?_
 refine Wl.indexAddr rfl rfl rfl ?_ ?_;constructor <;> omega;apply Wl.nilB
 refine Mt.pu 13 ?_
 refine Wl.fieldAddr rfl rfl (Wl.nilB ?_)
 refine Mt.e1 14 ?_
 repeat' first | (apply Wl.storeA (xs := ys);exact rfl;exact rfl;exact hys.1;exact hys.one;exact ke;exact hput) | apply Wl.nil
 refine Mt.backE (fun _ h' => ⟨cell_of (h'.own.at (x := ⟨wd,[.slice (some ⟨sa,0,none⟩) L.length cap,.int .i64 (n : Int)],210⟩) (.tail _ (.tail _ (.head _)))) rfl,own_at h'.own (.head _)⟩) ?_
 refine Mt.pu 15 ?_
 refine Wl.indexAddr rfl rfl rfl ?_ ?_;constructor <;> omega;apply Wl.nilB
 refine Mt.pu 16 ?_
 refine Wl.fieldAddr rfl rfl (Wl.nilB ?_)
 refine Mt.e1 17 ?_
 repeat' first | (apply Wl.store;exact rfl;exact rfl;exact rfl;exact ke;exact hset) | apply Wl.nil
 refine Mt.backE (fun _ h' => ⟨cell_of (h'.own.at (x := ⟨wd,[.slice (some ⟨sa,0,none⟩) L.length cap,.int .i64 (n : Int)],210⟩) (.tail _ (.tail _ (.head _)))) rfl,own_at h'.own (.head _)⟩) ?_
 refine Mt.toGt kg ?_
 repeat' first | (apply Gt.out0n;exact rfl;intro w' hp)
 refine ⟨rfl,⟨⟨cap,J,?_,own_at hp.own (.tail _ (.head _))⟩,rgOk_set hl ⟨hys,hxo.2.1,hpc⟩,by rw [List.length_set];exact ⟨h1,h4⟩⟩,?_⟩
 ·rw [List.length_set];exact own_at hp.own (.tail _ (.tail _ (.head _)))
 ·refine (Hp.turnedN (b := wd) (Hp.pop hp hc4) b a ?_)
  exact hp.own.at (x := ⟨wd,[.slice (some ⟨sa,0,none⟩) L.length cap,.int .i64 (n : Int)],210⟩) (.tail _ (.tail _ (.head _)))
theorem _root_.Go.World.ownsRow.ge {w : World} {base e sz n : Nat} {v : Value} {xs : List Value} (h : w.ownsRow base e sz v n xs) : ∀ k,v.ownBlock = some k → base ≤ k ∧ k < w.heap.size := by
 intro k hk
 rcases h.2 with ⟨rfl,_⟩ | ⟨g,cap,cur,rfl,hb,hg,_⟩
 ·cases hk
 ·cases hk
  exact ⟨hb,(Array.getElem?_eq_some_iff.1 hg).1⟩
theorem _root_.Go.World.ownsRow.blk {w : World} {base e sz n : Nat} {v : Value} {xs : List Value} (h : w.ownsRow base e sz v n xs) (hn : 0 < n) : ∃ g cap J,v = .slice (some ⟨g,0,none⟩) n cap ∧ base ≤ g ∧ w.heap[g]? = some (.cells (xs ++ J).toArray e (0,0)) := by
 rcases h.2 with ⟨_,h0⟩ | ⟨g,cap,cur,rfl,hb,hg,_,_,_,ht⟩
 ·omega
 ·refine ⟨g,cap,cur.toList.drop (n * sz),rfl,hb,?_⟩
  rw [← ht,List.take_append_drop]
  exact hg
theorem _root_.Go.World.ownsRow.one {w : World} {base e sz n : Nat} {v : Value} {xs : List Value} (h : w.ownsRow base e sz v n xs) : v.oneCell' = true := by
 rcases h.2 with ⟨rfl,_⟩ | ⟨g,cap,cur,rfl,_⟩ <;> rfl
def WordF (w : World) (a : Option Addr) (n : Nat) (p : Nat → Int) : Prop := ∀ i : Nat,i < n → ∃ b o,a = some ⟨b,o,none⟩ ∧ w.cell? ⟨b,o + i,none⟩ = some (.int .u32 (p i)) ∧ 0 ≤ p i ∧ p i < 4294967296
def newL (p : Nat → Int) (n : Nat) : List Sta := (List.range n).map fun j => ⟨0,0,p j,xz⟩
theorem newL_succ (p : Nat → Int) (n : Nat) : (stas (newL p (n + 1))).flatten = (stas (newL p n)).flatten ++ (Sta.cells ⟨0,0,p n,xz⟩) := by simp [newL,stas,List.range_succ]
theorem newL_len (p : Nat → Int) (n : Nat) : (newL p n).length = n := by simp [newL]
theorem wNew (a : Option Addr) (n cap : Nat) (p : Nat → Int) (w : World) (hn : 1 ≤ n ∧ n ≤ 4) (hA : WordF w a n p) :
  Calls Tryz.prog 87 #[.slice a n cap] w fun e w' => ∃ wd sa,e = .returned (.tuple #[.pointer (some ⟨wd,0,none⟩),.int .i64 0]) ∧ WardS w' wd sa (newL p n) 0 ∧ w.heap.size ≤ wd ∧ w.heap.size ≤ sa ∧ Upd (fun k => w.heap.size ≤ k) w w' := by
 have hd1 : decide ((n : Int) < 1) = false := decide_eq_false ky
 have hd2 : decide ((n : Int) > 4) = false := decide_eq_false ky
 refine enter (args := [_]) (Γ := [(0,_)]) Tryz.func87 Tryz.ntmps87 rfl odq (.cons rfl .nil) ?_
 repeat' first | refine Wl.move rfl rfl ?_ | refine Wl.assign rfl rfl ?_ | (apply Wl.on;exact rfl;exact rfl;exact ka) | (apply Wl.pickF;exact rfl;exact rfl;exact ka;exact rfl) | refine Wl.lss rfl rfl rfl ?_ | refine Wl.gtr rfl rfl rfl ?_ | refine Wl.len rfl rfl ?_ | (apply Wl.buildS;exact rfl;exact ki;exact kc) | (apply Wl.boxA;exact rfl;exact rfl;intro c hc ho) | apply Wl.nil | apply St.seq | apply St.block | apply St.region | (apply St.condF;exact rfl;exact ka) | apply St.skip | apply Gt.next
 generalize c = wd at *
 have hwd : w.heap.size ≤ wd := by assumption
 refine St.loop (σ := Nat × World × Value) (fun τ => τ.1 ≤ n ∧ Upd (fun k => w.heap.size ≤ k) w τ.2.1 ∧ τ.2.1.ownsRow w.heap.size 44 35 τ.2.2 τ.1 (stas (newL p τ.1)).flatten ∧ ∀ k,τ.2.2.ownBlock = some k → Off [⟨wd,[τ.2.2,.int .i64 0],210⟩] k)
  (fun τ => [(4,.pointer (some ⟨wd,0,none⟩)),(17,.slice a n cap),(18,.int .i64 (n : Int)),(19,.int .i64 (τ.1 : Int))]) (fun τ => Hp τ.2.1 [⟨wd,[τ.2.2,.int .i64 0],210⟩]) (fun τ => n - τ.1) (0,w,.slice none 0 0) ⟨Nat.zero_le _,Upd.refl _ _,World.ownsRow_nil w _ _ _,fun k hk => by cases hk⟩ kw (fun _ h => h) ?_
 rintro ⟨i,w0,v⟩ ⟨hi,hu0,hv,hoff⟩
 simp only at hi hu0 hv hoff ⊢
 have s0 := hu0.size
 by_cases hlt : i < n
 ·have hd : decide ((i : Int) < (n : Int)) = true := decide_eq_true ky
  obtain ⟨b,o,rfl,hc,_⟩ := hA i hlt
  have hb : w0.cell? ⟨b,o + (i : Int).toNat,none⟩ = some (.int .u32 (p i)) := by
   rw [Int.toNat_natCast]
   exact hu0.cell hc fun e => by have := World.block_lt_of_cell? w _ hc;simp only at this e;omega
  have hbl : b < w.heap.size := World.block_lt_of_cell? w _ hc
  repeat' first | (apply Wl.loadO;exact rfl;exact rfl;exact zw;exact kh) | refine Wl.move rfl rfl ?_ | refine Wl.assign rfl rfl ?_ | refine Wl.nilCheck rfl rfl ?_ | refine Wl.fieldAddr0 rfl rfl ?_ | (apply Wl.loadH;exact rfl;exact rfl;exact ke;exact rfl) | refine Wl.lss rfl rfl rfl ?_ | (apply Wl.buildS;exact rfl;exact ki;exact kc) | (apply Wl.lit;exact rfl;exact ki;exact rfl;exact rfl;exact kj;intro c hc ho) | (refine Wl.indexAddr1 rfl rfl rfl ?_ ?_;constructor <;> omega) | apply Wl.nil | apply St.seq | apply St.block | apply St.region | (apply St.condT;exact rfl;exact ka) | apply St.skip | apply Gt.next
  apply Wl.appendT (base := w.heap.size) (n := i) (m := 1) (sz := 35) (e := 44) (xs := (stas (newL p i)).flatten)
  ·exact rfl
  ·exact rfl
  ·exact rfl
  ·assumption
  ·exact rfl
  ·exact hv
  ·exact hoff
  ·exact rfl
  ·exact rfl
  ·decide
  ·unfold maxLen;omega
  ·omega
  ·exact s0
  intro v' w1 ho1 u1 _ hoff1
  have hov := ho1.one
  repeat' first | (apply Wl.store;exact rfl;exact rfl;exact hov;exact ke;exact kx) | refine Wl.move rfl rfl ?_ | refine Wl.nilCheck rfl rfl ?_ | refine Wl.fieldAddr0 rfl rfl ?_ | (refine Wl.addI rfl rfl rfl ?_ ?_;constructor <;> omega) | apply Wl.nil | apply St.region | apply Gt.next | apply Gt.inNormal
  apply Gt.round (i + 1,w1,v')
  rotate_left
  ·simp only;omega
  ·exact ke
  ·exact fun _ h => h
  ·refine ⟨hlt,hu0.comp u1 fun k hk hs => ?_,by rw [newL_succ];exact ho1,fun k hk => ?_⟩
   ·rcases hs with y | y | y
    ·exact y
    ·exact (hv.ge k y).1
    ·exact Classical.byContradiction fun hn => y ⟨fun e => hn qn,trivial⟩
   ·exact ⟨(hoff1 k hk).1.1,trivial⟩
 ·obtain rfl : i = n := by omega
  have hd : decide ((i : Int) < (i : Int)) = false := decide_eq_false ky
  obtain ⟨g,cp,J,rfl,hg1,hg2⟩ := hv.blk ky
  have hgo := hoff g rfl
  repeat' first | refine Wl.move rfl rfl ?_ | refine Wl.assign rfl rfl ?_ | refine Wl.lss rfl rfl rfl ?_ | apply Wl.nil | apply St.seq | apply St.region | (apply St.condF;exact rfl;exact ka) | apply St.ret | apply St.exit | apply Gt.next | apply Gt.thenExit | apply Gt.inExit | (apply Gt.out2;exact rfl;exact rfl;exact rfl;intro w' hp)
  refine ⟨wd,g,rfl,⟨⟨cp,J,by rw [newL_len];exact hp.own.at (.head _),hp.upd.heap hg2 fun y => y hgo⟩,fun x hx => ?_,by rw [newL_len];exact hn⟩,hwd,hg1,hp.on hu0 kb⟩
  obtain ⟨j,hj,rfl⟩ := List.mem_map.1 hx
  obtain ⟨b,o,_,_,h1,h2⟩ := hA j (List.mem_range.1 hj)
  exact ⟨xz_rg,⟨by show (0 : Int) ≤ 0;decide,by show (0 : Int) < 4294967296;decide⟩,h1,h2⟩
end Go.Proofs.YtabbklpalbikdaaGreatDoor
end
section
namespace Go.Pt
open Go.RowKit
def ChanB (w : World) (b cap : Nat) (l : List Value) : Prop := ∃ s r,w.heap[b]? = some (.chan cap l.toArray false s r false)
theorem ChanB.upd {S : Nat → Prop} {w w' : World} {b cap : Nat} {l : List Value} (h : ChanB w b cap l) (u : Upd S w w') (hs : ¬ S b) : ChanB w' b cap l := by
 obtain ⟨s,r,h⟩ := h
 exact ⟨s,r,u.heap h hs⟩
theorem ChanB.lt {w : World} {b cap : Nat} {l : List Value} (h : ChanB w b cap l) : b < w.heap.size := by
 obtain ⟨s,r,h⟩ := h
 exact (Array.getElem?_eq_some_iff.1 h).1
theorem runChan {P : Program} {w : World} {r room s rc : Nat} {buf : Array Value} {cl tm : Bool} (h : w.heap[r]? = some (.chan room buf cl s rc tm)) : (getObj r).run P w = .ok (.chan room buf cl s rc tm) w := by simp [getObj,Sem.run,h]
theorem Upd.setChan (w : World) (c cap : Nat) (buf : Array Value) (cl : Bool) (s r : Nat) (tm : Bool) : Upd (fun k => k = c) w (w.setChan c cap buf cl s r tm) :=
 ⟨rfl,rfl,rfl,by simp [World.setChan],fun k _ hs => by simp only [World.setChan];rw [Array.getElem?_setIfInBounds_ne (fun e => hs e.symm)]⟩
section
variable {P : Program} {md : Md} {N : Nat} {ops : Array Oper} {rest : List Oper} {Γ : Env} {C : World → Prop} {Q : Exit → Act → World → Prop} {d : Nat} {ty t e : TypeId} {pos : String} {af : Array Edge} {w0 : World} {H : List Blk}
theorem Wl.makeChan {x : Operand} {k : IntKind} {n sz : Nat} {dir : ChanDir} (ht : P.underlying t = some (.chan dir e)) (hi : (P.info? e).map (·.bytes) = some sz) (hn : (n : Int) ≤ 9223372036854775807) (hb : (sz : Int) * n ≤ 281474976710544) (hd : Nat.blt d N = true) (hx : ev Γ x = some (.int k n))
  (h : ∀ b w1,w0.heap.size ≤ b → ChanB w1 b n [] → Upd (fun j => ¬ Off H j) w0 w1 → Off H b → Wl rest P .seq ops N ((d,.chan (some b)) :: Γ) (Hp w1 H) Q) :
  Wl (⟨some d,.makeChan t x,ty,pos,af,none⟩ :: rest) P .seq ops N Γ (Hp w0 H) Q :=
 Wl.eff fun a w ha hw => by
  obtain ⟨i,hi1,hi2⟩ := Option.map_eq_some_iff.1 hi
  have u : Upd (fun _ => False) w (w.alloc (.chan n #[] false 0 0 false)) := Upd.alloc _ _ _
  have hc : ChanB (w.alloc (.chan n #[] false 0 0 false)) w.heap.size n [] := ⟨0,0,heap_alloc_new w _⟩
  refine ⟨.chan (some w.heap.size),w.alloc (.chan n #[] false 0 0 false),.inl ?_,(h w.heap.size _ hw.upd.size hc (hw.upd.trans (Upd.alloc _ _ _)) (Off.lt hw.own)).elim _ _ (ha.put hd _) ⟨Upd.refl _ _,hw.own.upd u fun _ _ h => h,hw.apart⟩⟩
  have hr := Go.Conc.run_makeChan (P := P) (w := w) ht hi1 k n hn (by rw [hi2];exact hb)
  simp [execOp,ha.ev hx,hr]
theorem Wl.lenChan {x : Operand} {b cap : Nat} {l : List Value} {dir : ChanDir} (ht : P.underlying t = some (.chan dir e)) (hd : Nat.blt d N = true) (hx : ev Γ x = some (.chan (some b))) (hc : ∀ w,C w → ChanB w b cap l) (h : Wl rest P md ops N ((d,.int .i64 (l.length : Int)) :: Γ) C Q) :
  Wl (⟨some d,.call { callee := .builtin .len,args := #[x],argTypes := #[t] },ty,pos,af,none⟩ :: rest) P md ops N Γ C Q :=
 Wl.val hd (fun a w ha hw => by
  obtain ⟨s,r,hb⟩ := hc w hw
  simp [execOp,resolve,invoke,builtin,Builtin.len_,ha.ev hx,run_underlying ht,goInt,runChan hb]) h
end
def wpN (P : Program) (c : Code) (Q : Exit → Act → World → Prop) (a : Act) (w : World) : Prop :=
 ∀ (b : Frame),b.kind = .normal → ∀ (k : List Item) (cs : List Frame),∃ e a' w',Q e a' w' ∧ Arrives P (lone (b.at a (.code c :: k)) cs w) b k cs e a' w'
def StN (c : Code) (P : Program) (N : Nat) (Γ : Env) (C : World → Prop) (Q : Exit → Act → World → Prop) : Prop := ∀ a w,Fr N a Γ → C w → wpN P c Q a w
def SmN (P : Program) (ops : Array Oper) (l : List Nat) (N : Nat) (Γ : Env) (C : World → Prop) (Q : Exit → Act → World → Prop) : Prop :=
 ∀ a w,Fr N a Γ → C w → ∀ (b : Frame),b.kind = .normal → ∀ (k : List Item) (cs : List Frame),∃ e a' w',Q e a' w' ∧ Arrives P (lone (b.at a (.inRegion ops l :: k)) cs w) b k cs e a' w'
section
variable {P : Program} {N : Nat} {Γ : Env} {C : World → Prop} {Q : Exit → Act → World → Prop}
theorem StN.of {c : Code} (h : St c P N Γ C Q) : StN c P N Γ C Q := fun a w ha hw b _ k cs => h.elim a w ha hw b k cs
theorem StN.seq {x y : Code} (h : StN x P N Γ C (Exit.then (wpN P y Q) Q)) : StN (.seq x y) P N Γ C Q := by
 intro a w ha hw b hb k cs
 obtain ⟨e,a₁,w₁,hq,harr⟩ := h a w ha hw b hb (.code y :: k) cs
 cases e with
 | normal =>
  obtain ⟨e₂,a₂,w₂,hq₂,harr₂⟩ := hq b hb k cs
  exact ⟨e₂,a₂,w₂,hq₂,.of_steps (.head step_seq harr) harr₂⟩
 | exit id => exact ⟨_,a₁,w₁,hq,.of_steps (.one step_seq) (.pass (x := .code y) rfl (fun _ _ => .inl qs) harr)⟩
 | goto l => exact ⟨_,a₁,w₁,hq,.of_steps (.one step_seq) (.pass (x := .code y) rfl (fun _ _ => .inl qs) harr)⟩
 | ret => exact ⟨_,a₁,w₁,hq,.of_steps (.one step_seq) (.pass (x := .code y) rfl (fun _ _ => .inl qs) harr)⟩
 | panic ch => exact ⟨_,a₁,w₁,hq,.of_steps (.one step_seq) (.pass (x := .code y) rfl (fun _ _ => .inl qs) harr)⟩
 | outgrown => exact ⟨_,a₁,w₁,hq,.of_steps (.one step_seq) (.pass (x := .code y) rfl (fun _ _ => .inl qs) harr)⟩
theorem GtN.next {y : Code} (h : StN y P N Γ C Q) : Gt N .normal Γ C (Exit.then (wpN P y Q) Q) := Gt.intro fun a w ha hw => h a w ha hw
theorem GtN.base {y : Code} {w0 : World} {H : List Blk} (h : ∀ w,Hp w0 H w → StN y P N Γ (Hp w H) Q) : StN y P N Γ (Hp w0 H) Q := fun a w ha hw => h w hw a w ha hw.rebase
theorem StN.block {i : Nat} {c : Code} (h : StN c P N Γ C (Exit.inBlock i Q)) : StN (.block i c) P N Γ C Q := by
 intro a w ha hw b hb k cs
 obtain ⟨e,a₁,w₁,hq,harr⟩ := h a w ha hw b hb (.inBlock i :: k) cs
 cases e with
 | normal => exact ⟨.normal,a₁,w₁,hq,.head step_block (Steps.trans harr (.one step_inBlock))⟩
 | exit id' =>
  by_cases hid : id' = i
  ·simp only [Exit.inBlock,hid,if_true] at hq
   exact ⟨.normal,a₁,w₁,hq,.head step_block (harr k (by simp [exitTo,hid]))⟩
  ·simp only [Exit.inBlock,hid,if_false] at hq
   refine ⟨.exit id',a₁,w₁,hq,fun k' hk => .head step_block (harr k' ?_)⟩
   have : (i == id') = false := by simp;exact fun h => hid h.symm
   simp [exitTo,this,hk]
 | goto l => exact ⟨_,a₁,w₁,hq,fun k' hk => .head step_block (harr k' (by simp [gotoIn,hk]))⟩
 | ret => exact ⟨_,a₁,w₁,hq,.of_steps (.one step_block) harr⟩
 | panic ch => exact ⟨_,a₁,w₁,hq,.of_steps (.one step_block) harr⟩
 | outgrown => exact ⟨_,a₁,w₁,hq,.of_steps (b := b) (k := k) (cs := cs) (e := .outgrown) (.one step_block) harr⟩
theorem StN.loop {σ : Type} (I : σ → Prop) (Γf : σ → Env) (Cf : σ → World → Prop) (μ : σ → Nat) {c : Code} (τ0 : σ) (h0 : I τ0) (hs : Sub Γ (Γf τ0)) (hc : ∀ w,C w → Cf τ0 w)
  (round : ∀ τ,I τ → StN c P N (Γf τ) (Cf τ) (Exit.then (fun a w => ∃ τ',I τ' ∧ μ τ' < μ τ ∧ Fr N a (Γf τ') ∧ Cf τ' w) Q)) : StN (.loop c) P N Γ C Q := by
 intro a w ha hw b hb k cs
 have key : ∀ n τ a w,μ τ = n → I τ → Fr N a (Γf τ) → Cf τ w →
   ∃ e a' w',Q e a' w' ∧ Arrives P (lone (b.at a (.code c :: .inLoop c :: k)) cs w) b k cs e a' w' := by
  intro n
  induction n using Nat.strongRecOn with
  | _ n ih =>
   intro τ a w hn hI hfr hC
   obtain ⟨e,a₁,w₁,hq,harr⟩ := round τ hI a w hfr hC b hb (.inLoop c :: k) cs
   cases e with
   | normal =>
    obtain ⟨τ',hI',hlt,hfr',hC'⟩ := hq
    obtain ⟨e₂,a₂,w₂,hq₂,harr₂⟩ := ih (μ τ') (hn ▸ hlt) τ' a₁ w₁ rfl hI' hfr' hC'
    exact ⟨e₂,a₂,w₂,hq₂,.of_steps (Steps.trans harr (.one step_inLoop)) harr₂⟩
   | exit id => exact ⟨_,a₁,w₁,hq,.pass (x := .inLoop c) rfl (fun _ _ => .inl qs) harr⟩
   | goto l => exact ⟨_,a₁,w₁,hq,.pass (x := .inLoop c) rfl (fun _ _ => .inl qs) harr⟩
   | ret => exact ⟨_,a₁,w₁,hq,.pass (x := .inLoop c) rfl (fun _ _ => .inl qs) harr⟩
   | panic ch => exact ⟨_,a₁,w₁,hq,.pass (x := .inLoop c) rfl (fun _ _ => .inl qs) harr⟩
   | outgrown => exact ⟨_,a₁,w₁,hq,.pass (x := .inLoop c) rfl (fun _ _ => .inl qs) harr⟩
 obtain ⟨e,a',w',hq,harr⟩ := key _ τ0 a w rfl h0 (ha.sub hs) (hc w hw)
 exact ⟨e,a',w',hq,.of_steps (.one step_loop) harr⟩
theorem StN.region {i : Nat} {l : List Oper} (h : SmN P l.toArray (List.range l.length) N Γ C Q) : StN (.region i l.toArray false) P N Γ C Q := by
 intro a w ha hw b hb k cs
 obtain ⟨e,a',w',q,r⟩ := h a w ha hw b hb k cs
 exact ⟨e,a',w',q,.of_steps (.one step_region) r⟩
theorem enterN {f : FuncId} {fn : Func} {c : Code} {args : List Value} {w : World} {R : Ending → World → Prop} (hf : P.funcs[f]? = some fn) (hn : fn.ntmps = N) (hb : fn.body = some c) (hN : args.length ≤ N) (hΓ : ArgEnv args Γ)
  (h : StN c P N Γ (Hp w []) (bodyPost P fn R)) : Calls P f args.toArray w R := by
 intro cs
 let b : Frame := { (default : Frame) with fn := f,kind := .normal }
 have henter : Frame.enter P f args.toArray .normal =
   b.at { tmps := args.toArray ++ Array.replicate (fn.ntmps - args.toArray.size) undef,defers := [] } [.code c] := by
  simp [Frame.enter,Frame.at,hf,hb,b]
 have hh := h _ w (Fr.start (N := N) hN hΓ.get) (Hp.start w) b rfl [] cs
 rw [← hn] at hh
 obtain ⟨e,a',w',hq,harr⟩ := hh
 rw [← henter] at harr
 cases e with
 | normal =>
  obtain ⟨hd,v,hr,hR⟩ := hq
  exact ⟨.returned v,w',_,hR,Steps.trans harr (.one step_end),rfl,rfl,hd,rfl,fn,hf,hr⟩
 | ret =>
  obtain ⟨hd,v,hr,hR⟩ := hq
  obtain ⟨todo,hs⟩ := harr
  exact ⟨.returned v,w',_,hR,hs,rfl,rfl,hd,rfl,fn,hf,hr⟩
 | panic chain =>
  obtain ⟨hd,hR⟩ := hq
  obtain ⟨todo,hs⟩ := harr
  exact ⟨.panicked chain,w',_,hR,hs,rfl,rfl,hd,fn,hf⟩
 | outgrown => exact ⟨.outgrown,w',b.at a' [],hq,harr.resolve_left (by simp [b]),rfl,trivial⟩
 | exit id => exact hq.elim
 | goto l => exact hq.elim
variable {ops : Array Oper} {rest : List Nat} {i : Nat} {o : Oper}
theorem SmN.nil (h : Gt N .normal Γ C Q) : SmN P ops [] N Γ C Q := fun a w ha hw b _ k cs => ⟨.normal,a,w,h.elim a w ha hw,.one step_region_end⟩
theorem SmN.of {kk : Nat} {r : List Oper} (hk : ∀ j,r[j]? = ops[kk + j]?) (h : Wl r P .seq ops N Γ C Q) : SmN P ops (List.range' kk r.length) N Γ C Q := fun a w ha hw b _ k cs => wp_ops _ a w (by rw [wpOps_eq_wpList r kk hk];exact h.elim a w ha hw) b k cs
theorem wanted_none {o : Oper} (hg : o.guard = none) (y : Nat → Option Bool) : Region.wanted o y = true := by simp [Region.wanted,hg]
theorem SmN.val {d : Nat} {v : Value} (ho : ops[i]? = some o) (hg : o.guard = none) (hdst : o.dst = some d) (hd : Nat.blt d N = true) (hr : ∀ a w,Fr N a Γ → C w → (execOp a.eval o).run P w = .ok (.value v) w)
  (h : SmN P ops rest N ((d,v) :: Γ) C Q) : SmN P ops (i :: rest) N Γ C Q := by
 intro a w ha hw b hb k cs
 obtain ⟨e,a',w',q,r⟩ := h (a.put (some d) v) w (ha.put hd v) hw b hb k cs
 refine ⟨e,a',w',q,.of_steps (.one (step_lone_go ?_)) r⟩
 have hg' := stepG_op (P := P) (b := b) (a := a) (k := k) (cs := cs) (w := w) (rest := rest) ho (wanted_none hg _)
 have hfin : (b.at a (.inRegion ops (i :: rest) :: k)).finish v = b.at (a.put (some d) v) (.inRegion ops rest :: k) := by rw [Frame.finish_at,ho,← hdst];rfl
 rw [hg',← hfin];simp [stepG.apply,hr a w ha hw]
end
section
variable {P : Program} {N : Nat} {Γ : Env} {Q : Exit → Act → World → Prop} {ops : Array Oper} {rest : List Nat} {i : Nat} {o : Oper} {w0 : World} {H : List Blk} {d c cap : Nat} {l : List Value} {v z : Value}
theorem SmN.send {ch x : Operand} (ho : ops[i]? = some o) (hg : o.guard = none) (hd : o.dst = none) (hop : o.op = .send ch x) (hc : ev Γ ch = some (.chan (some c))) (hx : ev Γ x = some v) (hC : ChanB w0 c cap l) (hl : l.length < cap) (hoff : Off H c)
  (h : ∀ w1,ChanB w1 c cap (l ++ [v]) → Upd (fun j => j = c ∨ ¬ Off H j) w0 w1 → SmN P ops rest N Γ (Hp w1 H) Q) : SmN P ops (i :: rest) N Γ (Hp w0 H) Q := by
 intro a w ha hw b hb k cs
 obtain ⟨s,r,hcw⟩ := hC.upd hw.upd fun y => y hoff
 have hr : (execOp a.eval o).run P w = .ok (.comm #[Go.Conc.scase c v (.tuple #[])] true .send) w := by
  obtain ⟨d',op',ty',pos',af',g'⟩ := o
  simp only at hop
  subst hop
  simp [execOp,ha.ev hc,ha.ev hx,Go.Conc.scase,Sem.run,pure]
 have hst := Go.Conc.stepG_comm (P := P) (b := b) (a := a) (k := k) (cs := cs) (w := w) (main := true) (rest := rest) ho (wanted_none hg _) (by rw [hb];decide) hr
 have hs2 := Go.Conc.step_lone_send_room hst hcw (by simpa using hl)
 have hfin : (b.at a (.inRegion ops (i :: rest) :: k)).finish undef = b.at (a.put none undef) (.inRegion ops rest :: k) := by rw [Frame.finish_at,ho,← hd];rfl
 rw [hfin] at hs2
 have hlt : c < w.heap.size := (Array.getElem?_eq_some_iff.1 hcw).1
 have hu := Upd.setChan w c cap (l.toArray.push v) false (s + 1) r false
 obtain ⟨e,a',w',q,rr⟩ := h _ ⟨s + 1,r,by rw [Go.Conc.heap_setChan _ _ _ _ _ _ _ _ hlt];simp⟩ ((hw.upd.mono fun _ _ y => .inr y).trans (hu.mono fun _ _ y => .inl y)) (a.put none undef) _ (ha.put0 _) ⟨Upd.refl _ _,hw.own.upd hu fun x hx e => hoff.at hx e,hw.apart⟩ b hb k cs
 exact ⟨e,a',w',q,.of_steps (.one hs2) rr⟩
theorem SmN.recv {ch : Operand} {t : TypeId} {zv : Value} (ho : ops[i]? = some o) (hg : o.guard = none) (hd : o.dst = some d) (hdN : Nat.blt d N = true) (hop : o.op = .recv t ch false) (hz : ∀ w,(execOp (fun _ => .chan (some c)) o).run P w = .ok (.comm #[Go.Conc.rcase c zv] true (.recv false)) w) (hc : ev Γ ch = some (.chan (some c))) (hC : ChanB w0 c cap (v :: l)) (hoff : Off H c)
  (h : ∀ w1,ChanB w1 c cap l → Upd (fun j => j = c ∨ ¬ Off H j) w0 w1 → SmN P ops rest N ((d,v) :: Γ) (Hp w1 H) Q) : SmN P ops (i :: rest) N Γ (Hp w0 H) Q := by
 intro a w ha hw b hb k cs
 obtain ⟨s,r,hcw⟩ := hC.upd hw.upd fun y => y hoff
 have hr : (execOp a.eval o).run P w = .ok (.comm #[Go.Conc.rcase c zv] true (.recv false)) w := by
  have := hz w
  obtain ⟨d',op',ty',pos',af',g'⟩ := o
  simp only at hop
  subst hop
  simp only [execOp,ha.ev hc] at this ⊢
  exact this
 have hst := Go.Conc.stepG_comm (P := P) (b := b) (a := a) (k := k) (cs := cs) (w := w) (main := true) (rest := rest) ho (wanted_none hg _) (by rw [hb];decide) hr
 have hs2 := Go.Conc.step_lone_recv_buf false hst hcw qs
 have hfin : (b.at a (.inRegion ops (i :: rest) :: k)).finish v = b.at (a.put (some d) v) (.inRegion ops rest :: k) := by rw [Frame.finish_at,ho,← hd];rfl
 have e1 : Go.Conc.got false ((v :: l).toArray.getD 0 undef) true = v := by simp [Go.Conc.got]
 rw [e1,hfin] at hs2
 have hlt : c < w.heap.size := (Array.getElem?_eq_some_iff.1 hcw).1
 have hu := Upd.setChan w c cap ((v :: l).toArray.extract 1 (v :: l).toArray.size) false s (r + 1) false
 obtain ⟨e,a',w',q,rr⟩ := h _ ⟨s,r + 1,by rw [Go.Conc.heap_setChan _ _ _ _ _ _ _ _ hlt];simp⟩ ((hw.upd.mono fun _ _ y => .inr y).trans (hu.mono fun _ _ y => .inl y)) (a.put (some d) v) _ (ha.put hdN _) ⟨Upd.refl _ _,hw.own.upd hu fun x hx e => hoff.at hx e,hw.apart⟩ b hb k cs
 exact ⟨e,a',w',q,.of_steps (.one hs2) rr⟩
theorem SmN.selSend {ch x : Operand} {t : TypeId} {zv : Value} (ho : ops[i]? = some o) (hg : o.guard = none) (hd : o.dst = some d) (hdN : Nat.blt d N = true) (hz : ∀ w a,Fr N a Γ → (execOp a.eval o).run P w = .ok (.comm #[Go.Conc.scase c v zv] false .select) w) (hC : ChanB w0 c cap l) (hoff : Off H c)
  (h1 : l.length < cap → ∀ w1,ChanB w1 c cap (l ++ [v]) → Upd (fun j => j = c ∨ ¬ Off H j) w0 w1 → SmN P ops rest N ((d,.tuple #[.int .i64 0,.bool false]) :: Γ) (Hp w1 H) Q)
  (h2 : cap ≤ l.length → SmN P ops rest N ((d,.tuple #[.int .i64 (-1),.bool false]) :: Γ) (Hp w0 H) Q) : SmN P ops (i :: rest) N Γ (Hp w0 H) Q := by
 intro a w ha hw b hb k cs
 obtain ⟨s,r,hcw⟩ := hC.upd hw.upd fun y => y hoff
 have hst := Go.Conc.stepG_comm (P := P) (b := b) (a := a) (k := k) (cs := cs) (w := w) (main := true) (rest := rest) ho (wanted_none hg _) (by rw [hb];decide) (hz w a ha)
 have hfin : ∀ v,(b.at a (.inRegion ops (i :: rest) :: k)).finish v = b.at (a.put (some d) v) (.inRegion ops rest :: k) := fun v => by rw [Frame.finish_at,ho,← hd];rfl
 have hlt : c < w.heap.size := (Array.getElem?_eq_some_iff.1 hcw).1
 by_cases hl : l.length < cap
 ·have hs2 := Go.Conc.step_lone_select_send_room hst hcw (by simpa using hl)
  rw [hfin] at hs2
  have hu := Upd.setChan w c cap (l.toArray.push v) false (s + 1) r false
  obtain ⟨e,a',w',q,rr⟩ := h1 hl _ ⟨s + 1,r,by rw [Go.Conc.heap_setChan _ _ _ _ _ _ _ _ hlt];simp⟩ ((hw.upd.mono fun _ _ y => .inr y).trans (hu.mono fun _ _ y => .inl y)) (a.put (some d) _) _ (ha.put hdN _) ⟨Upd.refl _ _,hw.own.upd hu fun x hx e => hoff.at hx e,hw.apart⟩ b hb k cs
  exact ⟨e,a',w',q,.of_steps (.one hs2) rr⟩
 ·have hs2 := Go.Conc.step_lone_select_send_full hst hcw zx
  rw [hfin] at hs2
  obtain ⟨e,a',w',q,rr⟩ := h2 ky (a.put (some d) _) _ (ha.put hdN _) hw b hb k cs
  exact ⟨e,a',w',q,.of_steps (.one hs2) rr⟩
theorem SmN.selRecv {zv : Value} (ho : ops[i]? = some o) (hg : o.guard = none) (hd : o.dst = some d) (hdN : Nat.blt d N = true) (hz : ∀ w a,Fr N a Γ → (execOp a.eval o).run P w = .ok (.comm #[Go.Conc.rcase c zv] false .select) w) (hC : ChanB w0 c cap l) (hoff : Off H c)
  (h1 : ∀ v r,l = v :: r → ∀ w1,ChanB w1 c cap r → Upd (fun j => j = c ∨ ¬ Off H j) w0 w1 → SmN P ops rest N ((d,.tuple #[.int .i64 0,.bool true,v]) :: Γ) (Hp w1 H) Q)
  (h2 : l = [] → SmN P ops rest N ((d,.tuple #[.int .i64 (-1),.bool false,zv]) :: Γ) (Hp w0 H) Q) : SmN P ops (i :: rest) N Γ (Hp w0 H) Q := by
 intro a w ha hw b hb k cs
 obtain ⟨s,r,hcw⟩ := hC.upd hw.upd fun y => y hoff
 have hst := Go.Conc.stepG_comm (P := P) (b := b) (a := a) (k := k) (cs := cs) (w := w) (main := true) (rest := rest) ho (wanted_none hg _) (by rw [hb];decide) (hz w a ha)
 have hfin : ∀ v,(b.at a (.inRegion ops (i :: rest) :: k)).finish v = b.at (a.put (some d) v) (.inRegion ops rest :: k) := fun v => by rw [Frame.finish_at,ho,← hd];rfl
 have hlt : c < w.heap.size := (Array.getElem?_eq_some_iff.1 hcw).1
 cases l with
 | nil =>
  have hs2 := Go.Conc.step_lone_select_default hst hcw
  rw [hfin] at hs2
  obtain ⟨e,a',w',q,rr⟩ := h2 rfl (a.put (some d) _) _ (ha.put hdN _) hw b hb k cs
  exact ⟨e,a',w',q,.of_steps (.one hs2) rr⟩
 | cons v l =>
  have hs2 := Go.Conc.step_lone_select_recv_buf hst hcw qs
  rw [hfin] at hs2
  have hu := Upd.setChan w c cap ((v :: l).toArray.extract 1 (v :: l).toArray.size) false s (r + 1) false
  obtain ⟨e,a',w',q,rr⟩ := h1 v l rfl _ ⟨s,r + 1,by rw [Go.Conc.heap_setChan _ _ _ _ _ _ _ _ hlt];simp⟩ ((hw.upd.mono fun _ _ y => .inr y).trans (hu.mono fun _ _ y => .inl y)) (a.put (some d) _) _ (ha.put hdN _) ⟨Upd.refl _ _,hw.own.upd hu fun x hx e => hoff.at hx e,hw.apart⟩ b hb k cs
  refine ⟨e,a',w',q,.of_steps (.one ?_) rr⟩
  have e1 : (v :: l).toArray.getD 0 undef = v := by simp
  rw [e1] at hs2
  exact hs2
end
end Go.Pt
end
section
namespace Go.Proofs.YtabbklpalbikdaaGreatDoor
open Go.RowKit Go.Pt
def chs (cs : List Nat) : List Value := cs.map fun c => .chan (some c)
def PostS (w : World) (pp pa : Nat) (cs : List Nat) (bx : Nat → List Value) : Prop :=
 (∃ cap J,w.heap[pp]? = some (.cells #[.slice (some ⟨pa,0,none⟩) cs.length cap] 255 (0,0)) ∧ w.heap[pa]? = some (.cells (chs cs ++ J).toArray 232 (0,0))) ∧ (∀ (i : Nat) (c : Nat),cs[i]? = some c → ChanB w c 4 (bx i)) ∧ (∀ (i j : Nat) (c : Nat),cs[i]? = some c → cs[j]? = some c → i = j) ∧ 1 ≤ cs.length ∧ cs.length ≤ 4
theorem PostS.upd {w w' : World} {pp pa : Nat} {cs : List Nat} {bx : Nat → List Value} {S : Nat → Prop} (k : PostS w pp pa cs bx) (u : Upd S w w') (h1 : ¬ S pp) (h2 : ¬ S pa) (h3 : ∀ c ∈ cs,¬ S c) : PostS w' pp pa cs bx := by
 obtain ⟨⟨cap,J,a,b⟩,hc,r⟩ := k
 exact ⟨⟨cap,J,u.heap a h1,u.heap b h2⟩,fun i c hi => (hc i c hi).upd u (h3 c (List.mem_of_getElem? hi)),r⟩
theorem PostS.lt {w : World} {pp pa : Nat} {cs : List Nat} {bx : Nat → List Value} (k : PostS w pp pa cs bx) : pp < w.heap.size ∧ pa < w.heap.size ∧ ∀ c ∈ cs,c < w.heap.size := by
 obtain ⟨⟨cap,J,a,b⟩,hc,r⟩ := k
 refine ⟨lt_of_block a,lt_of_block b,fun c hm => ?_⟩
 obtain ⟨i,hi⟩ := List.mem_iff_getElem?.1 hm
 exact (hc i c hi).lt
theorem chs_at {cs : List Nat} {J : List Value} {i c : Nat} (h : cs[i]? = some c) : (chs cs ++ J)[i]? = some (.chan (some c)) := by
 have hl := (List.getElem?_eq_some_iff.1 h).1
 rw [List.getElem?_append_left (by unfold chs;rw [List.length_map];exact hl)]
 unfold chs
 rw [List.getElem?_map,h];rfl
theorem pBox (pp pa : Nat) (cs : List Nat) (bx : Nat → List Value) (i c : Nat) (w : World) (hP : PostS w pp pa cs bx) (hi : cs[i]? = some c) :
  Calls Tryz.prog 126 #[.pointer (some ⟨pp,0,none⟩),.int .i64 i] w fun e w' => e = .returned (.chan (some c)) ∧ Hp w [] w' := by
 have hil := (List.getElem?_eq_some_iff.1 hi).1
 obtain ⟨⟨cap,J,a,b⟩,hc,r⟩ := hP
 have p0 : w.cell? ⟨pp,0,none⟩ = some (.slice (some ⟨pa,0,none⟩) cs.length cap) := cell_of a rfl
 have p1 : w.cell? ⟨pa,0 + (i : Int).toNat,none⟩ = some (.chan (some c)) := by
  rw [Int.toNat_natCast,Nat.zero_add]
  exact cell_of b (chs_at hi)
 have hd0 : decide ((i : Int) < 0) = false := decide_eq_false ky
 have hd1 : decide ((i : Int) ≥ (cs.length : Int)) = false := decide_eq_false ky
 refine enter (args := [_,_]) (Γ := [(0,_),(1,_)]) Tryz.func126 Tryz.ntmps126 rfl odq (.cons rfl (.cons rfl .nil)) ?_
 repeat' first | (apply Wl.loadO;exact rfl;exact rfl;exact zw;exact kh) | refine Wl.move rfl rfl ?_ | refine Wl.assign rfl rfl ?_ | (apply Wl.on;exact rfl;exact rfl;exact ka) | refine Wl.nilCheck rfl rfl ?_ | (apply Wl.pickF;exact rfl;exact rfl;exact ka;exact rfl) | refine Wl.fieldAddr0 rfl rfl ?_ | refine Wl.eqlPN rfl rfl rfl ?_ | refine Wl.lss rfl rfl rfl ?_ | refine Wl.geq rfl rfl rfl ?_ | refine Wl.len rfl rfl ?_ | (refine Wl.indexAddr1 rfl rfl rfl ?_ ?_;constructor <;> omega) | apply Wl.nil | apply St.seq | apply St.region | (apply St.condF;exact rfl;exact ka) | apply St.ret | apply St.skip | apply Gt.next | (apply Gt.out1;exact rfl;exact rfl;intro w' hp)
 exact ⟨rfl,hp⟩
theorem chTy : Tryz.prog.underlying 232 = some (.chan .both 78) := by kernel_rfl
theorem pCount (pp pa : Nat) (cs : List Nat) (bx : Nat → List Value) (i : Nat) (w : World) (hP : PostS w pp pa cs bx) (hi : i < cs.length) :
  Calls Tryz.prog 82 #[.pointer (some ⟨pp,0,none⟩),.int .i64 i] w fun e w' => e = .returned (.int .i64 (bx i).length) ∧ Hp w [] w' := by
 obtain ⟨c,hc⟩ : ∃ c,cs[i]? = some c := ⟨_,List.getElem?_eq_getElem hi⟩
 have hch := hP.2.1 i c hc
 refine enter (args := [_,_]) (Γ := [(0,_),(1,_)]) Tryz.func82 Tryz.ntmps82 rfl odq (.cons rfl (.cons rfl .nil)) ?_
 repeat' first | refine Wl.move rfl rfl ?_ | refine Wl.assign rfl rfl ?_ | apply Wl.nil | apply St.seq | apply St.region | apply Gt.next
 apply Wl.callQ
 exact rfl
 (focus repeat constructor)
 ·intro wq hq
  exact hq.q (pBox pp pa cs bx i c wq (hP.upd hq.upd nt0 nt0 fun _ _ y => y trivial) hc)
 repeat' first | (apply Wl.lenChan (b := c) (cap := 4) (l := bx i) chTy;exact rfl;exact rfl;(intro w' h';exact hch.upd h'.upd fun y => y trivial)) | refine Wl.assign rfl rfl ?_ | apply Wl.nil | apply St.ret | apply Gt.next | (apply Gt.out1;exact rfl;exact rfl;intro w' hp)
 exact ⟨rfl,hp⟩
theorem pNew (n : Nat) (w : World) (hn : 1 ≤ n ∧ n ≤ 4) :
  Calls Tryz.prog 88 #[.int .i64 n] w fun e w' => ∃ pp pa cs,e = .returned (.tuple #[.pointer (some ⟨pp,0,none⟩),.int .i64 0]) ∧ PostS w' pp pa cs (fun _ => []) ∧ cs.length = n ∧ w.heap.size ≤ pp ∧ w.heap.size ≤ pa ∧ (∀ c ∈ cs,w.heap.size ≤ c) ∧ Upd (fun k => w.heap.size ≤ k) w w' := by
 have hd1 : decide ((n : Int) < 1) = false := decide_eq_false ky
 have hd2 : decide ((n : Int) > 4) = false := decide_eq_false ky
 refine enter (args := [_]) (Γ := [(0,_)]) Tryz.func88 Tryz.ntmps88 rfl odq (.cons rfl .nil) ?_
 repeat' first | refine Wl.move rfl rfl ?_ | refine Wl.assign rfl rfl ?_ | (apply Wl.on;exact rfl;exact rfl;exact ka) | (apply Wl.pickF;exact rfl;exact rfl;exact ka;exact rfl) | refine Wl.lss rfl rfl rfl ?_ | refine Wl.gtr rfl rfl rfl ?_ | (apply Wl.buildS;exact rfl;exact ki;exact kc) | (apply Wl.boxA;exact rfl;exact rfl;intro c hc ho) | apply Wl.nil | apply St.seq | apply St.block | apply St.region | (apply St.condF;exact rfl;exact ka) | apply St.skip | apply Gt.next
 generalize c = pp at *
 have hpp : w.heap.size ≤ pp := by assumption
 refine St.loop (σ := Nat × World × Value × List Nat) (fun τ => τ.1 ≤ n ∧ Upd (fun k => w.heap.size ≤ k) w τ.2.1 ∧ τ.2.1.ownsRow w.heap.size 232 1 τ.2.2.1 τ.1 (chs τ.2.2.2) ∧ (∀ k,τ.2.2.1.ownBlock = some k → k ≠ pp ∧ ∀ c ∈ τ.2.2.2,k ≠ c) ∧ τ.2.2.2.length = τ.1 ∧ (∀ c ∈ τ.2.2.2,w.heap.size ≤ c ∧ c ≠ pp ∧ ChanB τ.2.1 c 4 []) ∧ (∀ (i j c : Nat),τ.2.2.2[i]? = some c → τ.2.2.2[j]? = some c → i = j))
  (fun τ => [(4,.pointer (some ⟨pp,0,none⟩)),(13,.int .i64 (n : Int)),(14,.int .i64 (τ.1 : Int))]) (fun τ => Hp τ.2.1 [⟨pp,[τ.2.2.1],255⟩]) (fun τ => n - τ.1) (0,w,.slice none 0 0,[]) ⟨Nat.zero_le _,Upd.refl _ _,World.ownsRow_nil w _ _ _,(fun k hk => by cases hk),rfl,(fun c hc => by cases hc),(fun i j c hc => by cases hc)⟩ kw (fun _ h => h) ?_
 rintro ⟨i,w0,v,cs⟩ ⟨hi,hu0,hv,hoff,hcl,hch,hnd⟩
 simp only at hi hu0 hv hoff hcl hch hnd ⊢
 have s0 := hu0.size
 by_cases hlt : i < n
 ·have hd : decide ((i : Int) < (n : Int)) = true := decide_eq_true ky
  repeat' first | refine Wl.lss rfl rfl rfl ?_ | apply Wl.nil | apply St.seq | apply St.block | apply St.region | (apply St.condT;exact rfl;exact ka) | apply St.skip | apply Gt.next
  refine St.tree (fun _ => True) mixed (fun _ h' => ⟨Hp.drew h',trivial⟩) ?_
  refine Mt.pm 0 ?_
  refine Mt.pm 1 ?_
  refine Mt.pn 2 ?_
  refine Mt.pf 3 ?_
  refine Mt.eff2 (i := 4) (j := 5) kg zd zd ?_ ?_
  ·repeat' first | (apply Wl.loadH;exact rfl;exact rfl;exact ke;exact rfl) | apply Wl.nil
   refine Mt.backE (fun _ _ => trivial) ?_
   refine Mt.e1 5 ?_
   apply Wl.makeChan (n := 4) (sz := 24) chTy
   ·kernel_rfl
   ·decide
   ·decide
   ·exact rfl
   ·exact rfl
   intro cn w1 hcn hC1 u1 hoC
   have s1 := u1.size
   have lc := hC1.lt
   have lpp := hoC.1
   simp only at lpp
   apply Wl.nil
   refine Mt.backE (fun _ _ => trivial) ?_
   refine Mt.e1 6 ?_
   repeat' first | (apply Wl.lit;exact rfl;exact ki;exact rfl;exact rfl;exact kj;intro c hc ho) | apply Wl.nil
   generalize c = c6 at *
   have hc6 : w1.heap.size ≤ c6 := by assumption
   refine Mt.backE (fun _ _ => trivial) ?_
   have hv1 : w1.ownsRow w.heap.size 232 1 v i (chs cs) := ownsRow_upd hv u1 fun k hk y => y ⟨fun e => (hoff k hk).1 e.symm,trivial⟩
   refine Mt.e1 7 ?_
   apply Wl.appendT (base := w.heap.size) (n := i) (m := 1) (sz := 1) (e := 232) (xs := chs cs)
   ·exact rfl
   ·exact rfl
   ·exact rfl
   ·assumption
   ·exact rfl
   ·exact hv1
   ·exact fun k hk => ⟨fun e => (hoff k hk).1 e.symm,trivial⟩
   ·exact rfl
   ·exact rfl
   ·decide
   ·unfold maxLen;omega
   ·omega
   ·omega
   intro v' w2 ho2 u2 _ hoff2
   have hov := ho2.one
   have s2 := u2.size
   apply Wl.nil
   refine Mt.backE (fun _ _ => trivial) ?_
   refine Mt.pn 8 ?_
   refine Mt.pf 9 ?_
   refine Mt.e1 10 ?_
   repeat' first | (apply Wl.store;exact rfl;exact rfl;exact hov;exact ke;exact kx) | apply Wl.nil
   refine Mt.backE (fun _ _ => trivial) ?_
   refine Mt.toGt kg ?_
   repeat' first | refine Wl.move rfl rfl ?_ | (refine Wl.addI rfl rfl rfl ?_ ?_;constructor <;> omega) | apply Wl.nil | apply St.region | apply Gt.next | apply Gt.inNormal
   have hC2 : ChanB w2 cn 4 [] := hC1.upd u2 fun y => by
    rcases y with y | y
    ·have := hv.ge cn y
     omega
    ·exact y ⟨fun e => hoC.1 e,trivial⟩
   have hoo : ∀ c ∈ cs,ChanB w2 c 4 [] := fun c hc => ((hch c hc).2.2.upd u1 fun y => y ⟨fun e => (hch c hc).2.1 e.symm,trivial⟩).upd u2 fun y => by
    rcases y with y | y
    ·exact (hoff c y).2 c hc rfl
    ·exact y ⟨fun e => (hch c hc).2.1 e.symm,trivial⟩
   have hlt0 : ∀ c ∈ cs,c < w0.heap.size := fun c hc => (hch c hc).2.2.lt
   apply Gt.round (i + 1,w2,v',cs ++ [cn])
   rotate_left
   ·simp only;omega
   ·exact ke
   ·exact fun _ h => h
   ·refine ⟨hlt,(hu0.comp u1 fun k hk hs => hs.elim id fun y => Classical.byContradiction fun hn => y ⟨fun e => hn qn,trivial⟩).comp u2 fun k hk hs => ?_,by rw [show chs (cs ++ [cn]) = chs cs ++ [.chan (some cn)] by simp [chs]];exact ho2,fun k hk => ?_,by simp [hcl],fun c hc => ?_,fun j j' c h1 h2 => ?_⟩
    ·rcases hs with y | y | y
     ·exact y
     ·exact (hv.ge k y).1
     ·exact Classical.byContradiction fun hn => y ⟨fun e => hn qn,trivial⟩
    ·have hkk := hoff2 k hk
     refine ⟨fun e => hkk.1.1 e.symm,fun c hc e => ?_⟩
     subst e
     rcases List.mem_append.1 hc with hc | hc
     ·rcases hkk.2 with y | y
      ·exact (hoff k y).2 k hc rfl
      ·have := hlt0 k hc;omega
     ·rw [List.mem_singleton.1 hc] at hkk
      rcases hkk.2 with y | y
      ·have := hv.ge cn y;omega
      ·omega
    ·rcases List.mem_append.1 hc with hc | hc
     ·exact ⟨(hch c hc).1,(hch c hc).2.1,hoo c hc⟩
     ·rw [List.mem_singleton.1 hc]
      exact ⟨by omega,fun e => lpp e.symm,hC2⟩
    ·have key : ∀ (j : Nat) (c : Nat),(cs ++ [cn])[j]? = some c → (j < cs.length ∧ cs[j]? = some c ∧ c < w0.heap.size) ∨ (j = cs.length ∧ c = cn) := fun j c h => by
      by_cases hj : j < cs.length
      ·rw [List.getElem?_append_left hj] at h
       exact .inl ⟨hj,h,hlt0 c (List.mem_of_getElem? h)⟩
      ·rw [List.getElem?_append_right ky] at h
       have : j - cs.length = 0 := by
        rcases hz : j - cs.length with _ | z
        ·rfl
        ·rw [hz] at h;simp at h
       rw [this] at h
       simp at h
       exact .inr ⟨by omega,h.symm⟩
     rcases key j c h1 with ⟨a1,a2,a3⟩ | ⟨a1,a2⟩ <;> rcases key j' c h2 with ⟨b1,b2,b3⟩ | ⟨b1,b2⟩
     ·exact hnd j j' c a2 b2
     ·omega
     ·omega
     ·omega
  ·apply Wl.makeChan (n := 4) (sz := 24) chTy
   ·kernel_rfl
   ·decide
   ·decide
   ·exact rfl
   ·exact rfl
   intro cn w1 hcn hC1 u1 hoC
   have s1 := u1.size
   have lc := hC1.lt
   have lpp := hoC.1
   simp only at lpp
   apply Wl.nil
   refine Mt.backE (fun _ _ => trivial) ?_
   refine Mt.eff2 (i := 4) (j := 6) kg zd zd ?_ ?_
   ·repeat' first | (apply Wl.loadH;exact rfl;exact rfl;exact ke;exact rfl) | apply Wl.nil
    refine Mt.backE (fun _ _ => trivial) ?_
    refine Mt.e1 6 ?_
    repeat' first | (apply Wl.lit;exact rfl;exact ki;exact rfl;exact rfl;exact kj;intro c hc ho) | apply Wl.nil
    generalize c = c6 at *
    have hc6 : w1.heap.size ≤ c6 := by assumption
    refine Mt.backE (fun _ _ => trivial) ?_
    have hv1 : w1.ownsRow w.heap.size 232 1 v i (chs cs) := ownsRow_upd hv u1 fun k hk y => y ⟨fun e => (hoff k hk).1 e.symm,trivial⟩
    refine Mt.e1 7 ?_
    apply Wl.appendT (base := w.heap.size) (n := i) (m := 1) (sz := 1) (e := 232) (xs := chs cs)
    ·exact rfl
    ·exact rfl
    ·exact rfl
    ·assumption
    ·exact rfl
    ·exact hv1
    ·exact fun k hk => ⟨fun e => (hoff k hk).1 e.symm,trivial⟩
    ·exact rfl
    ·exact rfl
    ·decide
    ·unfold maxLen;omega
    ·omega
    ·omega
    intro v' w2 ho2 u2 _ hoff2
    have hov := ho2.one
    have s2 := u2.size
    apply Wl.nil
    refine Mt.backE (fun _ _ => trivial) ?_
    refine Mt.pn 8 ?_
    refine Mt.pf 9 ?_
    refine Mt.e1 10 ?_
    repeat' first | (apply Wl.store;exact rfl;exact rfl;exact hov;exact ke;exact kx) | apply Wl.nil
    refine Mt.backE (fun _ _ => trivial) ?_
    refine Mt.toGt kg ?_
    repeat' first | refine Wl.move rfl rfl ?_ | (refine Wl.addI rfl rfl rfl ?_ ?_;constructor <;> omega) | apply Wl.nil | apply St.region | apply Gt.next | apply Gt.inNormal
    have hC2 : ChanB w2 cn 4 [] := hC1.upd u2 fun y => by
     rcases y with y | y
     ·have := hv.ge cn y
      omega
     ·exact y ⟨fun e => hoC.1 e,trivial⟩
    have hoo : ∀ c ∈ cs,ChanB w2 c 4 [] := fun c hc => ((hch c hc).2.2.upd u1 fun y => y ⟨fun e => (hch c hc).2.1 e.symm,trivial⟩).upd u2 fun y => by
     rcases y with y | y
     ·exact (hoff c y).2 c hc rfl
     ·exact y ⟨fun e => (hch c hc).2.1 e.symm,trivial⟩
    have hlt0 : ∀ c ∈ cs,c < w0.heap.size := fun c hc => (hch c hc).2.2.lt
    apply Gt.round (i + 1,w2,v',cs ++ [cn])
    rotate_left
    ·simp only;omega
    ·exact ke
    ·exact fun _ h => h
    ·refine ⟨hlt,(hu0.comp u1 fun k hk hs => hs.elim id fun y => Classical.byContradiction fun hn => y ⟨fun e => hn qn,trivial⟩).comp u2 fun k hk hs => ?_,by rw [show chs (cs ++ [cn]) = chs cs ++ [.chan (some cn)] by simp [chs]];exact ho2,fun k hk => ?_,by simp [hcl],fun c hc => ?_,fun j j' c h1 h2 => ?_⟩
     ·rcases hs with y | y | y
      ·exact y
      ·exact (hv.ge k y).1
      ·exact Classical.byContradiction fun hn => y ⟨fun e => hn qn,trivial⟩
     ·have hkk := hoff2 k hk
      refine ⟨fun e => hkk.1.1 e.symm,fun c hc e => ?_⟩
      subst e
      rcases List.mem_append.1 hc with hc | hc
      ·rcases hkk.2 with y | y
       ·exact (hoff k y).2 k hc rfl
       ·have := hlt0 k hc;omega
      ·rw [List.mem_singleton.1 hc] at hkk
       rcases hkk.2 with y | y
       ·have := hv.ge cn y;omega
       ·omega
     ·rcases List.mem_append.1 hc with hc | hc
      ·exact ⟨(hch c hc).1,(hch c hc).2.1,hoo c hc⟩
      ·rw [List.mem_singleton.1 hc]
       exact ⟨by omega,fun e => lpp e.symm,hC2⟩
     ·have key : ∀ (j : Nat) (c : Nat),(cs ++ [cn])[j]? = some c → (j < cs.length ∧ cs[j]? = some c ∧ c < w0.heap.size) ∨ (j = cs.length ∧ c = cn) := fun j c h => by
       by_cases hj : j < cs.length
       ·rw [List.getElem?_append_left hj] at h
        exact .inl ⟨hj,h,hlt0 c (List.mem_of_getElem? h)⟩
       ·rw [List.getElem?_append_right ky] at h
        have : j - cs.length = 0 := by
         rcases hz : j - cs.length with _ | z
         ·rfl
         ·rw [hz] at h;simp at h
        rw [this] at h
        simp at h
        exact .inr ⟨by omega,h.symm⟩
      rcases key j c h1 with ⟨a1,a2,a3⟩ | ⟨a1,a2⟩ <;> rcases key j' c h2 with ⟨b1,b2,b3⟩ | ⟨b1,b2⟩
      ·exact hnd j j' c a2 b2
      ·omega
      ·omega
      ·omega
   ·repeat' first | (apply Wl.lit;exact rfl;exact ki;exact rfl;exact rfl;exact kj;intro c hc ho) | apply Wl.nil
    generalize c = c6 at *
    have hc6 : w1.heap.size ≤ c6 := by assumption
    refine Mt.backE (fun _ _ => trivial) ?_
    refine Mt.e1 4 ?_
    repeat' first | (apply Wl.loadH;exact rfl;exact rfl;exact ke;exact rfl) | apply Wl.nil
    refine Mt.backE (fun _ _ => trivial) ?_
    have hv1 : w1.ownsRow w.heap.size 232 1 v i (chs cs) := ownsRow_upd hv u1 fun k hk y => y ⟨fun e => (hoff k hk).1 e.symm,trivial⟩
    refine Mt.e1 7 ?_
    apply Wl.appendT (base := w.heap.size) (n := i) (m := 1) (sz := 1) (e := 232) (xs := chs cs)
    ·exact rfl
    ·exact rfl
    ·exact rfl
    ·assumption
    ·exact rfl
    ·exact hv1
    ·exact fun k hk => ⟨fun e => (hoff k hk).1 e.symm,trivial⟩
    ·exact rfl
    ·exact rfl
    ·decide
    ·unfold maxLen;omega
    ·omega
    ·omega
    intro v' w2 ho2 u2 _ hoff2
    have hov := ho2.one
    have s2 := u2.size
    apply Wl.nil
    refine Mt.backE (fun _ _ => trivial) ?_
    refine Mt.pn 8 ?_
    refine Mt.pf 9 ?_
    refine Mt.e1 10 ?_
    repeat' first | (apply Wl.store;exact rfl;exact rfl;exact hov;exact ke;exact kx) | apply Wl.nil
    refine Mt.backE (fun _ _ => trivial) ?_
    refine Mt.toGt kg ?_
    repeat' first | refine Wl.move rfl rfl ?_ | (refine Wl.addI rfl rfl rfl ?_ ?_;constructor <;> omega) | apply Wl.nil | apply St.region | apply Gt.next | apply Gt.inNormal
    have hC2 : ChanB w2 cn 4 [] := hC1.upd u2 fun y => by
     rcases y with y | y
     ·have := hv.ge cn y
      omega
     ·exact y ⟨fun e => hoC.1 e,trivial⟩
    have hoo : ∀ c ∈ cs,ChanB w2 c 4 [] := fun c hc => ((hch c hc).2.2.upd u1 fun y => y ⟨fun e => (hch c hc).2.1 e.symm,trivial⟩).upd u2 fun y => by
     rcases y with y | y
     ·exact (hoff c y).2 c hc rfl
     ·exact y ⟨fun e => (hch c hc).2.1 e.symm,trivial⟩
    have hlt0 : ∀ c ∈ cs,c < w0.heap.size := fun c hc => (hch c hc).2.2.lt
    apply Gt.round (i + 1,w2,v',cs ++ [cn])
    rotate_left
    ·simp only;omega
    ·exact ke
    ·exact fun _ h => h
    ·refine ⟨hlt,(hu0.comp u1 fun k hk hs => hs.elim id fun y => Classical.byContradiction fun hn => y ⟨fun e => hn qn,trivial⟩).comp u2 fun k hk hs => ?_,by rw [show chs (cs ++ [cn]) = chs cs ++ [.chan (some cn)] by simp [chs]];exact ho2,fun k hk => ?_,by simp [hcl],fun c hc => ?_,fun j j' c h1 h2 => ?_⟩
     ·rcases hs with y | y | y
      ·exact y
      ·exact (hv.ge k y).1
      ·exact Classical.byContradiction fun hn => y ⟨fun e => hn qn,trivial⟩
     ·have hkk := hoff2 k hk
      refine ⟨fun e => hkk.1.1 e.symm,fun c hc e => ?_⟩
      subst e
      rcases List.mem_append.1 hc with hc | hc
      ·rcases hkk.2 with y | y
       ·exact (hoff k y).2 k hc rfl
       ·have := hlt0 k hc;omega
      ·rw [List.mem_singleton.1 hc] at hkk
       rcases hkk.2 with y | y
       ·have := hv.ge cn y;omega
       ·omega
     ·rcases List.mem_append.1 hc with hc | hc
      ·exact ⟨(hch c hc).1,(hch c hc).2.1,hoo c hc⟩
      ·rw [List.mem_singleton.1 hc]
       exact ⟨by omega,fun e => lpp e.symm,hC2⟩
     ·have key : ∀ (j : Nat) (c : Nat),(cs ++ [cn])[j]? = some c → (j < cs.length ∧ cs[j]? = some c ∧ c < w0.heap.size) ∨ (j = cs.length ∧ c = cn) := fun j c h => by
       by_cases hj : j < cs.length
       ·rw [List.getElem?_append_left hj] at h
        exact .inl ⟨hj,h,hlt0 c (List.mem_of_getElem? h)⟩
       ·rw [List.getElem?_append_right ky] at h
        have : j - cs.length = 0 := by
         rcases hz : j - cs.length with _ | z
         ·rfl
         ·rw [hz] at h;simp at h
        rw [this] at h
        simp at h
        exact .inr ⟨by omega,h.symm⟩
      rcases key j c h1 with ⟨a1,a2,a3⟩ | ⟨a1,a2⟩ <;> rcases key j' c h2 with ⟨b1,b2,b3⟩ | ⟨b1,b2⟩
      ·exact hnd j j' c a2 b2
      ·omega
      ·omega
      ·omega
 ·obtain rfl : i = n := by omega
  have hd : decide ((i : Int) < (i : Int)) = false := decide_eq_false ky
  obtain ⟨g,cp,J,rfl,hg1,hg2⟩ := hv.blk ky
  have hgo := hoff g rfl
  repeat' first | refine Wl.move rfl rfl ?_ | refine Wl.assign rfl rfl ?_ | refine Wl.lss rfl rfl rfl ?_ | apply Wl.nil | apply St.seq | apply St.region | (apply St.condF;exact rfl;exact ka) | apply St.ret | apply St.exit | apply Gt.next | apply Gt.thenExit | apply Gt.inExit | (apply Gt.out2;exact rfl;exact rfl;exact rfl;intro w' hp)
  refine ⟨pp,g,cs,rfl,⟨⟨cp,J,by rw [hcl];exact hp.own.at (.head _),hp.upd.heap hg2 fun y => y ⟨fun e => hgo.1 e.symm,trivial⟩⟩,fun j c hj => ?_,hnd,by rw [hcl];exact hn⟩,hcl,hpp,hg1,fun c hc => (hch c hc).1,hp.on hu0 kb⟩
  have hm := List.mem_of_getElem? hj
  exact (hch c hm).2.2.upd hp.upd fun y => y ⟨fun e => (hch c hm).2.1 e.symm,trivial⟩
def strV (l : List UInt8) : Value := .string (strOf l)
theorem strV_size (l : List UInt8) : (strOf l).size = l.length := by unfold strOf;simp [ByteArray.size]
def lineC (x : Int × List UInt8) : List Value := [.int .i64 x.1,strV x.2]
def BoardS (w : World) (base bd ia : Nat) (lv : Value) (ll : List (Int × List UInt8)) (used : Int) (ins : List (List UInt8)) : Prop :=
 (∃ cap J,w.heap[bd]? = some (.cells #[lv,.int .i64 used,.slice (some ⟨ia,0,none⟩) ins.length cap] 231 (0,0)) ∧ w.heap[ia]? = some (.cells (ins.map strV ++ J).toArray 9 (0,0))) ∧ w.ownsRow base 111 2 lv ll.length (ll.map lineC).flatten ∧ 1 ≤ ins.length ∧ ins.length ≤ 4
theorem BoardS.upd {w w' : World} {base bd ia : Nat} {lv : Value} {ll : List (Int × List UInt8)} {used : Int} {ins : List (List UInt8)} {S : Nat → Prop} (k : BoardS w base bd ia lv ll used ins) (u : Upd S w w') (h1 : ¬ S bd) (h2 : ¬ S ia) (h3 : ∀ b,lv.ownBlock = some b → ¬ S b) : BoardS w' base bd ia lv ll used ins := by
 obtain ⟨⟨cap,J,a,b⟩,hr,r⟩ := k
 exact ⟨⟨cap,J,u.heap a h1,u.heap b h2⟩,ownsRow_upd hr u h3,r⟩
theorem BoardS.lt {w : World} {base bd ia : Nat} {lv : Value} {ll : List (Int × List UInt8)} {used : Int} {ins : List (List UInt8)} (k : BoardS w base bd ia lv ll used ins) : bd < w.heap.size ∧ ia < w.heap.size ∧ ∀ b,lv.ownBlock = some b → base ≤ b ∧ b < w.heap.size := by
 obtain ⟨⟨cap,J,a,b⟩,hr,r⟩ := k
 exact ⟨lt_of_block a,lt_of_block b,hr.ge⟩
theorem ins_at {ins : List (List UInt8)} {J : List Value} {i : Nat} {s : List UInt8} (h : ins[i]? = some s) : (ins.map strV ++ J)[i]? = some (strV s) := by
 have hl := (List.getElem?_eq_some_iff.1 h).1
 rw [List.getElem?_append_left (by rw [List.length_map];exact hl),List.getElem?_map,h];rfl
section
variable (base bd ia : Nat) (lv : Value) (ll : List (Int × List UInt8)) (used : Int) (ins : List (List UInt8))
theorem bHas (i : Nat) (w : World) (hB : BoardS w base bd ia lv ll used ins) (hi : i < ins.length) :
  Calls Tryz.prog 125 #[.pointer (some ⟨bd,0,none⟩),.int .i64 i] w fun e w' => e = .returned (.bool true) ∧ Hp w [] w' := by
 obtain ⟨⟨cap,J,a,b⟩,hr,r⟩ := hB
 have p0 : w.cell? ⟨bd,2,none⟩ = some (.slice (some ⟨ia,0,none⟩) ins.length cap) := cell_of a rfl
 have hd0 : decide ((i : Int) ≥ 0) = true := decide_eq_true ky
 have hd1 : decide ((i : Int) < (ins.length : Int)) = true := decide_eq_true ky
 refine enter (args := [_,_]) (Γ := [(0,_),(1,_)]) Tryz.func125 Tryz.ntmps125 rfl odq (.cons rfl (.cons rfl .nil)) ?_
 repeat' first | (apply Wl.loadO;exact rfl;exact rfl;exact zw;exact kh) | refine Wl.move rfl rfl ?_ | refine Wl.assign rfl rfl ?_ | (apply Wl.on;exact rfl;exact rfl;exact ka) | refine Wl.nilCheck rfl rfl ?_ | (apply Wl.pickT;exact rfl;exact rfl;exact ka;exact rfl) | refine Wl.fieldAddrZ rfl rfl ?_ | refine Wl.neqPN rfl rfl rfl ?_ | refine Wl.lss rfl rfl rfl ?_ | refine Wl.geq rfl rfl rfl ?_ | refine Wl.len rfl rfl ?_ | apply Wl.nil | apply St.seq | apply St.region | apply St.ret | apply Gt.next | (apply Gt.out1;exact rfl;exact rfl;intro w' hp)
 exact ⟨by rw [hd1],hp⟩
theorem bInput (i : Nat) (s : List UInt8) (w : World) (hB : BoardS w base bd ia lv ll used ins) (hi : ins[i]? = some s) :
  Calls Tryz.prog 74 #[.pointer (some ⟨bd,0,none⟩),.int .i64 i] w fun e w' => e = .returned (strV s) ∧ Hp w [] w' := by
 have hil := (List.getElem?_eq_some_iff.1 hi).1
 have hB0 := hB
 obtain ⟨⟨cap,J,a,b⟩,hr,r⟩ := hB
 have p0 : w.cell? ⟨bd,2,none⟩ = some (.slice (some ⟨ia,0,none⟩) ins.length cap) := cell_of a rfl
 have p1 : w.cell? ⟨ia,0 + (i : Int).toNat,none⟩ = some (strV s) := by rw [Int.toNat_natCast,Nat.zero_add];exact cell_of b (ins_at hi)
 refine enter (args := [_,_]) (Γ := [(0,_),(1,_)]) Tryz.func74 Tryz.ntmps74 rfl odq (.cons rfl (.cons rfl .nil)) ?_
 repeat' first | refine Wl.move rfl rfl ?_ | refine Wl.assign rfl rfl ?_ | apply Wl.nil | apply St.seq | apply St.region | apply Gt.next
 apply Wl.callQ
 exact rfl
 (focus repeat constructor)
 ·intro wq hq
  exact hq.q (bHas base bd ia lv ll used ins i wq (hB0.upd hq.upd nt0 nt0 fun _ _ y => y trivial) hil)
 repeat' first | (apply Wl.loadO;exact rfl;exact rfl;exact zw;exact kh) | refine Wl.move rfl rfl ?_ | refine Wl.assign rfl rfl ?_ | refine Wl.nilCheck rfl rfl ?_ | refine Wl.not rfl rfl ?_ | refine Wl.fieldAddrZ rfl rfl ?_ | (refine Wl.indexAddr1 rfl rfl rfl ?_ ?_;constructor <;> omega) | apply Wl.nil | apply St.seq | apply St.region | (apply St.condF;exact rfl;exact ka) | apply St.ret | apply St.skip | apply Gt.next | (apply Gt.out1;exact rfl;exact rfl;intro w' hp)
 exact ⟨rfl,hp⟩
theorem bWaits (i : Nat) (s : List UInt8) (w : World) (hB : BoardS w base bd ia lv ll used ins) (hi : ins[i]? = some s) :
  Calls Tryz.prog 83 #[.pointer (some ⟨bd,0,none⟩),.int .i64 i] w fun e w' => e = .returned (.int .i64 s.length) ∧ Hp w [] w' := by
 have hil := (List.getElem?_eq_some_iff.1 hi).1
 have hB0 := hB
 obtain ⟨⟨cap,J,a,b⟩,hr,r⟩ := hB
 have p0 : w.cell? ⟨bd,2,none⟩ = some (.slice (some ⟨ia,0,none⟩) ins.length cap) := cell_of a rfl
 have p1 : w.cell? ⟨ia,0 + (i : Int).toNat,none⟩ = some (strV s) := by rw [Int.toNat_natCast,Nat.zero_add];exact cell_of b (ins_at hi)
 refine enter (args := [_,_]) (Γ := [(0,_),(1,_)]) Tryz.func83 Tryz.ntmps83 rfl odq (.cons rfl (.cons rfl .nil)) ?_
 repeat' first | refine Wl.move rfl rfl ?_ | refine Wl.assign rfl rfl ?_ | apply Wl.nil | apply St.seq | apply St.region | apply Gt.next
 apply Wl.callQ
 exact rfl
 (focus repeat constructor)
 ·intro wq hq
  exact hq.q (bHas base bd ia lv ll used ins i wq (hB0.upd hq.upd nt0 nt0 fun _ _ y => y trivial) hil)
 repeat' first | (apply Wl.loadO;exact rfl;exact rfl;exact zw;exact kh) | refine Wl.move rfl rfl ?_ | refine Wl.assign rfl rfl ?_ | refine Wl.nilCheck rfl rfl ?_ | refine Wl.not rfl rfl ?_ | refine Wl.fieldAddrZ rfl rfl ?_ | refine Wl.lenS rfl rfl ?_ | (refine Wl.indexAddr1 rfl rfl rfl ?_ ?_;constructor <;> omega) | apply Wl.nil | apply St.seq | apply St.region | (apply St.condF;exact rfl;exact ka) | apply St.ret | apply St.skip | apply Gt.next | (apply Gt.out1;exact rfl;exact rfl;intro w' hp)
 exact ⟨by rw [strV_size],hp⟩
theorem bLines (w : World) (hB : BoardS w base bd ia lv ll used ins) (hb : base ≤ w.heap.size) (hll : ll.length ≤ 1000) :
  Calls Tryz.prog 71 #[.pointer (some ⟨bd,0,none⟩)] w fun e w' => ∃ v,e = .returned v ∧ w'.ownsRow w.heap.size 111 2 v ll.length (ll.map lineC).flatten ∧ Upd (fun k => w.heap.size ≤ k) w w' := by
 have hB0 := hB
 obtain ⟨⟨cap,J,a,b⟩,hr,r⟩ := hB
 have p0 : w.cell? ⟨bd,0,none⟩ = some lv := cell_of a rfl
 refine enter (args := [_]) (Γ := [(0,_)]) Tryz.func71 Tryz.ntmps71 rfl odq (.cons rfl .nil) ?_
 repeat' first | (apply Wl.loadO;exact rfl;exact rfl;exact zw;exact kh) | refine Wl.move rfl rfl ?_ | refine Wl.assign rfl rfl ?_ | refine Wl.nilCheck rfl rfl ?_ | refine Wl.fieldAddr0 rfl rfl ?_ | refine Wl.eqlPN rfl rfl rfl ?_ | apply Wl.nil | apply St.seq | apply St.region | (apply St.condF;exact rfl;exact ka) | apply St.skip | apply Gt.next
 apply Wl.appendV (base := w.heap.size) (n := 0) (m := ll.length) (sz := 2) (xs := []) (news := (ll.map lineC).flatten) (v := .slice none 0 0) (y := lv)
 ·exact rfl
 ·exact rfl
 ·exact rfl
 ·exact Sv.ofOwn hr
 ·exact fun _ _ _ _ => trivial
 ·exact World.ownsRow_nil w _ _ _
 ·exact fun k hk => by cases hk
 ·rw [List.all_eq_true]
  intro v hv
  obtain ⟨l,hl,hv⟩ := List.mem_flatten.1 hv
  obtain ⟨x,_,rfl⟩ := List.mem_map.1 hl
  simp only [lineC,List.mem_cons,List.not_mem_nil,or_false] at hv
  rcases hv with rfl | rfl <;> rfl
 ·exact rfl
 ·decide
 ·unfold maxLen;omega
 ·omega
 ·exact Nat.le_refl _
 intro v' w1 ho1 u1 _ hoff1
 repeat' first | refine Wl.assign rfl rfl ?_ | apply Wl.nil | apply St.ret | apply Gt.next | (apply Gt.out1;exact rfl;exact rfl;intro w' hp)
 refine ⟨v',rfl,ownsRow_upd (by rw [Nat.zero_add,List.nil_append] at ho1;exact ho1) hp.upd fun k _ y => y trivial,hp.on (u1.mono fun k _ hs => hs.elim (fun e => by cases e) fun y => (y trivial).elim) qs⟩
end
theorem mStr0 : (madeCells (Value.string ⟨#[]⟩).cells (0 * 1)).toList = (List.replicate 0 ([] : List UInt8)).map strV := by kernel_rfl
theorem mStr1 : (madeCells (Value.string ⟨#[]⟩).cells (1 * 1)).toList = (List.replicate 1 ([] : List UInt8)).map strV := by kernel_rfl
theorem mStr2 : (madeCells (Value.string ⟨#[]⟩).cells (2 * 1)).toList = (List.replicate 2 ([] : List UInt8)).map strV := by kernel_rfl
theorem mStr3 : (madeCells (Value.string ⟨#[]⟩).cells (3 * 1)).toList = (List.replicate 3 ([] : List UInt8)).map strV := by kernel_rfl
theorem mStr4 : (madeCells (Value.string ⟨#[]⟩).cells (4 * 1)).toList = (List.replicate 4 ([] : List UInt8)).map strV := by kernel_rfl
theorem mStr (n : Nat) (hn : n ≤ 4) : (madeCells (Value.string ⟨#[]⟩).cells (n * 1)).toList = (List.replicate n ([] : List UInt8)).map strV := by
 have h : n = 0 ∨ n = 1 ∨ n = 2 ∨ n = 3 ∨ n = 4 := by omega
 rcases h with rfl | rfl | rfl | rfl | rfl
 ·exact mStr0
 ·exact mStr1
 ·exact mStr2
 ·exact mStr3
 ·exact mStr4
theorem bNew (n : Nat) (w : World) (hn : 1 ≤ n ∧ n ≤ 4) :
  Calls Tryz.prog 89 #[.int .i64 n] w fun e w' => ∃ bd ia,e = .returned (.tuple #[.pointer (some ⟨bd,0,none⟩),.int .i64 0]) ∧ BoardS w' w.heap.size bd ia (.slice none 0 0) [] 0 (List.replicate n []) ∧ w.heap.size ≤ bd ∧ w.heap.size ≤ ia ∧ Upd (fun k => w.heap.size ≤ k) w w' := by
 have hd1 : decide ((n : Int) < 1) = false := decide_eq_false ky
 have hd2 : decide ((n : Int) > 4) = false := decide_eq_false ky
 refine enter (args := [_]) (Γ := [(0,_)]) Tryz.func89 Tryz.ntmps89 rfl odq (.cons rfl .nil) ?_
 repeat' first | refine Wl.move rfl rfl ?_ | refine Wl.assign rfl rfl ?_ | (apply Wl.on;exact rfl;exact rfl;exact ka) | (apply Wl.pickF;exact rfl;exact rfl;exact ka;exact rfl) | refine Wl.lss rfl rfl rfl ?_ | refine Wl.gtr rfl rfl rfl ?_ | apply Wl.nil | apply St.seq | apply St.region | (apply St.condF;exact rfl;exact ka) | apply St.skip | apply Gt.next
 apply Wl.makeSlice (n := n)
 ·exact rfl
 ·exact rfl
 ·exact rfl
 ·rw [Nat.ble_eq];omega
 ·omega
 intro ia hia hoi
 repeat' first | refine Wl.assign rfl rfl ?_ | (apply Wl.buildS;exact rfl;exact ki;exact kc) | (apply Wl.boxA;exact rfl;exact rfl;intro c hc ho) | apply Wl.nil | apply St.ret | apply Gt.next | (apply Gt.out2;exact rfl;exact rfl;exact rfl;intro w' hp)
 generalize c = bd at *
 have hbd : w.heap.size ≤ bd := by assumption
 refine ⟨bd,ia,rfl,⟨⟨n,[],?_,?_⟩,World.ownsRow_nil _ _ _ _,by rw [List.length_replicate];exact hn⟩,hbd,hia,hp.on (Upd.refl _ _) zx⟩
 ·rw [List.length_replicate];exact hp.own.at (.head _)
 ·rw [List.append_nil,← mStr n hn.2];exact hp.own.at (.tail _ (.head _))
end Go.Proofs.YtabbklpalbikdaaGreatDoor
end
