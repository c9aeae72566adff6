/-
 5 texts,one behind the other;each says what it proves. Conditions: as each text says.
-/
import Derived.Test.YtabbklpalbikdaaGreatDoorM02
import Derived.Test.YtabbklpalbikdaaGreatDoorM03
set_option linter.unusedVariables false
set_option linter.unusedSimpArgs false
section
namespace Go.Proofs.YtabbklpalbikdaaGreatDoor
open Go.RowKit Go.Pt
def formF (op : Int) : Int :=
 if op = 1 ∨ op = 2 then 0 else if op = 3 then 1 else if op = 4 ∨ (11 ≤ op ∧ op ≤ 15) ∨ (19 ≤ op ∧ op ≤ 24) then 2 else if 5 ≤ op ∧ op ≤ 10 then 3 else if 16 ≤ op ∧ op ≤ 18 then 4
 else if 25 ≤ op ∧ op ≤ 27 then 6 else if 28 ≤ op ∧ op ≤ 45 then 5 else if 46 ≤ op ∧ op ≤ 50 then 7 else if 51 ≤ op ∧ op ≤ 53 then 8 else if 54 ≤ op ∧ op ≤ 56 then 9 else -1
def widthF (op : Int) : Int := if op = 11 ∨ op = 14 ∨ op = 16 then 1 else if op = 12 ∨ op = 15 ∨ op = 17 then 2 else if op = 13 ∨ op = 18 then 4 else 0
def goesF (op a b : Int) : Bool × Bool :=
 if op = 5 then (decide (a = b),true) else if op = 6 then (decide (a ≠ b),true) else if op = 7 then (decide (IntKind.i32.wrap a < IntKind.i32.wrap b),true) else if op = 8 then (decide (IntKind.i32.wrap b ≤ IntKind.i32.wrap a),true)
 else if op = 9 then (decide (a < b),true) else if op = 10 then (decide (b ≤ a),true) else (false,false)
def widenF (op x : Int) : Int :=
 if op = 11 then IntKind.u32.wrap (IntKind.i32.wrap (IntKind.i8.wrap x)) else if op = 12 then IntKind.u32.wrap (IntKind.i32.wrap (IntKind.i16.wrap x)) else if op = 14 then bits .and .u32 x 255 else if op = 15 then bits .and .u32 x 65535 else x
def truthF (b : Bool) : Int := if b then 1 else 0
def s64 (a : Int) : Int := IntKind.i64.wrap (IntKind.i32.wrap a)
def mulsF (op a b : Int) : Int × Bool :=
 if op = 38 then (IntKind.u32.wrap (a * b),true)
 else if op = 39 then (IntKind.u32.wrap ((IntKind.i64.wrap (s64 a * s64 b)).fdiv (2 ^ min (Int.toNat 32) IntKind.i64.bits)),true)
 else if op = 40 then (IntKind.u32.wrap ((IntKind.i64.wrap (s64 a * b)).fdiv (2 ^ min (Int.toNat 32) IntKind.i64.bits)),true)
 else if op = 41 then (IntKind.u32.wrap ((IntKind.u64.wrap (a * b)).fdiv (2 ^ min (Int.toNat 32) IntKind.u64.bits)),true)
 else if op = 42 then (if b = 0 then 4294967295 else IntKind.u32.wrap (IntKind.i64.wrap ((s64 a).tdiv (s64 b))),true)
 else if op = 43 then (if b = 0 then 4294967295 else IntKind.u32.wrap (a.tdiv b),true)
 else if op = 44 then (if b = 0 then a else IntKind.u32.wrap ((s64 a).tmod (s64 b)),true)
 else if op = 45 then (if b = 0 then a else a.tmod b,true)
 else (0,false)
def sh5 (b : Int) : Nat := (bits .and .u32 b 31).toNat
def reckF (op a b : Int) : Int × Bool :=
 if op = 28 ∨ op = 19 then (IntKind.u32.wrap (a + b),true)
 else if op = 29 then (IntKind.u32.wrap (a - b),true)
 else if op = 30 ∨ op = 25 then (IntKind.u32.wrap (a * 2 ^ min (sh5 b) IntKind.u32.bits),true)
 else if op = 31 ∨ op = 20 then (truthF (decide (IntKind.i32.wrap a < IntKind.i32.wrap b)),true)
 else if op = 32 ∨ op = 21 then (truthF (decide (a < b)),true)
 else if op = 33 ∨ op = 22 then (bits .xor .u32 a b,true)
 else if op = 34 ∨ op = 26 then (a.fdiv (2 ^ min (sh5 b) IntKind.u32.bits),true)
 else if op = 35 ∨ op = 27 then (IntKind.u32.wrap ((IntKind.i32.wrap a).fdiv (2 ^ min (sh5 b) IntKind.i32.bits)),true)
 else if op = 36 ∨ op = 23 then (bits .or .u32 a b,true)
 else if op = 37 ∨ op = 24 then (bits .and .u32 a b,true)
 else mulsF op a b
set_option maxHeartbeats 4000000 in
theorem formX (op : Int) (w : World) : Calls Tryz.prog 149 #[.int .i64 op] w fun e w' => e = .returned (.int .i64 (formF op)) ∧ Hp w [] w' := by
 refine enter (args := [_]) (Γ := [(0,_)]) Tryz.func149 Tryz.ntmps149 rfl (of_decide_eq_true rfl) (.cons rfl .nil) ?_
 repeat' first | refine Wl.move rfl rfl ?_ | refine Wl.assign rfl rfl ?_ | (apply Wl.on;exact rfl;exact rfl;exact ka) | (apply Wl.off;exact rfl;exact rfl;exact rfl;exact kr) | refine Wl.offU rfl rfl rfl ?_ | (apply Wl.pickT;exact rfl;exact rfl;exact ka;exact rfl) | (apply Wl.pickF;exact rfl;exact rfl;exact ka;exact rfl) | refine Wl.eql rfl rfl rfl ?_ | refine Wl.leq rfl rfl rfl ?_ | refine Wl.geq rfl rfl rfl ?_ | apply Wl.nil | apply St.seq | apply St.block | apply St.region | (apply St.condT;exact rfl;exact ka) | (apply St.condF;exact rfl;exact ka) | apply St.ret | apply St.skip | apply Gt.next | apply Gt.thenRet | apply Gt.inNormal | apply Gt.inRet | (apply Gt.out1;exact rfl;exact rfl;intro w' hp) | (apply Wl.splitP;exact rfl;exact rfl;all_goals (intros;try (exfalso;omega))) | (apply St.condP;exact rfl;all_goals (intros;try (exfalso;omega)))
 all_goals exact ⟨by unfold formF;(repeat' split) <;> first | rfl | (exfalso;omega),hp⟩
set_option maxHeartbeats 4000000 in
theorem widthX (op : Int) (w : World) : Calls Tryz.prog 152 #[.int .i64 op] w fun e w' => e = .returned (.int .i64 (widthF op)) ∧ Hp w [] w' := by
 refine enter (args := [_]) (Γ := [(0,_)]) Tryz.func152 Tryz.ntmps152 rfl (of_decide_eq_true rfl) (.cons rfl .nil) ?_
 repeat' first | refine Wl.move rfl rfl ?_ | refine Wl.assign rfl rfl ?_ | refine Wl.eql rfl rfl rfl ?_ | apply Wl.nil | apply St.seq | apply St.block | apply St.region | (apply St.condT;exact rfl;exact ka) | apply St.ret | apply St.skip | apply Gt.next | apply Gt.thenRet | apply Gt.inNormal | apply Gt.inRet | (apply Gt.out1;exact rfl;exact rfl;intro w' hp) | (apply St.condP;exact rfl;all_goals (intros;try (exfalso;omega)))
 all_goals exact ⟨by unfold widthF;(repeat' split) <;> first | rfl | (exfalso;omega),hp⟩
set_option maxHeartbeats 4000000 in
theorem goesX (op a b : Int) (w : World) : Calls Tryz.prog 151 #[.int .i64 op,.int .u32 a,.int .u32 b] w fun e w' => e = .returned (.tuple #[.bool (goesF op a b).1,.bool (goesF op a b).2]) ∧ Hp w [] w' := by
 refine enter (args := [_,_,_]) (Γ := [(0,_),(1,_),(2,_)]) Tryz.func151 Tryz.ntmps151 rfl (of_decide_eq_true rfl) (.cons rfl (.cons rfl (.cons rfl .nil))) ?_
 repeat' first | refine Wl.move rfl rfl ?_ | refine Wl.assign rfl rfl ?_ | refine Wl.eql rfl rfl rfl ?_ | refine Wl.neq rfl rfl rfl ?_ | refine Wl.lss rfl rfl rfl ?_ | refine Wl.geq rfl rfl rfl ?_ | refine Wl.convI rfl rfl ?_ | apply Wl.nil | apply St.seq | apply St.block | apply St.region | apply St.ret | apply St.skip | apply Gt.next | apply Gt.thenRet | apply Gt.inNormal | apply Gt.inRet | (apply Gt.out2;exact rfl;exact rfl;exact rfl;intro w' hp) | (apply St.condP;exact rfl;all_goals (intros;try (exfalso;omega)))
 all_goals exact ⟨by unfold goesF;(repeat' split) <;> first | rfl | (exfalso;omega),hp⟩
set_option maxHeartbeats 4000000 in
theorem widenX (op x : Int) (w : World) (hx : 0 ≤ x ∧ x < 4294967296) : Calls Tryz.prog 192 #[.int .i64 op,.int .u32 x] w fun e w' => e = .returned (.int .u32 (widenF op x)) ∧ Hp w [] w' := by
 refine enter (args := [_,_]) (Γ := [(0,_),(1,_)]) Tryz.func192 Tryz.ntmps192 rfl (of_decide_eq_true rfl) (.cons rfl (.cons rfl .nil)) ?_
 repeat' first | refine Wl.move rfl rfl ?_ | refine Wl.assign rfl rfl ?_ | refine Wl.eql rfl rfl rfl ?_ | refine Wl.and rfl rfl rfl ?_ | refine Wl.convI rfl rfl ?_ | apply Wl.nil | apply St.seq | apply St.block | apply St.region | apply St.ret | apply St.skip | apply Gt.next | apply Gt.thenRet | apply Gt.inNormal | apply Gt.inRet | (apply Gt.out1;exact rfl;exact rfl;intro w' hp) | (apply St.condP;exact rfl;all_goals (intros;try (exfalso;omega)))
 all_goals exact ⟨by unfold widenF;(repeat' split) <;> first | rfl | (exfalso;omega),hp⟩
set_option maxHeartbeats 4000000 in
theorem truthX (b : Bool) (w : World) : Calls Tryz.prog 193 #[.bool b] w fun e w' => e = .returned (.int .u32 (truthF b)) ∧ Hp w [] w' := by
 refine enter (args := [_]) (Γ := [(0,_)]) Tryz.func193 Tryz.ntmps193 rfl (of_decide_eq_true rfl) (.cons rfl .nil) ?_
 cases b
 all_goals
  repeat' first | refine Wl.move rfl rfl ?_ | refine Wl.assign rfl rfl ?_ | apply Wl.nil | apply St.seq | apply St.region | (apply St.condT;exact rfl;exact ka) | (apply St.condF;exact rfl;exact ka) | apply St.ret | apply St.skip | apply Gt.next | apply Gt.thenRet | (apply Gt.out1;exact rfl;exact rfl;intro w' hp)
  exact ⟨rfl,hp⟩
set_option maxHeartbeats 4000000 in
theorem mulsX (op a b : Int) (w : World) (ha : 0 ≤ a ∧ a < 4294967296) (hb : 0 ≤ b ∧ b < 4294967296) : Calls Tryz.prog 194 #[.int .i64 op,.int .u32 a,.int .u32 b] w fun e w' => e = .returned (.tuple #[.int .u32 (mulsF op a b).1,.bool (mulsF op a b).2]) ∧ Hp w [] w' := by
 refine enter (args := [_,_,_]) (Γ := [(0,_),(1,_),(2,_)]) Tryz.func194 Tryz.ntmps194 rfl (of_decide_eq_true rfl) (.cons rfl (.cons rfl (.cons rfl .nil))) ?_
 repeat' first | (apply Wl.quo;exact rfl;exact rfl;exact rfl;exact j1) | (apply Wl.rem;exact rfl;exact rfl;exact rfl;exact j1) | refine Wl.move rfl rfl ?_ | refine Wl.assign rfl rfl ?_ | refine Wl.eql rfl rfl rfl ?_ | refine Wl.mul rfl rfl rfl ?_ | (refine Wl.shr rfl rfl rfl ?_ ?_;omega) | (refine Wl.convI64 rfl rfl ?_ ?_;constructor <;> omega) | (refine Wl.convU64 rfl rfl ?_ ?_;constructor <;> omega) | refine Wl.convI rfl rfl ?_ | apply Wl.nil | apply St.seq | apply St.block | apply St.region | apply St.ret | apply St.skip | apply Gt.next | apply Gt.thenRet | apply Gt.inNormal | apply Gt.inRet | (apply Gt.out2;exact rfl;exact rfl;exact rfl;intro w' hp) | (apply St.condP;exact rfl;all_goals (intros;try (exfalso;omega)))
 all_goals exact ⟨by unfold mulsF;(repeat' split) <;> first | rfl | (exfalso;omega),hp⟩
set_option maxHeartbeats 4000000 in
theorem reckX (op a b : Int) (w : World) (ha : 0 ≤ a ∧ a < 4294967296) (hb : 0 ≤ b ∧ b < 4294967296) : Calls Tryz.prog 154 #[.int .i64 op,.int .u32 a,.int .u32 b] w fun e w' => e = .returned (.tuple #[.int .u32 (reckF op a b).1,.bool (reckF op a b).2]) ∧ Hp w [] w' := by
 refine enter (args := [_,_,_]) (Γ := [(0,_),(1,_),(2,_)]) Tryz.func154 Tryz.ntmps154 rfl (of_decide_eq_true rfl) (.cons rfl (.cons rfl (.cons rfl .nil))) ?_
 repeat' first | (apply Wl.shl;exact rfl;exact rfl;exact rfl;exact bits_lo_u32 _ _ _) | (apply Wl.shr;exact rfl;exact rfl;exact rfl;exact bits_lo_u32 _ _ _) | (apply Wl.callQ (f := 193);exact rfl;exact ke;(intro wq hq;exact hq.q (truthX _ wq))) | (apply Wl.callQ (f := 194);exact rfl;exact ke;(intro wq hq;exact hq.q (mulsX op a b wq ha hb))) | refine Wl.move rfl rfl ?_ | refine Wl.assign rfl rfl ?_ | refine Wl.extract rfl rfl rfl ?_ | refine Wl.eql rfl rfl rfl ?_ | refine Wl.lss rfl rfl rfl ?_ | refine Wl.add rfl rfl rfl ?_ | refine Wl.sub' rfl rfl rfl ?_ | refine Wl.and rfl rfl rfl ?_ | refine Wl.or rfl rfl rfl ?_ | refine Wl.xor rfl rfl rfl ?_ | refine Wl.convI rfl rfl ?_ | apply Wl.nil | apply St.seq | apply St.block | apply St.region | (apply St.condT;exact rfl;exact ka) | apply St.ret | apply St.skip | apply Gt.next | apply Gt.thenRet | apply Gt.inNormal | apply Gt.inRet | (apply Gt.out2;exact rfl;exact rfl;exact rfl;intro w' hp) | (apply St.condP;exact rfl;all_goals (intros;try (exfalso;omega)))
 all_goals exact ⟨by unfold reckF;(repeat' split) <;> first | rfl | (exfalso;omega),hp⟩
theorem widenF_rng (op x : Int) (hx : 0 ≤ x ∧ x < 4294967296) : 0 ≤ widenF op x ∧ widenF op x < 4294967296 := by
 unfold widenF
 repeat' split
 all_goals (first | assumption | exact wr32 _ | exact br32 _ _ _ | exact and31 _ | (constructor <;> omega) | (apply fd32;first | assumption | exact wr32 _ | exact br32 _ _ _) | (apply tm32;first | assumption | exact wr32 _ | exact br32 _ _ _))
theorem mulsF_rng (op a b : Int) (ha : 0 ≤ a ∧ a < 4294967296) : 0 ≤ (mulsF op a b).1 ∧ (mulsF op a b).1 < 4294967296 := by
 unfold mulsF
 repeat' split
 all_goals (try simp only)
 all_goals (repeat' split)
 all_goals (first | assumption | exact wr32 _ | exact br32 _ _ _ | exact and31 _ | (constructor <;> omega) | (apply fd32;first | assumption | exact wr32 _ | exact br32 _ _ _) | (apply tm32;first | assumption | exact wr32 _ | exact br32 _ _ _))
theorem reckF_rng (op a b : Int) (ha : 0 ≤ a ∧ a < 4294967296) : 0 ≤ (reckF op a b).1 ∧ (reckF op a b).1 < 4294967296 := by
 unfold reckF truthF
 repeat' split
 all_goals first | exact mulsF_rng op a b ha | (first | assumption | exact wr32 _ | exact br32 _ _ _ | exact and31 _ | (constructor <;> omega) | (apply fd32;first | assumption | exact wr32 _ | exact br32 _ _ _) | (apply tm32;first | assumption | exact wr32 _ | exact br32 _ _ _))
theorem widthF_rng (op : Int) : widthF op = 0 ∨ W124 (widthF op) := by
 unfold widthF W124
 repeat' split
 all_goals omega
def shrF (x s : Int) : Int := x.fdiv (2 ^ min (Int.toNat s) IntKind.u32.bits)
def shlF (x s : Int) : Int := IntKind.u32.wrap (x * 2 ^ min (Int.toNat s) IntKind.u32.bits)
def extF (x n : Int) : Int := IntKind.u32.wrap ((IntKind.i32.wrap (IntKind.u32.wrap (x * 2 ^ min (Int.toNat (32 - n)) IntKind.u32.bits))).fdiv (2 ^ min (Int.toNat (32 - n)) IntKind.i32.bits))
def immI (x : Int) : Int := extF (shrF x 20) 12
def immS (x : Int) : Int := extF (bits .or .u32 (shlF (shrF x 25) 5) (bits .and .u32 (shrF x 7) 31)) 12
def immB (x : Int) : Int := extF (bits .or .u32 (bits .or .u32 (bits .or .u32 (shlF (shrF x 31) 12) (shlF (bits .and .u32 (shrF x 7) 1) 11)) (shlF (bits .and .u32 (shrF x 25) 63) 5)) (shlF (bits .and .u32 (shrF x 8) 15) 1)) 13
def immU (x : Int) : Int := bits .andNot .u32 x 4095
def immJ (x : Int) : Int := extF (bits .or .u32 (bits .or .u32 (bits .or .u32 (shlF (shrF x 31) 20) (shlF (bits .and .u32 (shrF x 12) 255) 12)) (shlF (bits .and .u32 (shrF x 20) 1) 11)) (shlF (bits .and .u32 (shrF x 21) 1023) 1)) 21
abbrev In5 := Int × Int × Int × Int × Int
def zero5 : In5 := (0,0,0,0,0)
def instV (p : In5) : Value := .agg #[.int .i64 p.1,.int .i64 p.2.1,.int .i64 p.2.2.1,.int .i64 p.2.2.2.1,.int .u32 p.2.2.2.2]
def pkV (f : Int) (cs : List Value) : Int := match cs[f.toNat]? with
 | some (.int _ z) => z
 | _ => 0
def of5 (op rd r1 r2 im : Int) : In5 := if op = 0 then zero5 else (op,rd,r1,r2,im)
def il (l : List Int) : List Value := l.map (Value.int .i64)
def sysF (x rd r1 f : Int) : In5 := if x = 115 then (47,0,0,0,0) else if x = 1048691 then (48,0,0,0,0) else if x = 807403635 then (49,0,0,0,0) else if x = 273678451 then (50,0,0,0,0)
 else of5 (pkV f (il [0,51,52,53,0,54,55,56])) rd r1 0 (shrF x 20)
def moreF (x rd r1 r2 im f top : Int) : In5 :=
 if bits .and .u32 x 127 = 3 then of5 (pkV f (il [11,12,13,0,14,15])) rd r1 0 (immI x)
 else if bits .and .u32 x 127 = 35 then of5 (pkV f (il [16,17,18])) 0 r1 r2 (immS x)
 else if bits .and .u32 x 127 = 19 then (if f = 1 ∧ top = 0 then of5 25 rd r1 0 r2 else if f = 5 ∧ top = 0 then of5 26 rd r1 0 r2 else if f = 5 ∧ top = 32 then of5 27 rd r1 0 r2 else of5 (pkV f (il [19,0,20,21,22,0,23,24])) rd r1 0 (immI x))
 else if bits .and .u32 x 127 = 51 then (if top = 0 then of5 (pkV f (il [28,30,31,32,33,34,36,37])) rd r1 r2 im else if top = 1 then of5 (pkV f (il [38,39,40,41,42,43,44,45])) rd r1 r2 im else if top = 32 then of5 (pkV f (il [29,0,0,0,0,35])) rd r1 r2 im else zero5)
 else if bits .and .u32 x 127 = 15 then (if f = 0 then (46,0,0,0,0) else zero5)
 else if bits .and .u32 x 127 = 115 then sysF x rd r1 f
 else zero5
def dec5F (x rd r1 r2 f top : Int) : In5 :=
 if bits .and .u32 x 127 = 55 then (1,rd,0,0,immU x) else if bits .and .u32 x 127 = 23 then (2,rd,0,0,immU x) else if bits .and .u32 x 127 = 111 then (3,rd,0,0,immJ x)
 else if bits .and .u32 x 127 = 103 then (if f ≠ 0 then zero5 else (4,rd,r1,0,immI x))
 else if bits .and .u32 x 127 = 99 then of5 (pkV f (il [5,6,0,0,7,8,9,10])) 0 r1 r2 (immB x)
 else moreF x rd r1 r2 0 f top
def decF (x : Int) : In5 := dec5F x (bits .and .u32 (shrF x 7) 31) (bits .and .u32 (shrF x 15) 31) (bits .and .u32 (shrF x 20) 31) (bits .and .u32 (shrF x 12) 7) (shrF x 25)
theorem pickX (b : Nat) (f : Int) (cs : List Value) (n cap : Nat) (w : World) (hf : 0 ≤ f) (hn : cs.length = n) (hk : cs.all isI = true) (hb : w.heap[b]? = some (.cells cs.toArray 3 (0,0))) :
  Calls Tryz.prog 162 #[.int .i64 f,.slice (some ⟨b,0,none⟩) n cap] w fun e w' => e = .returned (.int .i64 (pkV f cs)) ∧ Hp w [] w' := by
 subst hn
 refine enter (args := [_,_]) (Γ := [(0,_),(1,_)]) Tryz.func162 Tryz.ntmps162 rfl (of_decide_eq_true rfl) (.cons rfl (.cons rfl .nil)) ?_
 by_cases hlt : f < cs.length
 ·have hl : f.toNat < cs.length := by omega
  obtain ⟨x,hx⟩ : ∃ x,cs[f.toNat] = .int .i64 x := by
   have := List.all_eq_true.1 hk _ (List.getElem_mem hl)
   unfold isI at this
   split at this
   ·exact ⟨_,by assumption⟩
   ·cases this
  have hv : pkV f cs = x := by unfold pkV;rw [List.getElem?_eq_getElem hl,hx]
  have hc : w.cell? ⟨b,0 + f.toNat,none⟩ = some (.int .i64 x) := cell_of hb (by rw [Nat.zero_add,List.getElem?_eq_getElem hl,hx])
  repeat' first | (apply Wl.loadO;exact rfl;exact rfl;exact hc;exact trivial) | refine Wl.move rfl rfl ?_ | refine Wl.assign rfl rfl ?_ | refine Wl.lss rfl rfl rfl ?_ | refine Wl.len rfl rfl ?_ | (refine Wl.indexAddr1 rfl rfl rfl ?_ ?_;constructor <;> omega) | apply Wl.nil | apply St.seq | apply St.region | apply St.ret | apply Gt.next | apply Gt.thenRet | (apply Gt.out1;exact rfl;exact rfl;intro w' hp) | (apply St.condP;exact rfl;all_goals (intros;try (exfalso;omega)))
  exact ⟨by rw [hv],hp⟩
 ·have hv : pkV f cs = 0 := by unfold pkV;rw [List.getElem?_eq_none ky]
  repeat' first | refine Wl.move rfl rfl ?_ | refine Wl.assign rfl rfl ?_ | refine Wl.lss rfl rfl rfl ?_ | refine Wl.len rfl rfl ?_ | apply Wl.nil | apply St.seq | apply St.region | apply St.ret | apply St.skip | apply Gt.next | (apply Gt.out1;exact rfl;exact rfl;intro w' hp) | (apply St.condP;exact rfl;all_goals (intros;try (exfalso;omega)))
  exact ⟨by rw [hv],hp⟩
theorem ofX (op o rd r1 r2 im : Int) (w : World) :
  Calls Tryz.prog 161 #[.int .i64 op,.agg #[.int .i64 o,.int .i64 rd,.int .i64 r1,.int .i64 r2,.int .u32 im]] w fun e w' => e = .returned (instV (of5 op rd r1 r2 im)) ∧ Hp w [] w' := by
 refine (of_any op o rd r1 r2 im w).mono ?_
 rintro e w' ⟨rfl,h⟩
 refine ⟨?_,h⟩
 unfold of5
 split <;> rfl
set_option maxHeartbeats 4000000 in
theorem extX (x n : Int) (w : World) (hn : 0 ≤ n ∧ n ≤ 32) : Calls Tryz.prog 198 #[.int .u32 x,.int .i64 n] w fun e w' => e = .returned (.int .u32 (extF x n)) ∧ Hp w [] w' := by
 refine enter (args := [_,_]) (Γ := [(0,_),(1,_)]) Tryz.func198 Tryz.ntmps198 rfl (of_decide_eq_true rfl) (.cons rfl (.cons rfl .nil)) ?_
 repeat' first | refine Wl.move rfl rfl ?_ | refine Wl.assign rfl rfl ?_ | (refine Wl.subI rfl rfl rfl ?_ ?_;constructor <;> omega) | (refine Wl.shl rfl rfl rfl ?_ ?_;omega) | (refine Wl.shr rfl rfl rfl ?_ ?_;omega) | refine Wl.convI rfl rfl ?_ | apply Wl.nil | apply St.seq | apply St.region | apply St.ret | apply Gt.next | (apply Gt.out1;exact rfl;exact rfl;intro w' hp)
 exact ⟨rfl,hp⟩
set_option maxHeartbeats 4000000 in
theorem immIX (x : Int) (w : World) : Calls Tryz.prog 160 #[.int .u32 x] w fun e w' => e = .returned (.int .u32 (immI x)) ∧ Hp w [] w' := by
 refine enter (args := [_]) (Γ := [(0,_)]) Tryz.func160 Tryz.ntmps160 rfl (of_decide_eq_true rfl) (.cons rfl .nil) ?_
 repeat' first | (apply Wl.callQ (f := 198);exact rfl;exact ke;exact j5) | refine Wl.move rfl rfl ?_ | refine Wl.assign rfl rfl ?_ | (refine Wl.shr rfl rfl rfl ?_ ?_;omega) | apply Wl.nil | apply St.seq | apply St.region | apply St.ret | apply Gt.next | (apply Gt.out1;exact rfl;exact rfl;intro w' hp)
 exact ⟨rfl,hp⟩
set_option maxHeartbeats 4000000 in
theorem immSX (x : Int) (w : World) : Calls Tryz.prog 199 #[.int .u32 x] w fun e w' => e = .returned (.int .u32 (immS x)) ∧ Hp w [] w' := by
 refine enter (args := [_]) (Γ := [(0,_)]) Tryz.func199 Tryz.ntmps199 rfl (of_decide_eq_true rfl) (.cons rfl .nil) ?_
 repeat' first | (apply Wl.callQ (f := 198);exact rfl;exact ke;exact j5) | refine Wl.move rfl rfl ?_ | refine Wl.assign rfl rfl ?_ | refine Wl.and rfl rfl rfl ?_ | refine Wl.or rfl rfl rfl ?_ | (refine Wl.shl rfl rfl rfl ?_ ?_;omega) | (refine Wl.shr rfl rfl rfl ?_ ?_;omega) | apply Wl.nil | apply St.seq | apply St.region | apply St.ret | apply Gt.next | (apply Gt.out1;exact rfl;exact rfl;intro w' hp)
 exact ⟨rfl,hp⟩
set_option maxHeartbeats 4000000 in
theorem immBX (x : Int) (w : World) : Calls Tryz.prog 163 #[.int .u32 x] w fun e w' => e = .returned (.int .u32 (immB x)) ∧ Hp w [] w' := by
 refine enter (args := [_]) (Γ := [(0,_)]) Tryz.func163 Tryz.ntmps163 rfl (of_decide_eq_true rfl) (.cons rfl .nil) ?_
 repeat' first | (apply Wl.callQ (f := 198);exact rfl;exact ke;exact j5) | refine Wl.move rfl rfl ?_ | refine Wl.assign rfl rfl ?_ | refine Wl.and rfl rfl rfl ?_ | refine Wl.or rfl rfl rfl ?_ | (refine Wl.shl rfl rfl rfl ?_ ?_;omega) | (refine Wl.shr rfl rfl rfl ?_ ?_;omega) | apply Wl.nil | apply St.seq | apply St.region | apply St.ret | apply Gt.next | (apply Gt.out1;exact rfl;exact rfl;intro w' hp)
 exact ⟨rfl,hp⟩
set_option maxHeartbeats 4000000 in
theorem immJX (x : Int) (w : World) : Calls Tryz.prog 159 #[.int .u32 x] w fun e w' => e = .returned (.int .u32 (immJ x)) ∧ Hp w [] w' := by
 refine enter (args := [_]) (Γ := [(0,_)]) Tryz.func159 Tryz.ntmps159 rfl (of_decide_eq_true rfl) (.cons rfl .nil) ?_
 repeat' first | (apply Wl.callQ (f := 198);exact rfl;exact ke;exact j5) | refine Wl.move rfl rfl ?_ | refine Wl.assign rfl rfl ?_ | refine Wl.and rfl rfl rfl ?_ | refine Wl.or rfl rfl rfl ?_ | (refine Wl.shl rfl rfl rfl ?_ ?_;omega) | (refine Wl.shr rfl rfl rfl ?_ ?_;omega) | apply Wl.nil | apply St.seq | apply St.region | apply St.ret | apply Gt.next | (apply Gt.out1;exact rfl;exact rfl;intro w' hp)
 exact ⟨rfl,hp⟩
set_option maxHeartbeats 4000000 in
theorem immUX (x : Int) (w : World) : Calls Tryz.prog 197 #[.int .u32 x] w fun e w' => e = .returned (.int .u32 (immU x)) ∧ Hp w [] w' := by
 refine enter (args := [_]) (Γ := [(0,_)]) Tryz.func197 Tryz.ntmps197 rfl (of_decide_eq_true rfl) (.cons rfl .nil) ?_
 repeat' first | refine Wl.move rfl rfl ?_ | refine Wl.assign rfl rfl ?_ | refine Wl.andNot rfl rfl rfl ?_ | apply Wl.nil | apply St.seq | apply St.region | apply St.ret | apply Gt.next | (apply Gt.out1;exact rfl;exact rfl;intro w' hp)
 exact ⟨rfl,hp⟩
set_option maxHeartbeats 16000000 in
theorem uX (op o rd r1 r2 im x : Int) (w : World) : Calls Tryz.prog 158 #[.int .i64 op,.agg #[.int .i64 o,.int .i64 rd,.int .i64 r1,.int .i64 r2,.int .u32 im],.int .u32 x] w fun e w' => e = .returned (instV ((op,rd,0,0,immU x))) ∧ Hp w [] w' := by
 refine enter (args := [_,_,_]) (Γ := [(0,_),(1,_),(2,_)]) Tryz.func158 Tryz.ntmps158 rfl (of_decide_eq_true rfl) (.cons rfl (.cons rfl (.cons rfl .nil))) ?_
 repeat' first | (apply Wl.boxA;exact rfl;exact rfl;intro c hc ho) | (apply Wl.alloc;exact rfl;intro c hc ho) | apply Wl.nil | apply St.seq | apply St.region | apply Gt.next
 rename_i cX hcX hoX
 refine St.tree (fun w' => Own w' [⟨cX,[Value.int .i64 o,.int .i64 rd,.int .i64 r1,.int .i64 r2,.int .u32 im],221⟩]) mixed (fun _ h => ⟨Hp.drew h,⟨own_at (Hp.drew h).own kv,trivial⟩⟩) ?_
 refine Mt.pm 0 ?_
 refine Mt.pz 1 ?_
 refine Mt.pu 2 ?_
 repeat' first | (apply Wl.loadF;exact rfl;exact rfl;(intro w' h';first | exact cell_of h'.1 rfl)) | apply Wl.nilB
 refine Mt.pm 3 ?_
 refine Mt.eff1 (i := 4) kg zd ?_
 repeat' first | (apply Wl.callQ (f := 197);exact rfl;exact ke;(intro wq hq;exact hq.q (immUX _ wq))) | apply Wl.nil
 refine Mt.backE (fun _ h => ⟨own_at h.own kv,trivial⟩) ?_
 refine Mt.pu 5 ?_
 repeat' first | (apply Wl.buildS;exact rfl;exact ki;exact kc) | apply Wl.nilB
 refine Mt.eff1 (i := 6) kg zd ?_
 repeat' first | (apply Wl.storeA;exact rfl;exact rfl;exact rfl;exact rfl;exact ke;exact kf) | apply Wl.nil
 refine Mt.backE (fun _ h => ⟨own_at h.own kv,trivial⟩) ?_
 refine Mt.toGt kg ?_
 repeat' first | (apply Gt.outC';exact rfl;infer_instance;exact rfl;exact ke;exact ke;intro w' hp) | apply St.ret | apply Gt.next
 exact ⟨rfl,hp.drop zy⟩
set_option maxHeartbeats 16000000 in
theorem sysX (x o rd r1 r2 im f : Int) (w : World) (hx : 0 ≤ x ∧ x < 4294967296) (hf : 0 ≤ f) : Calls Tryz.prog 200 #[.int .u32 x,.agg #[.int .i64 o,.int .i64 rd,.int .i64 r1,.int .i64 r2,.int .u32 im],.int .i64 f] w fun e w' => e = .returned (instV (sysF x rd r1 f)) ∧ Hp w [] w' := by
 refine enter (args := [_,_,_]) (Γ := [(0,_),(1,_),(2,_)]) Tryz.func200 Tryz.ntmps200 rfl (of_decide_eq_true rfl) (.cons rfl (.cons rfl (.cons rfl .nil))) ?_
 apply St.seq
 apply St.region
 apply Wl.boxA
 ·exact rfl
 ·exact rfl
 intro cX hcX hoX
 repeat' first | (apply Gt.outC';exact rfl;infer_instance;exact rfl;exact ke;exact ke;intro w' hp) | refine Wl.move rfl rfl ?_ | refine Wl.assign rfl rfl ?_ | refine Wl.eql rfl rfl rfl ?_ | (apply Wl.storeA;exact rfl;exact rfl;exact rfl;exact rfl;exact ke;exact kf) | (apply Wl.buildS;exact rfl;exact ki;exact kc) | (apply Wl.alloc;exact rfl;intro c hc ho) | apply Wl.nil | apply St.seq | apply St.block | apply St.region | apply St.ret | apply St.skip | apply Gt.next | apply Gt.thenRet | apply Gt.inNormal | apply Gt.inRet | (apply St.condP;exact rfl;all_goals (intros;try (exfalso;omega)))
 all_goals first
  | exact ⟨by unfold sysF;(repeat' split) <;> first | rfl | (exfalso;omega),hp.drop zy⟩
  | skip
 refine St.tree (fun w' => Own w' [⟨cX,[Value.int .i64 o,.int .i64 rd,.int .i64 r1,.int .i64 r2,.int .u32 im],221⟩]) mixed (fun _ h => ⟨Hp.drew h,⟨own_at (Hp.drew h).own kv,trivial⟩⟩) ?_
 refine Mt.pm 0 ?_
 refine Mt.pz 3 ?_
 refine Mt.pu 4 ?_
 repeat' first | (apply Wl.loadF;exact rfl;exact rfl;(intro w' h';first | exact cell_of h'.1 rfl)) | apply Wl.nilB
 refine Mt.pz 5 ?_
 refine Mt.pu 6 ?_
 repeat' first | (apply Wl.loadF;exact rfl;exact rfl;(intro w' h';first | exact cell_of h'.1 rfl)) | apply Wl.nilB
 refine Mt.pm 7 ?_
 refine Mt.pu 8 ?_
 repeat' first | (refine Wl.shr rfl rfl rfl ?_ ?_;omega) | apply Wl.nilB
 refine Mt.pu 9 ?_
 repeat' first | (apply Wl.buildS;exact rfl;exact ki;exact kc) | apply Wl.nilB
 refine Mt.eff1 (i := 1) kg zd ?_
 repeat' first | (apply Wl.lit;exact rfl;exact ki;exact rfl;exact rfl;exact kh;intro d_ hd_ hod_) | apply Wl.nil
 refine Mt.backE (fun _ h => ⟨own_at h.own kv,trivial⟩) ?_
 refine Mt.eff1 (i := 2) kg zd ?_
 repeat' first | (apply Wl.callQ (f := 162);exact rfl;exact ke;(intro wq hq;have hb_ := own_at hq.own (.head _);exact hq.q (pickX _ _ _ _ _ wq ky rfl rfl hb_))) | apply Wl.nil
 refine Mt.backE (fun _ h => ⟨own_at h.own kv,trivial⟩) ?_
 refine Mt.eff1 (i := 10) kg zd ?_
 repeat' first | (apply Wl.callQ (f := 161);exact rfl;exact ke;exact qr) | apply Wl.nil
 refine Mt.backE (fun _ h => ⟨own_at h.own kv,trivial⟩) ?_
 refine Mt.eff1 (i := 11) kg zd ?_
 repeat' first | (apply Wl.storeA;exact rfl;exact rfl;exact rfl;exact rfl;exact ke;exact kf) | apply Wl.nil
 refine Mt.backE (fun _ h => ⟨own_at h.own kv,trivial⟩) ?_
 refine Mt.toGt kg ?_
 repeat' first | (apply Gt.outC';exact rfl;infer_instance;exact rfl;exact ke;exact ke;intro w' hp) | apply St.ret | apply Gt.next
 exact ⟨by unfold sysF;(repeat' split) <;> first | rfl | (exfalso;omega),hp.drop zy⟩
set_option maxHeartbeats 16000000 in
theorem moreX (x o rd r1 r2 im f top : Int) (w : World) (hx : 0 ≤ x ∧ x < 4294967296) (hf : 0 ≤ f) (h2 : 0 ≤ r2 ∧ r2 < 32) : Calls Tryz.prog 164 #[.int .u32 x,.agg #[.int .i64 o,.int .i64 rd,.int .i64 r1,.int .i64 r2,.int .u32 im],.int .i64 f,.int .u32 top] w fun e w' => e = .returned (instV (moreF x rd r1 r2 im f top)) ∧ Hp w [] w' := by
 refine enter (args := [_,_,_,_]) (Γ := [(0,_),(1,_),(2,_),(3,_)]) Tryz.func164 Tryz.ntmps164 rfl (of_decide_eq_true rfl) (.cons rfl (.cons rfl (.cons rfl (.cons rfl .nil)))) ?_
 apply St.seq
 apply St.region
 apply Wl.boxA
 ·exact rfl
 ·exact rfl
 intro cX hcX hoX
 repeat' first | (apply Wl.alloc;exact rfl;intro c hc ho) | apply Wl.nil | apply St.seq | apply Gt.next
 refine St.tree (fun w' => Own w' [⟨cX,[Value.int .i64 o,.int .i64 rd,.int .i64 r1,.int .i64 r2,.int .u32 im],221⟩]) mixed (fun _ h => ⟨Hp.drew h,⟨own_at (Hp.drew h).own kv,trivial⟩⟩) ?_
 refine Mt.pz 0 ?_
 refine Mt.pu 1 ?_
 repeat' first | (apply Wl.loadF;exact rfl;exact rfl;(intro w' h';first | exact cell_of h'.1 rfl)) | apply Wl.nilB
 refine Mt.pz 2 ?_
 refine Mt.pu 3 ?_
 repeat' first | (apply Wl.loadF;exact rfl;exact rfl;(intro w' h';first | exact cell_of h'.1 rfl)) | apply Wl.nilB
 refine Mt.pm 4 ?_
 refine Mt.eff2 (i := 5) (j := 7) kg zd zd ?_ ?_
 ·repeat' first | (apply Wl.callQ (f := 160);exact rfl;exact ke;(intro wq hq;exact hq.q (immIX _ wq))) | apply Wl.nil
  refine Mt.backE (fun _ h => ⟨own_at h.own kv,trivial⟩) ?_
  refine Mt.pu 6 ?_
  repeat' first | (apply Wl.buildS;exact rfl;exact ki;exact kc) | apply Wl.nilB
  refine Mt.eff1 (i := 7) kg zd ?_
  apply Wl.alloc
  ·exact rfl
  intro c9 hc9 ho9
  repeat' first | apply Wl.nil
  refine Mt.backE (fun _ h => ⟨own_at h.own kv,trivial⟩) ?_
  refine Mt.eff1 (i := 8) kg zd ?_
  repeat' first | (apply Wl.storeA;exact rfl;exact rfl;exact rfl;exact rfl;exact ke;exact kf) | apply Wl.nil
  refine Mt.backE (fun _ h => ⟨own_at h.own kv,trivial⟩) ?_
  refine Mt.toGt kg ?_
  repeat' first | (apply Gt.outC';exact rfl;infer_instance;exact rfl;exact ke;exact ke;intro w' hp) | (apply Wl.callQ (f := 161);exact rfl;exact ke;exact qr) | (apply Wl.callQ (f := 200);exact rfl;exact ke;(intro wq hq;exact hq.q (sysX _ _ _ _ _ _ _ wq hx hf))) | refine Wl.move rfl rfl ?_ | refine Wl.assign rfl rfl ?_ | (apply Wl.on;exact rfl;exact rfl;exact ka) | (apply Wl.off;exact rfl;exact rfl;exact rfl;exact kr) | (apply Wl.pickT;exact rfl;exact rfl;exact ka;exact rfl) | (apply Wl.pickF;exact rfl;exact rfl;exact ka;exact rfl) | refine Wl.fieldAddrZ rfl rfl ?_ | (apply Wl.loadH;exact rfl;exact rfl;exact ke;exact rfl) | (apply Wl.eqlIs;exact rfl;exact rfl;exact rfl;exact kz) | refine Wl.eql rfl rfl rfl ?_ | refine Wl.and rfl rfl rfl ?_ | (refine Wl.convU32 rfl rfl ?_ ?_;constructor <;> omega) | (apply Wl.storeA;exact rfl;exact rfl;exact rfl;exact rfl;exact ke;exact kf) | (apply Wl.loadAH;exact rfl;exact rfl;exact ke;exact ke) | (apply Wl.buildS;exact rfl;exact ki;exact kc) | (apply Wl.alloc;exact rfl;intro c hc ho) | apply Wl.nil | apply St.seq | apply St.block | apply St.region | (apply St.condF;exact rfl;exact ka) | apply St.ret | apply St.skip | apply Gt.next | apply Gt.thenRet | apply Gt.inNormal | apply Gt.inRet | (apply Wl.splitP;exact rfl;exact rfl;all_goals (intros;try (exfalso;omega))) | (apply St.condP;exact rfl;all_goals (intros;try (exfalso;omega)))
  all_goals first
   | exact ⟨by unfold moreF;(repeat' split) <;> first | rfl | (exfalso;omega),hp.drop zy⟩
   | skip
  all_goals first
   | (refine St.tree (fun w' => Own w' [⟨c9,[Value.int .i64 0,.int .i64 rd,.int .i64 r1,.int .i64 0,.int .u32 (immI x)],221⟩,⟨cX,[Value.int .i64 o,.int .i64 rd,.int .i64 r1,.int .i64 r2,.int .u32 im],221⟩]) mixed (fun _ h => ⟨Hp.drew h,⟨own_at (Hp.drew h).own kv,own_at (Hp.drew h).own kv,trivial⟩⟩) ?_
      refine Mt.pm 0 ?_
      refine Mt.pu 3 ?_
      repeat' first | (apply Wl.loadAF (xs := [Value.int .i64 0,.int .i64 rd,.int .i64 r1,.int .i64 0,.int .u32 (immI x)]);exact rfl;exact rfl;exact rfl;(intro w' h';exact agg_of h'.1)) | (apply Wl.loadAF (xs := [Value.int .i64 o,.int .i64 rd,.int .i64 r1,.int .i64 r2,.int .u32 im]);exact rfl;exact rfl;exact rfl;(intro w' h';exact agg_of h'.2.1)) | refine Wl.fieldAddrZ rfl rfl ?_ | apply Wl.nilB
      refine Mt.eff1 (i := 1) kg zd ?_
      repeat' first | (apply Wl.lit;exact rfl;exact ki;exact rfl;exact rfl;exact kh;intro d_ hd_ hod_) | apply Wl.nil
      refine Mt.backE (fun _ h => ⟨own_at h.own kv,own_at h.own kv,trivial⟩) ?_
      refine Mt.eff1 (i := 2) kg zd ?_
      repeat' first | (apply Wl.callQ (f := 162);exact rfl;exact ke;(intro wq hq;have hb_ := own_at hq.own (.head _);exact hq.q (pickX _ _ _ _ _ wq ky rfl rfl hb_))) | apply Wl.nil
      refine Mt.backE (fun _ h => ⟨own_at h.own kv,own_at h.own kv,trivial⟩) ?_
      refine Mt.eff1 (i := 4) kg zd ?_
      repeat' first | (apply Wl.callQ (f := 161);exact rfl;exact ke;exact qr) | apply Wl.nil
      refine Mt.backE (fun _ h => ⟨own_at h.own kv,own_at h.own kv,trivial⟩) ?_
      refine Mt.eff1 (i := 5) kg zd ?_
      repeat' first | (apply Wl.storeA;exact rfl;exact rfl;exact rfl;exact rfl;exact ke;exact kf) | apply Wl.nil
      refine Mt.backE (fun _ h => ⟨own_at h.own kv,own_at h.own kv,trivial⟩) ?_
      refine Mt.toGt kg ?_
      repeat' first | (apply Gt.outC';exact rfl;infer_instance;exact rfl;exact ke;exact ke;intro w' hp) | apply St.ret | apply Gt.next | apply Gt.thenRet | apply Gt.inRet
      exact ⟨by unfold moreF;(repeat' split) <;> first | rfl | (exfalso;omega),hp.drop zy⟩)
   | (refine St.tree (fun w' => Own w' [⟨c9,[Value.int .i64 0,.int .i64 rd,.int .i64 r1,.int .i64 0,.int .u32 (immI x)],221⟩,⟨cX,[Value.int .i64 o,.int .i64 rd,.int .i64 r1,.int .i64 r2,.int .u32 im],221⟩]) mixed (fun _ h => ⟨Hp.drew h,⟨own_at (Hp.drew h).own kv,own_at (Hp.drew h).own kv,trivial⟩⟩) ?_
      refine Mt.pm 0 ?_
      refine Mt.pz 3 ?_
      refine Mt.pu 4 ?_
      repeat' first | (apply Wl.loadF;exact rfl;exact rfl;(intro w' h';first | exact cell_of h'.1 rfl | exact cell_of h'.2.1 rfl)) | apply Wl.nilB
      refine Mt.pz 5 ?_
      refine Mt.pu 6 ?_
      repeat' first | (apply Wl.loadF;exact rfl;exact rfl;(intro w' h';first | exact cell_of h'.1 rfl | exact cell_of h'.2.1 rfl)) | apply Wl.nilB
      refine Mt.pm 7 ?_
      refine Mt.eff1 (i := 1) kg zd ?_
      repeat' first | (apply Wl.lit;exact rfl;exact ki;exact rfl;exact rfl;exact kh;intro d_ hd_ hod_) | apply Wl.nil
      refine Mt.backE (fun _ h => ⟨own_at h.own kv,own_at h.own kv,trivial⟩) ?_
      refine Mt.eff1 (i := 2) kg zd ?_
      repeat' first | (apply Wl.callQ (f := 162);exact rfl;exact ke;(intro wq hq;have hb_ := own_at hq.own (.head _);exact hq.q (pickX _ _ _ _ _ wq ky rfl rfl hb_))) | apply Wl.nil
      refine Mt.backE (fun _ h => ⟨own_at h.own kv,own_at h.own kv,trivial⟩) ?_
      refine Mt.eff1 (i := 8) kg zd ?_
      repeat' first | (apply Wl.callQ (f := 199);exact rfl;exact ke;(intro wq hq;exact hq.q (immSX _ wq))) | apply Wl.nil
      refine Mt.backE (fun _ h => ⟨own_at h.own kv,own_at h.own kv,trivial⟩) ?_
      refine Mt.pu 9 ?_
      repeat' first | (apply Wl.buildS;exact rfl;exact ki;exact kc) | apply Wl.nilB
      refine Mt.eff1 (i := 10) kg zd ?_
      repeat' first | (apply Wl.callQ (f := 161);exact rfl;exact ke;exact qr) | apply Wl.nil
      refine Mt.backE (fun _ h => ⟨own_at h.own kv,own_at h.own kv,trivial⟩) ?_
      refine Mt.eff1 (i := 11) kg zd ?_
      repeat' first | (apply Wl.storeA;exact rfl;exact rfl;exact rfl;exact rfl;exact ke;exact kf) | apply Wl.nil
      refine Mt.backE (fun _ h => ⟨own_at h.own kv,own_at h.own kv,trivial⟩) ?_
      refine Mt.toGt kg ?_
      repeat' first | (apply Gt.outC';exact rfl;infer_instance;exact rfl;exact ke;exact ke;intro w' hp) | apply St.ret | apply Gt.next | apply Gt.thenRet | apply Gt.inRet
      exact ⟨by unfold moreF;(repeat' split) <;> first | rfl | (exfalso;omega),hp.drop zy⟩)
 ·apply Wl.alloc
  ·exact rfl
  intro c9 hc9 ho9
  repeat' first | apply Wl.nil
  refine Mt.backE (fun _ h => ⟨own_at h.own kv,trivial⟩) ?_
  refine Mt.eff1 (i := 5) kg zd ?_
  repeat' first | (apply Wl.callQ (f := 160);exact rfl;exact ke;(intro wq hq;exact hq.q (immIX _ wq))) | apply Wl.nil
  refine Mt.backE (fun _ h => ⟨own_at h.own kv,trivial⟩) ?_
  refine Mt.pu 6 ?_
  repeat' first | (apply Wl.buildS;exact rfl;exact ki;exact kc) | apply Wl.nilB
  refine Mt.eff1 (i := 8) kg zd ?_
  repeat' first | (apply Wl.storeA;exact rfl;exact rfl;exact rfl;exact rfl;exact ke;exact kf) | apply Wl.nil
  refine Mt.backE (fun _ h => ⟨own_at h.own kv,trivial⟩) ?_
  refine Mt.toGt kg ?_
  repeat' first | (apply Gt.outC';exact rfl;infer_instance;exact rfl;exact ke;exact ke;intro w' hp) | (apply Wl.callQ (f := 161);exact rfl;exact ke;exact qr) | (apply Wl.callQ (f := 200);exact rfl;exact ke;(intro wq hq;exact hq.q (sysX _ _ _ _ _ _ _ wq hx hf))) | refine Wl.move rfl rfl ?_ | refine Wl.assign rfl rfl ?_ | (apply Wl.on;exact rfl;exact rfl;exact ka) | (apply Wl.off;exact rfl;exact rfl;exact rfl;exact kr) | (apply Wl.pickT;exact rfl;exact rfl;exact ka;exact rfl) | (apply Wl.pickF;exact rfl;exact rfl;exact ka;exact rfl) | refine Wl.fieldAddrZ rfl rfl ?_ | (apply Wl.loadH;exact rfl;exact rfl;exact ke;exact rfl) | (apply Wl.eqlIs;exact rfl;exact rfl;exact rfl;exact kz) | refine Wl.eql rfl rfl rfl ?_ | refine Wl.and rfl rfl rfl ?_ | (refine Wl.convU32 rfl rfl ?_ ?_;constructor <;> omega) | (apply Wl.storeA;exact rfl;exact rfl;exact rfl;exact rfl;exact ke;exact kf) | (apply Wl.loadAH;exact rfl;exact rfl;exact ke;exact ke) | (apply Wl.buildS;exact rfl;exact ki;exact kc) | (apply Wl.alloc;exact rfl;intro c hc ho) | apply Wl.nil | apply St.seq | apply St.block | apply St.region | (apply St.condF;exact rfl;exact ka) | apply St.ret | apply St.skip | apply Gt.next | apply Gt.thenRet | apply Gt.inNormal | apply Gt.inRet | (apply Wl.splitP;exact rfl;exact rfl;all_goals (intros;try (exfalso;omega))) | (apply St.condP;exact rfl;all_goals (intros;try (exfalso;omega)))
  all_goals first
   | exact ⟨by unfold moreF;(repeat' split) <;> first | rfl | (exfalso;omega),hp.drop zy⟩
   | skip
  all_goals first
   | (refine St.tree (fun w' => Own w' [⟨c9,[Value.int .i64 0,.int .i64 rd,.int .i64 r1,.int .i64 0,.int .u32 (immI x)],221⟩,⟨cX,[Value.int .i64 o,.int .i64 rd,.int .i64 r1,.int .i64 r2,.int .u32 im],221⟩]) mixed (fun _ h => ⟨Hp.drew h,⟨own_at (Hp.drew h).own kv,own_at (Hp.drew h).own kv,trivial⟩⟩) ?_
      refine Mt.pm 0 ?_
      refine Mt.pu 3 ?_
      repeat' first | (apply Wl.loadAF (xs := [Value.int .i64 0,.int .i64 rd,.int .i64 r1,.int .i64 0,.int .u32 (immI x)]);exact rfl;exact rfl;exact rfl;(intro w' h';exact agg_of h'.1)) | (apply Wl.loadAF (xs := [Value.int .i64 o,.int .i64 rd,.int .i64 r1,.int .i64 r2,.int .u32 im]);exact rfl;exact rfl;exact rfl;(intro w' h';exact agg_of h'.2.1)) | refine Wl.fieldAddrZ rfl rfl ?_ | apply Wl.nilB
      refine Mt.eff1 (i := 1) kg zd ?_
      repeat' first | (apply Wl.lit;exact rfl;exact ki;exact rfl;exact rfl;exact kh;intro d_ hd_ hod_) | apply Wl.nil
      refine Mt.backE (fun _ h => ⟨own_at h.own kv,own_at h.own kv,trivial⟩) ?_
      refine Mt.eff1 (i := 2) kg zd ?_
      repeat' first | (apply Wl.callQ (f := 162);exact rfl;exact ke;(intro wq hq;have hb_ := own_at hq.own (.head _);exact hq.q (pickX _ _ _ _ _ wq ky rfl rfl hb_))) | apply Wl.nil
      refine Mt.backE (fun _ h => ⟨own_at h.own kv,own_at h.own kv,trivial⟩) ?_
      refine Mt.eff1 (i := 4) kg zd ?_
      repeat' first | (apply Wl.callQ (f := 161);exact rfl;exact ke;exact qr) | apply Wl.nil
      refine Mt.backE (fun _ h => ⟨own_at h.own kv,own_at h.own kv,trivial⟩) ?_
      refine Mt.eff1 (i := 5) kg zd ?_
      repeat' first | (apply Wl.storeA;exact rfl;exact rfl;exact rfl;exact rfl;exact ke;exact kf) | apply Wl.nil
      refine Mt.backE (fun _ h => ⟨own_at h.own kv,own_at h.own kv,trivial⟩) ?_
      refine Mt.toGt kg ?_
      repeat' first | (apply Gt.outC';exact rfl;infer_instance;exact rfl;exact ke;exact ke;intro w' hp) | apply St.ret | apply Gt.next | apply Gt.thenRet | apply Gt.inRet
      exact ⟨by unfold moreF;(repeat' split) <;> first | rfl | (exfalso;omega),hp.drop zy⟩)
   | (refine St.tree (fun w' => Own w' [⟨c9,[Value.int .i64 0,.int .i64 rd,.int .i64 r1,.int .i64 0,.int .u32 (immI x)],221⟩,⟨cX,[Value.int .i64 o,.int .i64 rd,.int .i64 r1,.int .i64 r2,.int .u32 im],221⟩]) mixed (fun _ h => ⟨Hp.drew h,⟨own_at (Hp.drew h).own kv,own_at (Hp.drew h).own kv,trivial⟩⟩) ?_
      refine Mt.pm 0 ?_
      refine Mt.pz 3 ?_
      refine Mt.pu 4 ?_
      repeat' first | (apply Wl.loadF;exact rfl;exact rfl;(intro w' h';first | exact cell_of h'.1 rfl | exact cell_of h'.2.1 rfl)) | apply Wl.nilB
      refine Mt.pz 5 ?_
      refine Mt.pu 6 ?_
      repeat' first | (apply Wl.loadF;exact rfl;exact rfl;(intro w' h';first | exact cell_of h'.1 rfl | exact cell_of h'.2.1 rfl)) | apply Wl.nilB
      refine Mt.pm 7 ?_
      refine Mt.eff1 (i := 1) kg zd ?_
      repeat' first | (apply Wl.lit;exact rfl;exact ki;exact rfl;exact rfl;exact kh;intro d_ hd_ hod_) | apply Wl.nil
      refine Mt.backE (fun _ h => ⟨own_at h.own kv,own_at h.own kv,trivial⟩) ?_
      refine Mt.eff1 (i := 2) kg zd ?_
      repeat' first | (apply Wl.callQ (f := 162);exact rfl;exact ke;(intro wq hq;have hb_ := own_at hq.own (.head _);exact hq.q (pickX _ _ _ _ _ wq ky rfl rfl hb_))) | apply Wl.nil
      refine Mt.backE (fun _ h => ⟨own_at h.own kv,own_at h.own kv,trivial⟩) ?_
      refine Mt.eff1 (i := 8) kg zd ?_
      repeat' first | (apply Wl.callQ (f := 199);exact rfl;exact ke;(intro wq hq;exact hq.q (immSX _ wq))) | apply Wl.nil
      refine Mt.backE (fun _ h => ⟨own_at h.own kv,own_at h.own kv,trivial⟩) ?_
      refine Mt.pu 9 ?_
      repeat' first | (apply Wl.buildS;exact rfl;exact ki;exact kc) | apply Wl.nilB
      refine Mt.eff1 (i := 10) kg zd ?_
      repeat' first | (apply Wl.callQ (f := 161);exact rfl;exact ke;exact qr) | apply Wl.nil
      refine Mt.backE (fun _ h => ⟨own_at h.own kv,own_at h.own kv,trivial⟩) ?_
      refine Mt.eff1 (i := 11) kg zd ?_
      repeat' first | (apply Wl.storeA;exact rfl;exact rfl;exact rfl;exact rfl;exact ke;exact kf) | apply Wl.nil
      refine Mt.backE (fun _ h => ⟨own_at h.own kv,own_at h.own kv,trivial⟩) ?_
      refine Mt.toGt kg ?_
      repeat' first | (apply Gt.outC';exact rfl;infer_instance;exact rfl;exact ke;exact ke;intro w' hp) | apply St.ret | apply Gt.next | apply Gt.thenRet | apply Gt.inRet
      exact ⟨by unfold moreF;(repeat' split) <;> first | rfl | (exfalso;omega),hp.drop zy⟩)
set_option maxHeartbeats 16000000 in
theorem decX (x : Int) (w : World) (hx : 0 ≤ x ∧ x < 4294967296) : Calls Tryz.prog 117 #[.int .u32 x] w fun e w' => e = .returned (instV (decF x)) ∧ Hp w [] w' := by
 refine enter (args := [_]) (Γ := [(0,_)]) Tryz.func117 Tryz.ntmps117 rfl (of_decide_eq_true rfl) (.cons rfl .nil) ?_
 have g1 := and31 (shrF x 7)
 have g2 := and31 (shrF x 15)
 have g3 := and31 (shrF x 20)
 have g4 := and7 (shrF x 12)
 have g5 := b64 .and (shrF x 12) 7
 unfold decF
 generalize h1 : bits .and .u32 (shrF x 7) 31 = rd at *
 generalize h2 : bits .and .u32 (shrF x 15) 31 = r1 at *
 generalize h3 : bits .and .u32 (shrF x 20) 31 = r2 at *
 generalize h4 : bits .and .u32 (shrF x 12) 7 = f at *
 apply St.seq
 apply St.region
 apply Wl.alloc
 ·exact rfl
 intro c2 hc2 ho2
 apply Wl.nil
 apply Gt.next
 repeat' first | (apply Wl.andIs;exact rfl;exact rfl;exact rfl;exact h1) | (apply Wl.andIs;exact rfl;exact rfl;exact rfl;exact h2) | (apply Wl.andIs;exact rfl;exact rfl;exact rfl;exact h3) | (apply Wl.andIs;exact rfl;exact rfl;exact rfl;exact h4) | (apply Gt.outC';exact rfl;infer_instance;exact rfl;exact ke;exact ke;intro w' hp) | (apply Wl.callQ (f := 158);exact rfl;exact ke;(intro wq hq;exact hq.q (uX _ _ _ _ _ _ _ wq))) | (apply Wl.callQ (f := 164);exact rfl;exact ke;(intro wq hq;exact hq.q (moreX _ _ _ _ _ _ _ _ wq hx g4 g3))) | refine Wl.move rfl rfl ?_ | refine Wl.assign rfl rfl ?_ | refine Wl.eql rfl rfl rfl ?_ | refine Wl.neq rfl rfl rfl ?_ | refine Wl.and rfl rfl rfl ?_ | (refine Wl.shr rfl rfl rfl ?_ ?_;omega) | (refine Wl.convI64 rfl rfl ?_ ?_;constructor <;> omega) | (apply Wl.storeA;exact rfl;exact rfl;exact rfl;exact rfl;exact ke;exact kf) | (apply Wl.loadAH;exact rfl;exact rfl;exact ke;exact ke) | (apply Wl.buildS;exact rfl;exact ki;exact kc) | (apply Wl.alloc;exact rfl;intro c hc ho) | apply Wl.nil | apply St.seq | apply St.block | apply St.region | apply St.ret | apply St.skip | apply Gt.next | apply Gt.thenRet | apply Gt.inNormal | apply Gt.inRet | (apply St.condP;exact rfl;all_goals (intros;try (exfalso;omega)))
 all_goals generalize c = cX at *
 all_goals first
  | exact ⟨by unfold dec5F;(repeat' split) <;> first | rfl | (exfalso;omega),hp.drop zy⟩
  | skip
 ·skip
  refine St.tree (fun w' => Own w' [⟨cX,[Value.int .i64 0,.int .i64 rd,.int .i64 r1,.int .i64 r2,.int .u32 0],221⟩]) mixed (fun _ h => ⟨Hp.drew h,⟨own_at (Hp.drew h).own kv,trivial⟩⟩) ?_
  refine Mt.pz 0 ?_
  refine Mt.pu 1 ?_
  repeat' first | (apply Wl.loadF;exact rfl;exact rfl;(intro w' h';first | exact cell_of h'.1 rfl)) | apply Wl.nilB
  refine Mt.pm 2 ?_
  refine Mt.eff1 (i := 3) kg zd ?_
  repeat' first | (apply Wl.callQ (f := 159);exact rfl;exact ke;(intro wq hq;exact hq.q (immJX _ wq))) | apply Wl.nil
  refine Mt.backE (fun _ h => ⟨own_at h.own kv,trivial⟩) ?_
  refine Mt.pu 4 ?_
  repeat' first | (apply Wl.buildS;exact rfl;exact ki;exact kc) | apply Wl.nilB
  refine Mt.eff1 (i := 5) kg zd ?_
  repeat' first | (apply Wl.storeA;exact rfl;exact rfl;exact rfl;exact rfl;exact ke;exact kf) | apply Wl.nil
  refine Mt.backE (fun _ h => ⟨own_at h.own kv,trivial⟩) ?_
  refine Mt.toGt kg ?_
  repeat' first | (apply Gt.outC';exact rfl;infer_instance;exact rfl;exact ke;exact ke;intro w' hp) | apply St.ret | apply Gt.next | apply Gt.thenRet | apply Gt.inRet
  exact ⟨by unfold dec5F;(repeat' split) <;> first | rfl | (exfalso;omega),hp.drop zy⟩
 ·skip
  refine St.tree (fun w' => Own w' [⟨cX,[Value.int .i64 0,.int .i64 rd,.int .i64 r1,.int .i64 r2,.int .u32 0],221⟩]) mixed (fun _ h => ⟨Hp.drew h,⟨own_at (Hp.drew h).own kv,trivial⟩⟩) ?_
  refine Mt.pz 0 ?_
  refine Mt.pu 1 ?_
  repeat' first | (apply Wl.loadF;exact rfl;exact rfl;(intro w' h';first | exact cell_of h'.1 rfl)) | apply Wl.nilB
  refine Mt.pz 2 ?_
  refine Mt.pu 3 ?_
  repeat' first | (apply Wl.loadF;exact rfl;exact rfl;(intro w' h';first | exact cell_of h'.1 rfl)) | apply Wl.nilB
  refine Mt.pm 4 ?_
  refine Mt.eff1 (i := 5) kg zd ?_
  repeat' first | (apply Wl.callQ (f := 160);exact rfl;exact ke;(intro wq hq;exact hq.q (immIX _ wq))) | apply Wl.nil
  refine Mt.backE (fun _ h => ⟨own_at h.own kv,trivial⟩) ?_
  refine Mt.pu 6 ?_
  repeat' first | (apply Wl.buildS;exact rfl;exact ki;exact kc) | apply Wl.nilB
  refine Mt.eff1 (i := 7) kg zd ?_
  repeat' first | (apply Wl.storeA;exact rfl;exact rfl;exact rfl;exact rfl;exact ke;exact kf) | apply Wl.nil
  refine Mt.backE (fun _ h => ⟨own_at h.own kv,trivial⟩) ?_
  refine Mt.toGt kg ?_
  repeat' first | (apply Gt.outC';exact rfl;infer_instance;exact rfl;exact ke;exact ke;intro w' hp) | apply St.ret | apply Gt.next | apply Gt.thenRet | apply Gt.inRet
  exact ⟨by unfold dec5F;(repeat' split) <;> first | rfl | (exfalso;omega),hp.drop zy⟩
 ·skip
  refine St.tree (fun w' => Own w' [⟨cX,[Value.int .i64 0,.int .i64 rd,.int .i64 r1,.int .i64 r2,.int .u32 0],221⟩]) mixed (fun _ h => ⟨Hp.drew h,⟨own_at (Hp.drew h).own kv,trivial⟩⟩) ?_
  refine Mt.pm 0 ?_
  refine Mt.pz 3 ?_
  refine Mt.pu 4 ?_
  repeat' first | (apply Wl.loadF;exact rfl;exact rfl;(intro w' h';first | exact cell_of h'.1 rfl)) | apply Wl.nilB
  refine Mt.pz 5 ?_
  refine Mt.pu 6 ?_
  repeat' first | (apply Wl.loadF;exact rfl;exact rfl;(intro w' h';first | exact cell_of h'.1 rfl)) | apply Wl.nilB
  refine Mt.pm 7 ?_
  refine Mt.eff1 (i := 1) kg zd ?_
  repeat' first | (apply Wl.lit;exact rfl;exact ki;exact rfl;exact rfl;exact kh;intro d_ hd_ hod_) | apply Wl.nil
  refine Mt.backE (fun _ h => ⟨own_at h.own kv,trivial⟩) ?_
  refine Mt.eff1 (i := 2) kg zd ?_
  repeat' first | (apply Wl.callQ (f := 162);exact rfl;exact ke;(intro wq hq;have hb_ := own_at hq.own (.head _);exact hq.q (pickX _ _ _ _ _ wq ky rfl rfl hb_))) | apply Wl.nil
  refine Mt.backE (fun _ h => ⟨own_at h.own kv,trivial⟩) ?_
  refine Mt.eff1 (i := 8) kg zd ?_
  repeat' first | (apply Wl.callQ (f := 163);exact rfl;exact ke;(intro wq hq;exact hq.q (immBX _ wq))) | apply Wl.nil
  refine Mt.backE (fun _ h => ⟨own_at h.own kv,trivial⟩) ?_
  refine Mt.pu 9 ?_
  repeat' first | (apply Wl.buildS;exact rfl;exact ki;exact kc) | apply Wl.nilB
  refine Mt.eff1 (i := 10) kg zd ?_
  repeat' first | (apply Wl.callQ (f := 161);exact rfl;exact ke;exact qr) | apply Wl.nil
  refine Mt.backE (fun _ h => ⟨own_at h.own kv,trivial⟩) ?_
  refine Mt.eff1 (i := 11) kg zd ?_
  repeat' first | (apply Wl.storeA;exact rfl;exact rfl;exact rfl;exact rfl;exact ke;exact kf) | apply Wl.nil
  refine Mt.backE (fun _ h => ⟨own_at h.own kv,trivial⟩) ?_
  refine Mt.toGt kg ?_
  repeat' first | (apply Gt.outC';exact rfl;infer_instance;exact rfl;exact ke;exact ke;intro w' hp) | apply St.ret | apply Gt.next | apply Gt.thenRet | apply Gt.inRet
  exact ⟨by unfold dec5F;(repeat' split) <;> first | rfl | (exfalso;omega),hp.drop zy⟩
end Go.Proofs.YtabbklpalbikdaaGreatDoor
end
section
namespace Go.Proofs.YtabbklpalbikdaaGreatDoor
open Go.RowKit Go.Pt
def In5R (p : In5) : Prop := InstR p.2.1 p.2.2.1 p.2.2.2.1 p.2.2.2.2
theorem extF_rng (x n : Int) : 0 ≤ extF x n ∧ extF x n < 4294967296 := wr32 _
theorem ofF_rng {op rd r1 r2 im : Int} (h : InstR rd r1 r2 im) : In5R (of5 op rd r1 r2 im) := by
 unfold of5
 split
 ·exact instR0
 ·exact h
theorem shrF_rng {x : Int} (s : Int) (hx : 0 ≤ x ∧ x < 4294967296) : 0 ≤ shrF x s ∧ shrF x s < 4294967296 := fd32 hx
theorem In5R.ite {c : Prop} {_i : Decidable c} {a b : In5} (ha : In5R a) (hb : In5R b) : In5R (if c then a else b) := by
 split
 ·exact ha
 ·exact hb
set_option maxRecDepth 20000 in
theorem decF_rng {x : Int} (hx : 0 ≤ x ∧ x < 4294967296) : In5R (decF x) := by
 have g1 := and31 (shrF x 7)
 have g2 := and31 (shrF x 15)
 have g3 := and31 (shrF x 20)
 have gI : 0 ≤ immI x ∧ immI x < 4294967296 := extF_rng _ _
 have gS : 0 ≤ immS x ∧ immS x < 4294967296 := extF_rng _ _
 have gB : 0 ≤ immB x ∧ immB x < 4294967296 := extF_rng _ _
 have gJ : 0 ≤ immJ x ∧ immJ x < 4294967296 := extF_rng _ _
 have gU : 0 ≤ immU x ∧ immU x < 4294967296 := br32 _ _ _
 have gs := shrF_rng 20 hx
 have z : (0 : Int) ≤ 0 ∧ (0 : Int) < 32 := by decide
 have z2 : (0 : Int) ≤ 0 ∧ (0 : Int) < 4294967296 := by decide
 have c0 : ∀ o : Int,In5R (o,0,0,0,0) := fun _ => ⟨z,z,z,z2⟩
 have gR : ∀ o,In5R (of5 o (bits .and .u32 (shrF x 7) 31) (bits .and .u32 (shrF x 15) 31) (bits .and .u32 (shrF x 20) 31) 0) := fun _ => ofF_rng ⟨g1,g2,g3,z2⟩
 have gT : ∀ o,In5R (of5 o (bits .and .u32 (shrF x 7) 31) (bits .and .u32 (shrF x 15) 31) 0 (bits .and .u32 (shrF x 20) 31)) := fun _ => ofF_rng ⟨g1,g2,z,by omega⟩
 have gA : ∀ o,In5R (of5 o (bits .and .u32 (shrF x 7) 31) (bits .and .u32 (shrF x 15) 31) 0 (immI x)) := fun _ => ofF_rng ⟨g1,g2,z,gI⟩
 have m : ∀ f top,In5R (moreF x (bits .and .u32 (shrF x 7) 31) (bits .and .u32 (shrF x 15) 31) (bits .and .u32 (shrF x 20) 31) 0 f top) := fun f top =>
  In5R.ite (gA _) (In5R.ite (ofF_rng ⟨z,g2,g3,gS⟩) (In5R.ite (In5R.ite (gT _) (In5R.ite (gT _) (In5R.ite (gT _) (gA _)))) (In5R.ite (In5R.ite (gR _) (In5R.ite (gR _) (In5R.ite (gR _) (c0 0))))
   (In5R.ite (In5R.ite (c0 46) (c0 0)) (In5R.ite (In5R.ite (c0 47) (In5R.ite (c0 48) (In5R.ite (c0 49) (In5R.ite (c0 50) (ofF_rng ⟨g1,g2,z,gs⟩))))) (c0 0))))))
 exact In5R.ite ⟨g1,z,z,gU⟩ (In5R.ite ⟨g1,z,z,gU⟩ (In5R.ite ⟨g1,z,z,gJ⟩ (In5R.ite (In5R.ite (c0 0) ⟨g1,g2,z,gI⟩) (In5R.ite (ofF_rng ⟨z,g2,g3,gB⟩) (m _ _)))))
end Go.Proofs.YtabbklpalbikdaaGreatDoor
end
section
namespace Go.Proofs.YtabbklpalbikdaaGreatDoor
open Go.RowKit Go.Pt
def tzF (x : Int) : Int := if x = 0 then 32 else zTab ((IntKind.u32.wrap (bits .and .u32 x (IntKind.u32.wrap (0 - x)) * 125613361)).fdiv (2 ^ min (Int.toNat 27) IntKind.u32.bits)).toNat
theorem tzF_pos (x : Int) : 0 ≤ tzF x := by
 unfold tzF
 split
 ·decide
 ·obtain ⟨i1,i2⟩ := idx27 (bits .and .u32 x (IntKind.u32.wrap (0 - x)) * 125613361)
  exact (zTab_ok ky).1
set_option maxHeartbeats 2000000 in
theorem tzF_spec (x : Int) (w : World) (hT : tabOk w) : Calls Tryz.prog 128 #[.int .u32 x] w fun e w' => e = .returned (.int .i64 (tzF x)) ∧ Hp w [] w' := by
 unfold tzF
 by_cases hx : x = 0
 ·have hd : decide (x = 0) = true := decide_eq_true hx
  rw [if_pos hx]
  refine enter (args := [_]) (Γ := [(0,_)]) Tryz.func128 Tryz.ntmps128 rfl (of_decide_eq_true rfl) (.cons rfl .nil) ?_
  repeat' first | refine Wl.move rfl rfl ?_ | refine Wl.assign rfl rfl ?_ | (apply Wl.eqlIs;exact rfl;exact rfl;exact rfl;exact kz) | apply Wl.nil | apply St.seq | apply St.region | (apply St.condT;exact rfl;exact ka) | apply St.ret | apply Gt.next | apply Gt.thenRet | (apply Gt.out1;exact rfl;exact rfl;intro w' hp)
  exact ⟨rfl,hp⟩
 ·have hd : decide (x = 0) = false := decide_eq_false hx
  obtain ⟨i1,i2⟩ := idx27 (bits .and .u32 x (IntKind.u32.wrap (0 - x)) * 125613361)
  have hl : ((IntKind.u32.wrap (bits .and .u32 x (IntKind.u32.wrap (0 - x)) * 125613361)).fdiv (2 ^ min (Int.toNat 27) IntKind.u32.bits)).toNat < 32 := by omega
  have hz := zTab_ok hl
  rw [if_neg hx]
  have hc := (hT.at hl).2
  have hc' : w.cell? ⟨0,0 + ((IntKind.u32.wrap (bits .and .u32 x (IntKind.u32.wrap (0 - x)) * 125613361)).fdiv (2 ^ min (Int.toNat 27) IntKind.u32.bits)).toNat * 1,none⟩ = some (.int .u8 (zTab ((IntKind.u32.wrap (bits .and .u32 x (IntKind.u32.wrap (0 - x)) * 125613361)).fdiv (2 ^ min (Int.toNat 27) IntKind.u32.bits)).toNat)) := by rw [Nat.zero_add,Nat.mul_one];exact hc
  refine enter (args := [_]) (Γ := [(0,_)]) Tryz.func128 Tryz.ntmps128 rfl (of_decide_eq_true rfl) (.cons rfl .nil) ?_
  generalize zTab ((IntKind.u32.wrap (bits .and .u32 x (IntKind.u32.wrap (0 - x)) * 125613361)).fdiv (2 ^ min (Int.toNat 27) IntKind.u32.bits)).toNat = z at *
  repeat' first | (apply Wl.loadO;exact rfl;exact rfl;exact hc';exact trivial) | refine Wl.move rfl rfl ?_ | refine Wl.assign rfl rfl ?_ | refine Wl.eql rfl rfl rfl ?_ | refine Wl.mul rfl rfl rfl ?_ | refine Wl.and rfl rfl rfl ?_ | (refine Wl.shr rfl rfl rfl ?_ ?_;omega) | (refine Wl.convI64 rfl rfl ?_ ?_;constructor <;> omega) | refine Wl.neg rfl rfl ?_ | (refine Wl.indexArr rfl rfl rfl ?_ ?_;constructor <;> omega) | apply Wl.nil | apply St.seq | apply St.region | (apply St.condF;exact rfl;exact ka) | apply St.ret | apply St.skip | apply Gt.next | (apply Gt.out1;exact rfl;exact rfl;intro w' hp)
  exact ⟨rfl,hp⟩
def by4 (x : Int) : Int := IntKind.u64.wrap (IntKind.u64.wrap x * 2 ^ min (Int.toNat 2) IntKind.u64.bits)
noncomputable def napS (x : Int) : Int := IntKind.u64.wrap (8 * 2 ^ min (tzF (bits .xor .u32 IntKind.u32.max x)).toNat IntKind.u64.bits)
noncomputable def rgF (way prev x : Int) : Int × Int :=
 if way = 1 then (prev,if prev < by4 x then by4 x else prev)
 else if way = 2 then (by4 x,IntKind.u64.wrap (by4 x + 4))
 else if way = 3 then (bits .andNot .u64 (by4 x) (IntKind.u64.wrap (napS x - 1)),IntKind.u64.wrap (bits .andNot .u64 (by4 x) (IntKind.u64.wrap (napS x - 1)) + napS x))
 else (0,0)
def prevA (en : Nat → Int × Int × Int) (i : Nat) : Int := if 0 < i then by4 (en (i - 1)).2.2 else 0
noncomputable def rgX (en : Nat → Int × Int × Int) (i : Nat) : Int × Int := rgF (en i).1 (prevA en i) (en i).2.2
set_option maxHeartbeats 4000000 in
theorem rangeX (n : Nat) (en : Nat → Int × Int × Int) (i : Nat) (hi : i < n) (hn : n ≤ 16) (cap : Nat) (a : Option Addr) (w : World) (hS : EntX w a n en) (hT : tabOk w) :
  Calls Tryz.prog 77 #[.slice a n cap,.int .i64 i] w fun e w' => e = .returned (.tuple #[.int .u64 (rgX en i).1,.int .u64 (rgX en i).2]) ∧ Hp w [] w' := by
 have hd0 : decide ((i : Int) < 0) = false := decide_eq_false ky
 have hd1 : decide ((i : Int) ≥ (n : Int)) = false := decide_eq_false ky
 obtain ⟨b,o,rfl,h1,h2,h3⟩ := hS i hi
 have p0 : w.cell? ⟨b,o + (i : Int).toNat * 3,none⟩ = some (.int .i64 (en i).1) := by rw [Int.toNat_natCast];exact h1
 have p2 : w.cell? ⟨b,o + (i : Int).toNat * 3 + 2,none⟩ = some (.int .u32 (en i).2.2) := by rw [Int.toNat_natCast];exact h3
 unfold rgX rgF
 by_cases w1 : (en i).1 = 1
 ·have d1 : decide ((en i).1 = 1) = true := decide_eq_true w1
  rw [if_pos w1]
  unfold prevA
  by_cases hp0 : 0 < i
  ·have d0 : decide ((i : Int) > 0) = true := decide_eq_true ky
   rw [if_pos hp0]
   obtain ⟨b',o',e,_,_,g3⟩ := hS (i - 1) ky
   cases e
   have p3 : w.cell? ⟨b,o + ((i : Int) - 1).toNat * 3 + 2,none⟩ = some (.int .u32 (en (i - 1)).2.2) := by rw [show ((i : Int) - 1).toNat = i - 1 by omega];exact g3
   refine enter (args := [_,_]) (Γ := [(0,_),(1,_)]) Tryz.func77 Tryz.ntmps77 rfl (of_decide_eq_true rfl) (.cons rfl (.cons rfl .nil)) ?_
   repeat' first | (apply Wl.loadO;exact rfl;exact rfl;(first | exact p0 | exact p2 | exact p3);exact trivial) | refine Wl.max2 rfl rfl rfl ?_ | refine Wl.move rfl rfl ?_ | refine Wl.assign rfl rfl ?_ | (apply Wl.on;exact rfl;exact rfl;exact ka) | (apply Wl.pickF;exact rfl;exact rfl;exact ka;exact rfl) | refine Wl.fieldAddr0 rfl rfl ?_ | refine Wl.fieldAddr rfl rfl ?_ | (apply Wl.eqlIs;exact rfl;exact rfl;exact rfl;exact kz) | refine Wl.lss rfl rfl rfl ?_ | refine Wl.gtr rfl rfl rfl ?_ | refine Wl.geq rfl rfl rfl ?_ | (refine Wl.subI rfl rfl rfl ?_ ?_;constructor <;> omega) | (refine Wl.shl rfl rfl rfl ?_ ?_;omega) | refine Wl.convI rfl rfl ?_ | refine Wl.len rfl rfl ?_ | (refine Wl.indexAddr rfl rfl rfl ?_ ?_;constructor <;> omega) | apply Wl.nil | apply St.seq | apply St.block | apply St.region | (apply St.condT;exact rfl;exact ka) | (apply St.condF;exact rfl;exact ka) | apply St.ret | apply St.skip | apply Gt.next | apply Gt.thenRet | apply Gt.inRet | (apply Gt.out2;exact rfl;exact rfl;exact rfl;intro w' hp)
   exact ⟨rfl,hp⟩
  ·have d0 : decide ((i : Int) > 0) = false := decide_eq_false ky
   rw [if_neg hp0]
   refine enter (args := [_,_]) (Γ := [(0,_),(1,_)]) Tryz.func77 Tryz.ntmps77 rfl (of_decide_eq_true rfl) (.cons rfl (.cons rfl .nil)) ?_
   repeat' first | (apply Wl.loadO;exact rfl;exact rfl;exact j4;exact trivial) | refine Wl.max2 rfl rfl rfl ?_ | refine Wl.move rfl rfl ?_ | refine Wl.assign rfl rfl ?_ | (apply Wl.on;exact rfl;exact rfl;exact ka) | (apply Wl.pickF;exact rfl;exact rfl;exact ka;exact rfl) | refine Wl.fieldAddr0 rfl rfl ?_ | refine Wl.fieldAddr rfl rfl ?_ | (apply Wl.eqlIs;exact rfl;exact rfl;exact rfl;exact kz) | refine Wl.lss rfl rfl rfl ?_ | refine Wl.gtr rfl rfl rfl ?_ | refine Wl.geq rfl rfl rfl ?_ | (refine Wl.shl rfl rfl rfl ?_ ?_;omega) | refine Wl.convI rfl rfl ?_ | refine Wl.len rfl rfl ?_ | (refine Wl.indexAddr rfl rfl rfl ?_ ?_;constructor <;> omega) | apply Wl.nil | apply St.seq | apply St.block | apply St.region | (apply St.condT;exact rfl;exact ka) | (apply St.condF;exact rfl;exact ka) | apply St.ret | apply St.skip | apply Gt.next | apply Gt.thenRet | apply Gt.inRet | (apply Gt.out2;exact rfl;exact rfl;exact rfl;intro w' hp)
   exact ⟨rfl,hp⟩
 have d1 : decide ((en i).1 = 1) = false := decide_eq_false w1
 rw [if_neg w1]
 by_cases w2 : (en i).1 = 2
 ·have d2 : decide ((en i).1 = 2) = true := decide_eq_true w2
  rw [if_pos w2]
  refine enter (args := [_,_]) (Γ := [(0,_),(1,_)]) Tryz.func77 Tryz.ntmps77 rfl (of_decide_eq_true rfl) (.cons rfl (.cons rfl .nil)) ?_
  repeat' first | (apply Wl.loadO;exact rfl;exact rfl;exact j4;exact trivial) | refine Wl.move rfl rfl ?_ | refine Wl.assign rfl rfl ?_ | (apply Wl.on;exact rfl;exact rfl;exact ka) | (apply Wl.pickF;exact rfl;exact rfl;exact ka;exact rfl) | refine Wl.fieldAddr0 rfl rfl ?_ | refine Wl.fieldAddr rfl rfl ?_ | (apply Wl.eqlIs;exact rfl;exact rfl;exact rfl;exact kz) | refine Wl.eql rfl rfl rfl ?_ | refine Wl.lss rfl rfl rfl ?_ | refine Wl.geq rfl rfl rfl ?_ | refine Wl.add rfl rfl rfl ?_ | (refine Wl.shl rfl rfl rfl ?_ ?_;omega) | refine Wl.convI rfl rfl ?_ | refine Wl.len rfl rfl ?_ | (refine Wl.indexAddr rfl rfl rfl ?_ ?_;constructor <;> omega) | apply Wl.nil | apply St.seq | apply St.block | apply St.region | (apply St.condT;exact rfl;exact ka) | (apply St.condF;exact rfl;exact ka) | apply St.ret | apply St.skip | apply Gt.next | apply Gt.thenRet | apply Gt.inRet | (apply Gt.out2;exact rfl;exact rfl;exact rfl;intro w' hp)
  exact ⟨rfl,hp⟩
 have d2 : decide ((en i).1 = 2) = false := decide_eq_false w2
 rw [if_neg w2]
 by_cases w3 : (en i).1 = 3
 ·have d3 : decide ((en i).1 = 3) = true := decide_eq_true w3
  rw [if_pos w3]
  have hz := tzF_spec (bits .xor .u32 IntKind.u32.max (en i).2.2)
  have hk := tzF_pos (bits .xor .u32 IntKind.u32.max (en i).2.2)
  refine enter (args := [_,_]) (Γ := [(0,_),(1,_)]) Tryz.func77 Tryz.ntmps77 rfl (of_decide_eq_true rfl) (.cons rfl (.cons rfl .nil)) ?_
  repeat' first | (apply Wl.loadO;exact rfl;exact rfl;exact j4;exact trivial) | (apply Wl.callQ;exact rfl;exact ke;(intro wq hq;exact hq.q (hz wq (hT.upd hq.upd fun y => y trivial)))) | refine Wl.move rfl rfl ?_ | refine Wl.assign rfl rfl ?_ | (apply Wl.on;exact rfl;exact rfl;exact ka) | (apply Wl.pickF;exact rfl;exact rfl;exact ka;exact rfl) | refine Wl.fieldAddr0 rfl rfl ?_ | refine Wl.fieldAddr rfl rfl ?_ | (apply Wl.eqlIs;exact rfl;exact rfl;exact rfl;exact kz) | refine Wl.eql rfl rfl rfl ?_ | refine Wl.lss rfl rfl rfl ?_ | refine Wl.geq rfl rfl rfl ?_ | refine Wl.add rfl rfl rfl ?_ | refine Wl.sub' rfl rfl rfl ?_ | refine Wl.andNot rfl rfl rfl ?_ | (refine Wl.shl rfl rfl rfl ?_ ?_;omega) | refine Wl.convI rfl rfl ?_ | refine Wl.compl rfl rfl ?_ | refine Wl.len rfl rfl ?_ | (refine Wl.indexAddr rfl rfl rfl ?_ ?_;constructor <;> omega) | apply Wl.nil | apply St.seq | apply St.block | apply St.region | (apply St.condT;exact rfl;exact ka) | (apply St.condF;exact rfl;exact ka) | apply St.ret | apply St.skip | apply Gt.next | apply Gt.thenRet | apply Gt.inRet | (apply Gt.out2;exact rfl;exact rfl;exact rfl;intro w' hp)
  exact ⟨rfl,hp⟩
 have d3 : decide ((en i).1 = 3) = false := decide_eq_false w3
 rw [if_neg w3]
 refine enter (args := [_,_]) (Γ := [(0,_),(1,_)]) Tryz.func77 Tryz.ntmps77 rfl (of_decide_eq_true rfl) (.cons rfl (.cons rfl .nil)) ?_
 repeat' first | (apply Wl.loadO;exact rfl;exact rfl;exact j4;exact trivial) | refine Wl.move rfl rfl ?_ | refine Wl.assign rfl rfl ?_ | (apply Wl.on;exact rfl;exact rfl;exact ka) | (apply Wl.pickF;exact rfl;exact rfl;exact ka;exact rfl) | refine Wl.fieldAddr0 rfl rfl ?_ | refine Wl.fieldAddr rfl rfl ?_ | refine Wl.eql rfl rfl rfl ?_ | refine Wl.lss rfl rfl rfl ?_ | refine Wl.geq rfl rfl rfl ?_ | refine Wl.convI rfl rfl ?_ | refine Wl.len rfl rfl ?_ | (refine Wl.indexAddr rfl rfl rfl ?_ ?_;constructor <;> omega) | apply Wl.nil | apply St.seq | apply St.block | apply St.region | (apply St.condF;exact rfl;exact ka) | apply St.ret | apply St.skip | apply Gt.next | apply Gt.inNormal | (apply Gt.out2;exact rfl;exact rfl;exact rfl;intro w' hp)
 exact ⟨rfl,hp⟩
noncomputable def chkF (en : Nat → Int × Int × Int) (fr to r : Int) : Nat → Nat → Bool
 | _,0 => false
 | i,k + 1 => if (rgX en i).2 ≤ fr ∨ to ≤ (rgX en i).1 ∨ (rgX en i).1 ≥ (rgX en i).2 then chkF en fr to r (i + 1) k
   else decide ((rgX en i).1 ≤ fr) && (decide (to ≤ (rgX en i).2) && decide (bits .and .i64 (en i).2.1 r = r))
noncomputable def chkG (n : Nat) (en : Nat → Int × Int × Int) (at_ k r : Int) : Bool := if k < 1 then false else chkF en (IntKind.u64.wrap at_) (IntKind.u64.wrap (IntKind.u64.wrap at_ + IntKind.u64.wrap k)) r 0 n
set_option maxHeartbeats 4000000 in
theorem checkX (n cap : Nat) (en : Nat → Int × Int × Int) (a : Option Addr) (at_ k r : Int) (w : World) (hn : n ≤ 16) (hS : EntX w a n en) (hT : tabOk w) :
  Calls Tryz.prog 25 #[.slice a n cap,.int .u32 at_,.int .i64 k,.int .i64 r] w fun e w' => e = .returned (.bool (chkG n en at_ k r)) ∧ Hp w [] w' := by
 refine enter (args := [_,_,_,_]) (Γ := [(0,_),(1,_),(2,_),(3,_)]) Tryz.func25 Tryz.ntmps25 rfl (of_decide_eq_true rfl) (.cons rfl (.cons rfl (.cons rfl (.cons rfl .nil)))) ?_
 by_cases hk1 : k < 1
 ·have d1 : decide (k < 1) = true := decide_eq_true hk1
  repeat' first | refine Wl.move rfl rfl ?_ | refine Wl.assign rfl rfl ?_ | refine Wl.lss rfl rfl rfl ?_ | apply Wl.nil | apply St.seq | apply St.region | (apply St.condT;exact rfl;exact ka) | apply St.ret | apply Gt.next | apply Gt.thenRet | (apply Gt.out1;exact rfl;exact rfl;intro w' hp)
  exact ⟨by unfold chkG;rw [if_pos hk1],hp⟩
 have d1 : decide (k < 1) = false := decide_eq_false hk1
 have hB : chkG n en at_ k r = chkF en (IntKind.u64.wrap at_) (IntKind.u64.wrap (IntKind.u64.wrap at_ + IntKind.u64.wrap k)) r 0 n := by unfold chkG;rw [if_neg hk1]
 rw [hB]
 generalize hfr : IntKind.u64.wrap at_ = fr
 repeat' first | refine Wl.convI rfl rfl ?_ | refine Wl.move rfl rfl ?_ | refine Wl.assign rfl rfl ?_ | refine Wl.lss rfl rfl rfl ?_ | refine Wl.add rfl rfl rfl ?_ | refine Wl.len rfl rfl ?_ | apply Wl.nil | apply St.seq | apply St.block | apply St.region | (apply St.condF;exact rfl;exact ka) | apply St.skip | apply Gt.next
 rw [hfr]
 generalize hto : IntKind.u64.wrap (fr + IntKind.u64.wrap k) = to
 generalize hCn : chkF en fr to r 0 n = B
 refine St.loop (σ := Nat) (fun i => i ≤ n ∧ B = chkF en fr to r i (n - i)) (fun i => [(25,.int .i64 i),(24,.int .i64 n),(0,.slice a n cap),(3,.int .i64 r),(9,.int .u64 fr),(10,.int .u64 to)])
  (fun _ => Hp w []) (fun i => n - i) 0 ⟨Nat.zero_le _,hCn.symm⟩ kv (fun _ h => h) ?_
 rintro i ⟨hi,hc⟩
 clear hCn
 by_cases hlt : i < n
 ·obtain ⟨b,o,rfl,h1,h2,h3⟩ := hS i hlt
  have p1 : w.cell? ⟨b,o + (i : Int).toNat * 3 + 1,none⟩ = some (.int .i64 (en i).2.1) := by rw [Int.toNat_natCast];exact h2
  have dl : decide ((i : Int) < (n : Int)) = true := decide_eq_true ky
  have hs1 : n - i = (n - (i + 1)) + 1 := by omega
  rw [hs1] at hc
  unfold chkF at hc
  have hR := rangeX n en i hlt hn cap (some ⟨b,o,none⟩)
  generalize rgX en i = p at *
  obtain ⟨x1,x2⟩ := p
  simp only at hc hR
  by_cases c1 : x2 ≤ fr ∨ to ≤ x1 ∨ x1 ≥ x2
  ·rw [if_pos c1] at hc
   repeat' first | (apply Wl.callQ;exact rfl;exact ke;exact qp) | refine Wl.move rfl rfl ?_ | refine Wl.assign rfl rfl ?_ | (apply Wl.on;exact rfl;exact rfl;exact ka) | (apply Wl.off;exact rfl;exact rfl;exact rfl;exact kr) | refine Wl.extract rfl rfl rfl ?_ | (apply Wl.pickT;exact rfl;exact rfl;exact ka;exact rfl) | (apply Wl.pickF;exact rfl;exact rfl;exact ka;exact rfl) | refine Wl.lss rfl rfl rfl ?_ | refine Wl.leq rfl rfl rfl ?_ | refine Wl.geq rfl rfl rfl ?_ | (refine Wl.addI rfl rfl rfl ?_ ?_;constructor <;> omega) | apply Wl.nil | apply St.seq | apply St.block | apply St.region | (apply St.condT;exact rfl;exact ka) | apply St.skip | apply St.exit | apply Gt.next | apply Gt.thenExit | apply Gt.inExit | (apply Wl.splitP;exact rfl;exact rfl;all_goals (intros;try (exfalso;omega))) | (apply St.condP;exact rfl;all_goals (intros;try (exfalso;omega)))
   all_goals
    apply Gt.round (i + 1)
    rotate_left
    ·omega
    ·repeat constructor
    ·exact fun _ h => h
    ·exact ⟨hlt,hc⟩
  ·rw [if_neg c1] at hc
   rw [hc]
   repeat' first | (apply Wl.callQ;exact rfl;exact ke;exact qp) | (apply Wl.loadO;exact rfl;exact rfl;exact p1;exact trivial) | refine Wl.move rfl rfl ?_ | refine Wl.assign rfl rfl ?_ | (apply Wl.on;exact rfl;exact rfl;exact ka) | (apply Wl.off;exact rfl;exact rfl;exact rfl;exact kr) | refine Wl.extract rfl rfl rfl ?_ | (apply Wl.pickT;exact rfl;exact rfl;exact ka;exact rfl) | (apply Wl.pickF;exact rfl;exact rfl;exact ka;exact rfl) | refine Wl.fieldAddr rfl rfl ?_ | refine Wl.eql rfl rfl rfl ?_ | refine Wl.lss rfl rfl rfl ?_ | refine Wl.leq rfl rfl rfl ?_ | refine Wl.geq rfl rfl rfl ?_ | refine Wl.and rfl rfl rfl ?_ | (refine Wl.indexAddr rfl rfl rfl ?_ ?_;constructor <;> omega) | apply Wl.nil | apply St.seq | apply St.block | apply St.region | (apply St.condT;exact rfl;exact ka) | apply St.ret | apply St.skip | apply Gt.next | apply Gt.thenRet | apply Gt.inRet | (apply Gt.out1;exact rfl;exact rfl;intro w' hp) | (apply Wl.splitP;exact rfl;exact rfl;all_goals (intros;try (exfalso;omega))) | (apply St.condP;exact rfl;all_goals (intros;try (exfalso;omega)))
   all_goals exact ⟨by simp [*],hp⟩
 ·have dl : decide ((i : Int) < (n : Int)) = false := decide_eq_false ky
  obtain rfl : i = n := by omega
  repeat' first | refine Wl.assign rfl rfl ?_ | refine Wl.lss rfl rfl rfl ?_ | apply Wl.nil | apply St.seq | apply St.region | (apply St.condF;exact rfl;exact ka) | apply St.ret | apply St.exit | apply Gt.next | apply Gt.thenExit | apply Gt.inExit | (apply Gt.out1;exact rfl;exact rfl;intro w' hp)
  exact ⟨by rw [hc,Nat.sub_self];rfl,hp⟩
theorem chkF_part {en : Nat → Int × Int × Int} {fr to r fr' to' : Int} (h1 : fr ≤ fr') (h2 : fr' < to') (h3 : to' ≤ to) : ∀ (k i : Nat),chkF en fr to r i k = true → chkF en fr' to' r i k = true := by
 intro k
 induction k with
 | zero => intro i h;cases h
 | succ k ih =>
  intro i h
  unfold chkF at h ⊢
  by_cases c : (rgX en i).2 ≤ fr ∨ to ≤ (rgX en i).1 ∨ (rgX en i).1 ≥ (rgX en i).2
  ·rw [if_pos c] at h
   rw [if_pos ky]
   exact ih _ h
  ·rw [if_neg c] at h
   simp only [Bool.and_eq_true,decide_eq_true_eq] at h
   rw [if_neg ky]
   simp only [Bool.and_eq_true,decide_eq_true_eq]
   exact ⟨by omega,by omega,h.2.2⟩
noncomputable def mayG (cf : List Value) (at_ k r : Int) : Bool := chkG 16 (enF cf) at_ k r
set_option maxHeartbeats 4000000 in
theorem may1Y (c : Nat) (F : Fs) (at_ k r : Int) (w : World) (hF : FX w c F) (hmd : F.md = 0) (hT : tabOk w) :
  Calls Tryz.prog 115 #[.pointer (some ⟨c,0,none⟩),.int .u32 at_,.int .i64 k,.int .i64 r] w fun e w' => e = .returned (.bool (mayG F.cf at_ k r)) ∧ Hp w [] w' := by
 obtain ⟨hl,hk,hc⟩ := hF
 obtain ⟨md,st,mie,mip,tv,sc,ep,ca,tl,cy,re,cf⟩ := F
 simp only at hmd
 subst hmd
 simp only [Fs.cells] at hl hk hc ⊢
 have m0 : w.cell? ⟨c,0,none⟩ = some (.int .i64 0) := cell_of hc rfl
 have hlt := lt_of_block hc
 refine enter (args := [_,_,_,_]) (Γ := [(0,_),(1,_),(2,_),(3,_)]) Tryz.func115 Tryz.ntmps115 rfl (of_decide_eq_true rfl) (.cons rfl (.cons rfl (.cons rfl (.cons rfl .nil)))) ?_
 repeat' first | (apply Wl.loadO;exact rfl;exact rfl;exact m0;exact trivial) | refine Wl.move rfl rfl ?_ | refine Wl.assign rfl rfl ?_ | refine Wl.nilCheck rfl rfl ?_ | refine Wl.fieldAddr0 rfl rfl ?_ | refine Wl.eqlPN rfl rfl rfl ?_ | (apply Wl.eqlIs;exact rfl;exact rfl;exact rfl;exact kz) | apply Wl.nil | apply St.seq | apply St.region | (apply St.condT;exact rfl;exact ka) | (apply St.condF;exact rfl;exact ka) | apply St.skip | apply Gt.next
 apply Wl.callC
 ·exact rfl
 ·repeat constructor
 intro wq hq
 obtain ⟨h1,h2⟩ := cfg_cells (md := 0) hk (hq.upd.heap hc fun y => y trivial)
 refine (entries_any c _ _ wq (by have := hq.upd.size;omega) h1 h2).mono ?_
 rintro e wr ⟨v,rfl,hv,hu⟩
 have hE : ∃ a cap,v = .slice a 16 cap ∧ EntX wr a 16 (enF cf) := by
  obtain ⟨hl',a,cap,rfl,_,_,_,hcc⟩ := Sv.ofOwn hv
  obtain ⟨b,o,rfl,hx⟩ := hcc (fun e => by rw [e] at hl';cases hl')
  refine ⟨_,cap,rfl,fun i hi => ⟨b,o,rfl,?_⟩⟩
  have key : ∀ j v,j < 3 → (entG (intAt (cf ++ [.int .u64 cy,.int .u64 re]) i) (intAt (cf ++ [.int .u64 cy,.int .u64 re]) (16 + i)))[j]? = some v → wr.cell? ⟨b,o + i * 3 + j,none⟩ = some v := fun j v hj hv => by
   have e1 := entsG_at (fun i => intAt (cf ++ [.int .u64 cy,.int .u64 re]) i) (fun i => intAt (cf ++ [.int .u64 cy,.int .u64 re]) (16 + i)) (n := 16) hi hj
   rw [hv] at e1
   obtain ⟨l1,e1⟩ := List.getElem?_eq_some_iff.1 e1
   rw [Nat.add_assoc,hx _ l1,e1]
  rw [intAt_app ky,intAt_app ky] at key
  exact ⟨key 0 _ ze rfl,key 1 _ ze rfl,key 2 _ ze rfl⟩
 obtain ⟨a,cap,rfl,hE⟩ := hE
 have hTr : tabOk wr := (hT.upd hq.upd fun y => y trivial).upd hu (by have := (hT.upd hq.upd fun y => y trivial).lt;omega)
 have hwr : Upd (fun k => w.heap.size ≤ k) w wr := hq.upd.comp hu fun k _ hs => hs.elim (fun y => (y trivial).elim) fun e => by have := hq.upd.size;omega
 refine ⟨_,_,rfl,Hp.start wr,?_⟩
 clear hq hu h1 h2 hv wq
 repeat' first | refine Wl.move rfl rfl ?_
 apply Wl.callQ
 exact rfl
 (focus repeat constructor)
 ·intro wq hq
  exact hq.q (checkX 16 cap _ a _ _ _ wq ky (hE.upd hq.upd fun _ _ y => y trivial) (hTr.upd hq.upd fun y => y trivial))
 repeat' first | refine Wl.assign rfl rfl ?_ | apply Wl.nil | apply St.ret | apply Gt.next | apply Gt.thenRet | (apply Gt.out1;exact rfl;exact rfl;intro w' hp)
 exact ⟨rfl,newHp hwr hp.upd fun k y => (y trivial).elim⟩
end Go.Proofs.YtabbklpalbikdaaGreatDoor
end
section
namespace Go.Proofs.YtabbklpalbikdaaGreatDoor
open Go.RowKit Go.Pt
instance inMd (a n : Int) : Decidable (inM a n) := by unfold inM;infer_instance
structure Rz where
 (wd : Int) (tr : Bool) (c1 tl at_ wi : Int) (st : Bool) (xs : List Value) (pc : Int) (f : Nat → Int)
def Rz.v (R : Rz) : Value := trc R.wd R.tr R.c1 R.tl R.at_ R.wi R.st
def regI (xs : List Value) (r : Int) : Int := match xs[r.toNat]? with
 | some (.int _ z) => z
 | _ => 0
def pc4 (pc : Int) : Int := IntKind.u32.wrap (pc + 4)
noncomputable def memF (xs : List Value) (pc : Int) (cf : List Value) (f : Nat → Int) (wd o rd at_ b : Int) : Rz :=
 if formF o = 4 then
  (if at_.tmod (widthF o) ≠ 0 then ⟨wd,true,6,at_,at_,widthF o,true,xs,pc,f⟩
  else if inM at_ (widthF o) then (if mayG cf at_ (widthF o) 2 = true then ⟨wd,false,0,0,at_,widthF o,true,xs,pc4 pc,storeX f (at_ - 2147483648).toNat b (widthF o).toNat⟩ else ⟨wd,true,7,at_,at_,widthF o,true,xs,pc,f⟩)
  else ⟨wd,true,7,at_,at_,widthF o,true,xs,pc,f⟩)
 else
  (if at_.tmod (widthF o) ≠ 0 then ⟨wd,true,4,at_,at_,widthF o,false,xs,pc,f⟩
  else if inM at_ (widthF o) then (if mayG cf at_ (widthF o) 1 = true then ⟨wd,false,0,0,at_,widthF o,false,setR xs rd (widenF o (loadX f (at_ - 2147483648).toNat (widthF o).toNat)),pc4 pc,f⟩ else ⟨wd,true,5,at_,at_,widthF o,false,xs,pc,f⟩)
  else ⟨wd,true,5,at_,at_,widthF o,false,xs,pc,f⟩)
def sysR (xs : List Value) (pc : Int) (f : Nat → Int) (wd o nx : Int) : Rz :=
 if o = 47 then ⟨wd,true,8,0,0,0,false,xs,pc,f⟩ else if o = 48 then ⟨wd,true,3,pc,0,0,false,xs,pc,f⟩ else if o = 46 then ⟨wd,false,0,0,0,0,false,xs,nx,f⟩ else ⟨wd,true,2,wd,0,0,false,xs,pc,f⟩
noncomputable def doF (xs : List Value) (pc : Int) (cf : List Value) (f : Nat → Int) (wd o rd r1 r2 im : Int) : Rz :=
 if formF o = 0 then (if o = 2 then ⟨wd,false,0,0,0,0,false,setR xs rd (IntKind.u32.wrap (im + pc)),pc4 pc,f⟩ else ⟨wd,false,0,0,0,0,false,setR xs rd im,pc4 pc,f⟩)
 else if o = 3 then (if (IntKind.u32.wrap (pc + im)).tmod 4 ≠ 0 then ⟨wd,true,0,IntKind.u32.wrap (pc + im),0,0,false,xs,pc,f⟩ else ⟨wd,false,0,0,0,0,false,setR xs rd (pc4 pc),IntKind.u32.wrap (pc + im),f⟩)
 else if o = 4 then (if (bits .andNot .u32 (IntKind.u32.wrap (regI xs r1 + im)) 1).tmod 4 ≠ 0 then ⟨wd,true,0,bits .andNot .u32 (IntKind.u32.wrap (regI xs r1 + im)) 1,0,0,false,xs,pc,f⟩ else ⟨wd,false,0,0,0,0,false,setR xs rd (pc4 pc),bits .andNot .u32 (IntKind.u32.wrap (regI xs r1 + im)) 1,f⟩)
 else if formF o = 3 then (if (goesF o (regI xs r1) (regI xs r2)).1 = true then (if (IntKind.u32.wrap (pc + im)).tmod 4 ≠ 0 then ⟨wd,true,0,IntKind.u32.wrap (pc + im),0,0,false,xs,pc,f⟩ else ⟨wd,false,0,0,0,0,false,xs,IntKind.u32.wrap (pc + im),f⟩) else ⟨wd,false,0,0,0,0,false,xs,pc4 pc,f⟩)
 else if 0 < widthF o then memF xs pc cf f wd o rd (IntKind.u32.wrap (regI xs r1 + im)) (regI xs r2)
 else if formF o = 5 then ⟨wd,false,0,0,0,0,false,setR xs rd (reckF o (regI xs r1) (regI xs r2)).1,pc4 pc,f⟩
 else if formF o = 2 ∨ formF o = 6 then ⟨wd,false,0,0,0,0,false,setR xs rd (reckF o (regI xs r1) im).1,pc4 pc,f⟩
 else if formF o = 8 ∨ formF o = 9 then ⟨wd,true,2,wd,0,0,false,xs,pc,f⟩
 else sysR xs pc f wd o (pc4 pc)
noncomputable def do5F (xs : List Value) (pc : Int) (cf : List Value) (f : Nat → Int) (wd : Int) (p : In5) : Rz := doF xs pc cf f wd p.1 p.2.1 p.2.2.1 p.2.2.2.1 p.2.2.2.2
noncomputable def stepF (xs : List Value) (pc : Int) (cf : List Value) (f : Nat → Int) : Rz :=
 if pc.tmod 4 ≠ 0 then ⟨0,true,0,pc,0,0,false,xs,pc,f⟩
 else if inM pc 4 then (if mayG cf pc 4 4 = true then do5F xs pc cf f (loadX f (pc - 2147483648).toNat 4) (decF (loadX f (pc - 2147483648).toNat 4)) else ⟨0,true,1,pc,0,0,false,xs,pc,f⟩)
 else ⟨0,true,1,pc,0,0,false,xs,pc,f⟩
def OutR (w' : World) (h cf cM : Nat) (pc : Int) (F : Fs) (R : Rz) (v : Value) : Prop :=
 v = R.v ∧ ((R.tr = true ∧ TrapP w' h cf cM R.xs pc F R.f R.c1 R.tl) ∨ (R.tr = false ∧ SS w' h cf cM R.xs R.pc (F.tick true) R.f))
theorem OutR.hp {w w0 w' : World} {H : List Blk} {h cf cM : Nat} {pc : Int} {F : Fs} {R : Rz} {v : Value} (k : OutR w h cf cM pc F R v) (hq : Hp w H w') (hw : h < w0.heap.size ∧ cf < w0.heap.size ∧ cM < w0.heap.size ∧ 0 < w0.heap.size) (hH : ∀ x ∈ H,w0.heap.size ≤ x.b) : OutR w' h cf cM pc F R v :=
 ⟨k.1,k.2.imp (fun k => ⟨k.1,k.2.hp hq hw hH⟩) fun k => ⟨k.1,k.2.hp hq hw hH⟩⟩
theorem SS.regI {w : World} {h cf cM : Nat} {xs : List Value} {pc : Int} {F : Fs} {f : Nat → Int} (k : SS w h cf cM xs pc F f) {r : Int} (hr : 0 ≤ r ∧ r < 32) : w.cell? ⟨h,0 + r.toNat * 1,none⟩ = some (.int .u32 (regI xs r)) ∧ 0 ≤ regI xs r ∧ regI xs r < 4294967296 := by
 obtain ⟨z,hz,h0,h1⟩ := k.2.2.2.1.2 r.toNat ky
 have e : Go.Proofs.YtabbklpalbikdaaGreatDoor.regI xs r = z := by unfold Go.Proofs.YtabbklpalbikdaaGreatDoor.regI;rw [hz]
 rw [e]
 refine ⟨cell_of k.1.2 ?_,h0,h1⟩
 rw [Nat.zero_add,Nat.mul_one,List.getElem?_append_left (by have := k.1.1;omega)]
 exact hz
set_option maxHeartbeats 8000000 in
theorem sysU2 (h cf cM : Nat) (xs : List Value) (pc wd o rd r1 r2 im nx : Int) (F : Fs) (f : Nat → Int) (w : World) (hS : SS w h cf cM xs pc F f) (hmd : F.md = 0) (hnx : 0 ≤ nx ∧ nx < 4294967296) :
  Calls Tryz.prog 156 #[.pointer (some ⟨h,0,none⟩),.agg #[.int .u32 wd,.bool false,.int .u32 0,.int .u32 0,.int .u32 0,.int .i64 0,.bool false],.agg #[.int .i64 o,.int .i64 rd,.int .i64 r1,.int .i64 r2,.int .u32 im],.int .u32 nx] w fun e w' => ∃ v,e = .returned v ∧ OutR w' h cf cM pc F (sysR xs pc f wd o nx) v ∧ Upd (fun k => k = h ∨ k = cf ∨ k = cM) w w' := by
 have hw := hS.lts
 have hu0 : Upd (Mv h cf cM w.heap.size) w w := Upd.refl _ _
 obtain ⟨c32,c33,c34⟩ := hS.1.at1
 obtain ⟨l1,l2,l3,l4⟩ := hS.lts
 have m0 : w.cell? ⟨cf,0,none⟩ = some (.int .i64 F.md) := hS.2.1.ff.two
 rw [hmd] at m0
 refine enter (args := [_,_,_,_]) (Γ := [(0,_),(1,_),(2,_),(3,_)]) Tryz.func156 Tryz.ntmps156 rfl (of_decide_eq_true rfl) (.cons rfl (.cons rfl (.cons rfl (.cons rfl .nil)))) ?_
 repeat' first | (apply Wl.callS (f := 113) (w0 := w);exact rfl;exact ke;assumption;assumption;exact hw;(simp only [List.mem_cons,List.not_mem_nil,or_false,forall_eq_or_imp,forall_eq];omega);(intro wq hSq;exact htrapS h cf cM _ _ F _ _ _ _ _ _ _ _ _ _ wq hSq hmd);(rintro v w1 ⟨rfl,hT1⟩ hu1;have hz1 := hu1.size)) | (apply Wl.callS (f := 157) (w0 := w);exact rfl;exact ke;assumption;assumption;exact hw;(simp only [List.mem_cons,List.not_mem_nil,or_false,forall_eq_or_imp,forall_eq];omega);(intro wq hSq;exact hdoneS h cf cM _ _ _ F _ _ _ _ _ _ _ _ wq hSq qg);(rintro v w1 ⟨rfl,hS1⟩ hu1;have hz1 := hu1.size)) | (apply St.bagX 6 [];exact mixed;(decide +kernel);kernel_rfl) | (apply Wl.loadO;exact rfl;exact rfl;exact zu;exact qw) | apply OpsX.nil | (apply OpsX.v;(intro X hX;change Wl [_] _ _ _ _ _ _ _;apply Wl.catX;exact ke)) | (apply Gt.endX;exact rfl) | (apply EndX.on;exact rfl) | (apply EndX.off;exact rfl) | (apply EndX.nil';apply Wl.catE;exact ke) | (apply Gt.outC';exact rfl;infer_instance;exact rfl;exact ke;exact ke;intro w' hp) | refine Wl.move rfl rfl ?_ | refine Wl.assign rfl rfl ?_ | (apply Wl.on;exact rfl;exact rfl;exact ka) | (apply Wl.off;exact rfl;exact rfl;exact rfl;exact kr) | refine Wl.nilCheck rfl rfl ?_ | (apply Wl.pickT;exact rfl;exact rfl;exact ka;exact rfl) | (apply Wl.pickF;exact rfl;exact rfl;exact ka;exact rfl) | refine Wl.fieldAddr0 rfl rfl ?_ | refine Wl.fieldAddrZ rfl rfl ?_ | (apply Wl.loadH;exact rfl;exact rfl;exact ke;exact rfl) | (apply Wl.eqlIs;exact rfl;exact rfl;exact rfl;exact kz) | refine Wl.eql rfl rfl rfl ?_ | (apply Wl.storeA;exact rfl;exact rfl;exact rfl;exact rfl;exact ke;exact kf) | (apply Wl.loadAH;exact rfl;exact rfl;exact ke;exact ke) | (apply Wl.boxA;exact rfl;exact rfl;intro c hc ho) | (apply Wl.alloc;exact rfl;intro c hc ho) | apply Wl.nil | apply St.seq | apply St.block | apply St.region | (apply St.condT;exact rfl;exact ka) | (apply St.condF;exact rfl;exact ka) | apply St.ret | apply St.skip | apply Gt.next | apply Gt.thenRet | apply Gt.inNormal | apply Gt.inRet | (apply Wl.splitP;exact rfl;exact rfl;all_goals (intros;try (exfalso;omega))) | (apply St.condP;exact rfl;all_goals (intros;try (exfalso;omega)))
 all_goals (refine ⟨_,rfl,?_,finU hu1 hp kb⟩;(try rw [hfd]);unfold sysR;(try rw [hm]);(try rw [hm1]);(try rw [hm2]);(repeat' split) <;> first | contradiction | (exfalso;omega) | exact ⟨rfl,.inl ⟨rfl,hT1.hp hp hw kb⟩⟩ | exact ⟨rfl,.inr ⟨rfl,hS1.hp hp hw kb⟩⟩)
set_option maxHeartbeats 16000000 in
theorem memU2 (h cf cM : Nat) (xs : List Value) (pc wd o rd r1 r2 im at_ b : Int) (F : Fs) (f : Nat → Int) (w : World) (hS : SS w h cf cM xs pc F f) (hmd : F.md = 0) (hR : InstR rd r1 r2 im) (hat : 0 ≤ at_ ∧ at_ < 4294967296) (hn : W124 (widthF o)) :
  Calls Tryz.prog 153 #[.pointer (some ⟨h,0,none⟩),.agg #[.int .u32 wd,.bool false,.int .u32 0,.int .u32 0,.int .u32 0,.int .i64 0,.bool false],.agg #[.int .i64 o,.int .i64 rd,.int .i64 r1,.int .i64 r2,.int .u32 im],.int .u32 at_,.int .u32 b] w fun e w' => ∃ v,e = .returned v ∧ OutR w' h cf cM pc F (memF xs pc F.cf f wd o rd at_ b) v ∧ Upd (fun k => k = h ∨ k = cf ∨ k = cM) w w' := by
 obtain ⟨k1,k2,k3,k4⟩ := id hR
 have hw := hS.lts
 have hu0 : Upd (Mv h cf cM w.heap.size) w w := Upd.refl _ _
 obtain ⟨c32,c33,c34⟩ := hS.1.at1
 obtain ⟨l1,l2,l3,l4⟩ := hS.lts
 have m0 : w.cell? ⟨cf,0,none⟩ = some (.int .i64 F.md) := hS.2.1.ff.two
 rw [hmd] at m0
 have hn14 : 1 ≤ widthF o ∧ widthF o ≤ 4 := by unfold W124 at hn;omega
 have hSQ : ∀ {H : List Blk} {wq : World},Hp w H wq → (hH : ∀ x ∈ H,w.heap.size ≤ x.b := by simp only [List.mem_cons,List.not_mem_nil,or_false,forall_eq_or_imp,forall_eq];omega) → SS wq h cf cM xs pc F f := fun hq hH => hS.hp hq hw hH
 have hWr := widenF_rng o _ (loadX_rng f (at_ - 2147483648).toNat (widthF o).toNat)
 have hMay : ∀ (r : Int) (wq : World),SS wq h cf cM xs pc F f → Calls Tryz.prog 115 #[.pointer (some ⟨cf,0,none⟩),.int .u32 at_,.int .i64 (widthF o),.int .i64 r] wq fun e w' => e = .returned (.bool (mayG F.cf at_ (widthF o) r)) ∧ Hp wq [] w' := fun r wq hs => may1Y cf F at_ (widthF o) r wq hs.2.1 hmd hs.2.2.2.2.2.2.1
 refine enter (args := [_,_,_,_,_]) (Γ := [(0,_),(1,_),(2,_),(3,_),(4,_)]) Tryz.func153 Tryz.ntmps153 rfl (of_decide_eq_true rfl) (.cons rfl (.cons rfl (.cons rfl (.cons rfl (.cons rfl .nil))))) ?_
 generalize hm1 : mayG F.cf at_ (widthF o) 1 = m1 at *
 generalize hm2 : mayG F.cf at_ (widthF o) 2 = m2 at *
 have hMay1 : ∀ (wq : World),SS wq h cf cM xs pc F f → Calls Tryz.prog 115 #[.pointer (some ⟨cf,0,none⟩),.int .u32 at_,.int .i64 (widthF o),.int .i64 1] wq fun e w' => e = .returned (.bool m1) ∧ Hp wq [] w' := fun wq hs => by rw [← hm1];exact hMay 1 wq hs
 have hMay2 : ∀ (wq : World),SS wq h cf cM xs pc F f → Calls Tryz.prog 115 #[.pointer (some ⟨cf,0,none⟩),.int .u32 at_,.int .i64 (widthF o),.int .i64 2] wq fun e w' => e = .returned (.bool m2) ∧ Hp wq [] w' := fun wq hs => by rw [← hm2];exact hMay 2 wq hs
 clear hMay
 by_cases hfv : formF o = 4
 ·have hfd : decide (formF o = 4) = true := decide_eq_true hfv
  by_cases hin : inM at_ (widthF o)
  ·obtain ⟨bi,hbt,hbi⟩ : ∃ b : Bool,b = true ∧ (b = true ↔ inM at_ (widthF o)) := ⟨true,rfl,fun _ => hin,fun _ => rfl⟩
   have hbn : (!bi) = false := by rw [hbt];rfl
   cases m2
   all_goals
    repeat' first | (apply Wl.callQ (f := 152);exact rfl;exact ke;exact j8) | (apply Wl.callQ (f := 149);exact rfl;exact ke;exact j9) | (apply Wl.callS (f := 113) (w0 := w);exact rfl;exact ke;assumption;assumption;exact hw;(simp only [List.mem_cons,List.not_mem_nil,or_false,forall_eq_or_imp,forall_eq];omega);(intro wq hSq;exact htrapS h cf cM _ _ F _ _ _ _ _ _ _ _ _ _ wq hSq hmd);(rintro v w1 ⟨rfl,hT1⟩ hu1;have hz1 := hu1.size)) | (apply Wl.callS (f := 157) (w0 := w);exact rfl;exact ke;assumption;assumption;exact hw;(simp only [List.mem_cons,List.not_mem_nil,or_false,forall_eq_or_imp,forall_eq];omega);(intro wq hSq;exact hdoneS h cf cM _ _ _ F _ _ _ _ _ _ _ _ wq hSq qg);(rintro v w1 ⟨rfl,hS1⟩ hu1;have hz1 := hu1.size)) | (apply Wl.callS (f := 51) (w0 := w);exact rfl;exact ke;assumption;assumption;exact hw;(simp only [List.mem_cons,List.not_mem_nil,or_false,forall_eq_or_imp,forall_eq];omega);(intro wq hSq;exact mstoreS h cf cM _ _ _ _ _ F _ wq hSq hat hn hin);(rintro v w2 ⟨⟨z_,rfl⟩,hS2⟩ hu2;have hz2 := hu2.size;obtain ⟨e32,e33,e34⟩ := hS2.1.at1)) | (apply Wl.callQ (f := 76);exact rfl;exact ke;exact qu) | (apply Wl.callQ (f := 115);exact rfl;exact ke;(intro wq hq;exact hq.q (hMay2 wq (hSQ hq)))) | (apply St.bagX (i := 15) 7 [];exact mixed;(decide +kernel);kernel_rfl) | (apply Wl.loadO;exact rfl;exact rfl;exact zu;exact zi) | apply OpsX.nil | (apply OpsX.v;(intro X hX;change Wl [_] _ _ _ _ _ _ _;apply Wl.catX;exact ke)) | (apply Gt.endX;exact rfl) | (apply EndX.on;exact rfl) | (apply EndX.off;exact rfl) | (apply EndX.nil';apply Wl.catE;exact ke) | (apply Gt.outC';exact rfl;infer_instance;exact rfl;exact ke;exact ke;intro w' hp) | refine Wl.move rfl rfl ?_ | refine Wl.assign rfl rfl ?_ | (apply Wl.on;exact rfl;exact rfl;exact ka) | refine Wl.nilCheck rfl rfl ?_ | (apply Wl.pickF;exact rfl;exact rfl;exact ka;exact rfl) | refine Wl.not rfl rfl ?_ | refine Wl.fieldAddr0 rfl rfl ?_ | refine Wl.fieldAddrZ rfl rfl ?_ | (apply Wl.loadH;exact rfl;exact rfl;exact ke;exact rfl) | (apply Wl.eqlIs;exact rfl;exact rfl;exact rfl;exact kz) | refine Wl.neq rfl rfl rfl ?_ | refine Wl.add rfl rfl rfl ?_ | (apply Wl.rem;exact rfl;exact rfl;exact rfl;exact qv) | (refine Wl.convU32 rfl rfl ?_ ?_;constructor <;> omega) | (apply Wl.store;exact rfl;exact rfl;exact rfl;exact ke;exact kw) | (apply Wl.storeA;exact rfl;exact rfl;exact rfl;exact rfl;exact ke;exact kf) | (apply Wl.loadAH;exact rfl;exact rfl;exact ke;exact ke) | (apply Wl.boxA;exact rfl;exact rfl;intro c hc ho) | (apply Wl.alloc;exact rfl;intro c hc ho) | apply Wl.nil | apply St.seq | apply St.block | apply St.region | (apply St.condT;exact rfl;exact ka) | (apply St.condF;exact rfl;exact ka) | apply St.ret | apply Gt.next | apply Gt.thenRet | apply Gt.inNormal | apply Gt.inRet | (apply St.condP;exact rfl;all_goals (intros;try (exfalso;omega)))
    all_goals (refine ⟨_,rfl,?_,finU hu1 hp kb⟩;(try rw [hfd]);unfold memF;(try rw [hm]);(try rw [hm1]);(try rw [hm2]);(repeat' split) <;> first | contradiction | (exfalso;omega) | exact ⟨rfl,.inl ⟨rfl,hT1.hp hp hw kb⟩⟩ | exact ⟨rfl,.inr ⟨rfl,hS1.hp hp hw kb⟩⟩)
  ·obtain ⟨bi,hbt,hbi⟩ : ∃ b : Bool,b = false ∧ (b = true ↔ inM at_ (widthF o)) := ⟨false,rfl,fun h => (by cases h),fun h => (hin h).elim⟩
   have hbn : (!bi) = true := by rw [hbt];rfl
   repeat' first | (apply Wl.callQ (f := 152);exact rfl;exact ke;exact j8) | (apply Wl.callQ (f := 149);exact rfl;exact ke;exact j9) | (apply Wl.callS (f := 113) (w0 := w);exact rfl;exact ke;assumption;assumption;exact hw;(simp only [List.mem_cons,List.not_mem_nil,or_false,forall_eq_or_imp,forall_eq];omega);(intro wq hSq;exact htrapS h cf cM _ _ F _ _ _ _ _ _ _ _ _ _ wq hSq hmd);(rintro v w1 ⟨rfl,hT1⟩ hu1;have hz1 := hu1.size)) | (apply Wl.callQ (f := 76);exact rfl;exact ke;exact qu) | (apply Wl.loadO;exact rfl;exact rfl;exact zu;exact zi) | (apply Gt.outC';exact rfl;infer_instance;exact rfl;exact ke;exact ke;intro w' hp) | refine Wl.move rfl rfl ?_ | refine Wl.assign rfl rfl ?_ | (apply Wl.off;exact rfl;exact rfl;exact rfl;exact kr) | refine Wl.nilCheck rfl rfl ?_ | (apply Wl.pickT;exact rfl;exact rfl;exact ka;exact rfl) | refine Wl.not rfl rfl ?_ | refine Wl.fieldAddr0 rfl rfl ?_ | refine Wl.fieldAddrZ rfl rfl ?_ | (apply Wl.loadH;exact rfl;exact rfl;exact ke;exact rfl) | (apply Wl.eqlIs;exact rfl;exact rfl;exact rfl;exact kz) | refine Wl.neq rfl rfl rfl ?_ | (apply Wl.rem;exact rfl;exact rfl;exact rfl;exact qv) | (refine Wl.convU32 rfl rfl ?_ ?_;constructor <;> omega) | (apply Wl.store;exact rfl;exact rfl;exact rfl;exact ke;exact kw) | (apply Wl.storeA;exact rfl;exact rfl;exact rfl;exact rfl;exact ke;exact kf) | (apply Wl.loadAH;exact rfl;exact rfl;exact ke;exact ke) | (apply Wl.boxA;exact rfl;exact rfl;intro c hc ho) | (apply Wl.alloc;exact rfl;intro c hc ho) | apply Wl.nil | apply St.seq | apply St.block | apply St.region | (apply St.condT;exact rfl;exact ka) | apply St.ret | apply Gt.next | apply Gt.thenRet | apply Gt.inRet | (apply St.condP;exact rfl;all_goals (intros;try (exfalso;omega)))
   all_goals (refine ⟨_,rfl,?_,finU hu1 hp kb⟩;(try rw [hfd]);unfold memF;(try rw [hm]);(try rw [hm1]);(try rw [hm2]);(repeat' split) <;> first | contradiction | (exfalso;omega) | exact ⟨rfl,.inl ⟨rfl,hT1.hp hp hw kb⟩⟩ | exact ⟨rfl,.inr ⟨rfl,hS1.hp hp hw kb⟩⟩)
 ·have hfd : decide (formF o = 4) = false := decide_eq_false hfv
  by_cases hin : inM at_ (widthF o)
  ·obtain ⟨bi,hbt,hbi⟩ : ∃ b : Bool,b = true ∧ (b = true ↔ inM at_ (widthF o)) := ⟨true,rfl,fun _ => hin,fun _ => rfl⟩
   have hbn : (!bi) = false := by rw [hbt];rfl
   cases m1
   all_goals
    repeat' first | (apply Wl.callQ (f := 152);exact rfl;exact ke;exact j8) | (apply Wl.callQ (f := 149);exact rfl;exact ke;exact j9) | (apply Wl.callS (f := 113) (w0 := w);exact rfl;exact ke;assumption;assumption;exact hw;(simp only [List.mem_cons,List.not_mem_nil,or_false,forall_eq_or_imp,forall_eq];omega);(intro wq hSq;exact htrapS h cf cM _ _ F _ _ _ _ _ _ _ _ _ _ wq hSq hmd);(rintro v w1 ⟨rfl,hT1⟩ hu1;have hz1 := hu1.size)) | (apply Wl.callS (f := 157) (w0 := w);exact rfl;exact ke;assumption;assumption;exact hw;(simp only [List.mem_cons,List.not_mem_nil,or_false,forall_eq_or_imp,forall_eq];omega);(intro wq hSq;exact hdoneS h cf cM _ _ _ F _ _ _ _ _ _ _ _ wq hSq qg);(rintro v w1 ⟨rfl,hS1⟩ hu1;have hz1 := hu1.size)) | (apply Wl.callS (f := 150) (w0 := w);exact rfl;exact ke;assumption;assumption;exact hw;(simp only [List.mem_cons,List.not_mem_nil,or_false,forall_eq_or_imp,forall_eq];omega);(intro wq hSq;exact hsetS h cf cM _ _ _ _ F _ wq hSq (by first | assumption | omega) qg);(rintro v w2 ⟨rfl,hS2⟩ hu2;have hz2 := hu2.size;obtain ⟨e32,e33,e34⟩ := hS2.1.at1)) | (apply Wl.callQ (f := 76);exact rfl;exact ke;exact qu) | (apply Wl.callQ (f := 115);exact rfl;exact ke;(intro wq hq;exact hq.q (hMay1 wq (hSQ hq)))) | (apply Wl.callQ (f := 114);exact rfl;exact ke;(intro wq hq;exact hq.q (mloadP cM at_ (widthF o) f wq hat hn hin (hSQ hq).2.2.1))) | (apply Wl.callQ (f := 192);exact rfl;exact ke;(intro wq hq;exact hq.q (widenX _ _ wq (loadX_rng _ _ _)))) | (apply St.bagX (i := 8) 7 [];exact mixed;(decide +kernel);kernel_rfl) | (apply St.bagX (i := 15) 7 [];exact mixed;(decide +kernel);kernel_rfl) | (apply Wl.loadO;exact rfl;exact rfl;exact zu;exact zi) | apply OpsX.nil | (apply OpsX.v;(intro X hX;change Wl [_] _ _ _ _ _ _ _;apply Wl.catX;exact ke)) | (apply Gt.endX;exact rfl) | (apply EndX.on;exact rfl) | (apply EndX.off;exact rfl) | (apply EndX.nil';apply Wl.catE;exact ke) | (apply Gt.outC';exact rfl;infer_instance;exact rfl;exact ke;exact ke;intro w' hp) | refine Wl.move rfl rfl ?_ | refine Wl.assign rfl rfl ?_ | (apply Wl.on;exact rfl;exact rfl;exact ka) | refine Wl.extract rfl rfl rfl ?_ | refine Wl.nilCheck rfl rfl ?_ | (apply Wl.pickF;exact rfl;exact rfl;exact ka;exact rfl) | refine Wl.not rfl rfl ?_ | refine Wl.fieldAddr0 rfl rfl ?_ | refine Wl.fieldAddrZ rfl rfl ?_ | (apply Wl.loadH;exact rfl;exact rfl;exact ke;exact rfl) | refine Wl.eql rfl rfl rfl ?_ | refine Wl.neq rfl rfl rfl ?_ | refine Wl.add rfl rfl rfl ?_ | (apply Wl.rem;exact rfl;exact rfl;exact rfl;exact qv) | (refine Wl.convU32 rfl rfl ?_ ?_;constructor <;> omega) | (apply Wl.store;exact rfl;exact rfl;exact rfl;exact ke;exact kw) | (apply Wl.storeA;exact rfl;exact rfl;exact rfl;exact rfl;exact ke;exact kf) | (apply Wl.loadAH;exact rfl;exact rfl;exact ke;exact ke) | (apply Wl.boxA;exact rfl;exact rfl;intro c hc ho) | (apply Wl.alloc;exact rfl;intro c hc ho) | apply Wl.nil | apply St.seq | apply St.block | apply St.region | (apply St.condT;exact rfl;exact ka) | (apply St.condF;exact rfl;exact ka) | apply St.ret | apply St.skip | apply Gt.next | apply Gt.thenRet | apply Gt.inNormal | apply Gt.inRet | (apply St.condP;exact rfl;all_goals (intros;try (exfalso;omega)))
    all_goals (refine ⟨_,rfl,?_,finU hu1 hp kb⟩;(try rw [hfd]);unfold memF;(try rw [hm]);(try rw [hm1]);(try rw [hm2]);(repeat' split) <;> first | contradiction | (exfalso;omega) | exact ⟨rfl,.inl ⟨rfl,hT1.hp hp hw kb⟩⟩ | exact ⟨rfl,.inr ⟨rfl,hS1.hp hp hw kb⟩⟩)
  ·obtain ⟨bi,hbt,hbi⟩ : ∃ b : Bool,b = false ∧ (b = true ↔ inM at_ (widthF o)) := ⟨false,rfl,fun h => (by cases h),fun h => (hin h).elim⟩
   have hbn : (!bi) = true := by rw [hbt];rfl
   repeat' first | (apply Wl.callQ (f := 152);exact rfl;exact ke;exact j8) | (apply Wl.callQ (f := 149);exact rfl;exact ke;exact j9) | (apply Wl.callS (f := 113) (w0 := w);exact rfl;exact ke;assumption;assumption;exact hw;(simp only [List.mem_cons,List.not_mem_nil,or_false,forall_eq_or_imp,forall_eq];omega);(intro wq hSq;exact htrapS h cf cM _ _ F _ _ _ _ _ _ _ _ _ _ wq hSq hmd);(rintro v w1 ⟨rfl,hT1⟩ hu1;have hz1 := hu1.size)) | (apply Wl.callQ (f := 76);exact rfl;exact ke;exact qu) | (apply Wl.loadO;exact rfl;exact rfl;exact zu;exact zi) | (apply Gt.outC';exact rfl;infer_instance;exact rfl;exact ke;exact ke;intro w' hp) | refine Wl.move rfl rfl ?_ | refine Wl.assign rfl rfl ?_ | (apply Wl.off;exact rfl;exact rfl;exact rfl;exact kr) | refine Wl.nilCheck rfl rfl ?_ | (apply Wl.pickT;exact rfl;exact rfl;exact ka;exact rfl) | refine Wl.not rfl rfl ?_ | refine Wl.fieldAddr0 rfl rfl ?_ | refine Wl.fieldAddrZ rfl rfl ?_ | (apply Wl.loadH;exact rfl;exact rfl;exact ke;exact rfl) | refine Wl.eql rfl rfl rfl ?_ | refine Wl.neq rfl rfl rfl ?_ | (apply Wl.rem;exact rfl;exact rfl;exact rfl;exact qv) | (refine Wl.convU32 rfl rfl ?_ ?_;constructor <;> omega) | (apply Wl.store;exact rfl;exact rfl;exact rfl;exact ke;exact kw) | (apply Wl.storeA;exact rfl;exact rfl;exact rfl;exact rfl;exact ke;exact kf) | (apply Wl.loadAH;exact rfl;exact rfl;exact ke;exact ke) | (apply Wl.boxA;exact rfl;exact rfl;intro c hc ho) | (apply Wl.alloc;exact rfl;intro c hc ho) | apply Wl.nil | apply St.seq | apply St.block | apply St.region | (apply St.condT;exact rfl;exact ka) | (apply St.condF;exact rfl;exact ka) | apply St.ret | apply St.skip | apply Gt.next | apply Gt.thenRet | apply Gt.inRet | (apply St.condP;exact rfl;all_goals (intros;try (exfalso;omega)))
   all_goals (refine ⟨_,rfl,?_,finU hu1 hp kb⟩;(try rw [hfd]);unfold memF;(try rw [hm]);(try rw [hm1]);(try rw [hm2]);(repeat' split) <;> first | contradiction | (exfalso;omega) | exact ⟨rfl,.inl ⟨rfl,hT1.hp hp hw kb⟩⟩ | exact ⟨rfl,.inr ⟨rfl,hS1.hp hp hw kb⟩⟩)
set_option maxHeartbeats 16000000 in
theorem doU2 (h cf cM : Nat) (xs : List Value) (pc wd o rd r1 r2 im : Int) (F : Fs) (f : Nat → Int) (w : World) (hS : SS w h cf cM xs pc F f) (hmd : F.md = 0) (hR : InstR rd r1 r2 im) :
  Calls Tryz.prog 116 #[.pointer (some ⟨h,0,none⟩),.agg #[.int .u32 wd,.bool false,.int .u32 0,.int .u32 0,.int .u32 0,.int .i64 0,.bool false],.agg #[.int .i64 o,.int .i64 rd,.int .i64 r1,.int .i64 r2,.int .u32 im]] w fun e w' => ∃ v,e = .returned v ∧ OutR w' h cf cM pc F (doF xs pc F.cf f wd o rd r1 r2 im) v ∧ Upd (fun k => k = h ∨ k = cf ∨ k = cM) w w' := by
 obtain ⟨k1,k2,k3,k4⟩ := id hR
 have hw := hS.lts
 have hu0 : Upd (Mv h cf cM w.heap.size) w w := Upd.refl _ _
 obtain ⟨c32,c33,c34⟩ := hS.1.at1
 obtain ⟨l1,l2,l3,l4⟩ := hS.lts
 have m0 : w.cell? ⟨cf,0,none⟩ = some (.int .i64 F.md) := hS.2.1.ff.two
 rw [hmd] at m0
 have hSQ : ∀ {H : List Blk} {wq : World},Hp w H wq → (hH : ∀ x ∈ H,w.heap.size ≤ x.b := by simp only [List.mem_cons,List.not_mem_nil,or_false,forall_eq_or_imp,forall_eq];omega) → SS wq h cf cM xs pc F f := fun hq hH => hS.hp hq hw hH
 obtain ⟨hza,ra⟩ := hS.regI k2
 obtain ⟨hzb,rb⟩ := hS.regI k3
 have hn := widthF_rng o
 refine enter (args := [_,_,_]) (Γ := [(0,_),(1,_),(2,_)]) Tryz.func116 Tryz.ntmps116 rfl (of_decide_eq_true rfl) (.cons rfl (.cons rfl (.cons rfl .nil))) ?_
 repeat' first | (apply Wl.callQ (f := 149);exact rfl;exact ke;exact j9) | (apply Wl.callQ (f := 152);exact rfl;exact ke;exact j8) | (apply Wl.callQ (f := 151);exact rfl;exact ke;(intro wq hq;exact hq.q (goesX _ _ _ wq))) | (apply Wl.callQ (f := 154);exact rfl;exact ke;(intro wq hq;exact hq.q (reckX _ _ _ wq qm qm))) | (apply Wl.callS (f := 113) (w0 := w);exact rfl;exact ke;assumption;assumption;exact hw;(simp only [List.mem_cons,List.not_mem_nil,or_false,forall_eq_or_imp,forall_eq];omega);(intro wq hSq;exact htrapS h cf cM _ _ F _ _ _ _ _ _ _ _ _ _ wq hSq hmd);(rintro v w1 ⟨rfl,hT1⟩ hu1;have hz1 := hu1.size)) | (apply Wl.callS (f := 157) (w0 := w);exact rfl;exact ke;assumption;assumption;exact hw;(simp only [List.mem_cons,List.not_mem_nil,or_false,forall_eq_or_imp,forall_eq];omega);(intro wq hSq;exact hdoneS h cf cM _ _ _ F _ _ _ _ _ _ _ _ wq hSq qg);(rintro v w1 ⟨rfl,hS1⟩ hu1;have hz1 := hu1.size)) | (apply Wl.callS (f := 150) (w0 := w);exact rfl;exact ke;assumption;assumption;exact hw;(simp only [List.mem_cons,List.not_mem_nil,or_false,forall_eq_or_imp,forall_eq];omega);(intro wq hSq;exact hsetS h cf cM _ _ _ _ F _ wq hSq (by first | assumption | omega) (by first | assumption | exact wr32 _ | exact br32 _ _ _ | exact reckF_rng _ _ _ qm));(rintro v w2 ⟨rfl,hS2⟩ hu2;have hz2 := hu2.size;obtain ⟨e32,e33,e34⟩ := hS2.1.at1)) | (apply Wl.callS (f := 153) (w0 := w);exact rfl;exact ke;assumption;assumption;exact hw;(simp only [List.mem_cons,List.not_mem_nil,or_false,forall_eq_or_imp,forall_eq];omega);(intro wq hSq;exact memU2 h cf cM _ _ _ _ _ _ _ _ _ _ F _ wq hSq hmd hR (by exact wr32 _) (by unfold W124 at hn ⊢;omega));(rintro v w1 ⟨rfl,hO⟩ hu1;have hz1 := hu1.size)) | (apply Wl.callS (f := 156) (w0 := w);exact rfl;exact ke;assumption;assumption;exact hw;(simp only [List.mem_cons,List.not_mem_nil,or_false,forall_eq_or_imp,forall_eq];omega);(intro wq hSq;exact sysU2 h cf cM _ _ _ _ _ _ _ _ _ F _ wq hSq hmd (by exact wr32 _));(rintro v w1 ⟨rfl,hO⟩ hu1;have hz1 := hu1.size)) | (apply Wl.callQ (f := 155);exact rfl;exact ke;(intro wq hq;exact hq.q (regU h cf cM _ _ _ _ _ _ _ _ F _ wq (hSQ hq) hmd hR))) | (apply St.bagX (i := 7) 8 [];exact mixed;(decide +kernel);kernel_rfl) | (apply Wl.loadO;exact rfl;exact rfl;exact zu;exact zi) | apply OpsX.nil | (apply OpsX.v;(intro X hX;change Wl [_] _ _ _ _ _ _ _;apply Wl.catX;exact ke)) | (apply Gt.endX;exact rfl) | (apply EndX.on;exact rfl) | (apply EndX.off;exact rfl) | (apply EndX.nil';apply Wl.catE;exact ke) | (apply Gt.outC';exact rfl;infer_instance;exact rfl;exact ke;exact ke;intro w' hp) | refine Wl.move rfl rfl ?_ | refine Wl.assign rfl rfl ?_ | (apply Wl.on;exact rfl;exact rfl;exact ka) | (apply Wl.off;exact rfl;exact rfl;exact rfl;exact kr) | refine Wl.extract rfl rfl rfl ?_ | refine Wl.nilCheck rfl rfl ?_ | (apply Wl.pickT;exact rfl;exact rfl;exact ka;exact rfl) | (apply Wl.pickF;exact rfl;exact rfl;exact ka;exact rfl) | refine Wl.not rfl rfl ?_ | refine Wl.fieldAddr0 rfl rfl ?_ | refine Wl.fieldAddrZ rfl rfl ?_ | (apply Wl.loadH;exact rfl;exact rfl;exact ke;exact rfl) | (apply Wl.eqlIs;exact rfl;exact rfl;exact rfl;exact kz) | refine Wl.eql rfl rfl rfl ?_ | refine Wl.neq rfl rfl rfl ?_ | refine Wl.gtr rfl rfl rfl ?_ | refine Wl.add rfl rfl rfl ?_ | (apply Wl.rem;exact rfl;exact rfl;exact rfl;exact qv) | refine Wl.andNot rfl rfl rfl ?_ | (apply Wl.store;exact rfl;exact rfl;exact rfl;exact ke;exact kw) | (apply Wl.storeA;exact rfl;exact rfl;exact rfl;exact rfl;exact ke;exact kf) | (apply Wl.loadAH;exact rfl;exact rfl;exact ke;exact ke) | (apply Wl.boxA;exact rfl;exact rfl;intro c hc ho) | (apply Wl.alloc;exact rfl;intro c hc ho) | (refine Wl.indexArr rfl rfl rfl ?_ ?_;constructor <;> omega) | apply Wl.nil | apply Wl.nilQ | apply St.seq | apply St.block | apply St.region | (apply St.draw;exact mixed;(kernel_rfl);exact (fun _ h => Hp.drew h)) | (apply St.condT;exact rfl;exact ka) | apply St.ret | apply St.skip | apply Gt.next | apply Gt.thenRet | apply Gt.inNormal | apply Gt.inRet | (apply Wl.splitP;exact rfl;exact rfl;all_goals (intros;try (exfalso;omega))) | (apply St.condP;exact rfl;all_goals (intros;try (exfalso;omega))) | (apply St.condB;exact rfl;all_goals intros)
 all_goals (refine ⟨_,rfl,?_,finU hu1 hp kb⟩;(try rw [hfd]);unfold doF;(try rw [hm]);(try rw [hm1]);(try rw [hm2]);(repeat' split) <;> first | contradiction | (exfalso;omega) | exact ⟨rfl,.inl ⟨rfl,hT1.hp hp hw kb⟩⟩ | exact ⟨rfl,.inr ⟨rfl,hS1.hp hp hw kb⟩⟩ | (exfalso;exact Bool.noConfusion ((‹(goesF o (regI xs r1) (regI xs r2)).1 = false›).symm.trans ‹(goesF o (regI xs r1) (regI xs r2)).1 = true›)) | exact OutR.hp (v := Rz.v _) ⟨rfl,hO⟩ hp hw kb)
set_option maxHeartbeats 16000000 in
theorem stepX (h cf cM : Nat) (xs : List Value) (pc : Int) (F : Fs) (f : Nat → Int) (w : World) (hS : SS w h cf cM xs pc F f) (hmd : F.md = 0) (hdv : dueOf F.md F.st F.mie F.mip = false) :
  Calls Tryz.prog 63 #[.pointer (some ⟨h,0,none⟩)] w fun e w' => ∃ v,e = .returned v ∧ OutR w' h cf cM pc F (stepF xs pc F.cf f) v ∧ Upd (fun k => k = h ∨ k = cf ∨ k = cM) w w' := by
 have hw := hS.lts
 have hu0 : Upd (Mv h cf cM w.heap.size) w w := Upd.refl _ _
 obtain ⟨c32,c33,c34⟩ := hS.1.at1
 obtain ⟨l1,l2,l3,l4⟩ := hS.lts
 have m0 : w.cell? ⟨cf,0,none⟩ = some (.int .i64 F.md) := hS.2.1.ff.two
 rw [hmd] at m0
 have hSQ : ∀ {H : List Blk} {wq : World},Hp w H wq → (hH : ∀ x ∈ H,w.heap.size ≤ x.b := by simp only [List.mem_cons,List.not_mem_nil,or_false,forall_eq_or_imp,forall_eq];omega) → SS wq h cf cM xs pc F f := fun hq hH => hS.hp hq hw hH
 have hpcr := hS.2.2.2.2.1
 have hdR := decF_rng (loadX_rng f (pc - 2147483648).toNat 4)
 unfold In5R at hdR
 have hDue : ∀ wq : World,FX wq cf F → Calls Tryz.prog 112 #[.pointer (some ⟨cf,0,none⟩)] wq fun e w' => e = .returned (.bool false) ∧ Hp wq [] w' := fun wq hF => by rw [← hdv];exact fdue cf _ _ _ _ _ _ _ _ _ _ wq hF.2.2
 refine enter (args := [_]) (Γ := [(0,_)]) Tryz.func63 Tryz.ntmps63 rfl (of_decide_eq_true rfl) (.cons rfl .nil) ?_
 by_cases hin : inM pc 4
 ·cases hm : mayG F.cf pc 4 4
  all_goals
   have hMay : ∀ (wq : World),SS wq h cf cM xs pc F f → Calls Tryz.prog 115 #[.pointer (some ⟨cf,0,none⟩),.int .u32 pc,.int .i64 4,.int .i64 4] wq fun e w' => e = .returned (.bool (mayG F.cf pc 4 4)) ∧ Hp wq [] w' := fun wq hs => may1Y cf F pc 4 4 wq hs.2.1 hmd hs.2.2.2.2.2.2.1
   rw [hm] at hMay
   repeat' first | (apply Wl.callQ (f := 112);exact rfl;exact ke;exact qz) | (apply Wl.callS (f := 113) (w0 := w);exact rfl;exact ke;assumption;assumption;exact hw;(simp only [List.mem_cons,List.not_mem_nil,or_false,forall_eq_or_imp,forall_eq];omega);(intro wq hSq;exact htrapS h cf cM _ _ F _ _ _ _ _ _ _ _ _ _ wq hSq hmd);(rintro v w1 ⟨rfl,hT1⟩ hu1;have hz1 := hu1.size)) | (apply Wl.callQQ (f := 114);exact rfl;exact ke;(intro wq hq;exact hq.q (mloadP cM pc 4 f wq hpcr (.inr (.inr rfl)) hin (hSQ hq).2.2.1))) | (apply Wl.callQQ (f := 115);exact rfl;exact ke;(intro wq hq;exact hq.q (hMay wq (hSQ hq)))) | (apply Wl.callQ (f := 117);exact rfl;exact ke;(intro wq hq;exact hq.q (decX _ wq (loadX_rng _ _ _)))) | (apply Wl.callS (f := 116) (w0 := w);exact rfl;exact ke;assumption;assumption;exact hw;(simp only [List.mem_cons,List.not_mem_nil,or_false,forall_eq_or_imp,forall_eq];omega);(intro wq hSq;exact doU2 h cf cM _ _ _ _ _ _ _ _ F _ wq hSq hmd hdR);(rintro v w1 ⟨rfl,hO⟩ hu1;have hz1 := hu1.size)) | (apply Wl.loadO;exact rfl;exact rfl;exact zu;exact zi) | (apply Gt.outC';exact rfl;infer_instance;exact rfl;exact ke;exact ke;intro w' hp) | refine Wl.move rfl rfl ?_ | refine Wl.assign rfl rfl ?_ | (apply Wl.on;exact rfl;exact rfl;exact ka) | refine Wl.extract rfl rfl rfl ?_ | refine Wl.nilCheck rfl rfl ?_ | (apply Wl.pickF;exact rfl;exact rfl;exact ka;exact rfl) | refine Wl.not rfl rfl ?_ | refine Wl.fieldAddrZ rfl rfl ?_ | refine Wl.eqlPN rfl rfl rfl ?_ | (apply Wl.neqIs;exact rfl;exact rfl;exact rfl;exact kz) | refine Wl.neq rfl rfl rfl ?_ | (apply Wl.rem;exact rfl;exact rfl;exact rfl;exact qv) | (apply Wl.storeA;exact rfl;exact rfl;exact rfl;exact rfl;exact ke;exact kf) | (apply Wl.buildS;exact rfl;exact ki;exact kc) | (apply Wl.alloc;exact rfl;intro c hc ho) | apply Wl.nil | apply Wl.nilQ | apply St.seq | apply St.region | (apply St.draw;exact mixed;(kernel_rfl);exact (fun _ h => Hp.drew h)) | (apply St.condT;exact rfl;exact ka) | (apply St.condF;exact rfl;exact ka) | apply St.ret | apply St.skip | apply Gt.next | apply Gt.thenRet | (apply St.condP;exact rfl;all_goals (intros;try (exfalso;omega)))
   all_goals (refine ⟨_,rfl,?_,finU hu1 hp kb⟩;(try rw [hfd]);unfold stepF;(try rw [hm]);(try rw [hm1]);(try rw [hm2]);(repeat' split) <;> first | contradiction | (exfalso;omega) | exact ⟨rfl,.inl ⟨rfl,hT1.hp hp hw kb⟩⟩ | exact ⟨rfl,.inr ⟨rfl,hS1.hp hp hw kb⟩⟩ | exact OutR.hp (v := Rz.v _) ⟨rfl,hO⟩ hp hw kb)
 ·repeat' first | (apply Wl.callQ (f := 112);exact rfl;exact ke;exact qz) | (apply Wl.callS (f := 113) (w0 := w);exact rfl;exact ke;assumption;assumption;exact hw;(simp only [List.mem_cons,List.not_mem_nil,or_false,forall_eq_or_imp,forall_eq];omega);(intro wq hSq;exact htrapS h cf cM _ _ F _ _ _ _ _ _ _ _ _ _ wq hSq hmd);(rintro v w1 ⟨rfl,hT1⟩ hu1;have hz1 := hu1.size)) | (apply Wl.callQQ (f := 114);exact rfl;exact ke;(intro wq hq;exact hq.q (mloadNo cM pc 4 f wq hpcr (.inr (.inr rfl)) hin (hSQ hq).2.2.1))) | (apply Wl.loadO;exact rfl;exact rfl;exact zu;exact zi) | (apply Gt.outC';exact rfl;infer_instance;exact rfl;exact ke;exact ke;intro w' hp) | refine Wl.move rfl rfl ?_ | refine Wl.assign rfl rfl ?_ | (apply Wl.off;exact rfl;exact rfl;exact rfl;exact kr) | refine Wl.extract rfl rfl rfl ?_ | refine Wl.nilCheck rfl rfl ?_ | (apply Wl.pickT;exact rfl;exact rfl;exact ka;exact rfl) | refine Wl.fieldAddrZ rfl rfl ?_ | refine Wl.eqlPN rfl rfl rfl ?_ | refine Wl.neq rfl rfl rfl ?_ | (apply Wl.rem;exact rfl;exact rfl;exact rfl;exact qv) | (apply Wl.storeA;exact rfl;exact rfl;exact rfl;exact rfl;exact ke;exact kf) | (apply Wl.buildS;exact rfl;exact ki;exact kc) | (apply Wl.alloc;exact rfl;intro c hc ho) | apply Wl.nil | apply Wl.nilQ | apply St.seq | apply St.region | (apply St.draw;exact mixed;(kernel_rfl);exact (fun _ h => Hp.drew h)) | (apply St.condT;exact rfl;exact ka) | (apply St.condF;exact rfl;exact ka) | apply St.ret | apply St.skip | apply Gt.next | apply Gt.thenRet | (apply St.condP;exact rfl;all_goals (intros;try (exfalso;omega)))
  all_goals (refine ⟨_,rfl,?_,finU hu1 hp kb⟩;(try rw [hfd]);unfold stepF;(try rw [hm]);(try rw [hm1]);(try rw [hm2]);(repeat' split) <;> first | contradiction | (exfalso;omega) | exact ⟨rfl,.inl ⟨rfl,hT1.hp hp hw kb⟩⟩ | exact ⟨rfl,.inr ⟨rfl,hS1.hp hp hw kb⟩⟩ | exact OutR.hp (v := Rz.v _) ⟨rfl,hO⟩ hp hw kb)
end Go.Proofs.YtabbklpalbikdaaGreatDoor
end
section
namespace Go.Proofs.YtabbklpalbikdaaGreatDoor
open Go.RowKit Go.Pt
structure Mi where
 (m h d wd sa pp pa bd ia cM : Nat)
 cs : List Nat
structure Mv2 where
 (pv ev seen lv : Value)
 (sn : Nat) (sx : List Value)
 L : List Sta
 t : Int
 bx : Nat → List Value
 ll : List (Int × List UInt8)
 used : Int
 ins : List (List UInt8)
 f : Nat → Int
 xs : List Value
 pc : Int
 cf : Nat
structure MonS (w : World) (base : Nat) (I : Mi) (M : Mv2) : Prop where
 mm : w.heap[I.m]? = some (.cells #[.pointer (some ⟨I.h,0,none⟩),.pointer (some ⟨I.d,0,none⟩),.pointer (some ⟨I.wd,0,none⟩),M.seen] 130 (0,0))
 dd : w.heap[I.d]? = some (.cells #[M.pv,M.ev,.pointer (some ⟨I.cM,0,none⟩),.pointer (some ⟨I.pp,0,none⟩),.pointer (some ⟨I.bd,0,none⟩)] 139 (0,0))
 ward : WardS w I.wd I.sa M.L M.t
 post : PostS w I.pp I.pa I.cs M.bx
 board : BoardS w base I.bd I.ia M.lv M.ll M.used M.ins
 mem : memH w I.cM M.f
 hart : HH w I.h M.cf (.pointer (some ⟨I.cM,0,none⟩)) M.xs M.pc
 seen : w.ownsRow base 70 7 M.seen M.sn M.sx
 rg : Rg M.xs ∧ (0 ≤ M.pc ∧ M.pc < 4294967296)
 len : I.cs.length = M.L.length ∧ M.ins.length = M.L.length
 ge : base ≤ I.m ∧ base ≤ I.h ∧ base ≤ I.d ∧ base ≤ I.wd ∧ base ≤ I.sa ∧ base ≤ I.pp ∧ base ≤ I.pa ∧ base ≤ I.bd ∧ base ≤ I.ia ∧ base ≤ I.cM ∧ ∀ c ∈ I.cs,base ≤ c
def MonF (I : Mi) (M : Mv2) (b : Nat) : Prop := b = I.m ∨ b = I.h ∨ b = I.d ∨ b = I.wd ∨ b = I.sa ∨ b = I.pp ∨ b = I.pa ∨ b = I.bd ∨ b = I.ia ∨ b = I.cM ∨ b ∈ I.cs ∨ M.lv.ownBlock = some b ∨ M.seen.ownBlock = some b
theorem MonS.lt {w : World} {base : Nat} {I : Mi} {M : Mv2} (k : MonS w base I M) : ∀ b,MonF I M b → base ≤ b ∧ b < w.heap.size := by
 obtain ⟨g1,g2,g3,g4,g5,g6,g7,g8,g9,g10,g11⟩ := k.ge
 rintro b (rfl | rfl | rfl | rfl | rfl | rfl | rfl | rfl | rfl | rfl | h | h | h)
 ·exact ⟨g1,lt_of_block k.mm⟩
 ·exact ⟨g2,k.hart.lt⟩
 ·exact ⟨g3,lt_of_block k.dd⟩
 ·exact ⟨g4,k.ward.lt.1⟩
 ·exact ⟨g5,k.ward.lt.2⟩
 ·exact ⟨g6,k.post.lt.1⟩
 ·exact ⟨g7,k.post.lt.2.1⟩
 ·exact ⟨g8,k.board.lt.1⟩
 ·exact ⟨g9,k.board.lt.2.1⟩
 ·exact ⟨g10,lt_of_block k.mem⟩
 ·exact ⟨g11 b h,k.post.lt.2.2 b h⟩
 ·exact k.board.lt.2.2 b h
 ·exact k.seen.ge b h
theorem MonS.upd {w w' : World} {base : Nat} {I : Mi} {M : Mv2} {S : Nat → Prop} (k : MonS w base I M) (u : Upd S w w') (hs : ∀ b,MonF I M b → ¬ S b) : MonS w' base I M where
 mm := u.heap k.mm (hs _ (.inl rfl))
 dd := u.heap k.dd (hs _ (.inr (.inr (.inl rfl))))
 ward := k.ward.upd u (hs _ (.inr (.inr (.inr (.inl rfl))))) (hs _ (.inr (.inr (.inr (.inr (.inl rfl))))))
 post := k.post.upd u (hs _ (.inr (.inr (.inr (.inr (.inr (.inl rfl))))))) (hs _ (.inr (.inr (.inr (.inr (.inr (.inr (.inl rfl)))))))) fun c hc => hs _ (.inr (.inr (.inr (.inr (.inr (.inr (.inr (.inr (.inr (.inr (.inl hc)))))))))))
 board := k.board.upd u (hs _ (.inr (.inr (.inr (.inr (.inr (.inr (.inr (.inl rfl))))))))) (hs _ (.inr (.inr (.inr (.inr (.inr (.inr (.inr (.inr (.inl rfl)))))))))) fun b hb => hs _ (.inr (.inr (.inr (.inr (.inr (.inr (.inr (.inr (.inr (.inr (.inr (.inl hb))))))))))))
 mem := u.heap k.mem (hs _ (.inr (.inr (.inr (.inr (.inr (.inr (.inr (.inr (.inr (.inl rfl)))))))))))
 hart := k.hart.upd u (hs _ (.inr (.inl rfl)))
 seen := ownsRow_upd k.seen u fun b hb => hs _ (.inr (.inr (.inr (.inr (.inr (.inr (.inr (.inr (.inr (.inr (.inr (.inr hb))))))))))))
 rg := k.rg
 len := k.len
 ge := k.ge
theorem MonS.new {w w' w0 : World} {base : Nat} {I : Mi} {M : Mv2} (k : MonS w base I M) (u : Upd (fun b => w0.heap.size ≤ b) w w') (hw : w.heap.size ≤ w0.heap.size) : MonS w' base I M :=
 k.upd u fun b hb hs => by have := (k.lt b hb).2;omega
theorem MonS.hp {w w' : World} {base : Nat} {I : Mi} {M : Mv2} {H : List Blk} (k : MonS w base I M) (hp : Hp w H w') (hH : ∀ x ∈ H,w.heap.size ≤ x.b) : MonS w' base I M :=
 k.upd hp.upd fun b hb hs => hs (Off.of fun x hx e => by have := hH x hx;have := (k.lt b hb).2;omega)
set_option maxHeartbeats 8000000 in
theorem monNew (a1 a2 a3 : Option Addr) (n c1 c2 c3 cM : Nat) (p : Nat → Int) (f : Nat → Int) (w : World) (hn : 1 ≤ n ∧ n ≤ 4) (hA : WordF w a3 n p) (hM : memH w cM f) (base : Nat) (hb : base ≤ cM) (hbw : base ≤ w.heap.size) :
  Calls Tryz.prog 40 #[.slice a1 n c1,.slice a2 n c2,.slice a3 n c3,.pointer (some ⟨cM,0,none⟩)] w fun e w' => ∃ I M,e = .returned (.tuple #[.pointer (some ⟨I.m,0,none⟩),.int .i64 0]) ∧ MonS w' base I M ∧
   I.cM = cM ∧ M = ⟨.slice a1 n c1,.slice a2 n c2,.slice none 0 0,.slice none 0 0,0,[],newL p n,0,fun _ => [],[],0,List.replicate n [],f,xz,0,M.cf⟩ ∧ (∀ b,MonF I M b → b ≠ cM → w.heap.size ≤ b) ∧ Upd (fun k => w.heap.size ≤ k) w w' := by
 have hlM := lt_of_block hM
 refine enter (args := [_,_,_,_]) (Γ := [(0,_),(1,_),(2,_),(3,_)]) Tryz.func40 Tryz.ntmps40 rfl (of_decide_eq_true rfl) (.cons rfl (.cons rfl (.cons rfl (.cons rfl .nil)))) ?_
 repeat' first | refine Wl.move rfl rfl ?_ | refine Wl.assign rfl rfl ?_ | apply Wl.nil | apply St.seq | apply St.region | apply Gt.next
 apply Wl.callC
 ·exact rfl
 ·repeat constructor
 intro wq hq
 refine (wNew a3 n c3 p wq hn (fun i hi => by obtain ⟨b,o,e,h1,h2⟩ := hA i hi;exact ⟨b,o,e,hq.upd.cell h1 fun y => y trivial,h2⟩)).mono ?_
 rintro e w1 ⟨wd,sa,rfl,hW1,g1,g2,u1⟩
 have uq := hq.upd
 have v1 : Upd (fun k => w.heap.size ≤ k) w w1 := uq.comp u1 fun k hk hs => hs.elim (fun y => (y trivial).elim) fun y => by have := uq.size;omega
 have z1 := uq.size
 have hW1l := hW1.lt
 refine ⟨_,_,rfl,Hp.start w1,?_⟩
 clear hq uq u1
 repeat' first | refine Wl.move rfl rfl ?_ | refine Wl.assign rfl rfl ?_ | (apply Wl.on;exact rfl;exact rfl;exact ka) | refine Wl.extract rfl rfl rfl ?_ | (apply Wl.pickF;exact rfl;exact rfl;exact ka;exact rfl) | refine Wl.eqlPN rfl rfl rfl ?_ | (apply Wl.neqIs;exact rfl;exact rfl;exact rfl;exact kz) | refine Wl.len rfl rfl ?_ | apply Wl.nil | apply St.seq | apply St.region | (apply St.condF;exact rfl;exact ka) | apply St.skip | apply Gt.next
 apply Wl.callC
 ·exact rfl
 ·repeat constructor
 intro wq2 hq
 refine (pNew n wq2 hn).mono ?_
 rintro e w2 ⟨pp,pa,cs,rfl,hP2,hcl,g3,g4,g5,u2⟩
 have uq := hq.upd
 have z2 := uq.size
 have v2 : Upd (fun k => w1.heap.size ≤ k) w1 w2 := uq.comp u2 fun k hk hs => hs.elim (fun y => (y trivial).elim) fun y => by omega
 have z2b := v2.size
 refine ⟨_,_,rfl,Hp.start w2,?_⟩
 clear hq uq u2
 repeat' first | refine Wl.move rfl rfl ?_ | refine Wl.assign rfl rfl ?_ | refine Wl.extract rfl rfl rfl ?_ | refine Wl.len rfl rfl ?_ | apply Wl.nil | apply St.seq | apply St.region | apply Gt.next
 apply Wl.callC
 ·exact rfl
 ·repeat constructor
 intro wq3 hq
 refine (bNew n wq3 hn).mono ?_
 rintro e w3 ⟨bd,ia,rfl,hB3,g6,g7,u3⟩
 have uq := hq.upd
 have z3 := uq.size
 have v3 : Upd (fun k => w2.heap.size ≤ k) w2 w3 := uq.comp u3 fun k hk hs => hs.elim (fun y => (y trivial).elim) fun y => by omega
 have z3b := v3.size
 refine ⟨_,_,rfl,Hp.start w3,?_⟩
 clear hq uq u3
 repeat' first | refine Wl.move rfl rfl ?_ | refine Wl.assign rfl rfl ?_ | refine Wl.extract rfl rfl rfl ?_ | apply Wl.nil | apply St.seq | apply St.region | apply Gt.next
 apply Wl.callC
 ·exact rfl
 ·repeat constructor
 intro wq4 hq
 refine (hnew (some ⟨cM,0,none⟩) wq4).mono ?_
 rintro e w4 ⟨h,cf,rfl,hp4,g8,g9,g10⟩
 have uq := hq.upd
 have z4 := uq.size
 have v4 : Upd (fun k => w3.heap.size ≤ k) w3 w4 := uq.comp hp4.upd fun k hk hs => Classical.byContradiction fun hn => hs.elim (fun y => y trivial) fun y => y ⟨fun e => hn qq,fun e => hn qq,trivial⟩
 have z4b := v4.size
 have hH4 : HH w4 h cf (.pointer (some ⟨cM,0,none⟩)) xz 0 := ⟨rfl,hp4.own.at (.head _)⟩
 have lh := hH4.lt
 refine ⟨_,_,rfl,Hp.start w4,?_⟩
 clear hq uq hp4
 repeat' first | refine Wl.move rfl rfl ?_ | refine Wl.assign rfl rfl ?_ | (apply Wl.buildS;exact rfl;exact ki;exact kc) | (apply Wl.boxA;exact rfl;exact rfl;intro c hc ho) | apply Wl.nil | apply St.ret | apply Gt.next | (apply Gt.out2;exact rfl;exact rfl;exact rfl;intro w' hp)
 rename_i d hd hod
 have w5u : Upd (fun k => w4.heap.size ≤ k) w4 w' := hp.on (Upd.refl _ _) kb
 have t12 : Upd (fun k => w.heap.size ≤ k) w w2 := v1.comp v2 fun k hk hs => hs.elim id fun y => by omega
 have t13 : Upd (fun k => w.heap.size ≤ k) w w3 := t12.comp v3 fun k hk hs => hs.elim id fun y => by omega
 have t14 : Upd (fun k => w.heap.size ≤ k) w w4 := t13.comp v4 fun k hk hs => hs.elim id fun y => by omega
 have t15 : Upd (fun k => w.heap.size ≤ k) w w' := t14.comp w5u fun k hk hs => hs.elim id fun y => by omega
 have q25 : Upd (fun k => w1.heap.size ≤ k) w1 w' := ((v2.comp v3 (T := fun k => w1.heap.size ≤ k) fun k hk hs => hs.elim id fun y => by omega).comp v4 (T := fun k => w1.heap.size ≤ k) fun k hk hs => hs.elim id fun y => by omega).comp w5u fun k hk hs => hs.elim id fun y => by omega
 have q35 : Upd (fun k => w2.heap.size ≤ k) w2 w' := (v3.comp v4 (T := fun k => w2.heap.size ≤ k) fun k hk hs => hs.elim id fun y => by omega).comp w5u fun k hk hs => hs.elim id fun y => by omega
 have q45 : Upd (fun k => w3.heap.size ≤ k) w3 w' := v4.comp w5u fun k hk hs => hs.elim id fun y => by omega
 have hPl := hP2.lt
 have hBl := hB3.lt
 have key : ∀ b,MonF ⟨c,h,d,wd,sa,pp,pa,bd,ia,cM,cs⟩ ⟨.slice a1 n c1,.slice a2 n c2,.slice none 0 0,.slice none 0 0,0,[],newL p n,0,fun _ => [],[],0,List.replicate n [],f,xz,0,cf⟩ b → b ≠ cM → w.heap.size ≤ b := by
  rintro b (rfl | rfl | rfl | rfl | rfl | rfl | rfl | rfl | rfl | rfl | hb | hb | hb) hne
  ·first | omega | (simp only;omega)
  ·first | omega | (simp only;omega)
  ·first | omega | (simp only;omega)
  ·first | omega | (simp only;omega)
  ·first | omega | (simp only;omega)
  ·first | omega | (simp only;omega)
  ·first | omega | (simp only;omega)
  ·first | omega | (simp only;omega)
  ·first | omega | (simp only;omega)
  ·exact (hne rfl).elim
  ·have := g5 b hb;omega
  ·cases hb
  ·cases hb
 refine ⟨⟨c,h,d,wd,sa,pp,pa,bd,ia,cM,cs⟩,⟨.slice a1 n c1,.slice a2 n c2,.slice none 0 0,.slice none 0 0,0,[],newL p n,0,fun _ => [],[],0,List.replicate n [],f,xz,0,cf⟩,rfl,?_,rfl,rfl,key,t15⟩
 exact {
  mm := hp.own.at (.head _)
  dd := hp.own.at (.tail _ (.head _))
  ward := hW1.upd q25 q6 q6
  post := hP2.upd q35 q6 q6 fun b hb => by have := hPl.2.2 b hb;omega
  board := by
   have hB := hB3.upd q45 q6 q6 (fun b hb => by cases hb)
   exact ⟨hB.1,World.ownsRow_nil _ _ _ _,hB.2.2⟩
  mem := t15.heap hM (by show ¬ w.heap.size ≤ cM;omega)
  hart := hH4.upd w5u ky
  seen := World.ownsRow_nil _ _ _ _
  rg := ⟨xz_rg,by show (0 : Int) ≤ 0;decide,by show (0 : Int) < 4294967296;decide⟩
  len := ⟨by rw [newL_len];exact hcl,by rw [newL_len,List.length_replicate]⟩
  ge := ⟨by first | omega | (simp only;omega),by first | omega | (simp only;omega),by first | omega | (simp only;omega),by first | omega | (simp only;omega),by first | omega | (simp only;omega),by first | omega | (simp only;omega),by first | omega | (simp only;omega),by first | omega | (simp only;omega),by first | omega | (simp only;omega),hb,fun b hb => by have := g5 b hb;omega⟩ }
end Go.Proofs.YtabbklpalbikdaaGreatDoor
end
