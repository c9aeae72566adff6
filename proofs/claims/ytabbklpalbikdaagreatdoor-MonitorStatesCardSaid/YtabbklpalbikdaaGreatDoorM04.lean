/-
 9 texts,one behind the other;each says what it proves. Conditions: as each text says.
-/
import Derived.Test.YtabbklpalbikdaaGreatDoorM02
import Derived.Test.YtabbklpalbikdaaGreatDoorM03
set_option maxHeartbeats 32000000
set_option linter.unusedVariables false
set_option linter.unusedSimpArgs false
section
namespace Go.Proofs.YtabbklpalbikdaaGreatDoor
open Go.RowKit Go.Pt
def formF (op : Int) : Int :=
 if op = 1 ∨ op = 2 then 0 else if op = 3 then 1 else if op = 4 ∨ (11 ≤ op ∧ op ≤ 15) ∨ (19 ≤ op ∧ op ≤ 24) then 2 else if 5 ≤ op ∧ op ≤ 10 then 3 else if 16 ≤ op ∧ op ≤ 18 then 4
 else if 25 ≤ op ∧ op ≤ 27 then 6 else if 28 ≤ op ∧ op ≤ 45 then 5 else if 46 ≤ op ∧ op ≤ 50 then 7 else if 51 ≤ op ∧ op ≤ 53 then 8 else if 54 ≤ op ∧ op ≤ 56 then 9 else -1
def widthF (op : Int) : Int := if op = 11 ∨ op = 14 ∨ op = 16 then 1 else if op = 12 ∨ op = 15 ∨ op = 17 then 2 else if op = 13 ∨ op = 18 then 4 else 0
def goesF (op a b : Int) : Bool × Bool :=
 if op = 5 then (decide (a = b),true) else if op = 6 then (decide (a ≠ b),true) else if op = 7 then (decide (IntKind.i32.wrap a < IntKind.i32.wrap b),true) else if op = 8 then (decide (IntKind.i32.wrap b ≤ IntKind.i32.wrap a),true)
 else if op = 9 then (decide (a < b),true) else if op = 10 then (decide (b ≤ a),true) else (false,false)
def widenF (op x : Int) : Int :=
 if op = 11 then IntKind.u32.wrap (IntKind.i32.wrap (IntKind.i8.wrap x)) else if op = 12 then IntKind.u32.wrap (IntKind.i32.wrap (IntKind.i16.wrap x)) else if op = 14 then bits .and .u32 x 255 else if op = 15 then bits .and .u32 x 65535 else x
def truthF (b : Bool) : Int := if b then 1 else 0
def s64 (a : Int) : Int := IntKind.i64.wrap (IntKind.i32.wrap a)
def mulsF (op a b : Int) : Int × Bool :=
 if op = 38 then (IntKind.u32.wrap (a * b),true)
 else if op = 39 then (IntKind.u32.wrap ((IntKind.i64.wrap (s64 a * s64 b)).fdiv (2 ^ min (Int.toNat 32) IntKind.i64.bits)),true)
 else if op = 40 then (IntKind.u32.wrap ((IntKind.i64.wrap (s64 a * b)).fdiv (2 ^ min (Int.toNat 32) IntKind.i64.bits)),true)
 else if op = 41 then (IntKind.u32.wrap ((IntKind.u64.wrap (a * b)).fdiv (2 ^ min (Int.toNat 32) IntKind.u64.bits)),true)
 else if op = 42 then (if b = 0 then 4294967295 else IntKind.u32.wrap (IntKind.i64.wrap ((s64 a).tdiv (s64 b))),true)
 else if op = 43 then (if b = 0 then 4294967295 else IntKind.u32.wrap (a.tdiv b),true)
 else if op = 44 then (if b = 0 then a else IntKind.u32.wrap ((s64 a).tmod (s64 b)),true)
 else if op = 45 then (if b = 0 then a else a.tmod b,true)
 else (0,false)
def sh5 (b : Int) : Nat := (bits .and .u32 b 31).toNat
def reckF (op a b : Int) : Int × Bool :=
 if op = 28 ∨ op = 19 then (IntKind.u32.wrap (a + b),true)
 else if op = 29 then (IntKind.u32.wrap (a - b),true)
 else if op = 30 ∨ op = 25 then (IntKind.u32.wrap (a * 2 ^ min (sh5 b) IntKind.u32.bits),true)
 else if op = 31 ∨ op = 20 then (truthF (decide (IntKind.i32.wrap a < IntKind.i32.wrap b)),true)
 else if op = 32 ∨ op = 21 then (truthF (decide (a < b)),true)
 else if op = 33 ∨ op = 22 then (bits .xor .u32 a b,true)
 else if op = 34 ∨ op = 26 then (a.fdiv (2 ^ min (sh5 b) IntKind.u32.bits),true)
 else if op = 35 ∨ op = 27 then (IntKind.u32.wrap ((IntKind.i32.wrap a).fdiv (2 ^ min (sh5 b) IntKind.i32.bits)),true)
 else if op = 36 ∨ op = 23 then (bits .or .u32 a b,true)
 else if op = 37 ∨ op = 24 then (bits .and .u32 a b,true)
 else mulsF op a b
theorem formX (op : Int) (w : World) : Calls Tryz.prog 149 #[.int .i64 op] w fun e w' => e = .returned (.int .i64 (formF op)) ∧ Hp w [] w' := by
 refine enter (args := [_]) (Γ := [(0,_)]) Tryz.func149 Tryz.ntmps149 rfl odq (.cons rfl .nil) ?_
 repeat' first | refine Wl.move rfl rfl ?_ | refine Wl.assign rfl rfl ?_ | (apply Wl.on;exact rfl;exact rfl;exact ka) | (apply Wl.off;exact rfl;exact rfl;exact rfl;exact kq) | refine Wl.offU rfl rfl rfl ?_ | (apply Wl.pickT;exact rfl;exact rfl;exact ka;exact rfl) | (apply Wl.pickF;exact rfl;exact rfl;exact ka;exact rfl) | refine Wl.eql rfl rfl rfl ?_ | refine Wl.leq rfl rfl rfl ?_ | refine Wl.geq rfl rfl rfl ?_ | apply Wl.nil | apply St.seq | apply St.block | apply St.region | (apply St.condT;exact rfl;exact ka) | (apply St.condF;exact rfl;exact ka) | apply St.ret | apply St.skip | apply Gt.next | apply Gt.thenRet | apply Gt.inNormal | apply Gt.inRet | (apply Gt.out1;exact rfl;exact rfl;intro w' hp) | (apply Wl.splitP;exact rfl;exact rfl;all_goals (intros;try (exfalso;omega))) | (apply St.condP;exact rfl;all_goals (intros;try (exfalso;omega)))
 all_goals exact ⟨by unfold formF;(repeat' split) <;> first | rfl | (exfalso;omega),hp⟩
theorem widthX (op : Int) (w : World) : Calls Tryz.prog 152 #[.int .i64 op] w fun e w' => e = .returned (.int .i64 (widthF op)) ∧ Hp w [] w' := by
 refine enter (args := [_]) (Γ := [(0,_)]) Tryz.func152 Tryz.ntmps152 rfl odq (.cons rfl .nil) ?_
 repeat' first | refine Wl.move rfl rfl ?_ | refine Wl.assign rfl rfl ?_ | refine Wl.eql rfl rfl rfl ?_ | apply Wl.nil | apply St.seq | apply St.block | apply St.region | (apply St.condT;exact rfl;exact ka) | apply St.ret | apply St.skip | apply Gt.next | apply Gt.thenRet | apply Gt.inNormal | apply Gt.inRet | (apply Gt.out1;exact rfl;exact rfl;intro w' hp) | (apply St.condP;exact rfl;all_goals (intros;try (exfalso;omega)))
 all_goals exact ⟨by unfold widthF;(repeat' split) <;> first | rfl | (exfalso;omega),hp⟩
theorem goesX (op a b : Int) (w : World) : Calls Tryz.prog 151 #[.int .i64 op,.int .u32 a,.int .u32 b] w fun e w' => e = .returned (.tuple #[.bool (goesF op a b).1,.bool (goesF op a b).2]) ∧ Hp w [] w' := by
 refine enter (args := [_,_,_]) (Γ := [(0,_),(1,_),(2,_)]) Tryz.func151 Tryz.ntmps151 rfl odq (.cons rfl (.cons rfl (.cons rfl .nil))) ?_
 repeat' first | refine Wl.move rfl rfl ?_ | refine Wl.assign rfl rfl ?_ | refine Wl.eql rfl rfl rfl ?_ | refine Wl.neq rfl rfl rfl ?_ | refine Wl.lss rfl rfl rfl ?_ | refine Wl.geq rfl rfl rfl ?_ | refine Wl.convI rfl rfl ?_ | apply Wl.nil | apply St.seq | apply St.block | apply St.region | apply St.ret | apply St.skip | apply Gt.next | apply Gt.thenRet | apply Gt.inNormal | apply Gt.inRet | (apply Gt.out2;exact rfl;exact rfl;exact rfl;intro w' hp) | (apply St.condP;exact rfl;all_goals (intros;try (exfalso;omega)))
 all_goals exact ⟨by unfold goesF;(repeat' split) <;> first | rfl | (exfalso;omega),hp⟩
theorem widenX (op x : Int) (w : World) (hx : 0 ≤ x ∧ x < 4294967296) : Calls Tryz.prog 192 #[.int .i64 op,.int .u32 x] w fun e w' => e = .returned (.int .u32 (widenF op x)) ∧ Hp w [] w' := by
 refine enter (args := [_,_]) (Γ := [(0,_),(1,_)]) Tryz.func192 Tryz.ntmps192 rfl odq (.cons rfl (.cons rfl .nil)) ?_
 repeat' first | refine Wl.move rfl rfl ?_ | refine Wl.assign rfl rfl ?_ | refine Wl.eql rfl rfl rfl ?_ | refine Wl.and rfl rfl rfl ?_ | refine Wl.convI rfl rfl ?_ | apply Wl.nil | apply St.seq | apply St.block | apply St.region | apply St.ret | apply St.skip | apply Gt.next | apply Gt.thenRet | apply Gt.inNormal | apply Gt.inRet | (apply Gt.out1;exact rfl;exact rfl;intro w' hp) | (apply St.condP;exact rfl;all_goals (intros;try (exfalso;omega)))
 all_goals exact ⟨by unfold widenF;(repeat' split) <;> first | rfl | (exfalso;omega),hp⟩
theorem truthX (b : Bool) (w : World) : Calls Tryz.prog 193 #[.bool b] w fun e w' => e = .returned (.int .u32 (truthF b)) ∧ Hp w [] w' := by
 refine enter (args := [_]) (Γ := [(0,_)]) Tryz.func193 Tryz.ntmps193 rfl odq (.cons rfl .nil) ?_
 cases b
 all_goals
  repeat' first | refine Wl.move rfl rfl ?_ | refine Wl.assign rfl rfl ?_ | apply Wl.nil | apply St.seq | apply St.region | (apply St.condT;exact rfl;exact ka) | (apply St.condF;exact rfl;exact ka) | apply St.ret | apply St.skip | apply Gt.next | apply Gt.thenRet | (apply Gt.out1;exact rfl;exact rfl;intro w' hp)
  exact ⟨rfl,hp⟩
theorem mulsX (op a b : Int) (w : World) (ha : 0 ≤ a ∧ a < 4294967296) (hb : 0 ≤ b ∧ b < 4294967296) : Calls Tryz.prog 194 #[.int .i64 op,.int .u32 a,.int .u32 b] w fun e w' => e = .returned (.tuple #[.int .u32 (mulsF op a b).1,.bool (mulsF op a b).2]) ∧ Hp w [] w' := by
 refine enter (args := [_,_,_]) (Γ := [(0,_),(1,_),(2,_)]) Tryz.func194 Tryz.ntmps194 rfl odq (.cons rfl (.cons rfl (.cons rfl .nil))) ?_
 repeat' first | (apply Wl.quo;exact rfl;exact rfl;exact rfl;exact j4) | (apply Wl.rem;exact rfl;exact rfl;exact rfl;exact j4) | refine Wl.move rfl rfl ?_ | refine Wl.assign rfl rfl ?_ | refine Wl.eql rfl rfl rfl ?_ | refine Wl.mul rfl rfl rfl ?_ | (refine Wl.shr rfl rfl rfl ?_ ?_;omega) | (refine Wl.convI64 rfl rfl ?_ ?_;constructor <;> omega) | (refine Wl.convU64 rfl rfl ?_ ?_;constructor <;> omega) | refine Wl.convI rfl rfl ?_ | apply Wl.nil | apply St.seq | apply St.block | apply St.region | apply St.ret | apply St.skip | apply Gt.next | apply Gt.thenRet | apply Gt.inNormal | apply Gt.inRet | (apply Gt.out2;exact rfl;exact rfl;exact rfl;intro w' hp) | (apply St.condP;exact rfl;all_goals (intros;try (exfalso;omega)))
 all_goals exact ⟨by unfold mulsF;(repeat' split) <;> first | rfl | (exfalso;omega),hp⟩
theorem reckX (op a b : Int) (w : World) (ha : 0 ≤ a ∧ a < 4294967296) (hb : 0 ≤ b ∧ b < 4294967296) : Calls Tryz.prog 154 #[.int .i64 op,.int .u32 a,.int .u32 b] w fun e w' => e = .returned (.tuple #[.int .u32 (reckF op a b).1,.bool (reckF op a b).2]) ∧ Hp w [] w' := by
 refine enter (args := [_,_,_]) (Γ := [(0,_),(1,_),(2,_)]) Tryz.func154 Tryz.ntmps154 rfl odq (.cons rfl (.cons rfl (.cons rfl .nil))) ?_
 repeat' first | (apply Wl.shl;exact rfl;exact rfl;exact rfl;exact bits_lo_u32 _ _ _) | (apply Wl.shr;exact rfl;exact rfl;exact rfl;exact bits_lo_u32 _ _ _) | (apply Wl.callQ (f := 193);exact rfl;exact ke;(intro wq hq;exact hq.q (truthX _ wq))) | (apply Wl.callQ (f := 194);exact rfl;exact ke;(intro wq hq;exact hq.q (mulsX op a b wq ha hb))) | refine Wl.move rfl rfl ?_ | refine Wl.assign rfl rfl ?_ | refine Wl.extract rfl rfl rfl ?_ | refine Wl.eql rfl rfl rfl ?_ | refine Wl.lss rfl rfl rfl ?_ | refine Wl.add rfl rfl rfl ?_ | refine Wl.sub' rfl rfl rfl ?_ | refine Wl.and rfl rfl rfl ?_ | refine Wl.or rfl rfl rfl ?_ | refine Wl.xor rfl rfl rfl ?_ | refine Wl.convI rfl rfl ?_ | apply Wl.nil | apply St.seq | apply St.block | apply St.region | (apply St.condT;exact rfl;exact ka) | apply St.ret | apply St.skip | apply Gt.next | apply Gt.thenRet | apply Gt.inNormal | apply Gt.inRet | (apply Gt.out2;exact rfl;exact rfl;exact rfl;intro w' hp) | (apply St.condP;exact rfl;all_goals (intros;try (exfalso;omega)))
 all_goals exact ⟨by unfold reckF;(repeat' split) <;> first | rfl | (exfalso;omega),hp⟩
theorem widenF_rng (op x : Int) (hx : 0 ≤ x ∧ x < 4294967296) : 0 ≤ widenF op x ∧ widenF op x < 4294967296 := by
 unfold widenF
 repeat' split
 all_goals (first | assumption | exact wr32 _ | exact br32 _ _ _ | exact and31 _ | (constructor <;> omega) | (apply fd32;first | assumption | exact wr32 _ | exact br32 _ _ _) | (apply tm32;first | assumption | exact wr32 _ | exact br32 _ _ _))
theorem mulsF_rng (op a b : Int) (ha : 0 ≤ a ∧ a < 4294967296) : 0 ≤ (mulsF op a b).1 ∧ (mulsF op a b).1 < 4294967296 := by
 unfold mulsF
 repeat' split
 all_goals (try simp only)
 all_goals (repeat' split)
 all_goals (first | assumption | exact wr32 _ | exact br32 _ _ _ | exact and31 _ | (constructor <;> omega) | (apply fd32;first | assumption | exact wr32 _ | exact br32 _ _ _) | (apply tm32;first | assumption | exact wr32 _ | exact br32 _ _ _))
theorem reckF_rng (op a b : Int) (ha : 0 ≤ a ∧ a < 4294967296) : 0 ≤ (reckF op a b).1 ∧ (reckF op a b).1 < 4294967296 := by
 unfold reckF truthF
 repeat' split
 all_goals first | exact mulsF_rng op a b ha | (first | assumption | exact wr32 _ | exact br32 _ _ _ | exact and31 _ | (constructor <;> omega) | (apply fd32;first | assumption | exact wr32 _ | exact br32 _ _ _) | (apply tm32;first | assumption | exact wr32 _ | exact br32 _ _ _))
theorem widthF_rng (op : Int) : widthF op = 0 ∨ W124 (widthF op) := by
 unfold widthF W124
 repeat' split
 all_goals omega
def shrF (x s : Int) : Int := x.fdiv (2 ^ min (Int.toNat s) IntKind.u32.bits)
def shlF (x s : Int) : Int := IntKind.u32.wrap (x * 2 ^ min (Int.toNat s) IntKind.u32.bits)
def extF (x n : Int) : Int := IntKind.u32.wrap ((IntKind.i32.wrap (IntKind.u32.wrap (x * 2 ^ min (Int.toNat (32 - n)) IntKind.u32.bits))).fdiv (2 ^ min (Int.toNat (32 - n)) IntKind.i32.bits))
def immI (x : Int) : Int := extF (shrF x 20) 12
def immS (x : Int) : Int := extF (bits .or .u32 (shlF (shrF x 25) 5) (bits .and .u32 (shrF x 7) 31)) 12
def immB (x : Int) : Int := extF (bits .or .u32 (bits .or .u32 (bits .or .u32 (shlF (shrF x 31) 12) (shlF (bits .and .u32 (shrF x 7) 1) 11)) (shlF (bits .and .u32 (shrF x 25) 63) 5)) (shlF (bits .and .u32 (shrF x 8) 15) 1)) 13
def immU (x : Int) : Int := bits .andNot .u32 x 4095
def immJ (x : Int) : Int := extF (bits .or .u32 (bits .or .u32 (bits .or .u32 (shlF (shrF x 31) 20) (shlF (bits .and .u32 (shrF x 12) 255) 12)) (shlF (bits .and .u32 (shrF x 20) 1) 11)) (shlF (bits .and .u32 (shrF x 21) 1023) 1)) 21
abbrev In5 := Int × Int × Int × Int × Int
def zero5 : In5 := (0,0,0,0,0)
def instV (p : In5) : Value := .agg #[.int .i64 p.1,.int .i64 p.2.1,.int .i64 p.2.2.1,.int .i64 p.2.2.2.1,.int .u32 p.2.2.2.2]
def pkV (f : Int) (cs : List Value) : Int := match cs[f.toNat]? with
 | some (.int _ z) => z
 | _ => 0
def of5 (op rd r1 r2 im : Int) : In5 := if op = 0 then zero5 else (op,rd,r1,r2,im)
def il (l : List Int) : List Value := l.map (Value.int .i64)
def sysF (x rd r1 f : Int) : In5 := if x = 115 then (47,0,0,0,0) else if x = 1048691 then (48,0,0,0,0) else if x = 807403635 then (49,0,0,0,0) else if x = 273678451 then (50,0,0,0,0)
 else of5 (pkV f (il [0,51,52,53,0,54,55,56])) rd r1 0 (shrF x 20)
def moreF (x rd r1 r2 im f top : Int) : In5 :=
 if bits .and .u32 x 127 = 3 then of5 (pkV f (il [11,12,13,0,14,15])) rd r1 0 (immI x)
 else if bits .and .u32 x 127 = 35 then of5 (pkV f (il [16,17,18])) 0 r1 r2 (immS x)
 else if bits .and .u32 x 127 = 19 then (if f = 1 ∧ top = 0 then of5 25 rd r1 0 r2 else if f = 5 ∧ top = 0 then of5 26 rd r1 0 r2 else if f = 5 ∧ top = 32 then of5 27 rd r1 0 r2 else of5 (pkV f (il [19,0,20,21,22,0,23,24])) rd r1 0 (immI x))
 else if bits .and .u32 x 127 = 51 then (if top = 0 then of5 (pkV f (il [28,30,31,32,33,34,36,37])) rd r1 r2 im else if top = 1 then of5 (pkV f (il [38,39,40,41,42,43,44,45])) rd r1 r2 im else if top = 32 then of5 (pkV f (il [29,0,0,0,0,35])) rd r1 r2 im else zero5)
 else if bits .and .u32 x 127 = 15 then (if f = 0 then (46,0,0,0,0) else zero5)
 else if bits .and .u32 x 127 = 115 then sysF x rd r1 f
 else zero5
def dec5F (x rd r1 r2 f top : Int) : In5 :=
 if bits .and .u32 x 127 = 55 then (1,rd,0,0,immU x) else if bits .and .u32 x 127 = 23 then (2,rd,0,0,immU x) else if bits .and .u32 x 127 = 111 then (3,rd,0,0,immJ x)
 else if bits .and .u32 x 127 = 103 then (if f ≠ 0 then zero5 else (4,rd,r1,0,immI x))
 else if bits .and .u32 x 127 = 99 then of5 (pkV f (il [5,6,0,0,7,8,9,10])) 0 r1 r2 (immB x)
 else moreF x rd r1 r2 0 f top
def decF (x : Int) : In5 := dec5F x (bits .and .u32 (shrF x 7) 31) (bits .and .u32 (shrF x 15) 31) (bits .and .u32 (shrF x 20) 31) (bits .and .u32 (shrF x 12) 7) (shrF x 25)
theorem pickX (b : Nat) (f : Int) (cs : List Value) (n cap : Nat) (w : World) (hf : 0 ≤ f) (hn : cs.length = n) (hk : cs.all isI = true) (hb : w.heap[b]? = some (.cells cs.toArray 3 (0,0))) :
  Calls Tryz.prog 162 #[.int .i64 f,.slice (some ⟨b,0,none⟩) n cap] w fun e w' => e = .returned (.int .i64 (pkV f cs)) ∧ Hp w [] w' := by
 subst hn
 refine enter (args := [_,_]) (Γ := [(0,_),(1,_)]) Tryz.func162 Tryz.ntmps162 rfl odq (.cons rfl (.cons rfl .nil)) ?_
 by_cases hlt : f < cs.length
 ·have hl : f.toNat < cs.length := by omega
  obtain ⟨x,hx⟩ : ∃ x,cs[f.toNat] = .int .i64 x := by
   have := List.all_eq_true.1 hk _ (List.getElem_mem hl)
   unfold isI at this
   split at this
   ·exact ⟨_,by assumption⟩
   ·cases this
  have hv : pkV f cs = x := by unfold pkV;rw [List.getElem?_eq_getElem hl,hx]
  have hc : w.cell? ⟨b,0 + f.toNat,none⟩ = some (.int .i64 x) := cell_of hb (by rw [Nat.zero_add,List.getElem?_eq_getElem hl,hx])
  repeat' first | (apply Wl.loadO;exact rfl;exact rfl;exact hc;exact trivial) | refine Wl.move rfl rfl ?_ | refine Wl.assign rfl rfl ?_ | refine Wl.lss rfl rfl rfl ?_ | refine Wl.len rfl rfl ?_ | (refine Wl.indexAddr1 rfl rfl rfl ?_ ?_;constructor <;> omega) | apply Wl.nil | apply St.seq | apply St.region | apply St.ret | apply Gt.next | apply Gt.thenRet | (apply Gt.out1;exact rfl;exact rfl;intro w' hp) | (apply St.condP;exact rfl;all_goals (intros;try (exfalso;omega)))
  exact ⟨by rw [hv],hp⟩
 ·have hv : pkV f cs = 0 := by unfold pkV;rw [List.getElem?_eq_none ky]
  repeat' first | refine Wl.move rfl rfl ?_ | refine Wl.assign rfl rfl ?_ | refine Wl.lss rfl rfl rfl ?_ | refine Wl.len rfl rfl ?_ | apply Wl.nil | apply St.seq | apply St.region | apply St.ret | apply St.skip | apply Gt.next | (apply Gt.out1;exact rfl;exact rfl;intro w' hp) | (apply St.condP;exact rfl;all_goals (intros;try (exfalso;omega)))
  exact ⟨by rw [hv],hp⟩
theorem ofX (op o rd r1 r2 im : Int) (w : World) :
  Calls Tryz.prog 161 #[.int .i64 op,.agg #[.int .i64 o,.int .i64 rd,.int .i64 r1,.int .i64 r2,.int .u32 im]] w fun e w' => e = .returned (instV (of5 op rd r1 r2 im)) ∧ Hp w [] w' := by
 refine (of_any op o rd r1 r2 im w).mono ?_
 rintro e w' ⟨rfl,h⟩
 refine ⟨?_,h⟩
 unfold of5
 split <;> rfl
theorem extX (x n : Int) (w : World) (hn : 0 ≤ n ∧ n ≤ 32) : Calls Tryz.prog 198 #[.int .u32 x,.int .i64 n] w fun e w' => e = .returned (.int .u32 (extF x n)) ∧ Hp w [] w' := by
 refine enter (args := [_,_]) (Γ := [(0,_),(1,_)]) Tryz.func198 Tryz.ntmps198 rfl odq (.cons rfl (.cons rfl .nil)) ?_
 repeat' first | refine Wl.move rfl rfl ?_ | refine Wl.assign rfl rfl ?_ | (refine Wl.subI rfl rfl rfl ?_ ?_;constructor <;> omega) | (refine Wl.shl rfl rfl rfl ?_ ?_;omega) | (refine Wl.shr rfl rfl rfl ?_ ?_;omega) | refine Wl.convI rfl rfl ?_ | apply Wl.nil | apply St.seq | apply St.region | apply St.ret | apply Gt.next | (apply Gt.out1;exact rfl;exact rfl;intro w' hp)
 exact ⟨rfl,hp⟩
theorem immIX (x : Int) (w : World) : Calls Tryz.prog 160 #[.int .u32 x] w fun e w' => e = .returned (.int .u32 (immI x)) ∧ Hp w [] w' := by
 refine enter (args := [_]) (Γ := [(0,_)]) Tryz.func160 Tryz.ntmps160 rfl odq (.cons rfl .nil) ?_
 repeat' first | (apply Wl.callQ (f := 198);exact rfl;exact ke;exact j7) | refine Wl.move rfl rfl ?_ | refine Wl.assign rfl rfl ?_ | (refine Wl.shr rfl rfl rfl ?_ ?_;omega) | apply Wl.nil | apply St.seq | apply St.region | apply St.ret | apply Gt.next | (apply Gt.out1;exact rfl;exact rfl;intro w' hp)
 exact ⟨rfl,hp⟩
theorem immSX (x : Int) (w : World) : Calls Tryz.prog 199 #[.int .u32 x] w fun e w' => e = .returned (.int .u32 (immS x)) ∧ Hp w [] w' := by
 refine enter (args := [_]) (Γ := [(0,_)]) Tryz.func199 Tryz.ntmps199 rfl odq (.cons rfl .nil) ?_
 repeat' first | (apply Wl.callQ (f := 198);exact rfl;exact ke;exact j7) | refine Wl.move rfl rfl ?_ | refine Wl.assign rfl rfl ?_ | refine Wl.and rfl rfl rfl ?_ | refine Wl.or rfl rfl rfl ?_ | (refine Wl.shl rfl rfl rfl ?_ ?_;omega) | (refine Wl.shr rfl rfl rfl ?_ ?_;omega) | apply Wl.nil | apply St.seq | apply St.region | apply St.ret | apply Gt.next | (apply Gt.out1;exact rfl;exact rfl;intro w' hp)
 exact ⟨rfl,hp⟩
theorem immBX (x : Int) (w : World) : Calls Tryz.prog 163 #[.int .u32 x] w fun e w' => e = .returned (.int .u32 (immB x)) ∧ Hp w [] w' := by
 refine enter (args := [_]) (Γ := [(0,_)]) Tryz.func163 Tryz.ntmps163 rfl odq (.cons rfl .nil) ?_
 repeat' first | (apply Wl.callQ (f := 198);exact rfl;exact ke;exact j7) | refine Wl.move rfl rfl ?_ | refine Wl.assign rfl rfl ?_ | refine Wl.and rfl rfl rfl ?_ | refine Wl.or rfl rfl rfl ?_ | (refine Wl.shl rfl rfl rfl ?_ ?_;omega) | (refine Wl.shr rfl rfl rfl ?_ ?_;omega) | apply Wl.nil | apply St.seq | apply St.region | apply St.ret | apply Gt.next | (apply Gt.out1;exact rfl;exact rfl;intro w' hp)
 exact ⟨rfl,hp⟩
theorem immJX (x : Int) (w : World) : Calls Tryz.prog 159 #[.int .u32 x] w fun e w' => e = .returned (.int .u32 (immJ x)) ∧ Hp w [] w' := by
 refine enter (args := [_]) (Γ := [(0,_)]) Tryz.func159 Tryz.ntmps159 rfl odq (.cons rfl .nil) ?_
 repeat' first | (apply Wl.callQ (f := 198);exact rfl;exact ke;exact j7) | refine Wl.move rfl rfl ?_ | refine Wl.assign rfl rfl ?_ | refine Wl.and rfl rfl rfl ?_ | refine Wl.or rfl rfl rfl ?_ | (refine Wl.shl rfl rfl rfl ?_ ?_;omega) | (refine Wl.shr rfl rfl rfl ?_ ?_;omega) | apply Wl.nil | apply St.seq | apply St.region | apply St.ret | apply Gt.next | (apply Gt.out1;exact rfl;exact rfl;intro w' hp)
 exact ⟨rfl,hp⟩
theorem immUX (x : Int) (w : World) : Calls Tryz.prog 197 #[.int .u32 x] w fun e w' => e = .returned (.int .u32 (immU x)) ∧ Hp w [] w' := by
 refine enter (args := [_]) (Γ := [(0,_)]) Tryz.func197 Tryz.ntmps197 rfl odq (.cons rfl .nil) ?_
 repeat' first | refine Wl.move rfl rfl ?_ | refine Wl.assign rfl rfl ?_ | refine Wl.andNot rfl rfl rfl ?_ | apply Wl.nil | apply St.seq | apply St.region | apply St.ret | apply Gt.next | (apply Gt.out1;exact rfl;exact rfl;intro w' hp)
 exact ⟨rfl,hp⟩
theorem uX (op o rd r1 r2 im x : Int) (w : World) : Calls Tryz.prog 158 #[.int .i64 op,.agg #[.int .i64 o,.int .i64 rd,.int .i64 r1,.int .i64 r2,.int .u32 im],.int .u32 x] w fun e w' => e = .returned (instV ((op,rd,0,0,immU x))) ∧ Hp w [] w' := by
 refine enter (args := [_,_,_]) (Γ := [(0,_),(1,_),(2,_)]) Tryz.func158 Tryz.ntmps158 rfl odq (.cons rfl (.cons rfl (.cons rfl .nil))) ?_
 repeat' first | (apply Wl.boxA;exact rfl;exact rfl;intro c hc ho) | (apply Wl.alloc;exact rfl;intro c hc ho) | apply Wl.nil | apply St.seq | apply St.region | apply Gt.next
 rename_i cX hcX hoX
 refine St.tree (fun w' => Own w' [⟨cX,[Value.int .i64 o,.int .i64 rd,.int .i64 r1,.int .i64 r2,.int .u32 im],221⟩]) mixed (fun _ h => ⟨Hp.drew h,⟨own_at (Hp.drew h).own kw,trivial⟩⟩) ?_
 refine Mt.pm 0 ?_
 refine Mt.pz 1 ?_
 refine Mt.pu 2 ?_
 apply Wl.loadF;exact rfl;exact rfl;(intro w' h';first | exact cell_of h'.1 rfl);apply Wl.nilB
 refine Mt.pm 3 ?_
 refine Mt.e1 4 ?_
 repeat' first | (apply Wl.callQ (f := 197);exact rfl;exact ke;(intro wq hq;exact hq.q (immUX _ wq))) | apply Wl.nil
 refine Mt.backE (fun _ h => ⟨own_at h.own kw,trivial⟩) ?_
 refine Mt.pu 5 ?_
 apply Wl.buildS;exact rfl;exact ki;exact kc;apply Wl.nilB
 refine Mt.e1 6 ?_
 repeat' first | (apply Wl.storeA;exact rfl;exact rfl;exact rfl;exact rfl;exact ke;exact kf) | apply Wl.nil
 refine Mt.backE (fun _ h => ⟨own_at h.own kw,trivial⟩) ?_
 refine Mt.toGt kg ?_
 repeat' first | (apply Gt.outC';exact rfl;infer_instance;exact rfl;exact ke;exact ke;intro w' hp) | apply St.ret | apply Gt.next
 exact ⟨rfl,hp.drop zx⟩
theorem sysX (x o rd r1 r2 im f : Int) (w : World) (hx : 0 ≤ x ∧ x < 4294967296) (hf : 0 ≤ f) : Calls Tryz.prog 200 #[.int .u32 x,.agg #[.int .i64 o,.int .i64 rd,.int .i64 r1,.int .i64 r2,.int .u32 im],.int .i64 f] w fun e w' => e = .returned (instV (sysF x rd r1 f)) ∧ Hp w [] w' := by
 refine enter (args := [_,_,_]) (Γ := [(0,_),(1,_),(2,_)]) Tryz.func200 Tryz.ntmps200 rfl odq (.cons rfl (.cons rfl (.cons rfl .nil))) ?_
 apply St.seq
 apply St.region
 apply Wl.boxA
 ·exact rfl
 ·exact rfl
 intro cX hcX hoX
 repeat' first | (apply Gt.outC';exact rfl;infer_instance;exact rfl;exact ke;exact ke;intro w' hp) | refine Wl.move rfl rfl ?_ | refine Wl.assign rfl rfl ?_ | refine Wl.eql rfl rfl rfl ?_ | (apply Wl.storeA;exact rfl;exact rfl;exact rfl;exact rfl;exact ke;exact kf) | (apply Wl.buildS;exact rfl;exact ki;exact kc) | (apply Wl.alloc;exact rfl;intro c hc ho) | apply Wl.nil | apply St.seq | apply St.block | apply St.region | apply St.ret | apply St.skip | apply Gt.next | apply Gt.thenRet | apply Gt.inNormal | apply Gt.inRet | (apply St.condP;exact rfl;all_goals (intros;try (exfalso;omega)))
 all_goals first
  | exact ⟨by unfold sysF;(repeat' split) <;> first | rfl | (exfalso;omega),hp.drop zx⟩
  | skip
 refine St.tree (fun w' => Own w' [⟨cX,[Value.int .i64 o,.int .i64 rd,.int .i64 r1,.int .i64 r2,.int .u32 im],221⟩]) mixed (fun _ h => ⟨Hp.drew h,⟨own_at (Hp.drew h).own kw,trivial⟩⟩) ?_
 refine Mt.pm 0 ?_
 refine Mt.pz 3 ?_
 refine Mt.pu 4 ?_
 apply Wl.loadF;exact rfl;exact rfl;(intro w' h';first | exact cell_of h'.1 rfl);apply Wl.nilB
 refine Mt.pz 5 ?_
 refine Mt.pu 6 ?_
 apply Wl.loadF;exact rfl;exact rfl;(intro w' h';first | exact cell_of h'.1 rfl);apply Wl.nilB
 refine Mt.pm 7 ?_
 refine Mt.pu 8 ?_
 refine Wl.shr rfl rfl rfl ?_ ?_;omega;apply Wl.nilB
 refine Mt.pu 9 ?_
 apply Wl.buildS;exact rfl;exact ki;exact kc;apply Wl.nilB
 refine Mt.e1 1 ?_
 repeat' first | (apply Wl.lit;exact rfl;exact ki;exact rfl;exact rfl;exact kj;intro d_ hd_ hod_) | apply Wl.nil
 refine Mt.backE (fun _ h => ⟨own_at h.own kw,trivial⟩) ?_
 refine Mt.e1 2 ?_
 repeat' first | (apply Wl.callQ (f := 162);exact rfl;exact ke;(intro wq hq;have hb_ := own_at hq.own (.head _);exact hq.q (pickX _ _ _ _ _ wq ky rfl rfl hb_))) | apply Wl.nil
 refine Mt.backE (fun _ h => ⟨own_at h.own kw,trivial⟩) ?_
 refine Mt.e1 10 ?_
 repeat' first | (apply Wl.callQ (f := 161);exact rfl;exact ke;exact qr) | apply Wl.nil
 refine Mt.backE (fun _ h => ⟨own_at h.own kw,trivial⟩) ?_
 refine Mt.e1 11 ?_
 repeat' first | (apply Wl.storeA;exact rfl;exact rfl;exact rfl;exact rfl;exact ke;exact kf) | apply Wl.nil
 refine Mt.backE (fun _ h => ⟨own_at h.own kw,trivial⟩) ?_
 refine Mt.toGt kg ?_
 repeat' first | (apply Gt.outC';exact rfl;infer_instance;exact rfl;exact ke;exact ke;intro w' hp) | apply St.ret | apply Gt.next
 exact ⟨by unfold sysF;(repeat' split) <;> first | rfl | (exfalso;omega),hp.drop zx⟩
theorem moreX (x o rd r1 r2 im f top : Int) (w : World) (hx : 0 ≤ x ∧ x < 4294967296) (hf : 0 ≤ f) (h2 : 0 ≤ r2 ∧ r2 < 32) : Calls Tryz.prog 164 #[.int .u32 x,.agg #[.int .i64 o,.int .i64 rd,.int .i64 r1,.int .i64 r2,.int .u32 im],.int .i64 f,.int .u32 top] w fun e w' => e = .returned (instV (moreF x rd r1 r2 im f top)) ∧ Hp w [] w' := by
 refine enter (args := [_,_,_,_]) (Γ := [(0,_),(1,_),(2,_),(3,_)]) Tryz.func164 Tryz.ntmps164 rfl odq (.cons rfl (.cons rfl (.cons rfl (.cons rfl .nil)))) ?_
 apply St.seq
 apply St.region
 apply Wl.boxA
 ·exact rfl
 ·exact rfl
 intro cX hcX hoX
 repeat' first | (apply Wl.alloc;exact rfl;intro c hc ho) | apply Wl.nil | apply St.seq | apply Gt.next
 refine St.tree (fun w' => Own w' [⟨cX,[Value.int .i64 o,.int .i64 rd,.int .i64 r1,.int .i64 r2,.int .u32 im],221⟩]) mixed (fun _ h => ⟨Hp.drew h,⟨own_at (Hp.drew h).own kw,trivial⟩⟩) ?_
 refine Mt.pz 0 ?_
 refine Mt.pu 1 ?_
 apply Wl.loadF;exact rfl;exact rfl;(intro w' h';first | exact cell_of h'.1 rfl);apply Wl.nilB
 refine Mt.pz 2 ?_
 refine Mt.pu 3 ?_
 apply Wl.loadF;exact rfl;exact rfl;(intro w' h';first | exact cell_of h'.1 rfl);apply Wl.nilB
 refine Mt.pm 4 ?_
 refine Mt.eff2 (i := 5) (j := 7) kg zd zd ?_ ?_
 ·repeat' first | (apply Wl.callQ (f := 160);exact rfl;exact ke;(intro wq hq;exact hq.q (immIX _ wq))) | apply Wl.nil
  refine Mt.backE (fun _ h => ⟨own_at h.own kw,trivial⟩) ?_
  refine Mt.pu 6 ?_
  apply Wl.buildS;exact rfl;exact ki;exact kc;apply Wl.nilB
  refine Mt.e1 7 ?_
  apply Wl.alloc
  ·exact rfl
  intro c9 hc9 ho9
  apply Wl.nil
  refine Mt.backE (fun _ h => ⟨own_at h.own kw,trivial⟩) ?_
  refine Mt.e1 8 ?_
  repeat' first | (apply Wl.storeA;exact rfl;exact rfl;exact rfl;exact rfl;exact ke;exact kf) | apply Wl.nil
  refine Mt.backE (fun _ h => ⟨own_at h.own kw,trivial⟩) ?_
  refine Mt.toGt kg ?_
  repeat' first | (apply Gt.outC';exact rfl;infer_instance;exact rfl;exact ke;exact ke;intro w' hp) | (apply Wl.callQ (f := 161);exact rfl;exact ke;exact qr) | (apply Wl.callQ (f := 200);exact rfl;exact ke;(intro wq hq;exact hq.q (sysX _ _ _ _ _ _ _ wq hx hf))) | refine Wl.move rfl rfl ?_ | refine Wl.assign rfl rfl ?_ | (apply Wl.on;exact rfl;exact rfl;exact ka) | (apply Wl.off;exact rfl;exact rfl;exact rfl;exact kq) | (apply Wl.pickT;exact rfl;exact rfl;exact ka;exact rfl) | (apply Wl.pickF;exact rfl;exact rfl;exact ka;exact rfl) | refine Wl.fieldAddrZ rfl rfl ?_ | (apply Wl.loadH;exact rfl;exact rfl;exact ke;exact rfl) | (apply Wl.eqlIs;exact rfl;exact rfl;exact rfl;exact kv) | refine Wl.eql rfl rfl rfl ?_ | refine Wl.and rfl rfl rfl ?_ | (refine Wl.convU32 rfl rfl ?_ ?_;constructor <;> omega) | (apply Wl.storeA;exact rfl;exact rfl;exact rfl;exact rfl;exact ke;exact kf) | (apply Wl.loadAH;exact rfl;exact rfl;exact ke;exact ke) | (apply Wl.buildS;exact rfl;exact ki;exact kc) | (apply Wl.alloc;exact rfl;intro c hc ho) | apply Wl.nil | apply St.seq | apply St.block | apply St.region | (apply St.condF;exact rfl;exact ka) | apply St.ret | apply St.skip | apply Gt.next | apply Gt.thenRet | apply Gt.inNormal | apply Gt.inRet | (apply Wl.splitP;exact rfl;exact rfl;all_goals (intros;try (exfalso;omega))) | (apply St.condP;exact rfl;all_goals (intros;try (exfalso;omega)))
  all_goals first
   | exact ⟨by unfold moreF;(repeat' split) <;> first | rfl | (exfalso;omega),hp.drop zx⟩
   | skip
  all_goals first
   | (refine St.tree (fun w' => Own w' [⟨c9,[Value.int .i64 0,.int .i64 rd,.int .i64 r1,.int .i64 0,.int .u32 (immI x)],221⟩,⟨cX,[Value.int .i64 o,.int .i64 rd,.int .i64 r1,.int .i64 r2,.int .u32 im],221⟩]) mixed (fun _ h => ⟨Hp.drew h,⟨own_at (Hp.drew h).own kw,own_at (Hp.drew h).own kw,trivial⟩⟩) ?_
      refine Mt.pm 0 ?_
      refine Mt.pu 3 ?_
      repeat' first | (apply Wl.loadAF (xs := [Value.int .i64 0,.int .i64 rd,.int .i64 r1,.int .i64 0,.int .u32 (immI x)]);exact rfl;exact rfl;exact rfl;(intro w' h';exact agg_of h'.1)) | (apply Wl.loadAF (xs := [Value.int .i64 o,.int .i64 rd,.int .i64 r1,.int .i64 r2,.int .u32 im]);exact rfl;exact rfl;exact rfl;(intro w' h';exact agg_of h'.2.1)) | refine Wl.fieldAddrZ rfl rfl ?_ | apply Wl.nilB
      refine Mt.e1 1 ?_
      repeat' first | (apply Wl.lit;exact rfl;exact ki;exact rfl;exact rfl;exact kj;intro d_ hd_ hod_) | apply Wl.nil
      refine Mt.backE (fun _ h => ⟨own_at h.own kw,own_at h.own kw,trivial⟩) ?_
      refine Mt.e1 2 ?_
      repeat' first | (apply Wl.callQ (f := 162);exact rfl;exact ke;(intro wq hq;have hb_ := own_at hq.own (.head _);exact hq.q (pickX _ _ _ _ _ wq ky rfl rfl hb_))) | apply Wl.nil
      refine Mt.backE (fun _ h => ⟨own_at h.own kw,own_at h.own kw,trivial⟩) ?_
      refine Mt.e1 4 ?_
      repeat' first | (apply Wl.callQ (f := 161);exact rfl;exact ke;exact qr) | apply Wl.nil
      refine Mt.backE (fun _ h => ⟨own_at h.own kw,own_at h.own kw,trivial⟩) ?_
      refine Mt.e1 5 ?_
      repeat' first | (apply Wl.storeA;exact rfl;exact rfl;exact rfl;exact rfl;exact ke;exact kf) | apply Wl.nil
      refine Mt.backE (fun _ h => ⟨own_at h.own kw,own_at h.own kw,trivial⟩) ?_
      refine Mt.toGt kg ?_
      repeat' first | (apply Gt.outC';exact rfl;infer_instance;exact rfl;exact ke;exact ke;intro w' hp) | apply St.ret | apply Gt.next | apply Gt.thenRet | apply Gt.inRet
      exact ⟨by unfold moreF;(repeat' split) <;> first | rfl | (exfalso;omega),hp.drop zx⟩)
   | (refine St.tree (fun w' => Own w' [⟨c9,[Value.int .i64 0,.int .i64 rd,.int .i64 r1,.int .i64 0,.int .u32 (immI x)],221⟩,⟨cX,[Value.int .i64 o,.int .i64 rd,.int .i64 r1,.int .i64 r2,.int .u32 im],221⟩]) mixed (fun _ h => ⟨Hp.drew h,⟨own_at (Hp.drew h).own kw,own_at (Hp.drew h).own kw,trivial⟩⟩) ?_
      refine Mt.pm 0 ?_
      refine Mt.pz 3 ?_
      refine Mt.pu 4 ?_
      apply Wl.loadF;exact rfl;exact rfl;(intro w' h';first | exact cell_of h'.1 rfl | exact cell_of h'.2.1 rfl);apply Wl.nilB
      refine Mt.pz 5 ?_
      refine Mt.pu 6 ?_
      apply Wl.loadF;exact rfl;exact rfl;(intro w' h';first | exact cell_of h'.1 rfl | exact cell_of h'.2.1 rfl);apply Wl.nilB
      refine Mt.pm 7 ?_
      refine Mt.e1 1 ?_
      repeat' first | (apply Wl.lit;exact rfl;exact ki;exact rfl;exact rfl;exact kj;intro d_ hd_ hod_) | apply Wl.nil
      refine Mt.backE (fun _ h => ⟨own_at h.own kw,own_at h.own kw,trivial⟩) ?_
      refine Mt.e1 2 ?_
      repeat' first | (apply Wl.callQ (f := 162);exact rfl;exact ke;(intro wq hq;have hb_ := own_at hq.own (.head _);exact hq.q (pickX _ _ _ _ _ wq ky rfl rfl hb_))) | apply Wl.nil
      refine Mt.backE (fun _ h => ⟨own_at h.own kw,own_at h.own kw,trivial⟩) ?_
      refine Mt.e1 8 ?_
      repeat' first | (apply Wl.callQ (f := 199);exact rfl;exact ke;(intro wq hq;exact hq.q (immSX _ wq))) | apply Wl.nil
      refine Mt.backE (fun _ h => ⟨own_at h.own kw,own_at h.own kw,trivial⟩) ?_
      refine Mt.pu 9 ?_
      apply Wl.buildS;exact rfl;exact ki;exact kc;apply Wl.nilB
      refine Mt.e1 10 ?_
      repeat' first | (apply Wl.callQ (f := 161);exact rfl;exact ke;exact qr) | apply Wl.nil
      refine Mt.backE (fun _ h => ⟨own_at h.own kw,own_at h.own kw,trivial⟩) ?_
      refine Mt.e1 11 ?_
      repeat' first | (apply Wl.storeA;exact rfl;exact rfl;exact rfl;exact rfl;exact ke;exact kf) | apply Wl.nil
      refine Mt.backE (fun _ h => ⟨own_at h.own kw,own_at h.own kw,trivial⟩) ?_
      refine Mt.toGt kg ?_
      repeat' first | (apply Gt.outC';exact rfl;infer_instance;exact rfl;exact ke;exact ke;intro w' hp) | apply St.ret | apply Gt.next | apply Gt.thenRet | apply Gt.inRet
      exact ⟨by unfold moreF;(repeat' split) <;> first | rfl | (exfalso;omega),hp.drop zx⟩)
 ·apply Wl.alloc
  ·exact rfl
  intro c9 hc9 ho9
  apply Wl.nil
  refine Mt.backE (fun _ h => ⟨own_at h.own kw,trivial⟩) ?_
  refine Mt.e1 5 ?_
  repeat' first | (apply Wl.callQ (f := 160);exact rfl;exact ke;(intro wq hq;exact hq.q (immIX _ wq))) | apply Wl.nil
  refine Mt.backE (fun _ h => ⟨own_at h.own kw,trivial⟩) ?_
  refine Mt.pu 6 ?_
  apply Wl.buildS;exact rfl;exact ki;exact kc;apply Wl.nilB
  refine Mt.e1 8 ?_
  repeat' first | (apply Wl.storeA;exact rfl;exact rfl;exact rfl;exact rfl;exact ke;exact kf) | apply Wl.nil
  refine Mt.backE (fun _ h => ⟨own_at h.own kw,trivial⟩) ?_
  refine Mt.toGt kg ?_
  repeat' first | (apply Gt.outC';exact rfl;infer_instance;exact rfl;exact ke;exact ke;intro w' hp) | (apply Wl.callQ (f := 161);exact rfl;exact ke;exact qr) | (apply Wl.callQ (f := 200);exact rfl;exact ke;(intro wq hq;exact hq.q (sysX _ _ _ _ _ _ _ wq hx hf))) | refine Wl.move rfl rfl ?_ | refine Wl.assign rfl rfl ?_ | (apply Wl.on;exact rfl;exact rfl;exact ka) | (apply Wl.off;exact rfl;exact rfl;exact rfl;exact kq) | (apply Wl.pickT;exact rfl;exact rfl;exact ka;exact rfl) | (apply Wl.pickF;exact rfl;exact rfl;exact ka;exact rfl) | refine Wl.fieldAddrZ rfl rfl ?_ | (apply Wl.loadH;exact rfl;exact rfl;exact ke;exact rfl) | (apply Wl.eqlIs;exact rfl;exact rfl;exact rfl;exact kv) | refine Wl.eql rfl rfl rfl ?_ | refine Wl.and rfl rfl rfl ?_ | (refine Wl.convU32 rfl rfl ?_ ?_;constructor <;> omega) | (apply Wl.storeA;exact rfl;exact rfl;exact rfl;exact rfl;exact ke;exact kf) | (apply Wl.loadAH;exact rfl;exact rfl;exact ke;exact ke) | (apply Wl.buildS;exact rfl;exact ki;exact kc) | (apply Wl.alloc;exact rfl;intro c hc ho) | apply Wl.nil | apply St.seq | apply St.block | apply St.region | (apply St.condF;exact rfl;exact ka) | apply St.ret | apply St.skip | apply Gt.next | apply Gt.thenRet | apply Gt.inNormal | apply Gt.inRet | (apply Wl.splitP;exact rfl;exact rfl;all_goals (intros;try (exfalso;omega))) | (apply St.condP;exact rfl;all_goals (intros;try (exfalso;omega)))
  all_goals first
   | exact ⟨by unfold moreF;(repeat' split) <;> first | rfl | (exfalso;omega),hp.drop zx⟩
   | skip
  all_goals first
   | (refine St.tree (fun w' => Own w' [⟨c9,[Value.int .i64 0,.int .i64 rd,.int .i64 r1,.int .i64 0,.int .u32 (immI x)],221⟩,⟨cX,[Value.int .i64 o,.int .i64 rd,.int .i64 r1,.int .i64 r2,.int .u32 im],221⟩]) mixed (fun _ h => ⟨Hp.drew h,⟨own_at (Hp.drew h).own kw,own_at (Hp.drew h).own kw,trivial⟩⟩) ?_
      refine Mt.pm 0 ?_
      refine Mt.pu 3 ?_
      repeat' first | (apply Wl.loadAF (xs := [Value.int .i64 0,.int .i64 rd,.int .i64 r1,.int .i64 0,.int .u32 (immI x)]);exact rfl;exact rfl;exact rfl;(intro w' h';exact agg_of h'.1)) | (apply Wl.loadAF (xs := [Value.int .i64 o,.int .i64 rd,.int .i64 r1,.int .i64 r2,.int .u32 im]);exact rfl;exact rfl;exact rfl;(intro w' h';exact agg_of h'.2.1)) | refine Wl.fieldAddrZ rfl rfl ?_ | apply Wl.nilB
      refine Mt.e1 1 ?_
      repeat' first | (apply Wl.lit;exact rfl;exact ki;exact rfl;exact rfl;exact kj;intro d_ hd_ hod_) | apply Wl.nil
      refine Mt.backE (fun _ h => ⟨own_at h.own kw,own_at h.own kw,trivial⟩) ?_
      refine Mt.e1 2 ?_
      repeat' first | (apply Wl.callQ (f := 162);exact rfl;exact ke;(intro wq hq;have hb_ := own_at hq.own (.head _);exact hq.q (pickX _ _ _ _ _ wq ky rfl rfl hb_))) | apply Wl.nil
      refine Mt.backE (fun _ h => ⟨own_at h.own kw,own_at h.own kw,trivial⟩) ?_
      refine Mt.e1 4 ?_
      repeat' first | (apply Wl.callQ (f := 161);exact rfl;exact ke;exact qr) | apply Wl.nil
      refine Mt.backE (fun _ h => ⟨own_at h.own kw,own_at h.own kw,trivial⟩) ?_
      refine Mt.e1 5 ?_
      repeat' first | (apply Wl.storeA;exact rfl;exact rfl;exact rfl;exact rfl;exact ke;exact kf) | apply Wl.nil
      refine Mt.backE (fun _ h => ⟨own_at h.own kw,own_at h.own kw,trivial⟩) ?_
      refine Mt.toGt kg ?_
      repeat' first | (apply Gt.outC';exact rfl;infer_instance;exact rfl;exact ke;exact ke;intro w' hp) | apply St.ret | apply Gt.next | apply Gt.thenRet | apply Gt.inRet
      exact ⟨by unfold moreF;(repeat' split) <;> first | rfl | (exfalso;omega),hp.drop zx⟩)
   | (refine St.tree (fun w' => Own w' [⟨c9,[Value.int .i64 0,.int .i64 rd,.int .i64 r1,.int .i64 0,.int .u32 (immI x)],221⟩,⟨cX,[Value.int .i64 o,.int .i64 rd,.int .i64 r1,.int .i64 r2,.int .u32 im],221⟩]) mixed (fun _ h => ⟨Hp.drew h,⟨own_at (Hp.drew h).own kw,own_at (Hp.drew h).own kw,trivial⟩⟩) ?_
      refine Mt.pm 0 ?_
      refine Mt.pz 3 ?_
      refine Mt.pu 4 ?_
      apply Wl.loadF;exact rfl;exact rfl;(intro w' h';first | exact cell_of h'.1 rfl | exact cell_of h'.2.1 rfl);apply Wl.nilB
      refine Mt.pz 5 ?_
      refine Mt.pu 6 ?_
      apply Wl.loadF;exact rfl;exact rfl;(intro w' h';first | exact cell_of h'.1 rfl | exact cell_of h'.2.1 rfl);apply Wl.nilB
      refine Mt.pm 7 ?_
      refine Mt.e1 1 ?_
      repeat' first | (apply Wl.lit;exact rfl;exact ki;exact rfl;exact rfl;exact kj;intro d_ hd_ hod_) | apply Wl.nil
      refine Mt.backE (fun _ h => ⟨own_at h.own kw,own_at h.own kw,trivial⟩) ?_
      refine Mt.e1 2 ?_
      repeat' first | (apply Wl.callQ (f := 162);exact rfl;exact ke;(intro wq hq;have hb_ := own_at hq.own (.head _);exact hq.q (pickX _ _ _ _ _ wq ky rfl rfl hb_))) | apply Wl.nil
      refine Mt.backE (fun _ h => ⟨own_at h.own kw,own_at h.own kw,trivial⟩) ?_
      refine Mt.e1 8 ?_
      repeat' first | (apply Wl.callQ (f := 199);exact rfl;exact ke;(intro wq hq;exact hq.q (immSX _ wq))) | apply Wl.nil
      refine Mt.backE (fun _ h => ⟨own_at h.own kw,own_at h.own kw,trivial⟩) ?_
      refine Mt.pu 9 ?_
      apply Wl.buildS;exact rfl;exact ki;exact kc;apply Wl.nilB
      refine Mt.e1 10 ?_
      repeat' first | (apply Wl.callQ (f := 161);exact rfl;exact ke;exact qr) | apply Wl.nil
      refine Mt.backE (fun _ h => ⟨own_at h.own kw,own_at h.own kw,trivial⟩) ?_
      refine Mt.e1 11 ?_
      repeat' first | (apply Wl.storeA;exact rfl;exact rfl;exact rfl;exact rfl;exact ke;exact kf) | apply Wl.nil
      refine Mt.backE (fun _ h => ⟨own_at h.own kw,own_at h.own kw,trivial⟩) ?_
      refine Mt.toGt kg ?_
      repeat' first | (apply Gt.outC';exact rfl;infer_instance;exact rfl;exact ke;exact ke;intro w' hp) | apply St.ret | apply Gt.next | apply Gt.thenRet | apply Gt.inRet
      exact ⟨by unfold moreF;(repeat' split) <;> first | rfl | (exfalso;omega),hp.drop zx⟩)
theorem decX (x : Int) (w : World) (hx : 0 ≤ x ∧ x < 4294967296) : Calls Tryz.prog 117 #[.int .u32 x] w fun e w' => e = .returned (instV (decF x)) ∧ Hp w [] w' := by
 refine enter (args := [_]) (Γ := [(0,_)]) Tryz.func117 Tryz.ntmps117 rfl odq (.cons rfl .nil) ?_
 have g1 := and31 (shrF x 7)
 have g2 := and31 (shrF x 15)
 have g3 := and31 (shrF x 20)
 have g4 := and7 (shrF x 12)
 have g5 := b64 .and (shrF x 12) 7
 unfold decF
 generalize h1 : bits .and .u32 (shrF x 7) 31 = rd at *
 generalize h2 : bits .and .u32 (shrF x 15) 31 = r1 at *
 generalize h3 : bits .and .u32 (shrF x 20) 31 = r2 at *
 generalize h4 : bits .and .u32 (shrF x 12) 7 = f at *
 apply St.seq
 apply St.region
 apply Wl.alloc
 ·exact rfl
 intro c2 hc2 ho2
 apply Wl.nil
 apply Gt.next
 repeat' first | (apply Wl.andIs;exact rfl;exact rfl;exact rfl;exact h1) | (apply Wl.andIs;exact rfl;exact rfl;exact rfl;exact h2) | (apply Wl.andIs;exact rfl;exact rfl;exact rfl;exact h3) | (apply Wl.andIs;exact rfl;exact rfl;exact rfl;exact h4) | (apply Gt.outC';exact rfl;infer_instance;exact rfl;exact ke;exact ke;intro w' hp) | (apply Wl.callQ (f := 158);exact rfl;exact ke;(intro wq hq;exact hq.q (uX _ _ _ _ _ _ _ wq))) | (apply Wl.callQ (f := 164);exact rfl;exact ke;(intro wq hq;exact hq.q (moreX _ _ _ _ _ _ _ _ wq hx g4 g3))) | refine Wl.move rfl rfl ?_ | refine Wl.assign rfl rfl ?_ | refine Wl.eql rfl rfl rfl ?_ | refine Wl.neq rfl rfl rfl ?_ | refine Wl.and rfl rfl rfl ?_ | (refine Wl.shr rfl rfl rfl ?_ ?_;omega) | (refine Wl.convI64 rfl rfl ?_ ?_;constructor <;> omega) | (apply Wl.storeA;exact rfl;exact rfl;exact rfl;exact rfl;exact ke;exact kf) | (apply Wl.loadAH;exact rfl;exact rfl;exact ke;exact ke) | (apply Wl.buildS;exact rfl;exact ki;exact kc) | (apply Wl.alloc;exact rfl;intro c hc ho) | apply Wl.nil | apply St.seq | apply St.block | apply St.region | apply St.ret | apply St.skip | apply Gt.next | apply Gt.thenRet | apply Gt.inNormal | apply Gt.inRet | (apply St.condP;exact rfl;all_goals (intros;try (exfalso;omega)))
 all_goals generalize c = cX at *
 all_goals first
  | exact ⟨by unfold dec5F;(repeat' split) <;> first | rfl | (exfalso;omega),hp.drop zx⟩
  | skip
 ·skip
  refine St.tree (fun w' => Own w' [⟨cX,[Value.int .i64 0,.int .i64 rd,.int .i64 r1,.int .i64 r2,.int .u32 0],221⟩]) mixed (fun _ h => ⟨Hp.drew h,⟨own_at (Hp.drew h).own kw,trivial⟩⟩) ?_
  refine Mt.pz 0 ?_
  refine Mt.pu 1 ?_
  apply Wl.loadF;exact rfl;exact rfl;(intro w' h';first | exact cell_of h'.1 rfl);apply Wl.nilB
  refine Mt.pm 2 ?_
  refine Mt.e1 3 ?_
  repeat' first | (apply Wl.callQ (f := 159);exact rfl;exact ke;(intro wq hq;exact hq.q (immJX _ wq))) | apply Wl.nil
  refine Mt.backE (fun _ h => ⟨own_at h.own kw,trivial⟩) ?_
  refine Mt.pu 4 ?_
  apply Wl.buildS;exact rfl;exact ki;exact kc;apply Wl.nilB
  refine Mt.e1 5 ?_
  repeat' first | (apply Wl.storeA;exact rfl;exact rfl;exact rfl;exact rfl;exact ke;exact kf) | apply Wl.nil
  refine Mt.backE (fun _ h => ⟨own_at h.own kw,trivial⟩) ?_
  refine Mt.toGt kg ?_
  repeat' first | (apply Gt.outC';exact rfl;infer_instance;exact rfl;exact ke;exact ke;intro w' hp) | apply St.ret | apply Gt.next | apply Gt.thenRet | apply Gt.inRet
  exact ⟨by unfold dec5F;(repeat' split) <;> first | rfl | (exfalso;omega),hp.drop zx⟩
 ·skip
  refine St.tree (fun w' => Own w' [⟨cX,[Value.int .i64 0,.int .i64 rd,.int .i64 r1,.int .i64 r2,.int .u32 0],221⟩]) mixed (fun _ h => ⟨Hp.drew h,⟨own_at (Hp.drew h).own kw,trivial⟩⟩) ?_
  refine Mt.pz 0 ?_
  refine Mt.pu 1 ?_
  apply Wl.loadF;exact rfl;exact rfl;(intro w' h';first | exact cell_of h'.1 rfl);apply Wl.nilB
  refine Mt.pz 2 ?_
  refine Mt.pu 3 ?_
  apply Wl.loadF;exact rfl;exact rfl;(intro w' h';first | exact cell_of h'.1 rfl);apply Wl.nilB
  refine Mt.pm 4 ?_
  refine Mt.e1 5 ?_
  repeat' first | (apply Wl.callQ (f := 160);exact rfl;exact ke;(intro wq hq;exact hq.q (immIX _ wq))) | apply Wl.nil
  refine Mt.backE (fun _ h => ⟨own_at h.own kw,trivial⟩) ?_
  refine Mt.pu 6 ?_
  apply Wl.buildS;exact rfl;exact ki;exact kc;apply Wl.nilB
  refine Mt.e1 7 ?_
  repeat' first | (apply Wl.storeA;exact rfl;exact rfl;exact rfl;exact rfl;exact ke;exact kf) | apply Wl.nil
  refine Mt.backE (fun _ h => ⟨own_at h.own kw,trivial⟩) ?_
  refine Mt.toGt kg ?_
  repeat' first | (apply Gt.outC';exact rfl;infer_instance;exact rfl;exact ke;exact ke;intro w' hp) | apply St.ret | apply Gt.next | apply Gt.thenRet | apply Gt.inRet
  exact ⟨by unfold dec5F;(repeat' split) <;> first | rfl | (exfalso;omega),hp.drop zx⟩
 ·skip
  refine St.tree (fun w' => Own w' [⟨cX,[Value.int .i64 0,.int .i64 rd,.int .i64 r1,.int .i64 r2,.int .u32 0],221⟩]) mixed (fun _ h => ⟨Hp.drew h,⟨own_at (Hp.drew h).own kw,trivial⟩⟩) ?_
  refine Mt.pm 0 ?_
  refine Mt.pz 3 ?_
  refine Mt.pu 4 ?_
  apply Wl.loadF;exact rfl;exact rfl;(intro w' h';first | exact cell_of h'.1 rfl);apply Wl.nilB
  refine Mt.pz 5 ?_
  refine Mt.pu 6 ?_
  apply Wl.loadF;exact rfl;exact rfl;(intro w' h';first | exact cell_of h'.1 rfl);apply Wl.nilB
  refine Mt.pm 7 ?_
  refine Mt.e1 1 ?_
  repeat' first | (apply Wl.lit;exact rfl;exact ki;exact rfl;exact rfl;exact kj;intro d_ hd_ hod_) | apply Wl.nil
  refine Mt.backE (fun _ h => ⟨own_at h.own kw,trivial⟩) ?_
  refine Mt.e1 2 ?_
  repeat' first | (apply Wl.callQ (f := 162);exact rfl;exact ke;(intro wq hq;have hb_ := own_at hq.own (.head _);exact hq.q (pickX _ _ _ _ _ wq ky rfl rfl hb_))) | apply Wl.nil
  refine Mt.backE (fun _ h => ⟨own_at h.own kw,trivial⟩) ?_
  refine Mt.e1 8 ?_
  repeat' first | (apply Wl.callQ (f := 163);exact rfl;exact ke;(intro wq hq;exact hq.q (immBX _ wq))) | apply Wl.nil
  refine Mt.backE (fun _ h => ⟨own_at h.own kw,trivial⟩) ?_
  refine Mt.pu 9 ?_
  apply Wl.buildS;exact rfl;exact ki;exact kc;apply Wl.nilB
  refine Mt.e1 10 ?_
  repeat' first | (apply Wl.callQ (f := 161);exact rfl;exact ke;exact qr) | apply Wl.nil
  refine Mt.backE (fun _ h => ⟨own_at h.own kw,trivial⟩) ?_
  refine Mt.e1 11 ?_
  repeat' first | (apply Wl.storeA;exact rfl;exact rfl;exact rfl;exact rfl;exact ke;exact kf) | apply Wl.nil
  refine Mt.backE (fun _ h => ⟨own_at h.own kw,trivial⟩) ?_
  refine Mt.toGt kg ?_
  repeat' first | (apply Gt.outC';exact rfl;infer_instance;exact rfl;exact ke;exact ke;intro w' hp) | apply St.ret | apply Gt.next | apply Gt.thenRet | apply Gt.inRet
  exact ⟨by unfold dec5F;(repeat' split) <;> first | rfl | (exfalso;omega),hp.drop zx⟩
def In5R (p : In5) : Prop := InstR p.2.1 p.2.2.1 p.2.2.2.1 p.2.2.2.2
theorem extF_rng (x n : Int) : 0 ≤ extF x n ∧ extF x n < 4294967296 := wr32 _
theorem ofF_rng {op rd r1 r2 im : Int} (h : InstR rd r1 r2 im) : In5R (of5 op rd r1 r2 im) := by
 unfold of5
 split
 ·exact instR0
 ·exact h
theorem shrF_rng {x : Int} (s : Int) (hx : 0 ≤ x ∧ x < 4294967296) : 0 ≤ shrF x s ∧ shrF x s < 4294967296 := fd32 hx
theorem In5R.ite {c : Prop} {_i : Decidable c} {a b : In5} (ha : In5R a) (hb : In5R b) : In5R (if c then a else b) := by
 split
 ·exact ha
 ·exact hb
set_option maxRecDepth 20000 in
theorem decF_rng {x : Int} (hx : 0 ≤ x ∧ x < 4294967296) : In5R (decF x) := by
 have g1 := and31 (shrF x 7)
 have g2 := and31 (shrF x 15)
 have g3 := and31 (shrF x 20)
 have gI : 0 ≤ immI x ∧ immI x < 4294967296 := extF_rng _ _
 have gS : 0 ≤ immS x ∧ immS x < 4294967296 := extF_rng _ _
 have gB : 0 ≤ immB x ∧ immB x < 4294967296 := extF_rng _ _
 have gJ : 0 ≤ immJ x ∧ immJ x < 4294967296 := extF_rng _ _
 have gU : 0 ≤ immU x ∧ immU x < 4294967296 := br32 _ _ _
 have gs := shrF_rng 20 hx
 have z : (0 : Int) ≤ 0 ∧ (0 : Int) < 32 := by decide
 have z2 : (0 : Int) ≤ 0 ∧ (0 : Int) < 4294967296 := by decide
 have c0 : ∀ o : Int,In5R (o,0,0,0,0) := fun _ => ⟨z,z,z,z2⟩
 have gR : ∀ o,In5R (of5 o (bits .and .u32 (shrF x 7) 31) (bits .and .u32 (shrF x 15) 31) (bits .and .u32 (shrF x 20) 31) 0) := fun _ => ofF_rng ⟨g1,g2,g3,z2⟩
 have gT : ∀ o,In5R (of5 o (bits .and .u32 (shrF x 7) 31) (bits .and .u32 (shrF x 15) 31) 0 (bits .and .u32 (shrF x 20) 31)) := fun _ => ofF_rng ⟨g1,g2,z,by omega⟩
 have gA : ∀ o,In5R (of5 o (bits .and .u32 (shrF x 7) 31) (bits .and .u32 (shrF x 15) 31) 0 (immI x)) := fun _ => ofF_rng ⟨g1,g2,z,gI⟩
 have m : ∀ f top,In5R (moreF x (bits .and .u32 (shrF x 7) 31) (bits .and .u32 (shrF x 15) 31) (bits .and .u32 (shrF x 20) 31) 0 f top) := fun f top =>
  In5R.ite (gA _) (In5R.ite (ofF_rng ⟨z,g2,g3,gS⟩) (In5R.ite (In5R.ite (gT _) (In5R.ite (gT _) (In5R.ite (gT _) (gA _)))) (In5R.ite (In5R.ite (gR _) (In5R.ite (gR _) (In5R.ite (gR _) (c0 0))))
   (In5R.ite (In5R.ite (c0 46) (c0 0)) (In5R.ite (In5R.ite (c0 47) (In5R.ite (c0 48) (In5R.ite (c0 49) (In5R.ite (c0 50) (ofF_rng ⟨g1,g2,z,gs⟩))))) (c0 0))))))
 exact In5R.ite ⟨g1,z,z,gU⟩ (In5R.ite ⟨g1,z,z,gU⟩ (In5R.ite ⟨g1,z,z,gJ⟩ (In5R.ite (In5R.ite (c0 0) ⟨g1,g2,z,gI⟩) (In5R.ite (ofF_rng ⟨z,g2,g3,gB⟩) (m _ _)))))
def tzF (x : Int) : Int := if x = 0 then 32 else zTab ((IntKind.u32.wrap (bits .and .u32 x (IntKind.u32.wrap (0 - x)) * 125613361)).fdiv (2 ^ min (Int.toNat 27) IntKind.u32.bits)).toNat
theorem tzF_pos (x : Int) : 0 ≤ tzF x := by
 unfold tzF
 split
 ·decide
 ·obtain ⟨i1,i2⟩ := idx27 (bits .and .u32 x (IntKind.u32.wrap (0 - x)) * 125613361)
  exact (zTab_ok ky).1
theorem tzF_spec (x : Int) (w : World) (hT : tabOk w) : Calls Tryz.prog 128 #[.int .u32 x] w fun e w' => e = .returned (.int .i64 (tzF x)) ∧ Hp w [] w' := by
 unfold tzF
 by_cases hx : x = 0
 ·have hd : decide (x = 0) = true := decide_eq_true hx
  rw [if_pos hx]
  refine enter (args := [_]) (Γ := [(0,_)]) Tryz.func128 Tryz.ntmps128 rfl odq (.cons rfl .nil) ?_
  repeat' first | refine Wl.move rfl rfl ?_ | refine Wl.assign rfl rfl ?_ | (apply Wl.eqlIs;exact rfl;exact rfl;exact rfl;exact kv) | apply Wl.nil | apply St.seq | apply St.region | (apply St.condT;exact rfl;exact ka) | apply St.ret | apply Gt.next | apply Gt.thenRet | (apply Gt.out1;exact rfl;exact rfl;intro w' hp)
  exact ⟨rfl,hp⟩
 ·have hd : decide (x = 0) = false := decide_eq_false hx
  obtain ⟨i1,i2⟩ := idx27 (bits .and .u32 x (IntKind.u32.wrap (0 - x)) * 125613361)
  have hl : ((IntKind.u32.wrap (bits .and .u32 x (IntKind.u32.wrap (0 - x)) * 125613361)).fdiv (2 ^ min (Int.toNat 27) IntKind.u32.bits)).toNat < 32 := by omega
  have hz := zTab_ok hl
  rw [if_neg hx]
  have hc := (hT.at hl).2
  have hc' : w.cell? ⟨0,0 + ((IntKind.u32.wrap (bits .and .u32 x (IntKind.u32.wrap (0 - x)) * 125613361)).fdiv (2 ^ min (Int.toNat 27) IntKind.u32.bits)).toNat * 1,none⟩ = some (.int .u8 (zTab ((IntKind.u32.wrap (bits .and .u32 x (IntKind.u32.wrap (0 - x)) * 125613361)).fdiv (2 ^ min (Int.toNat 27) IntKind.u32.bits)).toNat)) := by rw [Nat.zero_add,Nat.mul_one];exact hc
  refine enter (args := [_]) (Γ := [(0,_)]) Tryz.func128 Tryz.ntmps128 rfl odq (.cons rfl .nil) ?_
  generalize zTab ((IntKind.u32.wrap (bits .and .u32 x (IntKind.u32.wrap (0 - x)) * 125613361)).fdiv (2 ^ min (Int.toNat 27) IntKind.u32.bits)).toNat = z at *
  repeat' first | (apply Wl.loadO;exact rfl;exact rfl;exact hc';exact trivial) | refine Wl.move rfl rfl ?_ | refine Wl.assign rfl rfl ?_ | refine Wl.eql rfl rfl rfl ?_ | refine Wl.mul rfl rfl rfl ?_ | refine Wl.and rfl rfl rfl ?_ | (refine Wl.shr rfl rfl rfl ?_ ?_;omega) | (refine Wl.convI64 rfl rfl ?_ ?_;constructor <;> omega) | refine Wl.neg rfl rfl ?_ | (refine Wl.indexArr rfl rfl rfl ?_ ?_;constructor <;> omega) | apply Wl.nil | apply St.seq | apply St.region | (apply St.condF;exact rfl;exact ka) | apply St.ret | apply St.skip | apply Gt.next | (apply Gt.out1;exact rfl;exact rfl;intro w' hp)
  exact ⟨rfl,hp⟩
def by4 (x : Int) : Int := IntKind.u64.wrap (IntKind.u64.wrap x * 2 ^ min (Int.toNat 2) IntKind.u64.bits)
noncomputable def napS (x : Int) : Int := IntKind.u64.wrap (8 * 2 ^ min (tzF (bits .xor .u32 IntKind.u32.max x)).toNat IntKind.u64.bits)
noncomputable def rgF (way prev x : Int) : Int × Int :=
 if way = 1 then (prev,if prev < by4 x then by4 x else prev)
 else if way = 2 then (by4 x,IntKind.u64.wrap (by4 x + 4))
 else if way = 3 then (bits .andNot .u64 (by4 x) (IntKind.u64.wrap (napS x - 1)),IntKind.u64.wrap (bits .andNot .u64 (by4 x) (IntKind.u64.wrap (napS x - 1)) + napS x))
 else (0,0)
def prevA (en : Nat → Int × Int × Int) (i : Nat) : Int := if 0 < i then by4 (en (i - 1)).2.2 else 0
noncomputable def rgX (en : Nat → Int × Int × Int) (i : Nat) : Int × Int := rgF (en i).1 (prevA en i) (en i).2.2
theorem rangeX (n : Nat) (en : Nat → Int × Int × Int) (i : Nat) (hi : i < n) (hn : n ≤ 16) (cap : Nat) (a : Option Addr) (w : World) (hS : EntX w a n en) (hT : tabOk w) :
  Calls Tryz.prog 77 #[.slice a n cap,.int .i64 i] w fun e w' => e = .returned (.tuple #[.int .u64 (rgX en i).1,.int .u64 (rgX en i).2]) ∧ Hp w [] w' := by
 have hd0 : decide ((i : Int) < 0) = false := decide_eq_false ky
 have hd1 : decide ((i : Int) ≥ (n : Int)) = false := decide_eq_false ky
 obtain ⟨b,o,rfl,h1,h2,h3⟩ := hS i hi
 have p0 : w.cell? ⟨b,o + (i : Int).toNat * 3,none⟩ = some (.int .i64 (en i).1) := by rw [Int.toNat_natCast];exact h1
 have p2 : w.cell? ⟨b,o + (i : Int).toNat * 3 + 2,none⟩ = some (.int .u32 (en i).2.2) := by rw [Int.toNat_natCast];exact h3
 unfold rgX rgF
 by_cases w1 : (en i).1 = 1
 ·have d1 : decide ((en i).1 = 1) = true := decide_eq_true w1
  rw [if_pos w1]
  unfold prevA
  by_cases hp0 : 0 < i
  ·have d0 : decide ((i : Int) > 0) = true := decide_eq_true ky
   rw [if_pos hp0]
   obtain ⟨b',o',e,_,_,g3⟩ := hS (i - 1) ky
   cases e
   have p3 : w.cell? ⟨b,o + ((i : Int) - 1).toNat * 3 + 2,none⟩ = some (.int .u32 (en (i - 1)).2.2) := by rw [show ((i : Int) - 1).toNat = i - 1 by omega];exact g3
   refine enter (args := [_,_]) (Γ := [(0,_),(1,_)]) Tryz.func77 Tryz.ntmps77 rfl odq (.cons rfl (.cons rfl .nil)) ?_
   repeat' first | (apply Wl.loadO;exact rfl;exact rfl;(first | exact p0 | exact p2 | exact p3);exact trivial) | refine Wl.max2 rfl rfl rfl ?_ | refine Wl.move rfl rfl ?_ | refine Wl.assign rfl rfl ?_ | (apply Wl.on;exact rfl;exact rfl;exact ka) | (apply Wl.pickF;exact rfl;exact rfl;exact ka;exact rfl) | refine Wl.fieldAddr0 rfl rfl ?_ | refine Wl.fieldAddr rfl rfl ?_ | (apply Wl.eqlIs;exact rfl;exact rfl;exact rfl;exact kv) | refine Wl.lss rfl rfl rfl ?_ | refine Wl.gtr rfl rfl rfl ?_ | refine Wl.geq rfl rfl rfl ?_ | (refine Wl.subI rfl rfl rfl ?_ ?_;constructor <;> omega) | (refine Wl.shl rfl rfl rfl ?_ ?_;omega) | refine Wl.convI rfl rfl ?_ | refine Wl.len rfl rfl ?_ | (refine Wl.indexAddr rfl rfl rfl ?_ ?_;constructor <;> omega) | apply Wl.nil | apply St.seq | apply St.block | apply St.region | (apply St.condT;exact rfl;exact ka) | (apply St.condF;exact rfl;exact ka) | apply St.ret | apply St.skip | apply Gt.next | apply Gt.thenRet | apply Gt.inRet | (apply Gt.out2;exact rfl;exact rfl;exact rfl;intro w' hp)
   exact ⟨rfl,hp⟩
  ·have d0 : decide ((i : Int) > 0) = false := decide_eq_false ky
   rw [if_neg hp0]
   refine enter (args := [_,_]) (Γ := [(0,_),(1,_)]) Tryz.func77 Tryz.ntmps77 rfl odq (.cons rfl (.cons rfl .nil)) ?_
   repeat' first | (apply Wl.loadO;exact rfl;exact rfl;exact j6;exact trivial) | refine Wl.max2 rfl rfl rfl ?_ | refine Wl.move rfl rfl ?_ | refine Wl.assign rfl rfl ?_ | (apply Wl.on;exact rfl;exact rfl;exact ka) | (apply Wl.pickF;exact rfl;exact rfl;exact ka;exact rfl) | refine Wl.fieldAddr0 rfl rfl ?_ | refine Wl.fieldAddr rfl rfl ?_ | (apply Wl.eqlIs;exact rfl;exact rfl;exact rfl;exact kv) | refine Wl.lss rfl rfl rfl ?_ | refine Wl.gtr rfl rfl rfl ?_ | refine Wl.geq rfl rfl rfl ?_ | (refine Wl.shl rfl rfl rfl ?_ ?_;omega) | refine Wl.convI rfl rfl ?_ | refine Wl.len rfl rfl ?_ | (refine Wl.indexAddr rfl rfl rfl ?_ ?_;constructor <;> omega) | apply Wl.nil | apply St.seq | apply St.block | apply St.region | (apply St.condT;exact rfl;exact ka) | (apply St.condF;exact rfl;exact ka) | apply St.ret | apply St.skip | apply Gt.next | apply Gt.thenRet | apply Gt.inRet | (apply Gt.out2;exact rfl;exact rfl;exact rfl;intro w' hp)
   exact ⟨rfl,hp⟩
 have d1 : decide ((en i).1 = 1) = false := decide_eq_false w1
 rw [if_neg w1]
 by_cases w2 : (en i).1 = 2
 ·have d2 : decide ((en i).1 = 2) = true := decide_eq_true w2
  rw [if_pos w2]
  refine enter (args := [_,_]) (Γ := [(0,_),(1,_)]) Tryz.func77 Tryz.ntmps77 rfl odq (.cons rfl (.cons rfl .nil)) ?_
  repeat' first | (apply Wl.loadO;exact rfl;exact rfl;exact j6;exact trivial) | refine Wl.move rfl rfl ?_ | refine Wl.assign rfl rfl ?_ | (apply Wl.on;exact rfl;exact rfl;exact ka) | (apply Wl.pickF;exact rfl;exact rfl;exact ka;exact rfl) | refine Wl.fieldAddr0 rfl rfl ?_ | refine Wl.fieldAddr rfl rfl ?_ | (apply Wl.eqlIs;exact rfl;exact rfl;exact rfl;exact kv) | refine Wl.eql rfl rfl rfl ?_ | refine Wl.lss rfl rfl rfl ?_ | refine Wl.geq rfl rfl rfl ?_ | refine Wl.add rfl rfl rfl ?_ | (refine Wl.shl rfl rfl rfl ?_ ?_;omega) | refine Wl.convI rfl rfl ?_ | refine Wl.len rfl rfl ?_ | (refine Wl.indexAddr rfl rfl rfl ?_ ?_;constructor <;> omega) | apply Wl.nil | apply St.seq | apply St.block | apply St.region | (apply St.condT;exact rfl;exact ka) | (apply St.condF;exact rfl;exact ka) | apply St.ret | apply St.skip | apply Gt.next | apply Gt.thenRet | apply Gt.inRet | (apply Gt.out2;exact rfl;exact rfl;exact rfl;intro w' hp)
  exact ⟨rfl,hp⟩
 have d2 : decide ((en i).1 = 2) = false := decide_eq_false w2
 rw [if_neg w2]
 by_cases w3 : (en i).1 = 3
 ·have d3 : decide ((en i).1 = 3) = true := decide_eq_true w3
  rw [if_pos w3]
  have hz := tzF_spec (bits .xor .u32 IntKind.u32.max (en i).2.2)
  have hk := tzF_pos (bits .xor .u32 IntKind.u32.max (en i).2.2)
  refine enter (args := [_,_]) (Γ := [(0,_),(1,_)]) Tryz.func77 Tryz.ntmps77 rfl odq (.cons rfl (.cons rfl .nil)) ?_
  repeat' first | (apply Wl.loadO;exact rfl;exact rfl;exact j6;exact trivial) | (apply Wl.callQ;exact rfl;exact ke;(intro wq hq;exact hq.q (hz wq (hT.upd hq.upd fun y => y trivial)))) | refine Wl.move rfl rfl ?_ | refine Wl.assign rfl rfl ?_ | (apply Wl.on;exact rfl;exact rfl;exact ka) | (apply Wl.pickF;exact rfl;exact rfl;exact ka;exact rfl) | refine Wl.fieldAddr0 rfl rfl ?_ | refine Wl.fieldAddr rfl rfl ?_ | (apply Wl.eqlIs;exact rfl;exact rfl;exact rfl;exact kv) | refine Wl.eql rfl rfl rfl ?_ | refine Wl.lss rfl rfl rfl ?_ | refine Wl.geq rfl rfl rfl ?_ | refine Wl.add rfl rfl rfl ?_ | refine Wl.sub' rfl rfl rfl ?_ | refine Wl.andNot rfl rfl rfl ?_ | (refine Wl.shl rfl rfl rfl ?_ ?_;omega) | refine Wl.convI rfl rfl ?_ | refine Wl.compl rfl rfl ?_ | refine Wl.len rfl rfl ?_ | (refine Wl.indexAddr rfl rfl rfl ?_ ?_;constructor <;> omega) | apply Wl.nil | apply St.seq | apply St.block | apply St.region | (apply St.condT;exact rfl;exact ka) | (apply St.condF;exact rfl;exact ka) | apply St.ret | apply St.skip | apply Gt.next | apply Gt.thenRet | apply Gt.inRet | (apply Gt.out2;exact rfl;exact rfl;exact rfl;intro w' hp)
  exact ⟨rfl,hp⟩
 have d3 : decide ((en i).1 = 3) = false := decide_eq_false w3
 rw [if_neg w3]
 refine enter (args := [_,_]) (Γ := [(0,_),(1,_)]) Tryz.func77 Tryz.ntmps77 rfl odq (.cons rfl (.cons rfl .nil)) ?_
 repeat' first | (apply Wl.loadO;exact rfl;exact rfl;exact j6;exact trivial) | refine Wl.move rfl rfl ?_ | refine Wl.assign rfl rfl ?_ | (apply Wl.on;exact rfl;exact rfl;exact ka) | (apply Wl.pickF;exact rfl;exact rfl;exact ka;exact rfl) | refine Wl.fieldAddr0 rfl rfl ?_ | refine Wl.fieldAddr rfl rfl ?_ | refine Wl.eql rfl rfl rfl ?_ | refine Wl.lss rfl rfl rfl ?_ | refine Wl.geq rfl rfl rfl ?_ | refine Wl.convI rfl rfl ?_ | refine Wl.len rfl rfl ?_ | (refine Wl.indexAddr rfl rfl rfl ?_ ?_;constructor <;> omega) | apply Wl.nil | apply St.seq | apply St.block | apply St.region | (apply St.condF;exact rfl;exact ka) | apply St.ret | apply St.skip | apply Gt.next | apply Gt.inNormal | (apply Gt.out2;exact rfl;exact rfl;exact rfl;intro w' hp)
 exact ⟨rfl,hp⟩
noncomputable def chkF (en : Nat → Int × Int × Int) (fr to r : Int) : Nat → Nat → Bool
 | _,0 => false
 | i,k + 1 => if (rgX en i).2 ≤ fr ∨ to ≤ (rgX en i).1 ∨ (rgX en i).1 ≥ (rgX en i).2 then chkF en fr to r (i + 1) k
   else decide ((rgX en i).1 ≤ fr) && (decide (to ≤ (rgX en i).2) && decide (bits .and .i64 (en i).2.1 r = r))
noncomputable def chkG (n : Nat) (en : Nat → Int × Int × Int) (at_ k r : Int) : Bool := if k < 1 then false else chkF en (IntKind.u64.wrap at_) (IntKind.u64.wrap (IntKind.u64.wrap at_ + IntKind.u64.wrap k)) r 0 n
theorem checkX (n cap : Nat) (en : Nat → Int × Int × Int) (a : Option Addr) (at_ k r : Int) (w : World) (hn : n ≤ 16) (hS : EntX w a n en) (hT : tabOk w) :
  Calls Tryz.prog 25 #[.slice a n cap,.int .u32 at_,.int .i64 k,.int .i64 r] w fun e w' => e = .returned (.bool (chkG n en at_ k r)) ∧ Hp w [] w' := by
 refine enter (args := [_,_,_,_]) (Γ := [(0,_),(1,_),(2,_),(3,_)]) Tryz.func25 Tryz.ntmps25 rfl odq (.cons rfl (.cons rfl (.cons rfl (.cons rfl .nil)))) ?_
 by_cases hk1 : k < 1
 ·have d1 : decide (k < 1) = true := decide_eq_true hk1
  repeat' first | refine Wl.move rfl rfl ?_ | refine Wl.assign rfl rfl ?_ | refine Wl.lss rfl rfl rfl ?_ | apply Wl.nil | apply St.seq | apply St.region | (apply St.condT;exact rfl;exact ka) | apply St.ret | apply Gt.next | apply Gt.thenRet | (apply Gt.out1;exact rfl;exact rfl;intro w' hp)
  exact ⟨by unfold chkG;rw [if_pos hk1],hp⟩
 have d1 : decide (k < 1) = false := decide_eq_false hk1
 have hB : chkG n en at_ k r = chkF en (IntKind.u64.wrap at_) (IntKind.u64.wrap (IntKind.u64.wrap at_ + IntKind.u64.wrap k)) r 0 n := by unfold chkG;rw [if_neg hk1]
 rw [hB]
 generalize hfr : IntKind.u64.wrap at_ = fr
 repeat' first | refine Wl.convI rfl rfl ?_ | refine Wl.move rfl rfl ?_ | refine Wl.assign rfl rfl ?_ | refine Wl.lss rfl rfl rfl ?_ | refine Wl.add rfl rfl rfl ?_ | refine Wl.len rfl rfl ?_ | apply Wl.nil | apply St.seq | apply St.block | apply St.region | (apply St.condF;exact rfl;exact ka) | apply St.skip | apply Gt.next
 rw [hfr]
 generalize hto : IntKind.u64.wrap (fr + IntKind.u64.wrap k) = to
 generalize hCn : chkF en fr to r 0 n = B
 refine St.loop (σ := Nat) (fun i => i ≤ n ∧ B = chkF en fr to r i (n - i)) (fun i => [(25,.int .i64 i),(24,.int .i64 n),(0,.slice a n cap),(3,.int .i64 r),(9,.int .u64 fr),(10,.int .u64 to)])
  (fun _ => Hp w []) (fun i => n - i) 0 ⟨Nat.zero_le _,hCn.symm⟩ kw (fun _ h => h) ?_
 rintro i ⟨hi,hc⟩
 clear hCn
 by_cases hlt : i < n
 ·obtain ⟨b,o,rfl,h1,h2,h3⟩ := hS i hlt
  have p1 : w.cell? ⟨b,o + (i : Int).toNat * 3 + 1,none⟩ = some (.int .i64 (en i).2.1) := by rw [Int.toNat_natCast];exact h2
  have dl : decide ((i : Int) < (n : Int)) = true := decide_eq_true ky
  have hs1 : n - i = (n - (i + 1)) + 1 := by omega
  rw [hs1] at hc
  unfold chkF at hc
  have hR := rangeX n en i hlt hn cap (some ⟨b,o,none⟩)
  generalize rgX en i = p at *
  obtain ⟨x1,x2⟩ := p
  simp only at hc hR
  by_cases c1 : x2 ≤ fr ∨ to ≤ x1 ∨ x1 ≥ x2
  ·rw [if_pos c1] at hc
   repeat' first | (apply Wl.callQ;exact rfl;exact ke;exact qm) | refine Wl.move rfl rfl ?_ | refine Wl.assign rfl rfl ?_ | (apply Wl.on;exact rfl;exact rfl;exact ka) | (apply Wl.off;exact rfl;exact rfl;exact rfl;exact kq) | refine Wl.extract rfl rfl rfl ?_ | (apply Wl.pickT;exact rfl;exact rfl;exact ka;exact rfl) | (apply Wl.pickF;exact rfl;exact rfl;exact ka;exact rfl) | refine Wl.lss rfl rfl rfl ?_ | refine Wl.leq rfl rfl rfl ?_ | refine Wl.geq rfl rfl rfl ?_ | (refine Wl.addI rfl rfl rfl ?_ ?_;constructor <;> omega) | apply Wl.nil | apply St.seq | apply St.block | apply St.region | (apply St.condT;exact rfl;exact ka) | apply St.skip | apply St.exit | apply Gt.next | apply Gt.thenExit | apply Gt.inExit | (apply Wl.splitP;exact rfl;exact rfl;all_goals (intros;try (exfalso;omega))) | (apply St.condP;exact rfl;all_goals (intros;try (exfalso;omega)))
   all_goals
    apply Gt.round (i + 1)
    rotate_left
    ·omega
    ·exact ke
    ·exact fun _ h => h
    ·exact ⟨hlt,hc⟩
  ·rw [if_neg c1] at hc
   rw [hc]
   repeat' first | (apply Wl.callQ;exact rfl;exact ke;exact qm) | (apply Wl.loadO;exact rfl;exact rfl;exact p1;exact trivial) | refine Wl.move rfl rfl ?_ | refine Wl.assign rfl rfl ?_ | (apply Wl.on;exact rfl;exact rfl;exact ka) | (apply Wl.off;exact rfl;exact rfl;exact rfl;exact kq) | refine Wl.extract rfl rfl rfl ?_ | (apply Wl.pickT;exact rfl;exact rfl;exact ka;exact rfl) | (apply Wl.pickF;exact rfl;exact rfl;exact ka;exact rfl) | refine Wl.fieldAddr rfl rfl ?_ | refine Wl.eql rfl rfl rfl ?_ | refine Wl.lss rfl rfl rfl ?_ | refine Wl.leq rfl rfl rfl ?_ | refine Wl.geq rfl rfl rfl ?_ | refine Wl.and rfl rfl rfl ?_ | (refine Wl.indexAddr rfl rfl rfl ?_ ?_;constructor <;> omega) | apply Wl.nil | apply St.seq | apply St.block | apply St.region | (apply St.condT;exact rfl;exact ka) | apply St.ret | apply St.skip | apply Gt.next | apply Gt.thenRet | apply Gt.inRet | (apply Gt.out1;exact rfl;exact rfl;intro w' hp) | (apply Wl.splitP;exact rfl;exact rfl;all_goals (intros;try (exfalso;omega))) | (apply St.condP;exact rfl;all_goals (intros;try (exfalso;omega)))
   all_goals exact ⟨by simp [*],hp⟩
 ·have dl : decide ((i : Int) < (n : Int)) = false := decide_eq_false ky
  obtain rfl : i = n := by omega
  repeat' first | refine Wl.assign rfl rfl ?_ | refine Wl.lss rfl rfl rfl ?_ | apply Wl.nil | apply St.seq | apply St.region | (apply St.condF;exact rfl;exact ka) | apply St.ret | apply St.exit | apply Gt.next | apply Gt.thenExit | apply Gt.inExit | (apply Gt.out1;exact rfl;exact rfl;intro w' hp)
  exact ⟨by rw [hc,Nat.sub_self];rfl,hp⟩
noncomputable def mayG (cf : List Value) (at_ k r : Int) : Bool := chkG 16 (enF cf) at_ k r
theorem may1Y (c : Nat) (F : Fs) (at_ k r : Int) (w : World) (hF : FX w c F) (hmd : F.md = 0) (hT : tabOk w) :
  Calls Tryz.prog 115 #[.pointer (some ⟨c,0,none⟩),.int .u32 at_,.int .i64 k,.int .i64 r] w fun e w' => e = .returned (.bool (mayG F.cf at_ k r)) ∧ Hp w [] w' := by
 obtain ⟨hl,hk,hc⟩ := hF
 obtain ⟨md,st,mie,mip,tv,sc,ep,ca,tl,cy,re,cf⟩ := F
 simp only at hmd
 subst hmd
 simp only [Fs.cells] at hl hk hc ⊢
 have m0 : w.cell? ⟨c,0,none⟩ = some (.int .i64 0) := cell_of hc rfl
 have hlt := lt_of_block hc
 refine enter (args := [_,_,_,_]) (Γ := [(0,_),(1,_),(2,_),(3,_)]) Tryz.func115 Tryz.ntmps115 rfl odq (.cons rfl (.cons rfl (.cons rfl (.cons rfl .nil)))) ?_
 repeat' first | (apply Wl.loadO;exact rfl;exact rfl;exact m0;exact trivial) | refine Wl.move rfl rfl ?_ | refine Wl.assign rfl rfl ?_ | refine Wl.nilCheck rfl rfl ?_ | refine Wl.fieldAddr0 rfl rfl ?_ | refine Wl.eqlPN rfl rfl rfl ?_ | (apply Wl.eqlIs;exact rfl;exact rfl;exact rfl;exact kv) | apply Wl.nil | apply St.seq | apply St.region | (apply St.condT;exact rfl;exact ka) | (apply St.condF;exact rfl;exact ka) | apply St.skip | apply Gt.next
 apply Wl.callC
 ·exact rfl
 ·exact ke
 intro wq hq
 obtain ⟨h1,h2⟩ := cfg_cells (md := 0) hk (hq.upd.heap hc fun y => y trivial)
 refine (entries_any c _ _ wq (by have := hq.upd.size;omega) h1 h2).mono ?_
 rintro e wr ⟨v,rfl,hv,hu⟩
 have hE : ∃ a cap,v = .slice a 16 cap ∧ EntX wr a 16 (enF cf) := by
  obtain ⟨hl',a,cap,rfl,_,_,_,hcc⟩ := Sv.ofOwn hv
  obtain ⟨b,o,rfl,hx⟩ := hcc (fun e => by rw [e] at hl';cases hl')
  refine ⟨_,cap,rfl,fun i hi => ⟨b,o,rfl,?_⟩⟩
  have key : ∀ j v,j < 3 → (entG (intAt (cf ++ [.int .u64 cy,.int .u64 re]) i) (intAt (cf ++ [.int .u64 cy,.int .u64 re]) (16 + i)))[j]? = some v → wr.cell? ⟨b,o + i * 3 + j,none⟩ = some v := fun j v hj hv => by
   have e1 := entsG_at (fun i => intAt (cf ++ [.int .u64 cy,.int .u64 re]) i) (fun i => intAt (cf ++ [.int .u64 cy,.int .u64 re]) (16 + i)) (n := 16) hi hj
   rw [hv] at e1
   obtain ⟨l1,e1⟩ := List.getElem?_eq_some_iff.1 e1
   rw [Nat.add_assoc,hx _ l1,e1]
  rw [intAt_app ky,intAt_app ky] at key
  exact ⟨key 0 _ ze rfl,key 1 _ ze rfl,key 2 _ ze rfl⟩
 obtain ⟨a,cap,rfl,hE⟩ := hE
 have hTr : tabOk wr := (hT.upd hq.upd fun y => y trivial).upd hu (by have := (hT.upd hq.upd fun y => y trivial).lt;omega)
 have hwr : Upd (fun k => w.heap.size ≤ k) w wr := hq.upd.comp hu fun k _ hs => hs.elim (fun y => (y trivial).elim) fun e => by have := hq.upd.size;omega
 refine ⟨_,_,rfl,Hp.start wr,?_⟩
 clear hq hu h1 h2 hv wq
 repeat' first | refine Wl.move rfl rfl ?_
 apply Wl.callQ
 exact rfl
 (focus repeat constructor)
 ·intro wq hq
  exact hq.q (checkX 16 cap _ a _ _ _ wq ky (hE.upd hq.upd fun _ _ y => y trivial) (hTr.upd hq.upd fun y => y trivial))
 repeat' first | refine Wl.assign rfl rfl ?_ | apply Wl.nil | apply St.ret | apply Gt.next | apply Gt.thenRet | (apply Gt.out1;exact rfl;exact rfl;intro w' hp)
 exact ⟨rfl,newHp hwr hp.upd fun k y => (y trivial).elim⟩
instance inMd (a n : Int) : Decidable (inM a n) := by unfold inM;infer_instance
structure Rz where
 (wd : Int) (tr : Bool) (c1 tl at_ wi : Int) (st : Bool) (xs : List Value) (pc : Int) (f : Nat → Int)
def Rz.v (R : Rz) : Value := trc R.wd R.tr R.c1 R.tl R.at_ R.wi R.st
def regI (xs : List Value) (r : Int) : Int := match xs[r.toNat]? with
 | some (.int _ z) => z
 | _ => 0
def pc4 (pc : Int) : Int := IntKind.u32.wrap (pc + 4)
noncomputable def memF (xs : List Value) (pc : Int) (cf : List Value) (f : Nat → Int) (wd o rd at_ b : Int) : Rz :=
 if formF o = 4 then
  (if at_.tmod (widthF o) ≠ 0 then ⟨wd,true,6,at_,at_,widthF o,true,xs,pc,f⟩
  else if inM at_ (widthF o) then (if mayG cf at_ (widthF o) 2 = true then ⟨wd,false,0,0,at_,widthF o,true,xs,pc4 pc,storeX f (at_ - 2147483648).toNat b (widthF o).toNat⟩ else ⟨wd,true,7,at_,at_,widthF o,true,xs,pc,f⟩)
  else ⟨wd,true,7,at_,at_,widthF o,true,xs,pc,f⟩)
 else
  (if at_.tmod (widthF o) ≠ 0 then ⟨wd,true,4,at_,at_,widthF o,false,xs,pc,f⟩
  else if inM at_ (widthF o) then (if mayG cf at_ (widthF o) 1 = true then ⟨wd,false,0,0,at_,widthF o,false,setR xs rd (widenF o (loadX f (at_ - 2147483648).toNat (widthF o).toNat)),pc4 pc,f⟩ else ⟨wd,true,5,at_,at_,widthF o,false,xs,pc,f⟩)
  else ⟨wd,true,5,at_,at_,widthF o,false,xs,pc,f⟩)
def sysR (xs : List Value) (pc : Int) (f : Nat → Int) (wd o nx : Int) : Rz :=
 if o = 47 then ⟨wd,true,8,0,0,0,false,xs,pc,f⟩ else if o = 48 then ⟨wd,true,3,pc,0,0,false,xs,pc,f⟩ else if o = 46 then ⟨wd,false,0,0,0,0,false,xs,nx,f⟩ else ⟨wd,true,2,wd,0,0,false,xs,pc,f⟩
noncomputable def doF (xs : List Value) (pc : Int) (cf : List Value) (f : Nat → Int) (wd o rd r1 r2 im : Int) : Rz :=
 if formF o = 0 then (if o = 2 then ⟨wd,false,0,0,0,0,false,setR xs rd (IntKind.u32.wrap (im + pc)),pc4 pc,f⟩ else ⟨wd,false,0,0,0,0,false,setR xs rd im,pc4 pc,f⟩)
 else if o = 3 then (if (IntKind.u32.wrap (pc + im)).tmod 4 ≠ 0 then ⟨wd,true,0,IntKind.u32.wrap (pc + im),0,0,false,xs,pc,f⟩ else ⟨wd,false,0,0,0,0,false,setR xs rd (pc4 pc),IntKind.u32.wrap (pc + im),f⟩)
 else if o = 4 then (if (bits .andNot .u32 (IntKind.u32.wrap (regI xs r1 + im)) 1).tmod 4 ≠ 0 then ⟨wd,true,0,bits .andNot .u32 (IntKind.u32.wrap (regI xs r1 + im)) 1,0,0,false,xs,pc,f⟩ else ⟨wd,false,0,0,0,0,false,setR xs rd (pc4 pc),bits .andNot .u32 (IntKind.u32.wrap (regI xs r1 + im)) 1,f⟩)
 else if formF o = 3 then (if (goesF o (regI xs r1) (regI xs r2)).1 = true then (if (IntKind.u32.wrap (pc + im)).tmod 4 ≠ 0 then ⟨wd,true,0,IntKind.u32.wrap (pc + im),0,0,false,xs,pc,f⟩ else ⟨wd,false,0,0,0,0,false,xs,IntKind.u32.wrap (pc + im),f⟩) else ⟨wd,false,0,0,0,0,false,xs,pc4 pc,f⟩)
 else if 0 < widthF o then memF xs pc cf f wd o rd (IntKind.u32.wrap (regI xs r1 + im)) (regI xs r2)
 else if formF o = 5 then ⟨wd,false,0,0,0,0,false,setR xs rd (reckF o (regI xs r1) (regI xs r2)).1,pc4 pc,f⟩
 else if formF o = 2 ∨ formF o = 6 then ⟨wd,false,0,0,0,0,false,setR xs rd (reckF o (regI xs r1) im).1,pc4 pc,f⟩
 else if formF o = 8 ∨ formF o = 9 then ⟨wd,true,2,wd,0,0,false,xs,pc,f⟩
 else sysR xs pc f wd o (pc4 pc)
noncomputable def do5F (xs : List Value) (pc : Int) (cf : List Value) (f : Nat → Int) (wd : Int) (p : In5) : Rz := doF xs pc cf f wd p.1 p.2.1 p.2.2.1 p.2.2.2.1 p.2.2.2.2
noncomputable def stepF (xs : List Value) (pc : Int) (cf : List Value) (f : Nat → Int) : Rz :=
 if pc.tmod 4 ≠ 0 then ⟨0,true,0,pc,0,0,false,xs,pc,f⟩
 else if inM pc 4 then (if mayG cf pc 4 4 = true then do5F xs pc cf f (loadX f (pc - 2147483648).toNat 4) (decF (loadX f (pc - 2147483648).toNat 4)) else ⟨0,true,1,pc,0,0,false,xs,pc,f⟩)
 else ⟨0,true,1,pc,0,0,false,xs,pc,f⟩
def OutR (w' : World) (h cf cM : Nat) (pc : Int) (F : Fs) (R : Rz) (v : Value) : Prop :=
 v = R.v ∧ ((R.tr = true ∧ TrapP w' h cf cM R.xs pc F R.f R.c1 R.tl) ∨ (R.tr = false ∧ SS w' h cf cM R.xs R.pc (F.tick true) R.f))
theorem OutR.hp {w w0 w' : World} {H : List Blk} {h cf cM : Nat} {pc : Int} {F : Fs} {R : Rz} {v : Value} (k : OutR w h cf cM pc F R v) (hq : Hp w H w') (hw : h < w0.heap.size ∧ cf < w0.heap.size ∧ cM < w0.heap.size ∧ 0 < w0.heap.size) (hH : ∀ x ∈ H,w0.heap.size ≤ x.b) : OutR w' h cf cM pc F R v :=
 ⟨k.1,k.2.imp (fun k => ⟨k.1,k.2.hp hq hw hH⟩) fun k => ⟨k.1,k.2.hp hq hw hH⟩⟩
theorem SS.regI {w : World} {h cf cM : Nat} {xs : List Value} {pc : Int} {F : Fs} {f : Nat → Int} (k : SS w h cf cM xs pc F f) {r : Int} (hr : 0 ≤ r ∧ r < 32) : w.cell? ⟨h,0 + r.toNat * 1,none⟩ = some (.int .u32 (regI xs r)) ∧ 0 ≤ regI xs r ∧ regI xs r < 4294967296 := by
 obtain ⟨z,hz,h0,h1⟩ := k.2.2.2.1.2 r.toNat ky
 have e : Go.Proofs.YtabbklpalbikdaaGreatDoor.regI xs r = z := by unfold Go.Proofs.YtabbklpalbikdaaGreatDoor.regI;rw [hz]
 rw [e]
 refine ⟨cell_of k.1.2 ?_,h0,h1⟩
 rw [Nat.zero_add,Nat.mul_one,List.getElem?_append_left (by have := k.1.1;omega)]
 exact hz
theorem sysU2 (h cf cM : Nat) (xs : List Value) (pc wd o rd r1 r2 im nx : Int) (F : Fs) (f : Nat → Int) (w : World) (hS : SS w h cf cM xs pc F f) (hmd : F.md = 0) (hnx : 0 ≤ nx ∧ nx < 4294967296) :
  Calls Tryz.prog 156 #[.pointer (some ⟨h,0,none⟩),.agg #[.int .u32 wd,.bool false,.int .u32 0,.int .u32 0,.int .u32 0,.int .i64 0,.bool false],.agg #[.int .i64 o,.int .i64 rd,.int .i64 r1,.int .i64 r2,.int .u32 im],.int .u32 nx] w fun e w' => ∃ v,e = .returned v ∧ OutR w' h cf cM pc F (sysR xs pc f wd o nx) v ∧ Upd (fun k => k = h ∨ k = cf ∨ k = cM) w w' := by
 have hw := hS.lts
 have hu0 : Upd (Mv h cf cM w.heap.size) w w := Upd.refl _ _
 obtain ⟨c32,c33,c34⟩ := hS.1.at1
 obtain ⟨l1,l2,l3,l4⟩ := hS.lts
 have m0 : w.cell? ⟨cf,0,none⟩ = some (.int .i64 F.md) := hS.2.1.ff.two
 rw [hmd] at m0
 refine enter (args := [_,_,_,_]) (Γ := [(0,_),(1,_),(2,_),(3,_)]) Tryz.func156 Tryz.ntmps156 rfl odq (.cons rfl (.cons rfl (.cons rfl (.cons rfl .nil)))) ?_
 repeat' first | (apply Wl.callS (f := 113) (w0 := w);exact rfl;exact ke;assumption;assumption;exact hw;(simp only [List.mem_cons,List.not_mem_nil,or_false,forall_eq_or_imp,forall_eq];omega);(intro wq hSq;exact htrapS h cf cM _ _ F _ _ _ _ _ _ _ _ _ _ wq hSq hmd);(rintro v w1 ⟨rfl,hT1⟩ hu1;have hz1 := hu1.size)) | (apply Wl.callS (f := 157) (w0 := w);exact rfl;exact ke;assumption;assumption;exact hw;(simp only [List.mem_cons,List.not_mem_nil,or_false,forall_eq_or_imp,forall_eq];omega);(intro wq hSq;exact hdoneS h cf cM _ _ _ F _ _ _ _ _ _ _ _ wq hSq qd);(rintro v w1 ⟨rfl,hS1⟩ hu1;have hz1 := hu1.size)) | (apply St.bagX 6 [];exact mixed;(decide +kernel);kernel_rfl) | (apply Wl.loadO;exact rfl;exact rfl;exact zw;exact qy) | apply OpsX.nil | (apply OpsX.v;(intro X hX;change Wl [_] _ _ _ _ _ _ _;apply Wl.catX;exact ke)) | (apply Gt.endX;exact rfl) | (apply EndX.on;exact rfl) | (apply EndX.off;exact rfl) | (apply EndX.nil';apply Wl.catE;exact ke) | (apply Gt.outC';exact rfl;infer_instance;exact rfl;exact ke;exact ke;intro w' hp) | refine Wl.move rfl rfl ?_ | refine Wl.assign rfl rfl ?_ | (apply Wl.on;exact rfl;exact rfl;exact ka) | (apply Wl.off;exact rfl;exact rfl;exact rfl;exact kq) | refine Wl.nilCheck rfl rfl ?_ | (apply Wl.pickT;exact rfl;exact rfl;exact ka;exact rfl) | (apply Wl.pickF;exact rfl;exact rfl;exact ka;exact rfl) | refine Wl.fieldAddr0 rfl rfl ?_ | refine Wl.fieldAddrZ rfl rfl ?_ | (apply Wl.loadH;exact rfl;exact rfl;exact ke;exact rfl) | (apply Wl.eqlIs;exact rfl;exact rfl;exact rfl;exact kv) | refine Wl.eql rfl rfl rfl ?_ | (apply Wl.storeA;exact rfl;exact rfl;exact rfl;exact rfl;exact ke;exact kf) | (apply Wl.loadAH;exact rfl;exact rfl;exact ke;exact ke) | (apply Wl.boxA;exact rfl;exact rfl;intro c hc ho) | (apply Wl.alloc;exact rfl;intro c hc ho) | apply Wl.nil | apply St.seq | apply St.block | apply St.region | (apply St.condT;exact rfl;exact ka) | (apply St.condF;exact rfl;exact ka) | apply St.ret | apply St.skip | apply Gt.next | apply Gt.thenRet | apply Gt.inNormal | apply Gt.inRet | (apply Wl.splitP;exact rfl;exact rfl;all_goals (intros;try (exfalso;omega))) | (apply St.condP;exact rfl;all_goals (intros;try (exfalso;omega)))
 all_goals (refine ⟨_,rfl,?_,finU hu1 hp kb⟩;(try rw [hfd]);unfold sysR;(try rw [hm]);(try rw [hm1]);(try rw [hm2]);(repeat' split) <;> first | contradiction | (exfalso;omega) | exact ⟨rfl,.inl ⟨rfl,hT1.hp hp hw kb⟩⟩ | exact ⟨rfl,.inr ⟨rfl,hS1.hp hp hw kb⟩⟩)
theorem memU2 (h cf cM : Nat) (xs : List Value) (pc wd o rd r1 r2 im at_ b : Int) (F : Fs) (f : Nat → Int) (w : World) (hS : SS w h cf cM xs pc F f) (hmd : F.md = 0) (hR : InstR rd r1 r2 im) (hat : 0 ≤ at_ ∧ at_ < 4294967296) (hn : W124 (widthF o)) :
  Calls Tryz.prog 153 #[.pointer (some ⟨h,0,none⟩),.agg #[.int .u32 wd,.bool false,.int .u32 0,.int .u32 0,.int .u32 0,.int .i64 0,.bool false],.agg #[.int .i64 o,.int .i64 rd,.int .i64 r1,.int .i64 r2,.int .u32 im],.int .u32 at_,.int .u32 b] w fun e w' => ∃ v,e = .returned v ∧ OutR w' h cf cM pc F (memF xs pc F.cf f wd o rd at_ b) v ∧ Upd (fun k => k = h ∨ k = cf ∨ k = cM) w w' := by
 obtain ⟨k1,k2,k3,k4⟩ := id hR
 have hw := hS.lts
 have hu0 : Upd (Mv h cf cM w.heap.size) w w := Upd.refl _ _
 obtain ⟨c32,c33,c34⟩ := hS.1.at1
 obtain ⟨l1,l2,l3,l4⟩ := hS.lts
 have m0 : w.cell? ⟨cf,0,none⟩ = some (.int .i64 F.md) := hS.2.1.ff.two
 rw [hmd] at m0
 have hn14 : 1 ≤ widthF o ∧ widthF o ≤ 4 := by unfold W124 at hn;omega
 have hSQ : ∀ {H : List Blk} {wq : World},Hp w H wq → (hH : ∀ x ∈ H,w.heap.size ≤ x.b := by simp only [List.mem_cons,List.not_mem_nil,or_false,forall_eq_or_imp,forall_eq];omega) → SS wq h cf cM xs pc F f := fun hq hH => hS.hp hq hw hH
 have hWr := widenF_rng o _ (loadX_rng f (at_ - 2147483648).toNat (widthF o).toNat)
 have hMay : ∀ (r : Int) (wq : World),SS wq h cf cM xs pc F f → Calls Tryz.prog 115 #[.pointer (some ⟨cf,0,none⟩),.int .u32 at_,.int .i64 (widthF o),.int .i64 r] wq fun e w' => e = .returned (.bool (mayG F.cf at_ (widthF o) r)) ∧ Hp wq [] w' := fun r wq hs => may1Y cf F at_ (widthF o) r wq hs.2.1 hmd hs.2.2.2.2.2.2.1
 refine enter (args := [_,_,_,_,_]) (Γ := [(0,_),(1,_),(2,_),(3,_),(4,_)]) Tryz.func153 Tryz.ntmps153 rfl odq (.cons rfl (.cons rfl (.cons rfl (.cons rfl (.cons rfl .nil))))) ?_
 generalize hm1 : mayG F.cf at_ (widthF o) 1 = m1 at *
 generalize hm2 : mayG F.cf at_ (widthF o) 2 = m2 at *
 have hMay1 : ∀ (wq : World),SS wq h cf cM xs pc F f → Calls Tryz.prog 115 #[.pointer (some ⟨cf,0,none⟩),.int .u32 at_,.int .i64 (widthF o),.int .i64 1] wq fun e w' => e = .returned (.bool m1) ∧ Hp wq [] w' := fun wq hs => by rw [← hm1];exact hMay 1 wq hs
 have hMay2 : ∀ (wq : World),SS wq h cf cM xs pc F f → Calls Tryz.prog 115 #[.pointer (some ⟨cf,0,none⟩),.int .u32 at_,.int .i64 (widthF o),.int .i64 2] wq fun e w' => e = .returned (.bool m2) ∧ Hp wq [] w' := fun wq hs => by rw [← hm2];exact hMay 2 wq hs
 clear hMay
 by_cases hfv : formF o = 4
 ·have hfd : decide (formF o = 4) = true := decide_eq_true hfv
  by_cases hin : inM at_ (widthF o)
  ·obtain ⟨bi,hbt,hbi⟩ : ∃ b : Bool,b = true ∧ (b = true ↔ inM at_ (widthF o)) := ⟨true,rfl,fun _ => hin,fun _ => rfl⟩
   have hbn : (!bi) = false := by rw [hbt];rfl
   cases m2
   all_goals
    repeat' first | (apply Wl.callQ (f := 152);exact rfl;exact ke;exact jd) | (apply Wl.callQ (f := 149);exact rfl;exact ke;exact je) | (apply Wl.callS (f := 113) (w0 := w);exact rfl;exact ke;assumption;assumption;exact hw;(simp only [List.mem_cons,List.not_mem_nil,or_false,forall_eq_or_imp,forall_eq];omega);(intro wq hSq;exact htrapS h cf cM _ _ F _ _ _ _ _ _ _ _ _ _ wq hSq hmd);(rintro v w1 ⟨rfl,hT1⟩ hu1;have hz1 := hu1.size)) | (apply Wl.callS (f := 157) (w0 := w);exact rfl;exact ke;assumption;assumption;exact hw;(simp only [List.mem_cons,List.not_mem_nil,or_false,forall_eq_or_imp,forall_eq];omega);(intro wq hSq;exact hdoneS h cf cM _ _ _ F _ _ _ _ _ _ _ _ wq hSq qd);(rintro v w1 ⟨rfl,hS1⟩ hu1;have hz1 := hu1.size)) | (apply Wl.callS (f := 51) (w0 := w);exact rfl;exact ke;assumption;assumption;exact hw;(simp only [List.mem_cons,List.not_mem_nil,or_false,forall_eq_or_imp,forall_eq];omega);(intro wq hSq;exact mstoreS h cf cM _ _ _ _ _ F _ wq hSq hat hn hin);(rintro v w2 ⟨⟨z_,rfl⟩,hS2⟩ hu2;have hz2 := hu2.size;obtain ⟨e32,e33,e34⟩ := hS2.1.at1)) | (apply Wl.callQ (f := 76);exact rfl;exact ke;exact qw) | (apply Wl.callQ (f := 115);exact rfl;exact ke;(intro wq hq;exact hq.q (hMay2 wq (hSQ hq)))) | (apply St.bagX (i := 15) 7 [];exact mixed;(decide +kernel);kernel_rfl) | (apply Wl.loadO;exact rfl;exact rfl;exact zw;exact zj) | apply OpsX.nil | (apply OpsX.v;(intro X hX;change Wl [_] _ _ _ _ _ _ _;apply Wl.catX;exact ke)) | (apply Gt.endX;exact rfl) | (apply EndX.on;exact rfl) | (apply EndX.off;exact rfl) | (apply EndX.nil';apply Wl.catE;exact ke) | (apply Gt.outC';exact rfl;infer_instance;exact rfl;exact ke;exact ke;intro w' hp) | refine Wl.move rfl rfl ?_ | refine Wl.assign rfl rfl ?_ | (apply Wl.on;exact rfl;exact rfl;exact ka) | refine Wl.nilCheck rfl rfl ?_ | (apply Wl.pickF;exact rfl;exact rfl;exact ka;exact rfl) | refine Wl.not rfl rfl ?_ | refine Wl.fieldAddr0 rfl rfl ?_ | refine Wl.fieldAddrZ rfl rfl ?_ | (apply Wl.loadH;exact rfl;exact rfl;exact ke;exact rfl) | (apply Wl.eqlIs;exact rfl;exact rfl;exact rfl;exact kv) | refine Wl.neq rfl rfl rfl ?_ | refine Wl.add rfl rfl rfl ?_ | (apply Wl.rem;exact rfl;exact rfl;exact rfl;exact qx) | (refine Wl.convU32 rfl rfl ?_ ?_;constructor <;> omega) | (apply Wl.store;exact rfl;exact rfl;exact rfl;exact ke;exact kx) | (apply Wl.storeA;exact rfl;exact rfl;exact rfl;exact rfl;exact ke;exact kf) | (apply Wl.loadAH;exact rfl;exact rfl;exact ke;exact ke) | (apply Wl.boxA;exact rfl;exact rfl;intro c hc ho) | (apply Wl.alloc;exact rfl;intro c hc ho) | apply Wl.nil | apply St.seq | apply St.block | apply St.region | (apply St.condT;exact rfl;exact ka) | (apply St.condF;exact rfl;exact ka) | apply St.ret | apply Gt.next | apply Gt.thenRet | apply Gt.inNormal | apply Gt.inRet | (apply St.condP;exact rfl;all_goals (intros;try (exfalso;omega)))
    all_goals (refine ⟨_,rfl,?_,finU hu1 hp kb⟩;(try rw [hfd]);unfold memF;(try rw [hm]);(try rw [hm1]);(try rw [hm2]);(repeat' split) <;> first | contradiction | (exfalso;omega) | exact ⟨rfl,.inl ⟨rfl,hT1.hp hp hw kb⟩⟩ | exact ⟨rfl,.inr ⟨rfl,hS1.hp hp hw kb⟩⟩)
  ·obtain ⟨bi,hbt,hbi⟩ : ∃ b : Bool,b = false ∧ (b = true ↔ inM at_ (widthF o)) := ⟨false,rfl,fun h => (by cases h),fun h => (hin h).elim⟩
   have hbn : (!bi) = true := by rw [hbt];rfl
   repeat' first | (apply Wl.callQ (f := 152);exact rfl;exact ke;exact jd) | (apply Wl.callQ (f := 149);exact rfl;exact ke;exact je) | (apply Wl.callS (f := 113) (w0 := w);exact rfl;exact ke;assumption;assumption;exact hw;(simp only [List.mem_cons,List.not_mem_nil,or_false,forall_eq_or_imp,forall_eq];omega);(intro wq hSq;exact htrapS h cf cM _ _ F _ _ _ _ _ _ _ _ _ _ wq hSq hmd);(rintro v w1 ⟨rfl,hT1⟩ hu1;have hz1 := hu1.size)) | (apply Wl.callQ (f := 76);exact rfl;exact ke;exact qw) | (apply Wl.loadO;exact rfl;exact rfl;exact zw;exact zj) | (apply Gt.outC';exact rfl;infer_instance;exact rfl;exact ke;exact ke;intro w' hp) | refine Wl.move rfl rfl ?_ | refine Wl.assign rfl rfl ?_ | (apply Wl.off;exact rfl;exact rfl;exact rfl;exact kq) | refine Wl.nilCheck rfl rfl ?_ | (apply Wl.pickT;exact rfl;exact rfl;exact ka;exact rfl) | refine Wl.not rfl rfl ?_ | refine Wl.fieldAddr0 rfl rfl ?_ | refine Wl.fieldAddrZ rfl rfl ?_ | (apply Wl.loadH;exact rfl;exact rfl;exact ke;exact rfl) | (apply Wl.eqlIs;exact rfl;exact rfl;exact rfl;exact kv) | refine Wl.neq rfl rfl rfl ?_ | (apply Wl.rem;exact rfl;exact rfl;exact rfl;exact qx) | (refine Wl.convU32 rfl rfl ?_ ?_;constructor <;> omega) | (apply Wl.store;exact rfl;exact rfl;exact rfl;exact ke;exact kx) | (apply Wl.storeA;exact rfl;exact rfl;exact rfl;exact rfl;exact ke;exact kf) | (apply Wl.loadAH;exact rfl;exact rfl;exact ke;exact ke) | (apply Wl.boxA;exact rfl;exact rfl;intro c hc ho) | (apply Wl.alloc;exact rfl;intro c hc ho) | apply Wl.nil | apply St.seq | apply St.block | apply St.region | (apply St.condT;exact rfl;exact ka) | apply St.ret | apply Gt.next | apply Gt.thenRet | apply Gt.inRet | (apply St.condP;exact rfl;all_goals (intros;try (exfalso;omega)))
   all_goals (refine ⟨_,rfl,?_,finU hu1 hp kb⟩;(try rw [hfd]);unfold memF;(try rw [hm]);(try rw [hm1]);(try rw [hm2]);(repeat' split) <;> first | contradiction | (exfalso;omega) | exact ⟨rfl,.inl ⟨rfl,hT1.hp hp hw kb⟩⟩ | exact ⟨rfl,.inr ⟨rfl,hS1.hp hp hw kb⟩⟩)
 ·have hfd : decide (formF o = 4) = false := decide_eq_false hfv
  by_cases hin : inM at_ (widthF o)
  ·obtain ⟨bi,hbt,hbi⟩ : ∃ b : Bool,b = true ∧ (b = true ↔ inM at_ (widthF o)) := ⟨true,rfl,fun _ => hin,fun _ => rfl⟩
   have hbn : (!bi) = false := by rw [hbt];rfl
   cases m1
   all_goals
    repeat' first | (apply Wl.callQ (f := 152);exact rfl;exact ke;exact jd) | (apply Wl.callQ (f := 149);exact rfl;exact ke;exact je) | (apply Wl.callS (f := 113) (w0 := w);exact rfl;exact ke;assumption;assumption;exact hw;(simp only [List.mem_cons,List.not_mem_nil,or_false,forall_eq_or_imp,forall_eq];omega);(intro wq hSq;exact htrapS h cf cM _ _ F _ _ _ _ _ _ _ _ _ _ wq hSq hmd);(rintro v w1 ⟨rfl,hT1⟩ hu1;have hz1 := hu1.size)) | (apply Wl.callS (f := 157) (w0 := w);exact rfl;exact ke;assumption;assumption;exact hw;(simp only [List.mem_cons,List.not_mem_nil,or_false,forall_eq_or_imp,forall_eq];omega);(intro wq hSq;exact hdoneS h cf cM _ _ _ F _ _ _ _ _ _ _ _ wq hSq qd);(rintro v w1 ⟨rfl,hS1⟩ hu1;have hz1 := hu1.size)) | (apply Wl.callS (f := 150) (w0 := w);exact rfl;exact ke;assumption;assumption;exact hw;(simp only [List.mem_cons,List.not_mem_nil,or_false,forall_eq_or_imp,forall_eq];omega);(intro wq hSq;exact hsetS h cf cM _ _ _ _ F _ wq hSq (by first | assumption | omega) qd);(rintro v w2 ⟨rfl,hS2⟩ hu2;have hz2 := hu2.size;obtain ⟨e32,e33,e34⟩ := hS2.1.at1)) | (apply Wl.callQ (f := 76);exact rfl;exact ke;exact qw) | (apply Wl.callQ (f := 115);exact rfl;exact ke;(intro wq hq;exact hq.q (hMay1 wq (hSQ hq)))) | (apply Wl.callQ (f := 114);exact rfl;exact ke;(intro wq hq;exact hq.q (mloadP cM at_ (widthF o) f wq hat hn hin (hSQ hq).2.2.1))) | (apply Wl.callQ (f := 192);exact rfl;exact ke;(intro wq hq;exact hq.q (widenX _ _ wq (loadX_rng _ _ _)))) | (apply St.bagX (i := 8) 7 [];exact mixed;(decide +kernel);kernel_rfl) | (apply St.bagX (i := 15) 7 [];exact mixed;(decide +kernel);kernel_rfl) | (apply Wl.loadO;exact rfl;exact rfl;exact zw;exact zj) | apply OpsX.nil | (apply OpsX.v;(intro X hX;change Wl [_] _ _ _ _ _ _ _;apply Wl.catX;exact ke)) | (apply Gt.endX;exact rfl) | (apply EndX.on;exact rfl) | (apply EndX.off;exact rfl) | (apply EndX.nil';apply Wl.catE;exact ke) | (apply Gt.outC';exact rfl;infer_instance;exact rfl;exact ke;exact ke;intro w' hp) | refine Wl.move rfl rfl ?_ | refine Wl.assign rfl rfl ?_ | (apply Wl.on;exact rfl;exact rfl;exact ka) | refine Wl.extract rfl rfl rfl ?_ | refine Wl.nilCheck rfl rfl ?_ | (apply Wl.pickF;exact rfl;exact rfl;exact ka;exact rfl) | refine Wl.not rfl rfl ?_ | refine Wl.fieldAddr0 rfl rfl ?_ | refine Wl.fieldAddrZ rfl rfl ?_ | (apply Wl.loadH;exact rfl;exact rfl;exact ke;exact rfl) | refine Wl.eql rfl rfl rfl ?_ | refine Wl.neq rfl rfl rfl ?_ | refine Wl.add rfl rfl rfl ?_ | (apply Wl.rem;exact rfl;exact rfl;exact rfl;exact qx) | (refine Wl.convU32 rfl rfl ?_ ?_;constructor <;> omega) | (apply Wl.store;exact rfl;exact rfl;exact rfl;exact ke;exact kx) | (apply Wl.storeA;exact rfl;exact rfl;exact rfl;exact rfl;exact ke;exact kf) | (apply Wl.loadAH;exact rfl;exact rfl;exact ke;exact ke) | (apply Wl.boxA;exact rfl;exact rfl;intro c hc ho) | (apply Wl.alloc;exact rfl;intro c hc ho) | apply Wl.nil | apply St.seq | apply St.block | apply St.region | (apply St.condT;exact rfl;exact ka) | (apply St.condF;exact rfl;exact ka) | apply St.ret | apply St.skip | apply Gt.next | apply Gt.thenRet | apply Gt.inNormal | apply Gt.inRet | (apply St.condP;exact rfl;all_goals (intros;try (exfalso;omega)))
    all_goals (refine ⟨_,rfl,?_,finU hu1 hp kb⟩;(try rw [hfd]);unfold memF;(try rw [hm]);(try rw [hm1]);(try rw [hm2]);(repeat' split) <;> first | contradiction | (exfalso;omega) | exact ⟨rfl,.inl ⟨rfl,hT1.hp hp hw kb⟩⟩ | exact ⟨rfl,.inr ⟨rfl,hS1.hp hp hw kb⟩⟩)
  ·obtain ⟨bi,hbt,hbi⟩ : ∃ b : Bool,b = false ∧ (b = true ↔ inM at_ (widthF o)) := ⟨false,rfl,fun h => (by cases h),fun h => (hin h).elim⟩
   have hbn : (!bi) = true := by rw [hbt];rfl
   repeat' first | (apply Wl.callQ (f := 152);exact rfl;exact ke;exact jd) | (apply Wl.callQ (f := 149);exact rfl;exact ke;exact je) | (apply Wl.callS (f := 113) (w0 := w);exact rfl;exact ke;assumption;assumption;exact hw;(simp only [List.mem_cons,List.not_mem_nil,or_false,forall_eq_or_imp,forall_eq];omega);(intro wq hSq;exact htrapS h cf cM _ _ F _ _ _ _ _ _ _ _ _ _ wq hSq hmd);(rintro v w1 ⟨rfl,hT1⟩ hu1;have hz1 := hu1.size)) | (apply Wl.callQ (f := 76);exact rfl;exact ke;exact qw) | (apply Wl.loadO;exact rfl;exact rfl;exact zw;exact zj) | (apply Gt.outC';exact rfl;infer_instance;exact rfl;exact ke;exact ke;intro w' hp) | refine Wl.move rfl rfl ?_ | refine Wl.assign rfl rfl ?_ | (apply Wl.off;exact rfl;exact rfl;exact rfl;exact kq) | refine Wl.nilCheck rfl rfl ?_ | (apply Wl.pickT;exact rfl;exact rfl;exact ka;exact rfl) | refine Wl.not rfl rfl ?_ | refine Wl.fieldAddr0 rfl rfl ?_ | refine Wl.fieldAddrZ rfl rfl ?_ | (apply Wl.loadH;exact rfl;exact rfl;exact ke;exact rfl) | refine Wl.eql rfl rfl rfl ?_ | refine Wl.neq rfl rfl rfl ?_ | (apply Wl.rem;exact rfl;exact rfl;exact rfl;exact qx) | (refine Wl.convU32 rfl rfl ?_ ?_;constructor <;> omega) | (apply Wl.store;exact rfl;exact rfl;exact rfl;exact ke;exact kx) | (apply Wl.storeA;exact rfl;exact rfl;exact rfl;exact rfl;exact ke;exact kf) | (apply Wl.loadAH;exact rfl;exact rfl;exact ke;exact ke) | (apply Wl.boxA;exact rfl;exact rfl;intro c hc ho) | (apply Wl.alloc;exact rfl;intro c hc ho) | apply Wl.nil | apply St.seq | apply St.block | apply St.region | (apply St.condT;exact rfl;exact ka) | (apply St.condF;exact rfl;exact ka) | apply St.ret | apply St.skip | apply Gt.next | apply Gt.thenRet | apply Gt.inRet | (apply St.condP;exact rfl;all_goals (intros;try (exfalso;omega)))
   all_goals (refine ⟨_,rfl,?_,finU hu1 hp kb⟩;(try rw [hfd]);unfold memF;(try rw [hm]);(try rw [hm1]);(try rw [hm2]);(repeat' split) <;> first | contradiction | (exfalso;omega) | exact ⟨rfl,.inl ⟨rfl,hT1.hp hp hw kb⟩⟩ | exact ⟨rfl,.inr ⟨rfl,hS1.hp hp hw kb⟩⟩)
theorem doU2 (h cf cM : Nat) (xs : List Value) (pc wd o rd r1 r2 im : Int) (F : Fs) (f : Nat → Int) (w : World) (hS : SS w h cf cM xs pc F f) (hmd : F.md = 0) (hR : InstR rd r1 r2 im) :
  Calls Tryz.prog 116 #[.pointer (some ⟨h,0,none⟩),.agg #[.int .u32 wd,.bool false,.int .u32 0,.int .u32 0,.int .u32 0,.int .i64 0,.bool false],.agg #[.int .i64 o,.int .i64 rd,.int .i64 r1,.int .i64 r2,.int .u32 im]] w fun e w' => ∃ v,e = .returned v ∧ OutR w' h cf cM pc F (doF xs pc F.cf f wd o rd r1 r2 im) v ∧ Upd (fun k => k = h ∨ k = cf ∨ k = cM) w w' := by
 obtain ⟨k1,k2,k3,k4⟩ := id hR
 have hw := hS.lts
 have hu0 : Upd (Mv h cf cM w.heap.size) w w := Upd.refl _ _
 obtain ⟨c32,c33,c34⟩ := hS.1.at1
 obtain ⟨l1,l2,l3,l4⟩ := hS.lts
 have m0 : w.cell? ⟨cf,0,none⟩ = some (.int .i64 F.md) := hS.2.1.ff.two
 rw [hmd] at m0
 have hSQ : ∀ {H : List Blk} {wq : World},Hp w H wq → (hH : ∀ x ∈ H,w.heap.size ≤ x.b := by simp only [List.mem_cons,List.not_mem_nil,or_false,forall_eq_or_imp,forall_eq];omega) → SS wq h cf cM xs pc F f := fun hq hH => hS.hp hq hw hH
 obtain ⟨hza,ra⟩ := hS.regI k2
 obtain ⟨hzb,rb⟩ := hS.regI k3
 have hn := widthF_rng o
 refine enter (args := [_,_,_]) (Γ := [(0,_),(1,_),(2,_)]) Tryz.func116 Tryz.ntmps116 rfl odq (.cons rfl (.cons rfl (.cons rfl .nil))) ?_
 repeat' first | (apply Wl.callQ (f := 149);exact rfl;exact ke;exact je) | (apply Wl.callQ (f := 152);exact rfl;exact ke;exact jd) | (apply Wl.callQ (f := 151);exact rfl;exact ke;(intro wq hq;exact hq.q (goesX _ _ _ wq))) | (apply Wl.callQ (f := 154);exact rfl;exact ke;(intro wq hq;exact hq.q (reckX _ _ _ wq qg qg))) | (apply Wl.callS (f := 113) (w0 := w);exact rfl;exact ke;assumption;assumption;exact hw;(simp only [List.mem_cons,List.not_mem_nil,or_false,forall_eq_or_imp,forall_eq];omega);(intro wq hSq;exact htrapS h cf cM _ _ F _ _ _ _ _ _ _ _ _ _ wq hSq hmd);(rintro v w1 ⟨rfl,hT1⟩ hu1;have hz1 := hu1.size)) | (apply Wl.callS (f := 157) (w0 := w);exact rfl;exact ke;assumption;assumption;exact hw;(simp only [List.mem_cons,List.not_mem_nil,or_false,forall_eq_or_imp,forall_eq];omega);(intro wq hSq;exact hdoneS h cf cM _ _ _ F _ _ _ _ _ _ _ _ wq hSq qd);(rintro v w1 ⟨rfl,hS1⟩ hu1;have hz1 := hu1.size)) | (apply Wl.callS (f := 150) (w0 := w);exact rfl;exact ke;assumption;assumption;exact hw;(simp only [List.mem_cons,List.not_mem_nil,or_false,forall_eq_or_imp,forall_eq];omega);(intro wq hSq;exact hsetS h cf cM _ _ _ _ F _ wq hSq (by first | assumption | omega) (by first | assumption | exact wr32 _ | exact br32 _ _ _ | exact reckF_rng _ _ _ qg));(rintro v w2 ⟨rfl,hS2⟩ hu2;have hz2 := hu2.size;obtain ⟨e32,e33,e34⟩ := hS2.1.at1)) | (apply Wl.callS (f := 153) (w0 := w);exact rfl;exact ke;assumption;assumption;exact hw;(simp only [List.mem_cons,List.not_mem_nil,or_false,forall_eq_or_imp,forall_eq];omega);(intro wq hSq;exact memU2 h cf cM _ _ _ _ _ _ _ _ _ _ F _ wq hSq hmd hR (by exact wr32 _) (by unfold W124 at hn ⊢;omega));(rintro v w1 ⟨rfl,hO⟩ hu1;have hz1 := hu1.size)) | (apply Wl.callS (f := 156) (w0 := w);exact rfl;exact ke;assumption;assumption;exact hw;(simp only [List.mem_cons,List.not_mem_nil,or_false,forall_eq_or_imp,forall_eq];omega);(intro wq hSq;exact sysU2 h cf cM _ _ _ _ _ _ _ _ _ F _ wq hSq hmd (by exact wr32 _));(rintro v w1 ⟨rfl,hO⟩ hu1;have hz1 := hu1.size)) | (apply Wl.callQ (f := 155);exact rfl;exact ke;(intro wq hq;exact hq.q (regU h cf cM _ _ _ _ _ _ _ _ F _ wq (hSQ hq) hmd hR))) | (apply St.bagX (i := 7) 8 [];exact mixed;(decide +kernel);kernel_rfl) | (apply Wl.loadO;exact rfl;exact rfl;exact zw;exact zj) | apply OpsX.nil | (apply OpsX.v;(intro X hX;change Wl [_] _ _ _ _ _ _ _;apply Wl.catX;exact ke)) | (apply Gt.endX;exact rfl) | (apply EndX.on;exact rfl) | (apply EndX.off;exact rfl) | (apply EndX.nil';apply Wl.catE;exact ke) | (apply Gt.outC';exact rfl;infer_instance;exact rfl;exact ke;exact ke;intro w' hp) | refine Wl.move rfl rfl ?_ | refine Wl.assign rfl rfl ?_ | (apply Wl.on;exact rfl;exact rfl;exact ka) | (apply Wl.off;exact rfl;exact rfl;exact rfl;exact kq) | refine Wl.extract rfl rfl rfl ?_ | refine Wl.nilCheck rfl rfl ?_ | (apply Wl.pickT;exact rfl;exact rfl;exact ka;exact rfl) | (apply Wl.pickF;exact rfl;exact rfl;exact ka;exact rfl) | refine Wl.not rfl rfl ?_ | refine Wl.fieldAddr0 rfl rfl ?_ | refine Wl.fieldAddrZ rfl rfl ?_ | (apply Wl.loadH;exact rfl;exact rfl;exact ke;exact rfl) | (apply Wl.eqlIs;exact rfl;exact rfl;exact rfl;exact kv) | refine Wl.eql rfl rfl rfl ?_ | refine Wl.neq rfl rfl rfl ?_ | refine Wl.gtr rfl rfl rfl ?_ | refine Wl.add rfl rfl rfl ?_ | (apply Wl.rem;exact rfl;exact rfl;exact rfl;exact qx) | refine Wl.andNot rfl rfl rfl ?_ | (apply Wl.store;exact rfl;exact rfl;exact rfl;exact ke;exact kx) | (apply Wl.storeA;exact rfl;exact rfl;exact rfl;exact rfl;exact ke;exact kf) | (apply Wl.loadAH;exact rfl;exact rfl;exact ke;exact ke) | (apply Wl.boxA;exact rfl;exact rfl;intro c hc ho) | (apply Wl.alloc;exact rfl;intro c hc ho) | (refine Wl.indexArr rfl rfl rfl ?_ ?_;constructor <;> omega) | apply Wl.nil | apply Wl.nilQ | apply St.seq | apply St.block | apply St.region | (apply St.draw;exact mixed;(kernel_rfl);exact (fun _ h => Hp.drew h)) | (apply St.condT;exact rfl;exact ka) | apply St.ret | apply St.skip | apply Gt.next | apply Gt.thenRet | apply Gt.inNormal | apply Gt.inRet | (apply Wl.splitP;exact rfl;exact rfl;all_goals (intros;try (exfalso;omega))) | (apply St.condP;exact rfl;all_goals (intros;try (exfalso;omega))) | (apply St.condB;exact rfl;all_goals intros)
 all_goals (refine ⟨_,rfl,?_,finU hu1 hp kb⟩;(try rw [hfd]);unfold doF;(try rw [hm]);(try rw [hm1]);(try rw [hm2]);(repeat' split) <;> first | contradiction | (exfalso;omega) | exact ⟨rfl,.inl ⟨rfl,hT1.hp hp hw kb⟩⟩ | exact ⟨rfl,.inr ⟨rfl,hS1.hp hp hw kb⟩⟩ | (exfalso;exact Bool.noConfusion ((‹(goesF o (regI xs r1) (regI xs r2)).1 = false›).symm.trans ‹(goesF o (regI xs r1) (regI xs r2)).1 = true›)) | exact OutR.hp (v := Rz.v _) ⟨rfl,hO⟩ hp hw kb)
theorem stepX (h cf cM : Nat) (xs : List Value) (pc : Int) (F : Fs) (f : Nat → Int) (w : World) (hS : SS w h cf cM xs pc F f) (hmd : F.md = 0) (hdv : dueOf F.md F.st F.mie F.mip = false) :
  Calls Tryz.prog 63 #[.pointer (some ⟨h,0,none⟩)] w fun e w' => ∃ v,e = .returned v ∧ OutR w' h cf cM pc F (stepF xs pc F.cf f) v ∧ Upd (fun k => k = h ∨ k = cf ∨ k = cM) w w' := by
 have hw := hS.lts
 have hu0 : Upd (Mv h cf cM w.heap.size) w w := Upd.refl _ _
 obtain ⟨c32,c33,c34⟩ := hS.1.at1
 obtain ⟨l1,l2,l3,l4⟩ := hS.lts
 have m0 : w.cell? ⟨cf,0,none⟩ = some (.int .i64 F.md) := hS.2.1.ff.two
 rw [hmd] at m0
 have hSQ : ∀ {H : List Blk} {wq : World},Hp w H wq → (hH : ∀ x ∈ H,w.heap.size ≤ x.b := by simp only [List.mem_cons,List.not_mem_nil,or_false,forall_eq_or_imp,forall_eq];omega) → SS wq h cf cM xs pc F f := fun hq hH => hS.hp hq hw hH
 have hpcr := hS.2.2.2.2.1
 have hdR := decF_rng (loadX_rng f (pc - 2147483648).toNat 4)
 unfold In5R at hdR
 have hDue : ∀ wq : World,FX wq cf F → Calls Tryz.prog 112 #[.pointer (some ⟨cf,0,none⟩)] wq fun e w' => e = .returned (.bool false) ∧ Hp wq [] w' := fun wq hF => by rw [← hdv];exact fdue cf _ _ _ _ _ _ _ _ _ _ wq hF.2.2
 refine enter (args := [_]) (Γ := [(0,_)]) Tryz.func63 Tryz.ntmps63 rfl odq (.cons rfl .nil) ?_
 by_cases hin : inM pc 4
 ·cases hm : mayG F.cf pc 4 4
  all_goals
   have hMay : ∀ (wq : World),SS wq h cf cM xs pc F f → Calls Tryz.prog 115 #[.pointer (some ⟨cf,0,none⟩),.int .u32 pc,.int .i64 4,.int .i64 4] wq fun e w' => e = .returned (.bool (mayG F.cf pc 4 4)) ∧ Hp wq [] w' := fun wq hs => may1Y cf F pc 4 4 wq hs.2.1 hmd hs.2.2.2.2.2.2.1
   rw [hm] at hMay
   repeat' first | (apply Wl.callQ (f := 112);exact rfl;exact ke;exact j1) | (apply Wl.callS (f := 113) (w0 := w);exact rfl;exact ke;assumption;assumption;exact hw;(simp only [List.mem_cons,List.not_mem_nil,or_false,forall_eq_or_imp,forall_eq];omega);(intro wq hSq;exact htrapS h cf cM _ _ F _ _ _ _ _ _ _ _ _ _ wq hSq hmd);(rintro v w1 ⟨rfl,hT1⟩ hu1;have hz1 := hu1.size)) | (apply Wl.callQQ (f := 114);exact rfl;exact ke;(intro wq hq;exact hq.q (mloadP cM pc 4 f wq hpcr (.inr (.inr rfl)) hin (hSQ hq).2.2.1))) | (apply Wl.callQQ (f := 115);exact rfl;exact ke;(intro wq hq;exact hq.q (hMay wq (hSQ hq)))) | (apply Wl.callQ (f := 117);exact rfl;exact ke;(intro wq hq;exact hq.q (decX _ wq (loadX_rng _ _ _)))) | (apply Wl.callS (f := 116) (w0 := w);exact rfl;exact ke;assumption;assumption;exact hw;(simp only [List.mem_cons,List.not_mem_nil,or_false,forall_eq_or_imp,forall_eq];omega);(intro wq hSq;exact doU2 h cf cM _ _ _ _ _ _ _ _ F _ wq hSq hmd hdR);(rintro v w1 ⟨rfl,hO⟩ hu1;have hz1 := hu1.size)) | (apply Wl.loadO;exact rfl;exact rfl;exact zw;exact zj) | (apply Gt.outC';exact rfl;infer_instance;exact rfl;exact ke;exact ke;intro w' hp) | refine Wl.move rfl rfl ?_ | refine Wl.assign rfl rfl ?_ | (apply Wl.on;exact rfl;exact rfl;exact ka) | refine Wl.extract rfl rfl rfl ?_ | refine Wl.nilCheck rfl rfl ?_ | (apply Wl.pickF;exact rfl;exact rfl;exact ka;exact rfl) | refine Wl.not rfl rfl ?_ | refine Wl.fieldAddrZ rfl rfl ?_ | refine Wl.eqlPN rfl rfl rfl ?_ | (apply Wl.neqIs;exact rfl;exact rfl;exact rfl;exact kv) | refine Wl.neq rfl rfl rfl ?_ | (apply Wl.rem;exact rfl;exact rfl;exact rfl;exact qx) | (apply Wl.storeA;exact rfl;exact rfl;exact rfl;exact rfl;exact ke;exact kf) | (apply Wl.buildS;exact rfl;exact ki;exact kc) | (apply Wl.alloc;exact rfl;intro c hc ho) | apply Wl.nil | apply Wl.nilQ | apply St.seq | apply St.region | (apply St.draw;exact mixed;(kernel_rfl);exact (fun _ h => Hp.drew h)) | (apply St.condT;exact rfl;exact ka) | (apply St.condF;exact rfl;exact ka) | apply St.ret | apply St.skip | apply Gt.next | apply Gt.thenRet | (apply St.condP;exact rfl;all_goals (intros;try (exfalso;omega)))
   all_goals (refine ⟨_,rfl,?_,finU hu1 hp kb⟩;(try rw [hfd]);unfold stepF;(try rw [hm]);(try rw [hm1]);(try rw [hm2]);(repeat' split) <;> first | contradiction | (exfalso;omega) | exact ⟨rfl,.inl ⟨rfl,hT1.hp hp hw kb⟩⟩ | exact ⟨rfl,.inr ⟨rfl,hS1.hp hp hw kb⟩⟩ | exact OutR.hp (v := Rz.v _) ⟨rfl,hO⟩ hp hw kb)
 ·repeat' first | (apply Wl.callQ (f := 112);exact rfl;exact ke;exact j1) | (apply Wl.callS (f := 113) (w0 := w);exact rfl;exact ke;assumption;assumption;exact hw;(simp only [List.mem_cons,List.not_mem_nil,or_false,forall_eq_or_imp,forall_eq];omega);(intro wq hSq;exact htrapS h cf cM _ _ F _ _ _ _ _ _ _ _ _ _ wq hSq hmd);(rintro v w1 ⟨rfl,hT1⟩ hu1;have hz1 := hu1.size)) | (apply Wl.callQQ (f := 114);exact rfl;exact ke;(intro wq hq;exact hq.q (mloadNo cM pc 4 f wq hpcr (.inr (.inr rfl)) hin (hSQ hq).2.2.1))) | (apply Wl.loadO;exact rfl;exact rfl;exact zw;exact zj) | (apply Gt.outC';exact rfl;infer_instance;exact rfl;exact ke;exact ke;intro w' hp) | refine Wl.move rfl rfl ?_ | refine Wl.assign rfl rfl ?_ | (apply Wl.off;exact rfl;exact rfl;exact rfl;exact kq) | refine Wl.extract rfl rfl rfl ?_ | refine Wl.nilCheck rfl rfl ?_ | (apply Wl.pickT;exact rfl;exact rfl;exact ka;exact rfl) | refine Wl.fieldAddrZ rfl rfl ?_ | refine Wl.eqlPN rfl rfl rfl ?_ | refine Wl.neq rfl rfl rfl ?_ | (apply Wl.rem;exact rfl;exact rfl;exact rfl;exact qx) | (apply Wl.storeA;exact rfl;exact rfl;exact rfl;exact rfl;exact ke;exact kf) | (apply Wl.buildS;exact rfl;exact ki;exact kc) | (apply Wl.alloc;exact rfl;intro c hc ho) | apply Wl.nil | apply Wl.nilQ | apply St.seq | apply St.region | (apply St.draw;exact mixed;(kernel_rfl);exact (fun _ h => Hp.drew h)) | (apply St.condT;exact rfl;exact ka) | (apply St.condF;exact rfl;exact ka) | apply St.ret | apply St.skip | apply Gt.next | apply Gt.thenRet | (apply St.condP;exact rfl;all_goals (intros;try (exfalso;omega)))
  all_goals (refine ⟨_,rfl,?_,finU hu1 hp kb⟩;(try rw [hfd]);unfold stepF;(try rw [hm]);(try rw [hm1]);(try rw [hm2]);(repeat' split) <;> first | contradiction | (exfalso;omega) | exact ⟨rfl,.inl ⟨rfl,hT1.hp hp hw kb⟩⟩ | exact ⟨rfl,.inr ⟨rfl,hS1.hp hp hw kb⟩⟩ | exact OutR.hp (v := Rz.v _) ⟨rfl,hO⟩ hp hw kb)
structure Mi where
 (m h d wd sa pp pa bd ia cM : Nat)
 cs : List Nat
structure Mv2 where
 (pv ev seen lv : Value)
 (sn : Nat) (sx : List Value)
 L : List Sta
 t : Int
 bx : Nat → List Value
 ll : List (Int × List UInt8)
 used : Int
 ins : List (List UInt8)
 f : Nat → Int
 xs : List Value
 pc : Int
 cf : Nat
structure MonS (w : World) (base : Nat) (I : Mi) (M : Mv2) : Prop where
 mm : w.heap[I.m]? = some (.cells #[.pointer (some ⟨I.h,0,none⟩),.pointer (some ⟨I.d,0,none⟩),.pointer (some ⟨I.wd,0,none⟩),M.seen] 130 (0,0))
 dd : w.heap[I.d]? = some (.cells #[M.pv,M.ev,.pointer (some ⟨I.cM,0,none⟩),.pointer (some ⟨I.pp,0,none⟩),.pointer (some ⟨I.bd,0,none⟩)] 139 (0,0))
 ward : WardS w I.wd I.sa M.L M.t
 post : PostS w I.pp I.pa I.cs M.bx
 board : BoardS w base I.bd I.ia M.lv M.ll M.used M.ins
 mem : memH w I.cM M.f
 hart : HH w I.h M.cf (.pointer (some ⟨I.cM,0,none⟩)) M.xs M.pc
 seen : w.ownsRow base 70 7 M.seen M.sn M.sx
 rg : Rg M.xs ∧ (0 ≤ M.pc ∧ M.pc < 4294967296)
 len : I.cs.length = M.L.length ∧ M.ins.length = M.L.length
 ge : base ≤ I.m ∧ base ≤ I.h ∧ base ≤ I.d ∧ base ≤ I.wd ∧ base ≤ I.sa ∧ base ≤ I.pp ∧ base ≤ I.pa ∧ base ≤ I.bd ∧ base ≤ I.ia ∧ base ≤ I.cM ∧ ∀ c ∈ I.cs,base ≤ c
def MonF (I : Mi) (M : Mv2) (b : Nat) : Prop := b = I.m ∨ b = I.h ∨ b = I.d ∨ b = I.wd ∨ b = I.sa ∨ b = I.pp ∨ b = I.pa ∨ b = I.bd ∨ b = I.ia ∨ b = I.cM ∨ b ∈ I.cs ∨ M.lv.ownBlock = some b ∨ M.seen.ownBlock = some b
theorem MonS.lt {w : World} {base : Nat} {I : Mi} {M : Mv2} (k : MonS w base I M) : ∀ b,MonF I M b → base ≤ b ∧ b < w.heap.size := by
 obtain ⟨g1,g2,g3,g4,g5,g6,g7,g8,g9,g10,g11⟩ := k.ge
 rintro b (rfl | rfl | rfl | rfl | rfl | rfl | rfl | rfl | rfl | rfl | h | h | h)
 ·exact ⟨g1,lt_of_block k.mm⟩
 ·exact ⟨g2,k.hart.lt⟩
 ·exact ⟨g3,lt_of_block k.dd⟩
 ·exact ⟨g4,k.ward.lt.1⟩
 ·exact ⟨g5,k.ward.lt.2⟩
 ·exact ⟨g6,k.post.lt.1⟩
 ·exact ⟨g7,k.post.lt.2.1⟩
 ·exact ⟨g8,k.board.lt.1⟩
 ·exact ⟨g9,k.board.lt.2.1⟩
 ·exact ⟨g10,lt_of_block k.mem⟩
 ·exact ⟨g11 b h,k.post.lt.2.2 b h⟩
 ·exact k.board.lt.2.2 b h
 ·exact k.seen.ge b h
theorem MonS.upd {w w' : World} {base : Nat} {I : Mi} {M : Mv2} {S : Nat → Prop} (k : MonS w base I M) (u : Upd S w w') (hs : ∀ b,MonF I M b → ¬ S b) : MonS w' base I M where
 mm := u.heap k.mm (hs _ (.inl rfl))
 dd := u.heap k.dd (hs _ (.inr (.inr (.inl rfl))))
 ward := k.ward.upd u (hs _ (.inr (.inr (.inr (.inl rfl))))) (hs _ (.inr (.inr (.inr (.inr (.inl rfl))))))
 post := k.post.upd u (hs _ (.inr (.inr (.inr (.inr (.inr (.inl rfl))))))) (hs _ (.inr (.inr (.inr (.inr (.inr (.inr (.inl rfl)))))))) fun c hc => hs _ (.inr (.inr (.inr (.inr (.inr (.inr (.inr (.inr (.inr (.inr (.inl hc)))))))))))
 board := k.board.upd u (hs _ (.inr (.inr (.inr (.inr (.inr (.inr (.inr (.inl rfl))))))))) (hs _ (.inr (.inr (.inr (.inr (.inr (.inr (.inr (.inr (.inl rfl)))))))))) fun b hb => hs _ (.inr (.inr (.inr (.inr (.inr (.inr (.inr (.inr (.inr (.inr (.inr (.inl hb))))))))))))
 mem := u.heap k.mem (hs _ (.inr (.inr (.inr (.inr (.inr (.inr (.inr (.inr (.inr (.inl rfl)))))))))))
 hart := k.hart.upd u (hs _ (.inr (.inl rfl)))
 seen := ownsRow_upd k.seen u fun b hb => hs _ (.inr (.inr (.inr (.inr (.inr (.inr (.inr (.inr (.inr (.inr (.inr (.inr hb))))))))))))
 rg := k.rg
 len := k.len
 ge := k.ge
theorem MonS.new {w w' w0 : World} {base : Nat} {I : Mi} {M : Mv2} (k : MonS w base I M) (u : Upd (fun b => w0.heap.size ≤ b) w w') (hw : w.heap.size ≤ w0.heap.size) : MonS w' base I M :=
 k.upd u fun b hb hs => by have := (k.lt b hb).2;omega
theorem MonS.hp {w w' : World} {base : Nat} {I : Mi} {M : Mv2} {H : List Blk} (k : MonS w base I M) (hp : Hp w H w') (hH : ∀ x ∈ H,w.heap.size ≤ x.b) : MonS w' base I M :=
 k.upd hp.upd fun b hb hs => hs (Off.of fun x hx e => by have := hH x hx;have := (k.lt b hb).2;omega)
theorem monNew (a1 a2 a3 : Option Addr) (n c1 c2 c3 cM : Nat) (p : Nat → Int) (f : Nat → Int) (w : World) (hn : 1 ≤ n ∧ n ≤ 4) (hA : WordF w a3 n p) (hM : memH w cM f) (base : Nat) (hb : base ≤ cM) (hbw : base ≤ w.heap.size) :
  Calls Tryz.prog 40 #[.slice a1 n c1,.slice a2 n c2,.slice a3 n c3,.pointer (some ⟨cM,0,none⟩)] w fun e w' => ∃ I M,e = .returned (.tuple #[.pointer (some ⟨I.m,0,none⟩),.int .i64 0]) ∧ MonS w' base I M ∧
   I.cM = cM ∧ M = ⟨.slice a1 n c1,.slice a2 n c2,.slice none 0 0,.slice none 0 0,0,[],newL p n,0,fun _ => [],[],0,List.replicate n [],f,xz,0,M.cf⟩ ∧ (∀ b,MonF I M b → b ≠ cM → w.heap.size ≤ b) ∧ Upd (fun k => w.heap.size ≤ k) w w' := by
 have hlM := lt_of_block hM
 refine enter (args := [_,_,_,_]) (Γ := [(0,_),(1,_),(2,_),(3,_)]) Tryz.func40 Tryz.ntmps40 rfl odq (.cons rfl (.cons rfl (.cons rfl (.cons rfl .nil)))) ?_
 repeat' first | refine Wl.move rfl rfl ?_ | refine Wl.assign rfl rfl ?_ | apply Wl.nil | apply St.seq | apply St.region | apply Gt.next
 apply Wl.callC
 ·exact rfl
 ·exact ke
 intro wq hq
 refine (wNew a3 n c3 p wq hn (fun i hi => by obtain ⟨b,o,e,h1,h2⟩ := hA i hi;exact ⟨b,o,e,hq.upd.cell h1 fun y => y trivial,h2⟩)).mono ?_
 rintro e w1 ⟨wd,sa,rfl,hW1,g1,g2,u1⟩
 have uq := hq.upd
 have v1 : Upd (fun k => w.heap.size ≤ k) w w1 := uq.comp u1 fun k hk hs => hs.elim (fun y => (y trivial).elim) fun y => by have := uq.size;omega
 have z1 := uq.size
 have hW1l := hW1.lt
 refine ⟨_,_,rfl,Hp.start w1,?_⟩
 clear hq uq u1
 repeat' first | refine Wl.move rfl rfl ?_ | refine Wl.assign rfl rfl ?_ | (apply Wl.on;exact rfl;exact rfl;exact ka) | refine Wl.extract rfl rfl rfl ?_ | (apply Wl.pickF;exact rfl;exact rfl;exact ka;exact rfl) | refine Wl.eqlPN rfl rfl rfl ?_ | (apply Wl.neqIs;exact rfl;exact rfl;exact rfl;exact kv) | refine Wl.len rfl rfl ?_ | apply Wl.nil | apply St.seq | apply St.region | (apply St.condF;exact rfl;exact ka) | apply St.skip | apply Gt.next
 apply Wl.callC
 ·exact rfl
 ·exact ke
 intro wq2 hq
 refine (pNew n wq2 hn).mono ?_
 rintro e w2 ⟨pp,pa,cs,rfl,hP2,hcl,g3,g4,g5,u2⟩
 have uq := hq.upd
 have z2 := uq.size
 have v2 : Upd (fun k => w1.heap.size ≤ k) w1 w2 := uq.comp u2 fun k hk hs => hs.elim (fun y => (y trivial).elim) fun y => by omega
 have z2b := v2.size
 refine ⟨_,_,rfl,Hp.start w2,?_⟩
 clear hq uq u2
 repeat' first | refine Wl.move rfl rfl ?_ | refine Wl.assign rfl rfl ?_ | refine Wl.extract rfl rfl rfl ?_ | refine Wl.len rfl rfl ?_ | apply Wl.nil | apply St.seq | apply St.region | apply Gt.next
 apply Wl.callC
 ·exact rfl
 ·exact ke
 intro wq3 hq
 refine (bNew n wq3 hn).mono ?_
 rintro e w3 ⟨bd,ia,rfl,hB3,g6,g7,u3⟩
 have uq := hq.upd
 have z3 := uq.size
 have v3 : Upd (fun k => w2.heap.size ≤ k) w2 w3 := uq.comp u3 fun k hk hs => hs.elim (fun y => (y trivial).elim) fun y => by omega
 have z3b := v3.size
 refine ⟨_,_,rfl,Hp.start w3,?_⟩
 clear hq uq u3
 repeat' first | refine Wl.move rfl rfl ?_ | refine Wl.assign rfl rfl ?_ | refine Wl.extract rfl rfl rfl ?_ | apply Wl.nil | apply St.seq | apply St.region | apply Gt.next
 apply Wl.callC
 ·exact rfl
 ·exact ke
 intro wq4 hq
 refine (hnew (some ⟨cM,0,none⟩) wq4).mono ?_
 rintro e w4 ⟨h,cf,rfl,hp4,g8,g9,g10⟩
 have uq := hq.upd
 have z4 := uq.size
 have v4 : Upd (fun k => w3.heap.size ≤ k) w3 w4 := uq.comp hp4.upd fun k hk hs => Classical.byContradiction fun hn => hs.elim nt0 fun y => y ⟨fun e => hn qn,fun e => hn qn,trivial⟩
 have z4b := v4.size
 have hH4 : HH w4 h cf (.pointer (some ⟨cM,0,none⟩)) xz 0 := ⟨rfl,hp4.own.at (.head _)⟩
 have lh := hH4.lt
 refine ⟨_,_,rfl,Hp.start w4,?_⟩
 clear hq uq hp4
 repeat' first | refine Wl.move rfl rfl ?_ | refine Wl.assign rfl rfl ?_ | (apply Wl.buildS;exact rfl;exact ki;exact kc) | (apply Wl.boxA;exact rfl;exact rfl;intro c hc ho) | apply Wl.nil | apply St.ret | apply Gt.next | (apply Gt.out2;exact rfl;exact rfl;exact rfl;intro w' hp)
 rename_i d hd hod
 have w5u : Upd (fun k => w4.heap.size ≤ k) w4 w' := hp.on (Upd.refl _ _) kb
 have t12 : Upd (fun k => w.heap.size ≤ k) w w2 := v1.comp v2 fun k hk hs => hs.elim id fun y => by omega
 have t13 : Upd (fun k => w.heap.size ≤ k) w w3 := t12.comp v3 fun k hk hs => hs.elim id fun y => by omega
 have t14 : Upd (fun k => w.heap.size ≤ k) w w4 := t13.comp v4 fun k hk hs => hs.elim id fun y => by omega
 have t15 : Upd (fun k => w.heap.size ≤ k) w w' := t14.comp w5u fun k hk hs => hs.elim id fun y => by omega
 have q25 : Upd (fun k => w1.heap.size ≤ k) w1 w' := ((v2.comp v3 (T := fun k => w1.heap.size ≤ k) fun k hk hs => hs.elim id fun y => by omega).comp v4 (T := fun k => w1.heap.size ≤ k) fun k hk hs => hs.elim id fun y => by omega).comp w5u fun k hk hs => hs.elim id fun y => by omega
 have q35 : Upd (fun k => w2.heap.size ≤ k) w2 w' := (v3.comp v4 (T := fun k => w2.heap.size ≤ k) fun k hk hs => hs.elim id fun y => by omega).comp w5u fun k hk hs => hs.elim id fun y => by omega
 have q45 : Upd (fun k => w3.heap.size ≤ k) w3 w' := v4.comp w5u fun k hk hs => hs.elim id fun y => by omega
 have hPl := hP2.lt
 have hBl := hB3.lt
 have key : ∀ b,MonF ⟨c,h,d,wd,sa,pp,pa,bd,ia,cM,cs⟩ ⟨.slice a1 n c1,.slice a2 n c2,.slice none 0 0,.slice none 0 0,0,[],newL p n,0,fun _ => [],[],0,List.replicate n [],f,xz,0,cf⟩ b → b ≠ cM → w.heap.size ≤ b := by
  rintro b (rfl | rfl | rfl | rfl | rfl | rfl | rfl | rfl | rfl | rfl | hb | hb | hb) hne
  ·first | omega | (simp only;omega)
  ·first | omega | (simp only;omega)
  ·first | omega | (simp only;omega)
  ·first | omega | (simp only;omega)
  ·first | omega | (simp only;omega)
  ·first | omega | (simp only;omega)
  ·first | omega | (simp only;omega)
  ·first | omega | (simp only;omega)
  ·first | omega | (simp only;omega)
  ·exact (hne rfl).elim
  ·have := g5 b hb;omega
  ·cases hb
  ·cases hb
 refine ⟨⟨c,h,d,wd,sa,pp,pa,bd,ia,cM,cs⟩,⟨.slice a1 n c1,.slice a2 n c2,.slice none 0 0,.slice none 0 0,0,[],newL p n,0,fun _ => [],[],0,List.replicate n [],f,xz,0,cf⟩,rfl,?_,rfl,rfl,key,t15⟩
 exact {
  mm := hp.own.at (.head _)
  dd := hp.own.at (.tail _ (.head _))
  ward := hW1.upd q25 q4 q4
  post := hP2.upd q35 q4 q4 fun b hb => by have := hPl.2.2 b hb;omega
  board := by
   have hB := hB3.upd q45 q4 q4 (fun b hb => by cases hb)
   exact ⟨hB.1,World.ownsRow_nil _ _ _ _,hB.2.2⟩
  mem := t15.heap hM (by show ¬ w.heap.size ≤ cM;omega)
  hart := hH4.upd w5u ky
  seen := World.ownsRow_nil _ _ _ _
  rg := ⟨xz_rg,by show (0 : Int) ≤ 0;decide,by show (0 : Int) < 4294967296;decide⟩
  len := ⟨by rw [newL_len];exact hcl,by rw [newL_len,List.length_replicate]⟩
  ge := ⟨by first | omega | (simp only;omega),by first | omega | (simp only;omega),by first | omega | (simp only;omega),by first | omega | (simp only;omega),by first | omega | (simp only;omega),by first | omega | (simp only;omega),by first | omega | (simp only;omega),by first | omega | (simp only;omega),by first | omega | (simp only;omega),hb,fun b hb => by have := g5 b hb;omega⟩ }
theorem MonS.hp0 {w w0 w' : World} {base : Nat} {I : Mi} {M : Mv2} {H : List Blk} (k : MonS w base I M) (k0 : MonS w0 base I M) (hp : Hp w H w') (hH : ∀ x ∈ H,w0.heap.size ≤ x.b) : MonS w' base I M :=
 k.upd hp.upd fun b hb hs => hs (Off.of fun x hx e => by have := hH x hx;have := (k0.lt b hb).2;omega)
theorem row_ne {w : World} {b b' e e' sz sz' n n' : Nat} {v v' : Value} {xs xs' : List Value} (h1 : w.ownsRow b e sz v n xs) (h2 : w.ownsRow b' e' sz' v' n' xs') (he : e ≠ e') : ∀ k,v.ownBlock = some k → v'.ownBlock = some k → False := by
 intro k hk hk'
 rcases h1.2 with ⟨rfl,_⟩ | ⟨g,cap,cur,rfl,_,hg,_⟩
 ·cases hk
 ·rcases h2.2 with ⟨rfl,_⟩ | ⟨g',cap',cur',rfl,_,hg',_⟩
  ·cases hk'
  ·cases hk
   cases hk'
   rw [hg] at hg'
   cases hg'
   exact he rfl
theorem row_neB {w : World} {b e sz n c t : Nat} {v : Value} {xs : List Value} {cs : Array Value} (h1 : w.ownsRow b e sz v n xs) (h2 : w.heap[c]? = some (.cells cs t (0,0))) (he : e ≠ t) : ∀ k,v.ownBlock = some k → k ≠ c := by
 intro k hk hc
 subst hc
 rcases h1.2 with ⟨rfl,_⟩ | ⟨g,cap,cur,rfl,_,hg,_⟩
 ·cases hk
 ·cases hk
  rw [hg] at h2
  cases h2
  exact he rfl
theorem pAll0 (pp pa : Nat) (cs : List Nat) (bx : Nat → List Value) (i : Nat) (w : World) (hP : PostS w pp pa cs bx) (hi : i < cs.length) (h0 : bx i = []) :
  Calls Tryz.prog 75 #[.pointer (some ⟨pp,0,none⟩),.int .i64 i] w fun e w' => e = .returned (.slice none 0 0) ∧ Hp w [] w' := by
 obtain ⟨c,hc⟩ : ∃ c,cs[i]? = some c := ⟨_,List.getElem?_eq_getElem hi⟩
 have hch := hP.2.1 i c hc
 rw [h0] at hch
 have hd : decide ((0 : Int) < (([] : List Value).length : Int)) = false := by decide
 refine enter (args := [_,_]) (Γ := [(0,_),(1,_)]) Tryz.func75 Tryz.ntmps75 rfl odq (.cons rfl (.cons rfl .nil)) ?_
 repeat' first | refine Wl.move rfl rfl ?_ | refine Wl.assign rfl rfl ?_ | apply Wl.nil | apply St.seq | apply St.region | apply Gt.next
 apply Wl.callQ
 exact rfl
 (focus repeat constructor)
 ·intro wq hq
  exact hq.q (pBox pp pa cs bx i c wq (hP.upd hq.upd nt0 nt0 fun _ _ y => y trivial) hc)
 repeat' first | (apply Wl.lenChan (b := c) (cap := 4) (l := []) chTy;exact rfl;exact rfl;(intro w' h';exact hch.upd h'.upd fun y => y trivial)) | refine Wl.move rfl rfl ?_ | refine Wl.assign rfl rfl ?_ | apply Wl.nil | apply St.seq | apply St.block | apply St.region | apply Gt.next
 refine St.loop (σ := Unit) (fun _ => True) (fun _ => [(6,.slice none 0 0),(12,.int .i64 0),(13,.int .i64 0)]) (fun _ => Hp w []) (fun _ => 0) () trivial kw (fun _ h => h) ?_
 intro _ _
 have hd2 : decide ((0 : Int) < 0) = false := by decide
 repeat' first | refine Wl.move rfl rfl ?_ | refine Wl.assign rfl rfl ?_ | refine Wl.lss rfl rfl rfl ?_ | apply Wl.nil | apply St.seq | apply St.region | (apply St.condF;exact rfl;exact ka) | apply St.ret | apply St.exit | apply Gt.next | apply Gt.thenExit | apply Gt.inExit | (apply Gt.out1;exact rfl;exact rfl;intro w' hp)
 exact ⟨rfl,hp⟩
def turnV (t : Int) : Int := if t < 0 then -1 else t
theorem _root_.Go.World.ownsRow.baseLe {w : World} {base base' e sz n : Nat} {v : Value} {xs : List Value} (h : w.ownsRow base e sz v n xs) (hb : base' ≤ base) : w.ownsRow base' e sz v n xs := by
 refine ⟨h.1,?_⟩
 rcases h.2 with h | ⟨g,cap,cur,rfl,hg,r⟩
 ·exact .inl h
 ·exact .inr ⟨g,cap,cur,rfl,by omega,r⟩
theorem lappE (xs : List Value) : LApp xs [] xs := by
 induction xs with
 | nil => exact .nil
 | cons x xs ih => exact .cons ih
theorem stas_take {L : List Sta} {i : Nat} {x : Sta} (h : L[i]? = some x) : (stas (L.take (i + 1))).flatten = (stas (L.take i)).flatten ++ x.cells := by
 rw [List.take_add_one,h]
 simp [stas]
theorem ins_take {L : List (List UInt8)} {i : Nat} {x : List UInt8} (h : L[i]? = some x) : (L.take (i + 1)).map strV = (L.take i).map strV ++ [strV x] := by
 rw [List.take_add_one,h]
 simp
section
variable {w wc w1 : World} {base : Nat} {I : Mi} {M : Mv2} {i1 i2 i3 : Nat} {sv iv bv lv v : Value} {c2 c3 cC : Nat} {t2 t3 : Nat} {xs2 xs3 : List Value}
theorem offs2 {k : Nat} (h : ¬ Off [⟨c3,xs3,t3⟩,⟨c2,xs2,t2⟩] k) : k = c3 ∨ k = c2 := Classical.byContradiction fun hn => h ⟨fun e => hn (.inl e.symm),fun e => hn (.inr e.symm),trivial⟩
theorem row_keep {x y : Value} {e e' sz n m sz' : Nat} {xs ys : List Value} (hr : wc.ownsRow w.heap.size e sz y n xs) (hx : wc.ownsRow w.heap.size e' sz' x m ys) (he : e ≠ e') (ho : ∀ k,y.ownBlock = some k → k ≠ c3 ∧ k ≠ c2) (u1 : Upd (fun k => x.ownBlock = some k ∨ ¬ Off [⟨c3,xs3,t3⟩,⟨c2,xs2,t2⟩] k) wc w1) : w1.ownsRow w.heap.size e sz y n xs :=
 ownsRow_upd hr u1 fun k hk hs => by
  rcases hs with z | z
  ·exact row_ne hr hx he k hk z
  ·rcases offs2 z with rfl | rfl
   ·exact (ho _ hk).1 rfl
   ·exact (ho _ hk).2 rfl
theorem mem_keep {x : Value} {e' sz' m : Nat} {ys : List Value} {f : Nat → Int} (hm : memH wc cC f) (hx : wc.ownsRow w.heap.size e' sz' x m ys) (he : e' ≠ 156) (h3 : c3 ≠ cC) (h2 : c2 ≠ cC) (u1 : Upd (fun k => x.ownBlock = some k ∨ ¬ Off [⟨c3,xs3,t3⟩,⟨c2,xs2,t2⟩] k) wc w1) : memH w1 cC f :=
 u1.heap hm fun hs => by
  rcases hs with z | z
  ·exact row_neB hx hm he _ z rfl
  ·rcases offs2 z with e | e
   ·exact h3 e.symm
   ·exact h2 e.symm
end
end Go.Proofs.YtabbklpalbikdaaGreatDoor
end
section
namespace Go.Pt
open Go.RowKit
theorem strOf_app (a b : List UInt8) : strOf a ++ strOf b = strOf (a ++ b) := by
 apply ByteArray.ext
 simp [strOf,ByteArray.data_append]
theorem _root_.Go.World.ownsRow.heap {w : World} {base e sz n b : Nat} {v : Value} {xs : List Value} (h : w.ownsRow base e sz v n xs) (hb : v.ownBlock = some b) : ∃ cs,w.heap[b]? = some (.cells cs e (0,0)) := by
 rcases h.2 with ⟨rfl,_⟩ | ⟨g,cap,cur,rfl,_,hg,_⟩
 ·cases hb
 ·cases hb;exact ⟨_,hg⟩
section
variable {P : Program} {md : Md} {N : Nat} {ops : Array Oper} {rest : List Oper} {Γ : Env} {C : World → Prop} {Q : Exit → Act → World → Prop} {d : Nat} {ty t u : TypeId} {pos : String} {af : Array Edge}
theorem Wl.addS {x y : Operand} {a b : List UInt8} (hd : Nat.blt d N = true) (hx : ev Γ x = some (.string (strOf a))) (hy : ev Γ y = some (.string (strOf b))) (hn : a.length + b.length < 1000000) (h : Wl rest P md ops N ((d,.string (strOf (a ++ b))) :: Γ) C Q) :
  Wl (⟨some d,.binOp .add t x y u,ty,pos,af,none⟩ :: rest) P md ops N Γ C Q :=
 Wl.val hd (fun c w ha _ => by
  have e : (strOf a).size + (strOf b).size < 1000000 := by simp [strOf,ByteArray.size];omega
  simp [execOp,ha.ev hx,ha.ev hy,eqGuard_add,binOp,Op.stringOp,strOf_app];omega) h
end
end Go.Pt
namespace Go.Proofs.YtabbklpalbikdaaGreatDoor
open Go.RowKit Go.Pt
theorem bFeed (base bd ia : Nat) (lv : Value) (ll : List (Int × List UInt8)) (used : Int) (ins : List (List UInt8)) (i : Nat) (s z : List UInt8) (w : World) (hB : BoardS w base bd ia lv ll used ins) (hi : ins[i]? = some s) (hz : s.length + z.length ≤ 64) :
  Calls Tryz.prog 78 #[.pointer (some ⟨bd,0,none⟩),.int .i64 i,strV z] w fun e w' => e = .returned (.int .i64 0) ∧ BoardS w' base bd ia lv ll used (ins.set i (s ++ z)) ∧ Upd (fun k => k = ia) w w' := by
 have hil := (List.getElem?_eq_some_iff.1 hi).1
 have hB0 := hB
 obtain ⟨⟨cap,J,a,b⟩,hr,r1,r2⟩ := hB
 have p0 : w.cell? ⟨bd,2,none⟩ = some (.slice (some ⟨ia,0,none⟩) ins.length cap) := cell_of a rfl
 have p1 : w.cell? ⟨ia,0 + (i : Int).toNat,none⟩ = some (strV s) := by rw [Int.toNat_natCast,Nat.zero_add];exact cell_of b (ins_at hi)
 have hne : bd ≠ ia := blk_ne a b
 have hs1 := strV_size s
 have hs2 := strV_size z
 have hd : decide (((strOf s).size : Int) + ((strOf z).size : Int) > 64) = false := decide_eq_false ky
 have hg : (ins.map strV ++ J)[0 + (i : Int).toNat]? = some (strV s) := by rw [Int.toNat_natCast,Nat.zero_add];exact ins_at hi
 have hset : LSet (ins.map strV ++ J) (0 + (i : Int).toNat) (strV (s ++ z)) ((ins.set i (s ++ z)).map strV ++ J) := by
  rw [Int.toNat_natCast,Nat.zero_add,List.map_set]
  exact LSet.left (by rw [List.length_map];exact hil)
 refine enter (args := [_,_,_]) (Γ := [(0,_),(1,_),(2,_)]) Tryz.func78 Tryz.ntmps78 rfl odq (.cons rfl (.cons rfl (.cons rfl .nil))) ?_
 have key : ∀ {wq : World} {e : Ending},e = .returned (.int .i64 0) → ∀ (Hx : Hp w [⟨ia,(ins.set i (s ++ z)).map strV ++ J,9⟩] wq),e = .returned (.int .i64 0) ∧ BoardS wq base bd ia lv ll used (ins.set i (s ++ z)) ∧ Upd (fun k => k = ia) w wq := by
  intro wq e he Hx
  have hr' := ownsRow_upd hr (Hp.turned Hx) (S := fun k => k = ia) fun k hk e => (hr.heap hk).elim fun _ hg => (blk_ne hg b) e
  exact ⟨he,⟨⟨cap,J,by rw [List.length_set];exact Hx.upd.heap a fun y => y ⟨hne.symm,trivial⟩,Hx.own.at (.head _)⟩,hr',by rw [List.length_set];exact ⟨r1,r2⟩⟩,(Hp.turned Hx)⟩
 repeat' first | refine Wl.move rfl rfl ?_ | refine Wl.assign rfl rfl ?_ | apply Wl.nil | apply St.seq | apply St.block | apply St.region | apply Gt.next
 apply Wl.callQ
 exact rfl
 (focus repeat constructor)
 ·intro wq hq
  exact hq.q (bHas base bd ia lv ll used ins i wq (hB0.upd hq.upd nt0 nt0 fun _ _ y => y trivial) hil)
 repeat' first | (apply Wl.loadO;exact rfl;exact rfl;exact zw;exact kh) | refine Wl.move rfl rfl ?_ | refine Wl.assign rfl rfl ?_ | refine Wl.nilCheck rfl rfl ?_ | refine Wl.not rfl rfl ?_ | refine Wl.fieldAddrZ rfl rfl ?_ | refine Wl.gtr rfl rfl rfl ?_ | (refine Wl.addI rfl rfl rfl ?_ ?_;constructor <;> omega) | refine Wl.lenS rfl rfl ?_ | (refine Wl.indexAddr1 rfl rfl rfl ?_ ?_;constructor <;> omega) | apply Wl.nil | apply St.seq | apply St.region | (apply St.condF;exact rfl;exact ka) | apply St.skip | apply Gt.next | apply Gt.inNormal
 apply Wl.addS (a := s) (b := z)
 ·exact rfl
 ·exact rfl
 ·exact rfl
 ·omega
 refine Wl.cls (fun _ h' => Hp.open h' b trivial) ?_
 repeat' first | (apply Wl.store;exact rfl;exact rfl;exact rfl;exact ke;exact hset) | refine Wl.assign rfl rfl ?_ | (refine Wl.indexAddr1 rfl rfl rfl ?_ ?_;constructor <;> omega) | apply Wl.nil | apply St.seq | apply St.region | apply St.ret | apply Gt.next | (apply Gt.out1;exact rfl;exact rfl;intro w' hp)
 exact key rfl hp
def StaV (x : Sta) : Prop := (0 ≤ x.s ∧ x.s ≤ 2) ∧ x.xs[0]? = some (.int .u32 0) ∧ (x.s = 0 → x.c = 0)
def anyR (L : List Sta) : Bool := L.any fun x => decide (x.s = 0)
theorem anyR_snoc (L : List Sta) {i : Nat} {x : Sta} (h : L[i]? = some x) : anyR (L.take (i + 1)) = (anyR (L.take i) || decide (x.s = 0)) := by
 unfold anyR
 rw [List.take_add_one,h]
 simp
theorem stas_one {L : List Sta} (h : ∀ x ∈ L,StaOk x) : (stas L).flatten.all Value.oneCell' = true := by
 rw [List.all_eq_true]
 intro v hv
 obtain ⟨l,hl,hv⟩ := List.mem_flatten.1 hv
 obtain ⟨x,hx,rfl⟩ := List.mem_map.1 hl
 exact List.all_eq_true.1 (h x hx).one v hv
theorem wSetOk (wd sa : Nat) (L L' : List Sta) (t t' : Int) (v : Value) (w : World) (hW : WardS w wd sa L t) (hA : Sv w 35 L'.length v (stas L').flatten) (hl' : L'.length = L.length) (hok : ∀ x ∈ L',StaOk x ∧ StaV x) (ht : -1 ≤ t' ∧ t' < L'.length) (hany : anyR L' = decide (0 ≤ t')) (hr : ∀ x,0 ≤ t' → L'[t'.toNat]? = some x → x.s = 0) :
  Calls Tryz.prog 79 #[.pointer (some ⟨wd,0,none⟩),v,.int .i64 t'] w fun e w' => ∃ sa',e = .returned (.int .i64 0) ∧ WardS w' wd sa' L' t' ∧ w.heap.size ≤ sa' ∧ Upd (fun k => k = wd ∨ w.heap.size ≤ k) w w' := by
 have hne := hW.ne
 obtain ⟨⟨cap0,J,a,b⟩,hl,h1,h4⟩ := hW
 obtain ⟨hlen,va,vc,rfl,hc1,hc2,hc3,hcell⟩ := id hA
 have hL1 : 1 ≤ L'.length := by omega
 obtain ⟨vb,vo,rfl,hcs⟩ := hcell (fun e => by rw [e] at hlen;simp at hlen;omega)
 have hat : ∀ (i : Nat) (x : Sta),L'[i]? = some x → ∀ (q : Nat) (u : Value),x.cells[q]? = some u → w.cell? ⟨vb,vo + i * 35 + q,none⟩ = some u := fun i x hx q u hq => by
  have hq35 : q < 35 := by
   have h := (List.getElem?_eq_some_iff.1 hq).1
   rw [(hok x (List.mem_of_getElem? hx)).1.len] at h
   exact h
  have e := flat_get (stas_len fun y hy => (hok y hy).1) (stas_at hx) hq35
  rw [hq] at e
  obtain ⟨hj,e2⟩ := List.getElem?_eq_some_iff.1 e
  rw [Nat.add_assoc,hcs _ hj,e2]
 have hvb : vb < w.heap.size := by
  obtain ⟨x,hx⟩ : ∃ x,L'[0]? = some x := ⟨_,List.getElem?_eq_getElem ky⟩
  exact World.block_lt_of_cell? w _ (hat 0 x hx 0 _ rfl)
 have p0 : w.cell? ⟨wd,0,none⟩ = some (.slice (some ⟨sa,0,none⟩) L.length cap0) := cell_of a rfl
 have hlw := lt_of_block a
 have d1 : decide ((L'.length : Int) ≠ (L.length : Int)) = false := decide_eq_false ky
 have d2 : decide (t' < -1) = false := decide_eq_false ky
 have d3 : decide (t' ≥ (L'.length : Int)) = false := decide_eq_false ky
 refine enter (args := [_,_,_]) (Γ := [(0,_),(1,_),(2,_)]) Tryz.func79 Tryz.ntmps79 rfl odq (.cons rfl (.cons rfl (.cons rfl .nil))) ?_
 repeat' first | (apply Wl.loadO;exact rfl;exact rfl;exact zw;exact kh) | refine Wl.move rfl rfl ?_ | refine Wl.assign rfl rfl ?_ | (apply Wl.on;exact rfl;exact rfl;exact ka) | refine Wl.nilCheck rfl rfl ?_ | (apply Wl.pickF;exact rfl;exact rfl;exact ka;exact rfl) | refine Wl.fieldAddr0 rfl rfl ?_ | refine Wl.eqlPN rfl rfl rfl ?_ | refine Wl.neq rfl rfl rfl ?_ | refine Wl.lss rfl rfl rfl ?_ | refine Wl.geq rfl rfl rfl ?_ | refine Wl.len rfl rfl ?_ | apply Wl.nil | apply St.seq | apply St.block | apply St.region | (apply St.condF;exact rfl;exact ka) | apply St.skip | apply Gt.next
 refine St.loop (σ := Nat) (fun i => i ≤ L'.length) (fun i => [(0,.pointer (some ⟨wd,0,none⟩)),(1,.slice (some ⟨vb,vo,none⟩) L'.length vc),(2,.int .i64 t'),(7,.bool (anyR (L'.take i))),(32,.slice (some ⟨vb,vo,none⟩) L'.length vc),(33,.int .i64 L'.length),(34,.int .i64 (i : Int))])
  (fun _ => Hp w []) (fun i => L'.length - i) 0 (Nat.zero_le _) kw (fun _ h => h) ?_
 intro i hi
 by_cases hlt : i < L'.length
 ·have hd : decide ((i : Int) < (L'.length : Int)) = true := decide_eq_true ky
  obtain ⟨x,hx⟩ : ∃ x,L'[i]? = some x := ⟨_,List.getElem?_eq_getElem hlt⟩
  obtain ⟨hxo,⟨⟨s0,s2⟩,hx0,hsc⟩⟩ := hok x (List.mem_of_getElem? hx)
  have hati := hat i x hx
  have hsn := anyR_snoc L' hx
  have e1 : decide (x.s < 0) = false := decide_eq_false ky
  have e2 : decide (x.s > 2) = false := decide_eq_false ky
  have hx3 : x.cells[3 + (0 : Int).toNat * 1]? = some (.int .u32 0) := hx0
  have hati' : ∀ q u,x.cells[q]? = some u → w.cell? (Addr.add ⟨vb,vo + (i : Int).toNat * 35,none⟩ q) = some u := fun q u hq => by rw [addLit,Int.toNat_natCast];exact hati q u hq
  generalize anyR (L'.take i) = an at *
  by_cases hz : x.s = 0
  ·have e3 : decide (x.s = 0) = true := decide_eq_true hz
   have e4 : x.c = 0 := hsc hz
   have hsn' : anyR (L'.take (i + 1)) = true := by rw [hsn,e3,Bool.or_true]
   repeat' first | (apply Wl.storeA (xs := x.cells);exact rfl;exact rfl;exact hxo.len;exact hxo.one;exact ke;exact .z (LOver.whole (by rw [hxo.len];exact rfl))) | (apply Wl.loadH;exact rfl;exact rfl;exact (.head _);(first | exact hx3 | exact rfl)) | (apply Wl.loadAF (xs := x.cells);exact rfl;exact rfl;exact hxo.len;(intro wq hq q u hq';exact hq.old (hati' q u hq') qp)) | refine Wl.move rfl rfl ?_ | refine Wl.assign rfl rfl ?_ | (apply Wl.on;exact rfl;exact rfl;exact ka) | (apply Wl.off;exact rfl;exact rfl;exact rfl;exact kq) | (apply Wl.pickT;exact rfl;exact rfl;exact ka;exact rfl) | (apply Wl.pickF;exact rfl;exact rfl;exact ka;exact rfl) | refine Wl.fieldAddr0 rfl rfl ?_ | refine Wl.fieldAddrZ rfl rfl ?_ | (apply Wl.eqlIs;exact rfl;exact rfl;exact rfl;exact kv) | (apply Wl.neqIs;exact rfl;exact rfl;exact rfl;exact kv) | refine Wl.lss rfl rfl rfl ?_ | refine Wl.gtr rfl rfl rfl ?_ | (refine Wl.addI rfl rfl rfl ?_ ?_;constructor <;> omega) | (apply Wl.alloc;exact rfl;intro c hc ho) | (refine Wl.indexAddr rfl rfl rfl ?_ ?_;constructor <;> omega) | (refine Wl.indexArr rfl rfl rfl ?_ ?_;constructor <;> omega) | apply Wl.nil | apply St.seq | apply St.block | apply St.region | (apply St.condT;exact rfl;exact ka) | (apply St.condF;exact rfl;exact ka) | apply St.skip | apply Gt.next | apply Gt.inNormal | (apply Wl.splitB;exact rfl;exact rfl;all_goals intros)
   all_goals
    apply Gt.round (i + 1)
    rotate_left
    ·omega
    ·rw [hsn'];exact ke
    ·exact fun _ h => Hp.pop h (by simp only;assumption)
    ·exact hlt
  ·have e3 : decide (x.s = 0) = false := decide_eq_false hz
   have hsn' : anyR (L'.take (i + 1)) = an := by rw [hsn,e3,Bool.or_false]
   cases an
   all_goals
    repeat' first | (apply Wl.storeA (xs := x.cells);exact rfl;exact rfl;exact hxo.len;exact hxo.one;exact ke;exact .z (LOver.whole (by rw [hxo.len];exact rfl))) | (apply Wl.loadH;exact rfl;exact rfl;exact (.head _);(first | exact hx3 | exact rfl)) | (apply Wl.loadAF (xs := x.cells);exact rfl;exact rfl;exact hxo.len;(intro wq hq q u hq';exact hq.old (hati' q u hq') qp)) | refine Wl.move rfl rfl ?_ | refine Wl.assign rfl rfl ?_ | (apply Wl.on;exact rfl;exact rfl;exact ka) | (apply Wl.off;exact rfl;exact rfl;exact rfl;exact kq) | (apply Wl.pickT;exact rfl;exact rfl;exact ka;exact rfl) | (apply Wl.pickF;exact rfl;exact rfl;exact ka;exact rfl) | refine Wl.fieldAddr0 rfl rfl ?_ | refine Wl.fieldAddrZ rfl rfl ?_ | (apply Wl.neqIs;exact rfl;exact rfl;exact rfl;exact kv) | refine Wl.eql rfl rfl rfl ?_ | refine Wl.lss rfl rfl rfl ?_ | refine Wl.gtr rfl rfl rfl ?_ | (refine Wl.addI rfl rfl rfl ?_ ?_;constructor <;> omega) | (apply Wl.alloc;exact rfl;intro c hc ho) | (refine Wl.indexAddr rfl rfl rfl ?_ ?_;constructor <;> omega) | (refine Wl.indexArr rfl rfl rfl ?_ ?_;constructor <;> omega) | apply Wl.nil | apply St.seq | apply St.block | apply St.region | (apply St.condT;exact rfl;exact ka) | (apply St.condF;exact rfl;exact ka) | apply St.skip | apply Gt.next | apply Gt.inNormal
   all_goals
    apply Gt.round (i + 1)
    rotate_left
    ·omega
    ·rw [hsn];exact ke
    ·exact fun _ h => Hp.pop h (by simp only;assumption)
    ·exact hlt
 ·obtain rfl : i = L'.length := by omega
  have hd : decide ((L'.length : Int) < (L'.length : Int)) = false := decide_eq_false ky
  have hany' : anyR (L'.take L'.length) = decide (t' ≥ 0) := by rw [List.take_length];exact hany
  rw [hany']
  have dn : ∀ b : Bool,(!(b == b)) = false := fun b => by cases b <;> rfl
  have tail : ∀ {Q : Exit → Act → World → Prop} {Γ : Env},True := trivial
  by_cases hpos : 0 ≤ t'
  ·have d5 : decide (t' ≥ 0) = true := decide_eq_true hpos
   have dq : true = decide (0 ≤ t') := (decide_eq_true hpos).symm
   have dq2 : decide (0 ≤ t') = true := decide_eq_true hpos
   obtain ⟨x,hx⟩ : ∃ x,L'[t'.toNat]? = some x := ⟨_,List.getElem?_eq_getElem ky⟩
   have h0 := hr x hpos hx
   have d6 : decide (x.s ≠ 0) = false := decide_eq_false (fun h => h h0)
   have p3 : w.cell? ⟨vb,vo + t'.toNat * 35,none⟩ = some (.int .i64 x.s) := hat _ x hx 0 _ rfl
   rw [d5]
   repeat' first | (apply Wl.loadO;exact rfl;exact rfl;exact zw;exact kh) | refine Wl.move rfl rfl ?_ | (apply Wl.on;exact rfl;exact rfl;exact ka) | (apply Wl.pickT;exact rfl;exact rfl;exact ka;exact rfl) | (apply Wl.pickF;exact rfl;exact rfl;exact ka;exact rfl) | refine Wl.fieldAddr0 rfl rfl ?_ | (apply Wl.neqIs;exact rfl;exact rfl;exact rfl;exact kv) | refine Wl.lss rfl rfl rfl ?_ | refine Wl.geq rfl rfl rfl ?_ | (apply Wl.neqBs;exact rfl;exact rfl;exact rfl;exact kv) | (refine Wl.indexAddr rfl rfl rfl ?_ ?_;constructor <;> omega) | apply Wl.nil | apply St.seq | apply St.region | (apply St.condF;exact rfl;exact ka) | apply St.skip | apply St.exit | apply Gt.next | apply Gt.thenExit | apply Gt.inExit
   all_goals
    apply Wl.appendV (base := w.heap.size) (n := 0) (m := L'.length) (sz := 35) (xs := []) (news := (stas L').flatten) (v := .slice none 0 0) (y := .slice (some ⟨vb,vo,none⟩) L'.length vc)
    ·exact rfl
    ·exact rfl
    ·exact rfl
    ·exact hA
    ·exact fun _ _ _ _ => trivial
    ·exact World.ownsRow_nil w _ _ _
    ·exact fun k hk => by cases hk
    ·exact stas_one fun y hy => (hok y hy).1
    ·exact rfl
    ·decide
    ·omega
    ·omega
    ·exact Nat.le_refl _
    intro v' w1 ho1 u1 _ hoff1
    rw [Nat.zero_add,List.nil_append] at ho1
    obtain ⟨g,cp,J',rfl,hg1,hg2⟩ := ho1.blk ky
    have uu : Upd (fun _ => False) w w1 := u1.mono fun k _ hs => hs.elim (fun e => by cases e) fun y => y trivial
    have a1 := uu.heap a id
    have l1 := uu.size
    refine Wl.cls (fun _ h' => Hp.open h' a1 trivial) ?_
    repeat' first | refine Wl.move rfl rfl ?_ | refine Wl.assign rfl rfl ?_ | refine Wl.nilCheck rfl rfl ?_ | refine Wl.fieldAddr0 rfl rfl ?_ | refine Wl.fieldAddrZ rfl rfl ?_ | (apply Wl.store;exact rfl;exact rfl;exact rfl;exact ke;exact kx) | apply Wl.nil | apply St.seq | apply St.region | apply St.ret | apply Gt.next | (apply Gt.out1;exact rfl;exact rfl;intro w' hp)
    refine ⟨g,rfl,⟨⟨cp,J',hp.own.at (.head _),hp.upd.heap hg2 fun y => y ⟨by simp only;omega,trivial⟩⟩,fun y hy => (hok y hy).1,by omega,by omega⟩,hg1,?_⟩
    exact uu.comp (Hp.turned hp) fun k hk hs => hs.elim False.elim fun e => .inl e
  ·have d5 : decide (t' ≥ 0) = false := decide_eq_false hpos
   have dq : false = decide (0 ≤ t') := (decide_eq_false hpos).symm
   have dq2 : decide (0 ≤ t') = false := decide_eq_false hpos
   rw [d5]
   repeat' first | refine Wl.move rfl rfl ?_ | (apply Wl.on;exact rfl;exact rfl;exact ka) | (apply Wl.off;exact rfl;exact rfl;exact rfl;exact kq) | (apply Wl.pickF;exact rfl;exact rfl;exact ka;exact rfl) | refine Wl.lss rfl rfl rfl ?_ | refine Wl.geq rfl rfl rfl ?_ | (apply Wl.neqBs;exact rfl;exact rfl;exact rfl;exact kv) | apply Wl.nil | apply St.seq | apply St.region | (apply St.condF;exact rfl;exact ka) | apply St.skip | apply St.exit | apply Gt.next | apply Gt.thenExit | apply Gt.inExit
   all_goals
    apply Wl.appendV (base := w.heap.size) (n := 0) (m := L'.length) (sz := 35) (xs := []) (news := (stas L').flatten) (v := .slice none 0 0) (y := .slice (some ⟨vb,vo,none⟩) L'.length vc)
    ·exact rfl
    ·exact rfl
    ·exact rfl
    ·exact hA
    ·exact fun _ _ _ _ => trivial
    ·exact World.ownsRow_nil w _ _ _
    ·exact fun k hk => by cases hk
    ·exact stas_one fun y hy => (hok y hy).1
    ·exact rfl
    ·decide
    ·omega
    ·omega
    ·exact Nat.le_refl _
    intro v' w1 ho1 u1 _ hoff1
    rw [Nat.zero_add,List.nil_append] at ho1
    obtain ⟨g,cp,J',rfl,hg1,hg2⟩ := ho1.blk ky
    have uu : Upd (fun _ => False) w w1 := u1.mono fun k _ hs => hs.elim (fun e => by cases e) fun y => y trivial
    have a1 := uu.heap a id
    have l1 := uu.size
    refine Wl.cls (fun _ h' => Hp.open h' a1 trivial) ?_
    repeat' first | refine Wl.move rfl rfl ?_ | refine Wl.assign rfl rfl ?_ | refine Wl.nilCheck rfl rfl ?_ | refine Wl.fieldAddr0 rfl rfl ?_ | refine Wl.fieldAddrZ rfl rfl ?_ | (apply Wl.store;exact rfl;exact rfl;exact rfl;exact ke;exact kx) | apply Wl.nil | apply St.seq | apply St.region | apply St.ret | apply Gt.next | (apply Gt.out1;exact rfl;exact rfl;intro w' hp)
    refine ⟨g,rfl,⟨⟨cp,J',hp.own.at (.head _),hp.upd.heap hg2 fun y => y ⟨by simp only;omega,trivial⟩⟩,fun y hy => (hok y hy).1,by omega,by omega⟩,hg1,?_⟩
    exact uu.comp (Hp.turned hp) fun k hk hs => hs.elim False.elim fun e => .inl e
end Go.Proofs.YtabbklpalbikdaaGreatDoor
end
section
namespace Go.Pt
open Go.RowKit
section
variable {P : Program} {md : Md} {N : Nat} {ops : Array Oper} {rest : List Oper} {Γ : Env} {C : World → Prop} {Q : Exit → Act → World → Prop} {d : Nat} {ty t u : TypeId} {pos : String} {af : Array Edge}
theorem Wl.indexStr {x i : Operand} {q : IntKind} {b : UInt8} {s : List UInt8} [ht : TyD P t .string] (hd : Nat.blt d N = true) (hx : ev Γ x = some (.string (strOf (b :: s)))) (hi : ev Γ i = some (.int q 0)) (h : Wl rest P md ops N ((d,.int .u8 b.toNat) :: Γ) C Q) : Wl (⟨some d,.index t x i,ty,pos,af,none⟩ :: rest) P md ops N Γ C Q :=
 Wl.val hd (fun a w ha _ => by
  have e : (strOf (b :: s))[0]? = some b := rfl
  simp [execOp,ha.ev hx,ha.ev hi,Instr.index,asIntOf,run_underlying ht.out,e]) h
theorem strOf_tail (b : UInt8) (s : List UInt8) : (strOf (b :: s)).extract 1 (strOf (b :: s)).size = strOf s := by
 apply ByteArray.ext
 simp [strOf,ByteArray.size]
theorem Wl.sliceStr1 {x lo : Operand} {q : IntKind} {b : UInt8} {s : List UInt8} [ht : TyD P t .string] (hd : Nat.blt d N = true) (hx : ev Γ x = some (.string (strOf (b :: s)))) (hi : ev Γ lo = some (.int q 1)) (h : Wl rest P md ops N ((d,.string (strOf s)) :: Γ) C Q) : Wl (⟨some d,.slice t x (some lo) none none,ty,pos,af,none⟩ :: rest) P md ops N Γ C Q :=
 Wl.val hd (fun a w ha _ => by
  have e : (1 : Int) ≤ ((strOf (b :: s)).size : Int) := by simp [strOf,ByteArray.size];omega
  have hne : 1 ≤ (strOf (b :: s)).size := by simp [strOf,ByteArray.size]
  simp [execOp,ha.ev hx,ha.ev hi,Instr.sliceAt,Instr.slice,Instr.sliceBounds,Instr.sliceBound,asIntOf,run_underlying ht.out,e,hne,strOf_tail]) h
end
end Go.Pt
namespace Go.Proofs.YtabbklpalbikdaaGreatDoor
open Go.RowKit Go.Pt
theorem bHearNo (base bd ia : Nat) (lv : Value) (ll : List (Int × List UInt8)) (used : Int) (ins : List (List UInt8)) (i : Nat) (w : World) (hB : BoardS w base bd ia lv ll used ins) (hi : ins[i]? = some []) :
  Calls Tryz.prog 165 #[.pointer (some ⟨bd,0,none⟩),.int .i64 i] w fun e w' => e = .returned (.tuple #[.int .u8 0,.int .i64 17]) ∧ Hp w [] w' := by
 have hil := (List.getElem?_eq_some_iff.1 hi).1
 have hB0 := hB
 obtain ⟨⟨cap,J,a,b⟩,hr,r⟩ := hB
 have p0 : w.cell? ⟨bd,2,none⟩ = some (.slice (some ⟨ia,0,none⟩) ins.length cap) := cell_of a rfl
 have p1 : w.cell? ⟨ia,0 + (i : Int).toNat,none⟩ = some (strV []) := by rw [Int.toNat_natCast,Nat.zero_add];exact cell_of b (ins_at hi)
 have hz : decide (([] : List UInt8) = []) = true := rfl
 refine enter (args := [_,_]) (Γ := [(0,_),(1,_)]) Tryz.func165 Tryz.ntmps165 rfl odq (.cons rfl (.cons rfl .nil)) ?_
 repeat' first | refine Wl.move rfl rfl ?_ | refine Wl.assign rfl rfl ?_ | apply Wl.nil | apply St.seq | apply St.block | apply St.region | apply Gt.next
 apply Wl.callQ
 exact rfl
 (focus repeat constructor)
 ·intro wq hq
  exact hq.q (bHas base bd ia lv ll used ins i wq (hB0.upd hq.upd nt0 nt0 fun _ _ y => y trivial) hil)
 repeat' first | (apply Wl.loadO;exact rfl;exact rfl;exact zw;exact kh) | (apply Wl.eqlSB (p := []) (q := []);exact rfl;exact rfl;exact rfl) | refine Wl.move rfl rfl ?_ | refine Wl.assign rfl rfl ?_ | refine Wl.nilCheck rfl rfl ?_ | refine Wl.not rfl rfl ?_ | refine Wl.fieldAddrZ rfl rfl ?_ | (refine Wl.indexAddr1 rfl rfl rfl ?_ ?_;constructor <;> omega) | apply Wl.nil | apply St.seq | apply St.region | (apply St.condT;exact rfl;exact ka) | (apply St.condF;exact rfl;exact ka) | apply St.ret | apply Gt.next | apply Gt.thenRet | apply Gt.inRet | (apply Gt.out2;exact rfl;exact rfl;exact rfl;intro w' hp)
 exact ⟨rfl,hp⟩
theorem bHear (base bd ia : Nat) (lv : Value) (ll : List (Int × List UInt8)) (used : Int) (ins : List (List UInt8)) (i : Nat) (z : UInt8) (s : List UInt8) (w : World) (hB : BoardS w base bd ia lv ll used ins) (hi : ins[i]? = some (z :: s)) :
  Calls Tryz.prog 165 #[.pointer (some ⟨bd,0,none⟩),.int .i64 i] w fun e w' => e = .returned (.tuple #[.int .u8 z.toNat,.int .i64 0]) ∧ BoardS w' base bd ia lv ll used (ins.set i s) ∧ Upd (fun k => k = ia) w w' := by
 have hil := (List.getElem?_eq_some_iff.1 hi).1
 have hB0 := hB
 obtain ⟨⟨cap,J,a,b⟩,hr,r1,r2⟩ := hB
 have p0 : w.cell? ⟨bd,2,none⟩ = some (.slice (some ⟨ia,0,none⟩) ins.length cap) := cell_of a rfl
 have p1 : w.cell? ⟨ia,0 + (i : Int).toNat,none⟩ = some (strV (z :: s)) := by rw [Int.toNat_natCast,Nat.zero_add];exact cell_of b (ins_at hi)
 have hne : bd ≠ ia := blk_ne a b
 have hz : decide ((z :: s) = ([] : List UInt8)) = false := by simp
 have hg : (ins.map strV ++ J)[0 + (i : Int).toNat]? = some (strV (z :: s)) := by rw [Int.toNat_natCast,Nat.zero_add];exact ins_at hi
 have hset : LSet (ins.map strV ++ J) (0 + (i : Int).toNat) (strV s) ((ins.set i s).map strV ++ J) := by
  rw [Int.toNat_natCast,Nat.zero_add,List.map_set]
  exact LSet.left (by rw [List.length_map];exact hil)
 have key : ∀ {wq : World} {e : Ending},e = .returned (.tuple #[.int .u8 z.toNat,.int .i64 0]) → ∀ (Hx : Hp w [⟨ia,(ins.set i s).map strV ++ J,9⟩] wq),e = .returned (.tuple #[.int .u8 z.toNat,.int .i64 0]) ∧ BoardS wq base bd ia lv ll used (ins.set i s) ∧ Upd (fun k => k = ia) w wq := by
  intro wq e he Hx
  have hr' := ownsRow_upd hr (Hp.turned Hx) (S := fun k => k = ia) fun k hk e => (hr.heap hk).elim fun _ hg => (blk_ne hg b) e
  exact ⟨he,⟨⟨cap,J,by rw [List.length_set];exact Hx.upd.heap a fun y => y ⟨hne.symm,trivial⟩,Hx.own.at (.head _)⟩,hr',by rw [List.length_set];exact ⟨r1,r2⟩⟩,(Hp.turned Hx)⟩
 refine enter (args := [_,_]) (Γ := [(0,_),(1,_)]) Tryz.func165 Tryz.ntmps165 rfl odq (.cons rfl (.cons rfl .nil)) ?_
 repeat' first | refine Wl.move rfl rfl ?_ | refine Wl.assign rfl rfl ?_ | apply Wl.nil | apply St.seq | apply St.block | apply St.region | apply Gt.next
 apply Wl.callQ
 exact rfl
 (focus repeat constructor)
 ·intro wq hq
  exact hq.q (bHas base bd ia lv ll used ins i wq (hB0.upd hq.upd nt0 nt0 fun _ _ y => y trivial) hil)
 repeat' first | (apply Wl.loadO;exact rfl;exact rfl;exact zw;exact kh) | (apply Wl.eqlSB (p := z :: s) (q := []);exact rfl;exact rfl;exact rfl) | (apply Wl.indexStr (b := z) (s := s);exact rfl;exact rfl;exact rfl) | refine Wl.move rfl rfl ?_ | refine Wl.assign rfl rfl ?_ | refine Wl.nilCheck rfl rfl ?_ | refine Wl.not rfl rfl ?_ | refine Wl.fieldAddrZ rfl rfl ?_ | (refine Wl.indexAddr1 rfl rfl rfl ?_ ?_;constructor <;> omega) | apply Wl.nil | apply St.seq | apply St.region | (apply St.condF;exact rfl;exact ka) | apply St.skip | apply Gt.next | apply Gt.inNormal
 refine St.cls (fun _ h' => Hp.open h' b trivial) ?_
 refine St.tree (fun w' => w'.heap[bd]? = some (.cells #[lv,.int .i64 used,.slice (some ⟨ia,0,none⟩) ins.length cap] 231 (0,0))) mixed (fun _ h' => ⟨Hp.drew h',(Hp.drew h').upd.heap a fun y => y ⟨hne.symm,trivial⟩⟩) ?_
 refine Mt.pm 0 ?_
 refine Mt.pm 4 ?_
 refine Mt.pm 5 ?_
 refine Mt.pm 9 ?_
 refine Mt.pn 1 ?_
 refine Mt.pn 6 ?_
 refine Mt.pz 2 ?_
 refine Mt.pz 7 ?_
 refine Mt.pu 3 ?_
 apply Wl.loadF;exact rfl;exact rfl;(intro w' h';exact cell_of h' rfl);apply Wl.nilB
 refine Mt.pu 8 ?_
 apply Wl.loadF;exact rfl;exact rfl;(intro w' h';exact cell_of h' rfl);apply Wl.nilB
 refine Mt.pu 10 ?_
 refine Wl.indexAddr1 rfl rfl rfl ?_ ?_;constructor <;> omega;apply Wl.nilB
 refine Mt.e1 11 ?_
 apply Wl.loadH
 ·exact rfl
 ·exact rfl
 ·exact ke
 ·exact hg
 apply Wl.nil
 refine Mt.backE (fun _ h' => h'.upd.heap a fun y => y ⟨hne.symm,trivial⟩) ?_
 refine Mt.pu 12 ?_
 apply Wl.sliceStr1 (b := z) (s := s);exact rfl;exact rfl;exact rfl;apply Wl.nilB
 refine Mt.pu 13 ?_
 refine Wl.indexAddr1 rfl rfl rfl ?_ ?_;constructor <;> omega;apply Wl.nilB
 refine Mt.e1 14 ?_
 apply Wl.store
 ·exact rfl
 ·exact rfl
 ·exact rfl
 ·exact ke
 ·exact hset
 apply Wl.nil
 refine Mt.backE (fun _ h' => h'.upd.heap a fun y => y ⟨hne.symm,trivial⟩) ?_
 refine Mt.toGt kg ?_
 repeat' first | refine Wl.move rfl rfl ?_ | refine Wl.assign rfl rfl ?_ | apply Wl.nil | apply St.seq | apply St.region | apply St.ret | apply Gt.next | (apply Gt.out2;exact rfl;exact rfl;exact rfl;intro w' hp)
 exact key rfl hp
end Go.Proofs.YtabbklpalbikdaaGreatDoor
end
