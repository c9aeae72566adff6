/-
 15 texts,one behind the other;each says what it proves. Conditions: as each text says.
-/
import Derived.Test.YtmjlceimjlabpaaDoorM04
import Derived.Test.YtmjlceimjlabpaaDoorM05
import Derived.Test.YtmjlceimjlabpaaDoorM01
import Derived.Test.YtmjlceimjlabpaaDoorM03
section
namespace Sha
open Go.Pt
def rdN (p : Nat → Nat) : Nat := ((((((word p 0 * 4294967296 + word p 1) * 4294967296 + word p 2) * 4294967296 + word p 3) * 4294967296 + word p 4) * 4294967296 + word p 5) * 4294967296 + word p 6) * 4294967296 + word p 7
end Sha
namespace Go.Proofs.YtmjlceimjlabpaaDoor
open Go.RowKit Go.Pt
open Sha (rdN word word_lt byteAt byteAt_lt)
theorem rdN_lt {p : Nat → Nat} (hp : ∀ j,p j < 256) : rdN p < W256 := by
 have w0 := word_lt hp 0
 have w1 := word_lt hp 1
 have w2 := word_lt hp 2
 have w3 := word_lt hp 3
 have w4 := word_lt hp 4
 have w5 := word_lt hp 5
 have w6 := word_lt hp 6
 have w7 := word_lt hp 7
 unfold rdN
 show _ < 115792089237316195423570985008687907853269984665640564039457584007913129639936
 omega
theorem dg_rd {p : Nat → Nat} (hp : ∀ j,p j < 256) : ∀ j,j < 8 → dg W32 (rdN p) j = word p (7 - j) := by
 have w0 := word_lt hp 0
 have w1 := word_lt hp 1
 have w2 := word_lt hp 2
 have w3 := word_lt hp 3
 have w4 := word_lt hp 4
 have w5 := word_lt hp 5
 have w6 := word_lt hp 6
 have w7 := word_lt hp 7
 intro j hj
 unfold dg hi rdN
 match j,hj with
 | 0,_ => show _ / 1 % 4294967296 = word p 7;omega
 | 1,_ => show _ / 4294967296 % 4294967296 = word p 6;omega
 | 2,_ => show _ / 18446744073709551616 % 4294967296 = word p 5;omega
 | 3,_ => show _ / 79228162514264337593543950336 % 4294967296 = word p 4;omega
 | 4,_ => show _ / 340282366920938463463374607431768211456 % 4294967296 = word p 3;omega
 | 5,_ => show _ / 1461501637330902918203684832716283019655932542976 % 4294967296 = word p 2;omega
 | 6,_ => show _ / 6277101735386680763835789423207666416102355444464034512896 % 4294967296 = word p 1;omega
 | 7,_ => show _ / 26959946667150639794667015087019630673637144422540572481103610249216 % 4294967296 = word p 0;omega
theorem dg16_32 (N j : Nat) : dg D16 N (2 * j) = dg W32 N j % 65536 ∧ dg D16 N (2 * j + 1) = dg W32 N j / 65536 := by
 unfold dg hi
 have e : (D16 : Nat) ^ (2 * j) = W32 ^ j := by rw [Nat.pow_mul];rfl
 have e2 : (D16 : Nat) ^ (2 * j + 1) = W32 ^ j * 65536 := by rw [Nat.pow_succ,e]
 rw [e,e2,← Nat.div_div_eq_div_mul]
 show _ % 65536 = _ % 4294967296 % 65536 ∧ _ / 65536 % 65536 = _ % 4294967296 / 65536
 omega
theorem dg_rd16 {p : Nat → Nat} (hp : ∀ j,p j < 256) {j : Nat} (hj : j < 16) : dg D16 (rdN p) j = p (30 - 2 * j) * 256 + p (31 - 2 * j) := by
 obtain ⟨q,hq⟩ : ∃ q,j = 2 * q ∨ j = 2 * q + 1 := ⟨j / 2,by omega⟩
 obtain ⟨h0,h1⟩ := dg16_32 (rdN p) q
 have hw := dg_rd hp q (by omega)
 have a0 := hp (4 * (7 - q))
 have a1 := hp (4 * (7 - q) + 1)
 have a2 := hp (4 * (7 - q) + 2)
 have a3 := hp (4 * (7 - q) + 3)
 have ew : word p (7 - q) = ((p (4 * (7 - q)) * 256 + p (4 * (7 - q) + 1)) * 256 + p (4 * (7 - q) + 2)) * 256 + p (4 * (7 - q) + 3) := rfl
 rw [ew] at hw
 rcases hq with rfl | rfl
 ·rw [h0,hw,show 30 - 2 * (2 * q) = 4 * (7 - q) + 2 by omega,show 31 - 2 * (2 * q) = 4 * (7 - q) + 3 by omega]
  omega
 ·rw [h1,hw,show 30 - 2 * (2 * q + 1) = 4 * (7 - q) by omega,show 31 - 2 * (2 * q + 1) = 4 * (7 - q) + 1 by omega]
  omega
abbrev rdL (l : List UInt8) : Nat := rdN (byteAt l)
theorem rdL_lt (l : List UInt8) : rdL l < W256 := rdN_lt (byteAt_lt l)
set_option maxHeartbeats 4000000 in
theorem limbRead (v : Value) (l : List UInt8) (w : World) (hv : Bs w v l) (hl : l.length = 32) : Calls Tryd.prog 30 #[v] w fun e w' => e = .returned (.tuple #[numV (rdL l),.int .i64 0]) ∧ Hp w [] w' := by
 obtain ⟨a,cap,rfl,hlc,hm⟩ := hv.shape
 unfold maxLen at hm
 obtain ⟨ab,off,rfl,hcell⟩ := hv.cells (fun e => by subst e;simp at hl)
 rw [hl]
 refine enter (args := [_]) (Γ := [(0,_)]) Tryd.func30 Tryd.ntmps30 rfl (of_decide_eq_true rfl) (.cons rfl .nil) ?_
 repeat' first | (apply Wl.allocN;exact rfl;(first | exact z8 | exact z16 | exact z17 | exact z33 | exact z10);intro c hc ho) | refine Wl.move rfl rfl ?_ | refine Wl.assign rfl rfl ?_ | refine Wl.neq rfl rfl rfl ?_ | refine Wl.len rfl rfl ?_ | apply Wl.nil | apply St.seq | apply St.block | apply St.region | (apply St.condF;exact rfl;(with_reducible first | rfl | assumption | decide)) | apply St.skip | apply Gt.next
 have hp := byteAt_lt l
 rename_i cr hcr hor
 refine St.loop (σ := Nat) (fun i => i ≤ 32) (fun i => [(2,mp cr),(3,.int .i64 0),(4,mp c),(11,.slice (some ⟨ab,off,none⟩) 32 cap),(12,.int .i64 32),(13,.int .i64 i)])
  (fun i => Hp w [⟨c,cellsN .u32 8 (fun j => Sha.ldw (byteAt l) i (7 - j)),69⟩,⟨cr,cellsN .u32 8 fun _ => 0,69⟩]) (fun i => 32 - i) 0 (by omega) (by repeat constructor) (fun _ h => h) ?_
 intro i hi
 by_cases hlt : i < 32
 ·have hci : w.cell? ⟨ab,off + (i : Int).toNat,none⟩ = some (.int .u8 ((byteAt l i : Nat) : Int)) := by
   rw [Int.toNat_natCast,Sha.byteAt_get (by omega)];exact hcell i (by omega)
  have hal := World.block_lt_of_cell? w _ hci
  simp only at hal
  have n1 : c ≠ ab := by omega
  have n2 : cr ≠ ab := by omega
  have hb := hp i
  have hb2 : (byteAt l i : Int) ≤ 255 := by omega
  have hi7 : 7 - i / 4 < 8 := by omega
  have hnx : ∀ j,j < 8 → updN (fun j => Sha.ldw (byteAt l) i (7 - j)) (7 - i / 4) (Sha.O (Sha.ldw (byteAt l) i (7 - (7 - i / 4)) * 2 ^ 8 % 4294967296) (byteAt l i)) j = Sha.ldw (byteAt l) (i + 1) (7 - j) := fun j hj => by
   show _ = updN (Sha.ldw (byteAt l) i) (i / 4) _ (7 - j)
   unfold updN
   rw [show 7 - (7 - i / 4) = i / 4 by omega]
   by_cases h : j = 7 - i / 4
   ·rw [if_pos h,if_pos (by omega)]
   ·rw [if_neg h,if_neg (by omega)]
  repeat' first | (refine Wl.indexAddr1 rfl rfl rfl ?_ ?_;constructor <;> omega) | (apply Wl.quoN (n := 4);exact rfl;exact rfl;exact rfl;(decide);exact IntWalk.i64_in _ (by omega)) | (apply Wl.subR 7;exact rfl;exact rfl;exact rfl;exact rfl;omega;omega) | (apply Wl.shlP 8;exact rfl;exact rfl;exact rfl;exact rfl;(decide)) | refine Wl.orN32 rfl rfl rfl ?_ | (refine Wl.indexA rfl rfl rfl ?_ ?_;omega) | (apply Wl.loadN;exact rfl;exact rfl;(focus repeat constructor);omega) | (apply Wl.storeN;exact rfl;exact rfl;(focus repeat constructor);omega) | refine Wl.move rfl rfl ?_ | refine Wl.assign rfl rfl ?_ | (apply Wl.loadO;exact rfl;exact rfl;(assumption);(repeat (first | exact trivial | refine ⟨by first | assumption | omega,?_⟩))) | refine Wl.lss rfl rfl rfl ?_ | (refine Wl.addI rfl rfl rfl ?_ ?_;constructor <;> omega) | (refine Wl.convU32 rfl rfl ?_ ?_;constructor <;> omega) | apply Wl.nil | apply St.seq | apply St.block | apply St.region | apply St.skip | apply Gt.next | apply Gt.inNormal | (apply St.condP;exact rfl;all_goals (intros;try (exfalso;omega)))
  apply Gt.round (i + 1)
  rotate_left
  ·omega
  ·repeat constructor
  ·exact fun _ h => by rw [cellsN_congr hnx] at h;exact h
  ·omega
 have hi32 : i = 32 := by omega
 subst hi32
 have hfin : cellsN .u32 8 (fun j => Sha.ldw (byteAt l) 32 (7 - j)) = cellsN .u32 8 (dg W32 (rdL l)) := cellsN_congr fun j hj => by
  rw [Sha.ldw_eq hp,if_pos (by omega),dg_rd hp j hj]
 rw [hfin]
 repeat' first | (apply Wl.loadW;exact rfl;exact rfl;(focus repeat constructor);exact rfl) | (apply Wl.storeW;exact rfl;exact rfl;(focus repeat constructor);exact rfl;(first | exact cellsN_len _ _ _ | exact rfl)) | refine Wl.assign rfl rfl ?_ | refine Wl.lss rfl rfl rfl ?_ | apply Wl.nil | apply St.seq | apply St.region | (apply St.condF;exact rfl;(with_reducible first | rfl | assumption | decide)) | apply St.ret | apply St.exit | apply Gt.next | apply Gt.thenExit | apply Gt.inExit
 apply Gt.outCT
 ·exact rfl
 ·infer_instance
 ·exact rfl
 ·exact rfl
 ·repeat constructor
 ·exact LSub.whole (cellsN_len _ _ _)
 intro w' hp
 exact ⟨rfl,hp.drop (by simp;omega)⟩
def rdF (p : Nat → Nat) (i j : Nat) : Nat := (if 30 - 2 * j < i then p (30 - 2 * j) * 256 else 0) + (if 31 - 2 * j < i then p (31 - 2 * j) else 0)
theorem rdF_step (p : Nat → Nat) (i : Nat) (hi : i < 32) : ∀ j,j < 16 → updN (rdF p i) ((31 - i) / 2) (rdF p i ((31 - i) / 2) + p i * 2 ^ (8 * ((31 - i) % 2))) j = rdF p (i + 1) j := fun j hj => by
 unfold updN
 by_cases h : j = (31 - i) / 2
 ·rw [if_pos h,← h]
  unfold rdF
  by_cases ho : (31 - i) % 2 = 1
  ·have e1 : i = 30 - 2 * j := by omega
   rw [ho,if_neg (by omega),if_neg (by omega),if_pos (by omega),if_neg (by omega),← e1]
   omega
  ·have e1 : i = 31 - 2 * j := by omega
   rw [show (31 - i) % 2 = 0 by omega,if_pos (by omega),if_neg (by omega),if_pos (by omega),if_pos (by omega),← e1]
   omega
 ·rw [if_neg h]
  unfold rdF
  by_cases h1 : 30 - 2 * j < i
  ·rw [if_pos h1,if_pos (show 30 - 2 * j < i + 1 by omega)]
   by_cases h2 : 31 - 2 * j < i
   ·rw [if_pos h2,if_pos (show 31 - 2 * j < i + 1 by omega)]
   ·rw [if_neg h2,if_neg (show ¬ 31 - 2 * j < i + 1 by omega)]
  ·rw [if_neg h1,if_neg (show ¬ 30 - 2 * j < i + 1 by omega),if_neg (show ¬ 31 - 2 * j < i by omega),if_neg (show ¬ 31 - 2 * j < i + 1 by omega)]
set_option maxHeartbeats 4000000 in
theorem refNum (v : Value) (l : List UInt8) (w : World) (hv : Bs w v l) (hl : l.length = 32) : Calls Tryd.prog 47 #[v] w fun e w' => e = .returned (num16 (rdL l)) ∧ Hp w [] w' := by
 obtain ⟨a,cap,rfl,hlc,hm⟩ := hv.shape
 unfold maxLen at hm
 obtain ⟨ab,off,rfl,hcell⟩ := hv.cells (fun e => by subst e;simp at hl)
 rw [hl]
 refine enter (args := [_]) (Γ := [(0,_)]) Tryd.func47 Tryd.ntmps47 rfl (of_decide_eq_true rfl) (.cons rfl .nil) ?_
 repeat' first | (apply Wl.allocN;exact rfl;(first | exact z8 | exact z16 | exact z17 | exact z33 | exact z10);intro c hc ho) | refine Wl.assign rfl rfl ?_ | apply Wl.nil | apply St.seq | apply St.block | apply St.region | apply Gt.next
 have hp := byteAt_lt l
 rename_i cr hcr hor
 refine St.loop (σ := Nat) (fun i => i ≤ 32) (fun i => [(0,.slice (some ⟨ab,off,none⟩) 32 cap),(2,mp cr),(3,mp c),(4,.int .i64 i)])
  (fun i => Hp w [⟨c,cellsN .u64 16 (rdF (byteAt l) i),94⟩,⟨cr,cellsN .u64 16 fun _ => 0,94⟩]) (fun i => 32 - i) 0 (by omega) (by repeat constructor) (fun _ h => h) ?_
 intro i hi
 by_cases hlt : i < 32
 ·have hci : w.cell? ⟨ab,off + (i : Int).toNat,none⟩ = some (.int .u8 ((byteAt l i : Nat) : Int)) := by
   rw [Int.toNat_natCast,Sha.byteAt_get (by omega)];exact hcell i (by omega)
  have hal := World.block_lt_of_cell? w _ hci
  simp only at hal
  have n1 : c ≠ ab := by omega
  have n2 : cr ≠ ab := by omega
  have hb := hp i
  have hb64 : byteAt l i < 18446744073709551616 := by omega
  have hk2 : (31 - i) / 2 < 16 := by omega
  have hs := rdF_step (byteAt l) i hlt
  have h8 : 8 * ((31 - i) % 2) ≤ 64 := by omega
  have hpw : byteAt l i * 2 ^ (8 * ((31 - i) % 2)) ≤ 65280 := by
   rcases Nat.mod_two_eq_zero_or_one (31 - i) with e | e <;> rw [e] <;> omega
  have hsm : byteAt l i * 2 ^ (8 * ((31 - i) % 2)) % 18446744073709551616 = byteAt l i * 2 ^ (8 * ((31 - i) % 2)) := Nat.mod_eq_of_lt (by omega)
  have hr : rdF (byteAt l) i ((31 - i) / 2) ≤ 65535 := by
   unfold rdF
   have a1 := hp (30 - 2 * ((31 - i) / 2))
   have a2 := hp (31 - 2 * ((31 - i) / 2))
   split <;> split <;> omega
  have hadd : (rdF (byteAt l) i ((31 - i) / 2) + byteAt l i * 2 ^ (8 * ((31 - i) % 2)) % 18446744073709551616) % 18446744073709551616 = rdF (byteAt l) i ((31 - i) / 2) + byteAt l i * 2 ^ (8 * ((31 - i) % 2)) := by rw [hsm];exact Nat.mod_eq_of_lt (by omega)
  generalize rdF (byteAt l) i = G at *
  repeat' first | (apply St.bagX 15 [];exact mixed;(decide +kernel);kernel_rfl) | apply OpsX.nil | (apply OpsX.v;(intro X hX;change Wl [_] _ _ _ _ _ _ _;apply Wl.catX;(focus repeat constructor))) | (apply Gt.endX;exact rfl) | (apply EndX.on;exact rfl) | (apply EndX.off;exact rfl) | (apply EndX.nil';apply Wl.catE;(focus repeat constructor)) | (refine Wl.indexAddr1 rfl rfl rfl ?_ ?_;constructor <;> omega) | (apply Wl.quoN (n := 2);exact rfl;exact rfl;exact rfl;(decide);exact IntWalk.i64_in _ (by omega)) | (apply Wl.remN (n := 2);exact rfl;exact rfl;exact rfl;(decide)) | (apply Wl.mulNI (m := 8);exact rfl;exact rfl;exact rfl;omega) | (apply Wl.subR 31;exact rfl;exact rfl;exact rfl;exact rfl;omega;omega) | (apply Wl.shlW;exact rfl;exact rfl;exact rfl;exact h8) | refine Wl.addW rfl rfl rfl ?_ | (apply Wl.convNU;exact rfl;exact rfl;exact hb64) | (apply Wl.loadO;exact rfl;exact rfl;exact hci;(first | (repeat (first | exact trivial | exact hX.off (by omega) | refine ⟨by first | assumption | omega | (simp only;omega),?_⟩)) | (refine ⟨n1,n2,?_⟩;(repeat (first | exact trivial | exact hX.off (by omega) | refine ⟨by first | assumption | omega | (simp only;omega),?_⟩))))) | (refine Wl.indexA rfl rfl rfl ?_ ?_;omega) | (apply Wl.loadN;exact rfl;exact rfl;(focus repeat constructor);omega) | (apply Wl.storeN;exact rfl;exact rfl;(focus repeat constructor);omega) | refine Wl.move rfl rfl ?_ | refine Wl.assign rfl rfl ?_ | refine Wl.lss rfl rfl rfl ?_ | (refine Wl.addI rfl rfl rfl ?_ ?_;constructor <;> omega) | apply Wl.nil | apply St.seq | apply St.block | apply St.region | apply St.skip | apply Gt.next | apply Gt.inNormal | (apply St.condP;exact rfl;all_goals (intros;try (exfalso;omega)))
  rw [hadd]
  apply Gt.round (i + 1)
  rotate_left
  ·omega
  ·repeat constructor
  ·exact fun _ h => by rw [cellsN_congr hs] at h;exact h
  ·omega
 have hi32 : i = 32 := by omega
 subst hi32
 have hfin : cellsN .u64 16 (rdF (byteAt l) 32) = cellsN .u64 16 (dg D16 (rdL l)) := cellsN_congr fun j hj => by
  rw [dg_rd16 hp hj]
  unfold rdF
  rw [if_pos (by omega),if_pos (by omega)]
 rw [hfin]
 repeat' first | (apply Gt.outN;exact rfl;infer_instance;exact rfl;(focus repeat constructor);exact rfl;intro w' hp) | (apply Wl.loadW;exact rfl;exact rfl;(focus repeat constructor);exact rfl) | (apply Wl.storeW;exact rfl;exact rfl;(focus repeat constructor);exact rfl;(first | exact cellsN_len _ _ _ | exact rfl)) | refine Wl.move rfl rfl ?_ | refine Wl.lss rfl rfl rfl ?_ | apply Wl.nil | apply St.seq | apply St.region | (apply St.condF;exact rfl;(with_reducible first | rfl | assumption | decide)) | apply St.ret | apply St.exit | apply Gt.next | apply Gt.thenExit | apply Gt.inExit
 exact ⟨rfl,hp.drop (by simp;omega)⟩
set_option maxHeartbeats 4000000 in
theorem refBelow (a b : Nat) (ha : a < W256) (hb : b < W256) (w : World) :
  Calls Tryd.prog 50 #[num16 a,num16 b] w fun e w' => e = .returned (.bool (decide (a < b))) ∧ Hp w [] w' := by
 refine enter (args := [_,_]) (Γ := [(0,_),(1,_)]) Tryd.func50 Tryd.ntmps50 rfl (of_decide_eq_true rfl) (.cons rfl (.cons rfl .nil)) ?_
 repeat' first | (apply Wl.boxN;exact rfl;exact rfl;intro c hc ho) | refine Wl.assign rfl rfl ?_ | apply Wl.nil | apply St.seq | apply St.block | apply St.region | apply Gt.next
 rename_i ca hca hoa
 generalize c = cb at *
 refine St.loop (σ := Nat) (fun n => n ≤ 16 ∧ hi D16 a n = hi D16 b n)
  (fun n => [(2,mp ca),(3,mp cb),(5,.int .i64 ((n : Int) - 1))])
  (fun _ => Hp w [⟨cb,cellsN .u64 16 (dg D16 b),94⟩,⟨ca,cellsN .u64 16 (dg D16 a),94⟩])
  (fun n => n) 16 ⟨by simp,by rw [hi16_lt ha,hi16_lt hb]⟩ (by repeat constructor) (fun _ h => h) ?_
 rintro i ⟨hi16,hic⟩
 cases i with
 | zero =>
  rw [hi_zero,hi_zero] at hic
  subst hic
  repeat' first | refine Wl.move rfl rfl ?_ | refine Wl.assign rfl rfl ?_ | refine Wl.geq rfl rfl rfl ?_ | apply Wl.nil | apply St.seq | apply St.region | (apply St.condF;exact rfl;(with_reducible first | rfl | assumption | decide)) | apply St.ret | apply St.exit | apply Gt.next | apply Gt.thenExit | apply Gt.inExit | (apply Gt.out1;exact rfl;exact rfl;intro w' hp)
  refine ⟨?_,hp.drop (by simp;omega)⟩
  rw [decide_eq_false (by omega)]
 | succ i =>
  have e : (((i + 1 : Nat) : Int) - 1) = (i : Int) := by omega
  rw [e]
  have ea := hi_eq D16 a i
  have eb := hi_eq D16 b i
  rw [hic] at ea
  have hd : decide ((i : Int) ≥ 0) = true := decide_eq_true (by omega)
  have hd' : decide (0 ≤ (i : Int)) = true := decide_eq_true (by omega)
  by_cases hne : dg D16 a i = dg D16 b i
  ·have hn : decide (((dg D16 a i : Nat) : Int) ≠ ((dg D16 b i : Nat) : Int)) = false := decide_eq_false (by omega)
   repeat' first | (apply St.bagX 7 [6];exact mixed;(decide +kernel);kernel_rfl) | apply OpsX.nil | (apply OpsX.v;(intro X hX;change Wl [_] _ _ _ _ _ _ _;apply Wl.catX;(focus repeat constructor))) | (apply Gt.endX;exact rfl) | (apply EndX.on;exact rfl) | (apply EndX.off;exact rfl) | (apply EndX.nil';apply Wl.catE;(focus repeat constructor)) | (refine Wl.indexA rfl rfl rfl ?_ ?_;omega) | (apply Wl.loadN;exact rfl;exact rfl;(focus repeat constructor);omega) | refine Wl.move rfl rfl ?_ | refine Wl.assign rfl rfl ?_ | refine Wl.neq rfl rfl rfl ?_ | refine Wl.geq rfl rfl rfl ?_ | (refine Wl.subI rfl rfl rfl ?_ ?_;constructor <;> omega) | apply Wl.nil | apply St.seq | apply St.block | apply St.region | (apply St.condT;exact rfl;(with_reducible first | rfl | assumption | decide)) | (apply St.condF;exact rfl;(with_reducible first | rfl | assumption | decide)) | apply St.skip | apply Gt.next | apply Gt.inNormal
   apply Gt.round i
   rotate_left
   ·simp
   ·repeat constructor
   ·exact fun _ h => h
   ·exact ⟨by omega,by omega⟩
  ·have hn : decide (((dg D16 a i : Nat) : Int) ≠ ((dg D16 b i : Nat) : Int)) = true := decide_eq_true (by omega)
   have hfin : decide (((dg D16 a i : Nat) : Int) < ((dg D16 b i : Nat) : Int)) = decide (a < b) := decide_eq_decide.2 ⟨fun h => lt_of_hi (B := D16) (i := i) (by omega),fun h => by
    rcases Nat.lt_or_ge (dg D16 a i) (dg D16 b i) with h1 | h1
    ·omega
    ·have : b < a := lt_of_hi (B := D16) (i := i) (by omega)
     omega⟩
   repeat' first | (apply St.bagX 7 [6];exact mixed;(decide +kernel);kernel_rfl) | apply OpsX.nil | (apply OpsX.v;(intro X hX;change Wl [_] _ _ _ _ _ _ _;apply Wl.catX;(focus repeat constructor))) | (apply Gt.endX;exact rfl) | (apply EndX.on;exact rfl) | (apply EndX.off;exact rfl) | (apply EndX.nil';apply Wl.catE;(focus repeat constructor)) | (refine Wl.indexA rfl rfl rfl ?_ ?_;omega) | (apply Wl.loadN;exact rfl;exact rfl;(focus repeat constructor);omega) | refine Wl.move rfl rfl ?_ | refine Wl.assign rfl rfl ?_ | refine Wl.neq rfl rfl rfl ?_ | refine Wl.lss rfl rfl rfl ?_ | refine Wl.geq rfl rfl rfl ?_ | apply Wl.nil | apply St.seq | apply St.block | apply St.region | (apply St.condT;exact rfl;(with_reducible first | rfl | assumption | decide)) | apply St.ret | apply St.skip | apply Gt.next | apply Gt.thenRet | apply Gt.inRet | (apply Gt.out1;exact rfl;exact rfl;intro w' hp)
   rw [hfin] at *
   exact ⟨rfl,hp.drop (by simp;omega)⟩
end Go.Proofs.YtmjlceimjlabpaaDoor
end
section
namespace Go.Proofs.YtmjlceimjlabpaaDoor
open Go.RowKit Go.Pt
open Sha (rdN word byteAt byteAt_lt)
end Go.Proofs.YtmjlceimjlabpaaDoor
end
section
namespace Go.Proofs.YtmjlceimjlabpaaDoor
attribute [local irreducible] Prim.P256 jin
section
variable {β : Type}
end
end Go.Proofs.YtmjlceimjlabpaaDoor
end
section
namespace Go.Proofs.YtmjlceimjlabpaaDoor
theorem nW : Prim.N256 < W256 := by decide +kernel
theorem n_odd : Prim.N256 % 2 = 1 := by decide +kernel
end Go.Proofs.YtmjlceimjlabpaaDoor
end
section
namespace Go.Pt
open Go.RowKit
theorem results_cct {fn : Func} {p q u : Tmp} {ta tb : TypeId} (h : fn.results = #[.cell p ta,.cell q tb,.tmp u]) (tmps : Array Value) (P : Program) (w : World) :
  (results fn tmps).run P w =
   ((asAddr (tmps.getD p undef)).run P w).andThen fun a w₁ => ((loadVar ta a).run P w₁).andThen fun v w₂ => ((asAddr (tmps.getD q undef)).run P w₂).andThen fun a' w₃ => ((loadVar tb a').run P w₃).andThen fun v' w₄ => .ok (.tuple #[v,v',tmps.getD u undef]) w₄ := by
 simp only [results,h]
 simp [Sem.run_bind,Result.andThen]
theorem Gt.outCCT {P : Program} {N : Nat} {Γ : Env} {w0 : World} {H : List Blk} {fn : Func} {R : Ending → World → Prop} {t s u ta tb n1 n2 c c' bt bt' : Nat} {v : Value} {xs ys : List Value} (hr : fn.results = #[.cell t ta,.cell s tb,.tmp u]) (hT : TyA P ta n1) (hT' : TyA P tb n2)
  (ht : look Γ t = some (.pointer (some ⟨c,0,none⟩))) (hs : look Γ s = some (.pointer (some ⟨c',0,none⟩))) (hu : look Γ u = some v) (hm : (⟨c,xs,bt⟩ : Blk) ∈ H) (hm' : (⟨c',ys,bt'⟩ : Blk) ∈ H) (hn : xs.length = n1) (hn' : ys.length = n2)
  (h : ∀ w,Hp w0 H w → R (.returned (.tuple #[.agg xs.toArray,.agg ys.toArray,v])) w) : Gt N .ret Γ (Hp w0 H) (bodyPost P fn R) := Gt.intro fun a w ha hw => by
 refine ⟨ha.defers,_,?_,h w hw⟩
 have h1 := run_loadA (P := P) (t := ta) (w := w) (a := ⟨c,0,none⟩) hn (fun j v hj => by rw [addLit,Nat.zero_add];exact hw.cell hm hj)
 have h2 := run_loadA (P := P) (t := tb) (w := w) (a := ⟨c',0,none⟩) hn' (fun j v hj => by rw [addLit,Nat.zero_add];exact hw.cell hm' hj)
 rw [results_cct hr]
 simp [ha.get _ _ ht,ha.get _ _ hs,ha.get _ _ hu,asAddr,h1,h2]
end Go.Pt
namespace Go.Proofs.YtmjlceimjlabpaaDoor
open Go.RowKit Go.Pt
attribute [local irreducible] Prim.P256
theorem gx8R : [Value.int .u32 3633889942,.int .u32 4104206661,.int .u32 770388896,.int .u32 1996717441,.int .u32 1671708914,.int .u32 4173129445,.int .u32 3777774151,.int .u32 1796723186] = cellsN .u32 8 (dg W32 curG.1.val) := gx8
theorem gy8R : [Value.int .u32 935285237,.int .u32 3417718888,.int .u32 1798397646,.int .u32 734933847,.int .u32 2081398294,.int .u32 2397563722,.int .u32 4263149467,.int .u32 1340293858] = cellsN .u32 8 (dg W32 curG.2.val) := gy8
def ptR : Ec.Pt → Ec.F × Ec.F × Ec.F
 | none => (0,1,0)
 | some (x,y) => (x,y,1)
theorem ptR_pt (A : Ec.Pt) : Ec.ppt (ptR A) = A := by
 match A with
 | none => exact Ec.prj_zero _ _
 | some (x,y) =>
  have h1 : (1 : Ec.F) ≠ 0 := fun e => Ec.two_ne (by grobner)
  have := Ec.prj_of (x := x) (y := y) h1
  unfold Ec.ppt ptR
  simp only
  rw [show x * 1 = x by grobner,show y * 1 = y by grobner] at this
  exact this
theorem rpR_some (x y : Ec.F) : rpV (ptR (some (x,y))) = .agg (rpC x.val y.val 1).toArray := by
 unfold rpV rpF ptR
 simp only
 rw [val_one]
theorem ref4Base (w : World) : Calls Tryd.prog 58 #[] w fun e w' => e = .returned (rpV (ptR (some curG))) ∧ Hp w [] w' := by
 refine enter (args := []) (Γ := []) Tryd.func58 Tryd.ntmps58 rfl (of_decide_eq_true rfl) .nil ?_
 repeat' first | (apply Wl.buildN;exact rfl;(repeat (first | exact Parts.nil | apply Parts.cons rfl));(repeat (first | apply Fills.nil | (apply Fills.one;exact rfl;exact rfl;(repeat (first | apply LSet.z | apply LSet.s))) | (apply Fills.agg;exact rfl;exact rfl;(repeat (first | apply LPut.s | apply LPut.z | apply LOver.nil | apply LOver.cons)))));(first | exact gx8R | exact gy8R)) | (apply Wl.callQ (f := 84);exact rfl;(focus repeat constructor);(intro wq hq;exact hq.q (refOf _ wq))) | (apply Wl.storeAll;exact rfl;exact rfl;(focus repeat constructor);(first | exact rpC_len _ _ _);(first | exact rfl | exact rpC_len _ _ _);(first | exact rpC_one _ _ _)) | (apply Wl.buildRp;exact rfl;(focus ((repeat (first | exact Parts.nil | apply Parts.cons rfl));done))) | (apply Gt.outC';exact rfl;infer_instance;exact rfl;(focus repeat constructor);(first | exact LSub.whole (rpC_len _ _ _));intro w' hp) | (apply Wl.loadW;exact rfl;exact rfl;(focus repeat constructor);exact rfl) | (apply Wl.storeW;exact rfl;exact rfl;(focus repeat constructor);exact rfl;(first | exact cellsN_len _ _ _ | exact rfl)) | (apply Wl.buildN;exact rfl;(repeat (first | exact Parts.nil | apply Parts.cons rfl));(repeat (first | apply Fills.nil | (apply Fills.one;exact rfl;exact rfl;(repeat (first | apply LSet.z | apply LSet.s))) | (apply Fills.agg;exact rfl;exact rfl;(repeat (first | apply LPut.s | apply LPut.z | apply LOver.nil | apply LOver.cons)))));(first | exact one8 | exact zero8 | exact two8 | exact one16)) | (apply Wl.allocN;exact rfl;(first | exact z8 | exact z16 | exact z17 | exact z33 | exact z10);intro c hc ho) | (apply Wl.alloc;exact rfl;intro c hc ho) | apply Wl.nil | apply St.seq | apply St.region | apply St.ret | apply Gt.next
 exact ⟨by rw [show some curG = some (curG.1,curG.2) from rfl,rpR_some],hp.drop (by simp;omega)⟩
def tmS (n : Nat) (p : Ec.F × Ec.F × Ec.F) : Nat → (Ec.F × Ec.F × Ec.F) × (Ec.F × Ec.F × Ec.F)
 | 0 => ((0,1,0),p)
 | i + 1 => (if n / 2 ^ i % 2 = 1 then Ec.pplus (tmS n p i).1 (tmS n p i).2 else (tmS n p i).1,Ec.pdbl (tmS n p i).2)
def ptimes (n : Nat) (p : Ec.F × Ec.F × Ec.F) : Ec.F × Ec.F × Ec.F := (tmS n p 256).1
theorem tmS_spec {n : Nat} {p : Ec.F × Ec.F × Ec.F} (hp : OnP (Ec.ppt p)) : ∀ i,Ec.ppt (tmS n p i).1 = sm3 (n % 2 ^ i) (Ec.ppt p) ∧ Ec.ppt (tmS n p i).2 = sm3 (2 ^ i) (Ec.ppt p)
 | 0 => by
  refine ⟨?_,?_⟩
  ·rw [tmS,Nat.pow_zero,Nat.mod_one]
   exact Ec.prj_zero _ _
  ·rw [tmS,Nat.pow_zero]
   exact (Ec.sm_one _).symm
 | i + 1 => by
  obtain ⟨h1,h2⟩ := tmS_spec hp i
  have hm : n % 2 ^ (i + 1) = n % 2 ^ i + 2 ^ i * (n / 2 ^ i % 2) := by rw [Nat.pow_succ,Nat.mod_mul]
  refine ⟨?_,?_⟩
  ·rw [tmS,hm]
   simp only
   by_cases hb : n / 2 ^ i % 2 = 1
   ·rw [if_pos hb,Ec.pplus_pt,h1,h2,hb,Nat.mul_one]
    exact (Ec.sm_add disc3 hp _ _).symm
   ·have hb0 : n / 2 ^ i % 2 = 0 := by omega
    rw [if_neg hb,hb0,Nat.mul_zero,Nat.add_zero,h1]
  ·rw [tmS]
   simp only
   rw [Ec.pdbl_pt,h2,Nat.pow_succ,Nat.mul_comm]
   exact (Ec.sm_two disc3 hp _).symm
theorem ptimes_pt {n : Nat} {p : Ec.F × Ec.F × Ec.F} (hn : n < W256) (hp : OnP (Ec.ppt p)) : Ec.ppt (ptimes n p) = sm3 n (Ec.ppt p) := by
 unfold ptimes
 rw [(tmS_spec hp 256).1,show (2 : Nat) ^ 256 = W256 by decide,Nat.mod_eq_of_lt hn]
set_option maxHeartbeats 8000000 in
theorem refTimes (b n : Nat) (p : Ec.F × Ec.F × Ec.F) (w : World) (hF : FldV w b Prim.P256) : Calls Tryd.prog 56 #[mp b,num16 n,rpV p] w fun e w' => e = .returned (rpV (ptimes n p)) ∧ Hp w [] w' := by
 have hb := hF.blk
 refine enter (args := [_,_,_]) (Γ := [(0,_),(1,_),(2,_)]) Tryd.func56 Tryd.ntmps56 rfl (of_decide_eq_true rfl) (.cons rfl (.cons rfl (.cons rfl .nil))) ?_
 repeat' first | (apply Wl.storeAll;exact rfl;exact rfl;(focus repeat constructor);(first | exact rpC_len _ _ _);(first | exact rfl | exact rpC_len _ _ _);(first | exact rpC_one _ _ _)) | (apply Wl.buildRq;exact rfl;(focus ((repeat (first | exact Parts.nil | apply Parts.cons rfl));done))) | (apply Wl.boxN;exact rfl;exact rfl;intro c hc ho) | (apply Wl.buildN;exact rfl;(repeat (first | exact Parts.nil | apply Parts.cons rfl));(repeat (first | apply Fills.nil | (apply Fills.one;exact rfl;exact rfl;(repeat (first | apply LSet.z | apply LSet.s))) | (apply Fills.agg;exact rfl;exact rfl;(repeat (first | apply LPut.s | apply LPut.z | apply LOver.nil | apply LOver.cons)))));(first | exact one8 | exact zero8 | exact two8 | exact one16)) | refine Wl.assign rfl rfl ?_ | (apply Wl.boxA;exact rfl;exact rfl;intro c hc ho) | (apply Wl.alloc;exact rfl;intro c hc ho) | apply Wl.nil | apply St.seq | apply St.block | apply St.region | apply Gt.next
 rename_i c4 h4 o4 c5 h5 o5 c6 h6 o6
 generalize c = c7 at *
 refine St.loop (σ := Nat) (fun i => i ≤ 256) (fun i => [(0,mp b),(4,mp c4),(5,mp c5),(6,mp c6),(7,mp c7),(8,.int .i64 i)])
  (fun i => Hp w [⟨c7,rpF (tmS n p i).1,96⟩,⟨c6,[Value.int .u64 0,Value.int .u64 0,Value.int .u64 0,Value.int .u64 0,Value.int .u64 0,Value.int .u64 0,Value.int .u64 0,Value.int .u64 0,Value.int .u64 0,Value.int .u64 0,Value.int .u64 0,Value.int .u64 0,Value.int .u64 0,Value.int .u64 0,Value.int .u64 0,Value.int .u64 0,Value.int .u64 0,Value.int .u64 0,Value.int .u64 0,Value.int .u64 0,Value.int .u64 0,Value.int .u64 0,Value.int .u64 0,Value.int .u64 0,Value.int .u64 0,Value.int .u64 0,Value.int .u64 0,Value.int .u64 0,Value.int .u64 0,Value.int .u64 0,Value.int .u64 0,Value.int .u64 0,Value.int .u64 0,Value.int .u64 0,Value.int .u64 0,Value.int .u64 0,Value.int .u64 0,Value.int .u64 0,Value.int .u64 0,Value.int .u64 0,Value.int .u64 0,Value.int .u64 0,Value.int .u64 0,Value.int .u64 0,Value.int .u64 0,Value.int .u64 0,Value.int .u64 0,Value.int .u64 0],96⟩,⟨c5,rpF (tmS n p i).2,96⟩,⟨c4,cellsN .u64 16 (dg D16 n),94⟩])
  (fun i => 256 - i) 0 (by simp) (by repeat constructor) (fun _ h => by
   show Hp w [⟨c7,rpC (0 : Ec.F).val (1 : Ec.F).val (0 : Ec.F).val,_⟩,_,_,_] _
   rw [val_one,val_zero]
   exact h) ?_
 intro i hi256
 by_cases hil : i < 256
 ·have hbit := bit_dg16 n i
  have hdl := dlt16 n (i / 16)
  have h16 : i / 16 < 16 := by omega
  have hb2 := Nat.mod_lt (n / 2 ^ i) (show 0 < 2 by decide)
  have hS : tmS n p (i + 1) = (if n / 2 ^ i % 2 = 1 then Ec.pplus (tmS n p i).1 (tmS n p i).2 else (tmS n p i).1,Ec.pdbl (tmS n p i).2) := rfl
  have hc : decide ((i : Int) < 256) = true := decide_eq_true (by omega)
  repeat' first | (refine Wl.indexA rfl rfl rfl ?_ ?_;omega) | (apply Wl.loadN;exact rfl;exact rfl;(focus repeat constructor);omega) | (apply Wl.remN (n := 2);exact rfl;exact rfl;exact rfl;(decide)) | (apply Wl.quoN (n := 16);exact rfl;exact rfl;exact rfl;(decide);(first | exact IntWalk.u64_in _ (by omega) | exact IntWalk.i64_in _ (by omega))) | (apply Wl.remN (n := 16);exact rfl;exact rfl;exact rfl;(decide)) | (apply Wl.shrV;exact rfl;exact rfl;exact rfl;(first | (show _ ≤ 32;omega) | (show _ ≤ 64;omega))) | refine Wl.move rfl rfl ?_ | refine Wl.eql rfl rfl rfl ?_ | refine Wl.lss rfl rfl rfl ?_ | apply Wl.nil | apply St.seq | apply St.block | apply St.region | (apply St.condT;exact rfl;(with_reducible first | rfl | assumption | decide)) | apply St.skip | apply Gt.next
  rw [hbit]
  by_cases hbi : n / 2 ^ i % 2 = 1
  ·rw [if_pos hbi] at hS
   rw [hbi]
   repeat' first | (apply Wl.loadAH;exact rfl;exact rfl;(focus repeat constructor);(first | exact rpC_x _ _ _ | exact rpC_y _ _ _ | exact rpC_z _ _ _ | exact LSub.whole (rpC_len _ _ _))) | (apply Wl.storeAll;exact rfl;exact rfl;(focus repeat constructor);(first | exact rpC_len _ _ _);(first | exact rfl | exact rpC_len _ _ _);(first | exact rpC_one _ _ _)) | (apply Wl.callQ (f := 55);exact rfl;(focus repeat constructor);(intro wq hq;refine (refPlus _ _ _ wq (hF.hp hq (by (repeat (first | exact trivial | exact hX.off (by omega) | refine ⟨by first | assumption | omega | (simp only;omega),?_⟩))))).mono ?_;rintro e wr ⟨rfl,hr⟩;exact ⟨rfl,hq.keep hr⟩)) | (apply Wl.callQ (f := 87);exact rfl;(focus repeat constructor);(intro wq hq;refine (refDbl _ _ wq (hF.hp hq (by (repeat (first | exact trivial | exact hX.off (by omega) | refine ⟨by first | assumption | omega | (simp only;omega),?_⟩))))).mono ?_;rintro e wr ⟨rfl,hr⟩;exact ⟨rfl,hq.keep hr⟩)) | refine Wl.move rfl rfl ?_ | refine Wl.assign rfl rfl ?_ | (refine Wl.addI rfl rfl rfl ?_ ?_;constructor <;> omega) | apply Wl.nil | apply St.region | (apply St.condT;exact rfl;(with_reducible first | rfl | assumption | decide)) | apply Gt.next | apply Gt.inNormal
   apply Gt.round (i + 1)
   rotate_left
   ·omega
   ·repeat constructor
   ·exact fun _ h => by simp only [hS];exact h
   ·omega
  ·have hb0 : n / 2 ^ i % 2 = 0 := by omega
   rw [if_neg hbi] at hS
   rw [hb0]
   repeat' first | (apply Wl.loadAH;exact rfl;exact rfl;(focus repeat constructor);(first | exact rpC_x _ _ _ | exact rpC_y _ _ _ | exact rpC_z _ _ _ | exact LSub.whole (rpC_len _ _ _))) | (apply Wl.storeAll;exact rfl;exact rfl;(focus repeat constructor);(first | exact rpC_len _ _ _);(first | exact rfl | exact rpC_len _ _ _);(first | exact rpC_one _ _ _)) | (apply Wl.callQ (f := 87);exact rfl;(focus repeat constructor);(intro wq hq;refine (refDbl _ _ wq (hF.hp hq (by (repeat (first | exact trivial | exact hX.off (by omega) | refine ⟨by first | assumption | omega | (simp only;omega),?_⟩))))).mono ?_;rintro e wr ⟨rfl,hr⟩;exact ⟨rfl,hq.keep hr⟩)) | refine Wl.move rfl rfl ?_ | refine Wl.assign rfl rfl ?_ | (refine Wl.addI rfl rfl rfl ?_ ?_;constructor <;> omega) | apply Wl.nil | apply St.region | (apply St.condF;exact rfl;(with_reducible first | rfl | assumption | decide)) | apply St.skip | apply Gt.next | apply Gt.inNormal
   apply Gt.round (i + 1)
   rotate_left
   ·omega
   ·repeat constructor
   ·exact fun _ h => by simp only [hS];exact h
   ·omega
 ·have hie : i = 256 := by omega
  subst hie
  repeat' first | (apply Wl.loadAH;exact rfl;exact rfl;(focus repeat constructor);(first | exact rpC_x _ _ _ | exact rpC_y _ _ _ | exact rpC_z _ _ _ | exact LSub.whole (rpC_len _ _ _))) | (apply Wl.storeAll;exact rfl;exact rfl;(focus repeat constructor);(first | exact rpC_len _ _ _);(first | exact rfl | exact rpC_len _ _ _);(first | exact rpC_one _ _ _)) | (apply Gt.outC';exact rfl;infer_instance;exact rfl;(focus repeat constructor);(first | exact LSub.whole (rpC_len _ _ _));intro w' hp) | refine Wl.move rfl rfl ?_ | refine Wl.lss rfl rfl rfl ?_ | apply Wl.nil | apply St.seq | apply St.region | (apply St.condF;exact rfl;(with_reducible first | rfl | assumption | decide)) | apply St.ret | apply St.exit | apply Gt.next | apply Gt.thenExit | apply Gt.inExit
  exact ⟨rfl,hp.drop (by simp;omega)⟩
attribute [irreducible] ptimes
set_option maxHeartbeats 8000000 in
theorem refPlain (b : Nat) (p : Ec.F × Ec.F × Ec.F) (w : World) (hF : FldV w b Prim.P256) : Calls Tryd.prog 54 #[mp b,rpV p] w fun e w' => e = .returned (.tuple #[num16 (poX (Ec.ppt p)),num16 (poY (Ec.ppt p)),.bool (!(Ec.ppt p).isNone)]) ∧ Hp w [] w' := by
 have hb := hF.blk
 obtain ⟨x,y,z⟩ := p
 refine enter (args := [_,_]) (Γ := [(0,_),(1,_)]) Tryd.func54 Tryd.ntmps54 rfl (of_decide_eq_true rfl) (.cons rfl (.cons rfl .nil)) ?_
 unfold Ec.ppt Ec.prj
 by_cases hz : z = 0
 ·have hd : decide (z = 0) = true := decide_eq_true hz
  repeat' first | (apply Wl.loadAH;exact rfl;exact rfl;(focus repeat constructor);(first | exact rpC_x _ _ _ | exact rpC_y _ _ _ | exact rpC_z _ _ _ | exact LSub.whole (rpC_len _ _ _))) | (apply Wl.buildN;exact rfl;(repeat (first | exact Parts.nil | apply Parts.cons rfl));(repeat (first | apply Fills.nil | (apply Fills.one;exact rfl;exact rfl;(repeat (first | apply LSet.z | apply LSet.s))) | (apply Fills.agg;exact rfl;exact rfl;(repeat (first | apply LPut.s | apply LPut.z | apply LOver.nil | apply LOver.cons)))));exact zero16) | (apply Wl.eqlA;exact rfl;exact rfl;exact rfl;kernel_rfl;kernel_rfl;kernel_rfl;kernel_rfl;exact cell64 _;exact cell64 _;exact eq16Z _) | (apply Gt.outCCT;exact rfl;infer_instance;infer_instance;exact rfl;exact rfl;exact rfl;(focus repeat constructor);(focus repeat constructor);exact cellsN_len _ _ _;exact cellsN_len _ _ _;intro w' hp) | (apply Wl.storeW;exact rfl;exact rfl;(focus repeat constructor);exact rfl;(first | exact cellsN_len _ _ _ | exact rfl)) | (apply Wl.allocN;exact rfl;(first | exact z8 | exact z16 | exact z17 | exact z33 | exact z10);intro c hc ho) | refine Wl.assign rfl rfl ?_ | refine Wl.fieldAddrZ rfl rfl ?_ | (apply Wl.boxA;exact rfl;exact rfl;intro c hc ho) | apply Wl.nil | apply St.seq | apply St.region | (apply St.condT;exact rfl;(with_reducible first | rfl | assumption | decide)) | apply St.ret | apply Gt.next | apply Gt.thenRet
  rw [if_pos hz]
  exact ⟨rfl,hp.drop (by simp;omega)⟩
 ·have hd : decide (z = 0) = false := decide_eq_false hz
  obtain ⟨i,h_i⟩ : ∃ q_ : Ec.F,q_ = Ec.finv z := ⟨_,rfl⟩
  obtain ⟨xi,h_xi⟩ : ∃ q_ : Ec.F,q_ = x * i := ⟨_,rfl⟩
  obtain ⟨yi,h_yi⟩ : ∃ q_ : Ec.F,q_ = y * i := ⟨_,rfl⟩
  repeat' first | (apply St.bagX 10 [];exact mixed;(decide +kernel);kernel_rfl) | apply OpsX.nil | (apply OpsX.v;(intro X hX;change Wl [_] _ _ _ _ _ _ _;apply Wl.catX;(focus repeat constructor))) | (apply Gt.endX;exact rfl) | (apply EndX.on;exact rfl) | (apply EndX.off;exact rfl) | (apply EndX.nil';apply Wl.catE;(focus repeat constructor)) | (apply Wl.loadAH;exact rfl;exact rfl;(focus repeat constructor);(first | exact rpC_x _ _ _ | exact rpC_y _ _ _ | exact rpC_z _ _ _ | exact LSub.whole (rpC_len _ _ _))) | (apply Wl.buildN;exact rfl;(repeat (first | exact Parts.nil | apply Parts.cons rfl));(repeat (first | apply Fills.nil | (apply Fills.one;exact rfl;exact rfl;(repeat (first | apply LSet.z | apply LSet.s))) | (apply Fills.agg;exact rfl;exact rfl;(repeat (first | apply LPut.s | apply LPut.z | apply LOver.nil | apply LOver.cons)))));exact zero16) | (apply Wl.eqlA;exact rfl;exact rfl;exact rfl;kernel_rfl;kernel_rfl;kernel_rfl;kernel_rfl;exact cell64 _;exact cell64 _;exact eq16Z _) | (apply Wl.callQ (f := 57);exact rfl;(focus repeat constructor);(intro wq hq;refine (hMul (hF.hp hq (by (repeat (first | exact trivial | exact hX.off (by omega) | refine ⟨by first | assumption | omega | (simp only;omega),?_⟩)))) (by with_reducible assumption)).mono ?_;rintro e wr ⟨rfl,hr⟩;exact ⟨rfl,hq.keep hr⟩)) | (apply Wl.callQ (f := 52);exact rfl;(focus repeat constructor);(intro wq hq;refine (hInv (hF.hp hq (by (repeat (first | exact trivial | exact hX.off (by omega) | refine ⟨by first | assumption | omega | (simp only;omega),?_⟩)))) (by with_reducible assumption)).mono ?_;rintro e wr ⟨rfl,hr⟩;exact ⟨rfl,hq.keep hr⟩)) | (apply Gt.outCCT;exact rfl;infer_instance;infer_instance;exact rfl;exact rfl;exact rfl;(focus repeat constructor);(focus repeat constructor);exact cellsN_len _ _ _;exact cellsN_len _ _ _;intro w' hp) | (apply Wl.loadW;exact rfl;exact rfl;(focus repeat constructor);exact rfl) | (apply Wl.storeW;exact rfl;exact rfl;(focus repeat constructor);exact rfl;(first | exact cellsN_len _ _ _ | exact rfl)) | (apply Wl.allocN;exact rfl;(first | exact z8 | exact z16 | exact z17 | exact z33 | exact z10);intro c hc ho) | refine Wl.move rfl rfl ?_ | refine Wl.assign rfl rfl ?_ | refine Wl.fieldAddr0 rfl rfl ?_ | refine Wl.fieldAddrZ rfl rfl ?_ | (apply Wl.boxA;exact rfl;exact rfl;intro c hc ho) | apply Wl.nil | apply St.seq | apply St.region | (apply St.condF;exact rfl;(with_reducible first | rfl | assumption | decide)) | apply St.ret | apply St.skip | apply Gt.next
  rw [if_neg hz]
  simp only
  rw [← h_i,← h_xi,← h_yi]
  exact ⟨rfl,hp.drop (by simp;omega)⟩
end Go.Proofs.YtmjlceimjlabpaaDoor
end
section
namespace Go.Proofs.YtmjlceimjlabpaaDoor
open Go.RowKit Go.Pt
attribute [local irreducible] Prim.P256
theorem gCmp {a b : Nat} {k : Int} (ha : a < W256) (hb : b < W256) (e : cmpN a b = k) (w : World) : Calls Tryd.prog 65 #[numV a,numV b] w fun e w' => e = .returned (.int .i64 k) ∧ Hp w [] w' := e ▸ limbCompare a b ha hb w
theorem cmp_lt {a b : Nat} (h : a < b) : cmpN a b = -1 := if_pos h
theorem cmp_ge {a b : Nat} (h : ¬ a < b) : 0 ≤ cmpN a b := by unfold cmpN;rw [if_neg h];split <;> decide
theorem eq8F (x y : Ec.F) : decide (x = y) = true ↔ ∀ j,j < 8 → dg W32 (mg x) j = dg W32 (mg y) j := by
 rw [← d8_inj (mg_W x) (mg_W y),decide_eq_true_iff,decide_eq_true_iff]
 exact ⟨fun h => by rw [h],fun h => mg_inj h⟩
def onB (X Y : Nat) : Bool := decide (X < Prim.P256) && (decide (Y < Prim.P256) && decide (nF Y * nF Y = nF X * nF X * nF X - (nF X + nF X + nF X) + curB))
theorem gIn {b : Nat} {w : World} (h : ModV w b Prim.P256) {a : Nat} {r : Ec.F} (ha : a < W256) (e : r = nF a) : Calls Tryd.prog 35 #[mp b,numV a] w fun e w' => e = .returned (numV (mg r)) ∧ Hp w [] w' := e ▸ fIn h ha
set_option maxHeartbeats 16000000 in
theorem curOnC (k bm X Y : Nat) (n : Bool) (w : World) (hV : CurV w k bm) (hX : X < W256) (hY : Y < W256) : Calls Tryd.prog 63 #[mp k,.agg (poC X Y n).toArray] w fun e w' => e = .returned (.bool (!n && onB X Y)) ∧ Hp w [] w' := by
 obtain ⟨hc,hb⟩ := hV.lt
 have hM := fun wq h => modModulus bm Prim.P256 wq h
 refine enter (args := [_,_]) (Γ := [(0,_),(1,_)]) Tryd.func63 Tryd.ntmps63 rfl (of_decide_eq_true rfl) (.cons rfl (.cons rfl .nil)) ?_
 unfold onB
 cases n with
 | true =>
  repeat' first | (apply St.bagX 28 [27];exact mixed;(decide +kernel);kernel_rfl) | apply OpsX.nil | (apply OpsX.v;(intro X hX;change Wl [_] _ _ _ _ _ _ _;apply Wl.catX;(focus repeat constructor))) | (apply Gt.endX;exact rfl) | (apply EndX.on;exact rfl) | (apply EndX.off;exact rfl) | (apply EndX.nil';apply Wl.catE;(focus repeat constructor)) | (apply Wl.loadH;exact rfl;exact rfl;(focus repeat constructor);(first | exact poC_n _ _ _ | exact poD_n _)) | refine Wl.move rfl rfl ?_ | refine Wl.assign rfl rfl ?_ | (apply Wl.on;exact rfl;exact rfl;(with_reducible first | rfl | assumption | decide)) | (apply Wl.off;exact rfl;exact rfl;exact rfl;(first | with_reducible rfl | (show _ = false;with_reducible assumption) | (show _ = true;with_reducible assumption) | decide)) | (apply Wl.pickT;exact rfl;exact rfl;(with_reducible first | rfl | assumption | decide);exact rfl) | (apply Wl.pickF;exact rfl;exact rfl;(with_reducible first | rfl | assumption | decide);exact rfl) | refine Wl.fieldAddrZ rfl rfl ?_ | refine Wl.eqlPN rfl rfl rfl ?_ | (apply Wl.boxA;exact rfl;exact rfl;intro c hc ho) | apply Wl.nil | apply St.seq | apply St.region | (apply St.condT;exact rfl;(with_reducible first | rfl | assumption | decide)) | apply St.ret | apply Gt.next | apply Gt.thenRet | (apply Gt.out1;exact rfl;exact rfl;intro w' hp)
  exact ⟨rfl,hp.drop (by simp;omega)⟩
 | false =>
  by_cases hx : X < Prim.P256
  ·have cx := cmp_lt hx
   have dx : decide (X < Prim.P256) = true := decide_eq_true hx
   rw [dx]
   by_cases hy : Y < Prim.P256
   ·have cy := cmp_lt hy
    have dy : decide (Y < Prim.P256) = true := decide_eq_true hy
    rw [dy]
    obtain ⟨x,h_x⟩ : ∃ q_ : Ec.F,q_ = nF X := ⟨_,rfl⟩
    obtain ⟨y,h_y⟩ : ∃ q_ : Ec.F,q_ = nF Y := ⟨_,rfl⟩
    obtain ⟨x2,h_x2⟩ : ∃ q_ : Ec.F,q_ = x + x := ⟨_,rfl⟩
    obtain ⟨x3,h_x3⟩ : ∃ q_ : Ec.F,q_ = x2 + x := ⟨_,rfl⟩
    obtain ⟨xx,h_xx⟩ : ∃ q_ : Ec.F,q_ = x * x := ⟨_,rfl⟩
    obtain ⟨xxx,h_xxx⟩ : ∃ q_ : Ec.F,q_ = xx * x := ⟨_,rfl⟩
    obtain ⟨df,h_df⟩ : ∃ q_ : Ec.F,q_ = xxx - x3 := ⟨_,rfl⟩
    obtain ⟨rr,h_rr⟩ : ∃ q_ : Ec.F,q_ = df + curB := ⟨_,rfl⟩
    obtain ⟨yy,h_yy⟩ : ∃ q_ : Ec.F,q_ = y * y := ⟨_,rfl⟩
    rw [← h_x,← h_y,← h_x2,← h_x3,← h_xx,← h_xxx,← h_df,← h_rr,← h_yy]
    repeat' first | (apply St.bagX 28 [27];exact mixed;(decide +kernel);kernel_rfl) | (apply St.bagX 16 [];exact mixed;(decide +kernel);kernel_rfl) | (apply St.bagX 14 [];exact mixed;(decide +kernel);kernel_rfl) | (apply St.bagX 29 [];exact mixed;(decide +kernel);kernel_rfl) | (apply St.bagXc 10 [9];exact mixed;(decide +kernel);(repeat (first | apply CleanX.nil | (apply CleanX.skip;exact rfl) | (apply CleanX.keep;exact rfl)));kernel_rfl) | apply OpsX.nil | (apply OpsX.b;exact rfl) | (apply OpsX.v;(intro X hX;change Wl [_] _ _ _ _ _ _ _;apply Wl.catX;(focus repeat constructor))) | (apply Gt.endX;exact rfl) | (apply EndX.new;intro c hc ho) | (apply EndX.on;exact rfl) | (apply EndX.off;exact rfl) | (apply EndX.nil';apply Wl.catE;(focus repeat constructor)) | (apply Wl.loadM;exact rfl;exact rfl;exact hV.b;(repeat (first | exact trivial | exact hX.off (by omega) | refine ⟨by first | assumption | omega | (simp only;omega),?_⟩));exact rfl) | (apply Wl.loadO;exact rfl;exact rfl;exact hV.mod;(repeat (first | exact trivial | exact hX.off (by omega) | refine ⟨by first | assumption | omega | (simp only;omega),?_⟩))) | (apply Wl.loadAH;exact rfl;exact rfl;(focus repeat constructor);(first | exact ptC_x _ _ _ | exact ptC_y _ _ _ | exact ptC_z _ _ _ | exact poC_x _ _ _ | exact poC_y _ _ _ | exact poD_x _ | exact poD_y _ | exact LSub.whole (ptC_len _ _ _) | exact LSub.whole (poC_len _ _ _) | exact LSub.whole (poD_len _))) | (apply Wl.loadH;exact rfl;exact rfl;(focus repeat constructor);(first | exact poC_n _ _ _ | exact poD_n _)) | (apply Wl.callQ (f := 68);exact rfl;(focus repeat constructor);(intro wq hq;refine (hM wq (hV.val.hp hq (by (repeat (first | exact trivial | exact hX.off (by omega) | refine ⟨by first | assumption | omega | (simp only;omega),?_⟩))))).mono ?_;rintro e wr ⟨rfl,hr⟩;exact ⟨rfl,hq.keep hr⟩)) | (apply Wl.callQ (f := 65);exact rfl;(focus repeat constructor);(intro wq hq;exact hq.q (gCmp (by assumption) pW (by with_reducible assumption) wq))) | (apply Wl.callQ (f := 35);exact rfl;(focus repeat constructor);(intro wq hq;refine (gIn (hV.val.hp hq (by (repeat (first | exact trivial | exact hX.off (by omega) | refine ⟨by first | assumption | omega | (simp only;omega),?_⟩)))) (by assumption) (by with_reducible assumption)).mono ?_;rintro e wr ⟨rfl,hr⟩;exact ⟨rfl,hq.keep hr⟩)) | (apply Wl.callQ (f := 37);exact rfl;(focus repeat constructor);(intro wq hq;refine (gTimes (hV.val.hp hq (by (repeat (first | exact trivial | exact hX.off (by omega) | refine ⟨by first | assumption | omega | (simp only;omega),?_⟩)))) (by with_reducible assumption)).mono ?_;rintro e wr ⟨rfl,hr⟩;exact ⟨rfl,hq.keep hr⟩)) | (apply Wl.callQ (f := 66);exact rfl;(focus repeat constructor);(intro wq hq;refine (gAdd (hV.val.hp hq (by (repeat (first | exact trivial | exact hX.off (by omega) | refine ⟨by first | assumption | omega | (simp only;omega),?_⟩)))) (by with_reducible assumption)).mono ?_;rintro e wr ⟨rfl,hr⟩;exact ⟨rfl,hq.keep hr⟩)) | (apply Wl.callQ (f := 93);exact rfl;(focus repeat constructor);(intro wq hq;refine (gSub (hV.val.hp hq (by (repeat (first | exact trivial | exact hX.off (by omega) | refine ⟨by first | assumption | omega | (simp only;omega),?_⟩)))) (by with_reducible assumption)).mono ?_;rintro e wr ⟨rfl,hr⟩;exact ⟨rfl,hq.keep hr⟩)) | (apply Wl.eqlA;exact rfl;exact rfl;exact rfl;kernel_rfl;kernel_rfl;kernel_rfl;kernel_rfl;exact cell32 _ (dlt _);exact cell32 _ (dlt _);exact eq8F _ _) | (apply Wl.loadW;exact rfl;exact rfl;(focus repeat constructor);exact rfl) | (apply Wl.storeW;exact rfl;exact rfl;(focus repeat constructor);exact rfl;(first | exact cellsN_len _ _ _ | exact rfl)) | refine Wl.move rfl rfl ?_ | refine Wl.assign rfl rfl ?_ | (apply Wl.on;exact rfl;exact rfl;(with_reducible first | rfl | assumption | decide)) | refine Wl.nilCheck rfl rfl ?_ | (apply Wl.pickF;exact rfl;exact rfl;(with_reducible first | rfl | assumption | decide);exact rfl) | refine Wl.fieldAddr0 rfl rfl ?_ | refine Wl.fieldAddrZ rfl rfl ?_ | refine Wl.eqlPN rfl rfl rfl ?_ | refine Wl.geq rfl rfl rfl ?_ | (apply Wl.boxA;exact rfl;exact rfl;intro c hc ho) | apply Wl.nil | apply St.seq | apply St.region | (apply St.condF;exact rfl;(with_reducible first | rfl | assumption | decide)) | apply St.ret | apply St.skip | apply Gt.next | (apply Gt.out1;exact rfl;exact rfl;intro w' hp)
    exact ⟨rfl,hp.drop (by simp;omega)⟩
   ·have dy : decide (Y < Prim.P256) = false := decide_eq_false hy
    rw [dy]
    obtain ⟨q,cy⟩ : ∃ q,cmpN Y Prim.P256 = q := ⟨_,rfl⟩
    have hq0 : 0 ≤ q := cy ▸ cmp_ge hy
    have dq : decide (0 ≤ q) = true := decide_eq_true hq0
    repeat' first | (apply St.bagX 28 [27];exact mixed;(decide +kernel);kernel_rfl) | apply OpsX.nil | (apply OpsX.v;(intro X hX;change Wl [_] _ _ _ _ _ _ _;apply Wl.catX;(focus repeat constructor))) | (apply Gt.endX;exact rfl) | (apply EndX.on;exact rfl) | (apply EndX.off;exact rfl) | (apply EndX.nil';apply Wl.catE;(focus repeat constructor)) | (apply Wl.loadO;exact rfl;exact rfl;exact hV.mod;(repeat (first | exact trivial | exact hX.off (by omega) | refine ⟨by first | assumption | omega | (simp only;omega),?_⟩))) | (apply Wl.loadAH;exact rfl;exact rfl;(focus repeat constructor);(first | exact ptC_x _ _ _ | exact ptC_y _ _ _ | exact ptC_z _ _ _ | exact poC_x _ _ _ | exact poC_y _ _ _ | exact poD_x _ | exact poD_y _ | exact LSub.whole (ptC_len _ _ _) | exact LSub.whole (poC_len _ _ _) | exact LSub.whole (poD_len _))) | (apply Wl.loadH;exact rfl;exact rfl;(focus repeat constructor);(first | exact poC_n _ _ _ | exact poD_n _)) | (apply Wl.callQ (f := 68);exact rfl;(focus repeat constructor);(intro wq hq;refine (hM wq (hV.val.hp hq (by (repeat (first | exact trivial | exact hX.off (by omega) | refine ⟨by first | assumption | omega | (simp only;omega),?_⟩))))).mono ?_;rintro e wr ⟨rfl,hr⟩;exact ⟨rfl,hq.keep hr⟩)) | (apply Wl.callQ (f := 65);exact rfl;(focus repeat constructor);(intro wq hq;exact hq.q (gCmp (by assumption) pW (by with_reducible assumption) wq))) | refine Wl.move rfl rfl ?_ | refine Wl.assign rfl rfl ?_ | (apply Wl.on;exact rfl;exact rfl;(with_reducible first | rfl | assumption | decide)) | refine Wl.nilCheck rfl rfl ?_ | (apply Wl.pickF;exact rfl;exact rfl;(with_reducible first | rfl | assumption | decide);exact rfl) | refine Wl.fieldAddr0 rfl rfl ?_ | refine Wl.fieldAddrZ rfl rfl ?_ | refine Wl.eqlPN rfl rfl rfl ?_ | refine Wl.geq rfl rfl rfl ?_ | (apply Wl.boxA;exact rfl;exact rfl;intro c hc ho) | apply Wl.nil | apply St.seq | apply St.region | (apply St.condT;exact rfl;(with_reducible first | rfl | assumption | decide)) | apply St.ret | apply Gt.next | apply Gt.thenRet | (apply Gt.out1;exact rfl;exact rfl;intro w' hp)
    exact ⟨rfl,hp.drop (by simp;omega)⟩
  ·have dx : decide (X < Prim.P256) = false := decide_eq_false hx
   rw [dx]
   obtain ⟨q,cx⟩ : ∃ q,cmpN X Prim.P256 = q := ⟨_,rfl⟩
   have hq0 : 0 ≤ q := cx ▸ cmp_ge hx
   have dq : decide (0 ≤ q) = true := decide_eq_true hq0
   repeat' first | (apply St.bagX 28 [27];exact mixed;(decide +kernel);kernel_rfl) | apply OpsX.nil | (apply OpsX.v;(intro X hX;change Wl [_] _ _ _ _ _ _ _;apply Wl.catX;(focus repeat constructor))) | (apply Gt.endX;exact rfl) | (apply EndX.on;exact rfl) | (apply EndX.off;exact rfl) | (apply EndX.nil';apply Wl.catE;(focus repeat constructor)) | (apply Wl.loadO;exact rfl;exact rfl;exact hV.mod;(repeat (first | exact trivial | exact hX.off (by omega) | refine ⟨by first | assumption | omega | (simp only;omega),?_⟩))) | (apply Wl.loadAH;exact rfl;exact rfl;(focus repeat constructor);(first | exact ptC_x _ _ _ | exact ptC_y _ _ _ | exact ptC_z _ _ _ | exact poC_x _ _ _ | exact poC_y _ _ _ | exact poD_x _ | exact poD_y _ | exact LSub.whole (ptC_len _ _ _) | exact LSub.whole (poC_len _ _ _) | exact LSub.whole (poD_len _))) | (apply Wl.loadH;exact rfl;exact rfl;(focus repeat constructor);(first | exact poC_n _ _ _ | exact poD_n _)) | (apply Wl.callQ (f := 68);exact rfl;(focus repeat constructor);(intro wq hq;refine (hM wq (hV.val.hp hq (by (repeat (first | exact trivial | exact hX.off (by omega) | refine ⟨by first | assumption | omega | (simp only;omega),?_⟩))))).mono ?_;rintro e wr ⟨rfl,hr⟩;exact ⟨rfl,hq.keep hr⟩)) | (apply Wl.callQ (f := 65);exact rfl;(focus repeat constructor);(intro wq hq;exact hq.q (gCmp (by assumption) pW (by with_reducible assumption) wq))) | refine Wl.move rfl rfl ?_ | refine Wl.assign rfl rfl ?_ | (apply Wl.on;exact rfl;exact rfl;(with_reducible first | rfl | assumption | decide)) | (apply Wl.off;exact rfl;exact rfl;exact rfl;(first | with_reducible rfl | (show _ = false;with_reducible assumption) | (show _ = true;with_reducible assumption) | decide)) | refine Wl.nilCheck rfl rfl ?_ | (apply Wl.pickT;exact rfl;exact rfl;(with_reducible first | rfl | assumption | decide);exact rfl) | (apply Wl.pickF;exact rfl;exact rfl;(with_reducible first | rfl | assumption | decide);exact rfl) | refine Wl.fieldAddr0 rfl rfl ?_ | refine Wl.fieldAddrZ rfl rfl ?_ | refine Wl.eqlPN rfl rfl rfl ?_ | refine Wl.geq rfl rfl rfl ?_ | (apply Wl.boxA;exact rfl;exact rfl;intro c hc ho) | apply Wl.nil | apply St.seq | apply St.region | (apply St.condT;exact rfl;(with_reducible first | rfl | assumption | decide)) | apply St.ret | apply Gt.next | apply Gt.thenRet | (apply Gt.out1;exact rfl;exact rfl;intro w' hp)
   exact ⟨rfl,hp.drop (by simp;omega)⟩
end Go.Proofs.YtmjlceimjlabpaaDoor
end
section
namespace Go.Pt
open Go.RowKit
section
variable {P : Program} {md : Md} {N : Nat} {ops : Array Oper} {rest : List Oper} {Γ : Env} {C : World → Prop} {Q : Exit → Act → World → Prop} {d : Nat} {ty : TypeId} {pos : String} {af : Array Edge} {t u : TypeId} {x y : Operand}
end
end Go.Pt
namespace Go.Proofs.YtmjlceimjlabpaaDoor
open Go.RowKit Go.Pt
attribute [local irreducible] Prim.P256
end Go.Proofs.YtmjlceimjlabpaaDoor
end
section
namespace Go.Pt
open Go.RowKit
theorem hpTr {w0 w1 w2 : World} {H : List Blk} (h1 : Hp w0 H w1) (h2 : Hp w1 H w2) : Hp w0 H w2 := ⟨h1.upd.trans h2.upd,h2.own,h2.apart⟩
theorem bsNew {w wq : World} {v : Value} {l : List UInt8} {H : List Blk} (h : Bs w v l) (hq : Hp w H wq) (hH : ∀ x ∈ H,w.heap.size ≤ x.b) : Bs wq v l :=
 h.upd hq.upd fun k _ hlt _ hS => hS (Off.of fun x hx e => by have := hH x hx;omega)
section
variable {P : Program} {md : Md} {N : Nat} {ops : Array Oper} {rest : List Oper} {Γ : Env} {C : World → Prop} {Q : Exit → Act → World → Prop} {d : Nat} {ty : TypeId} {pos : String} {af : Array Edge}
theorem Wl.sliceTo {t e by_ : TypeId} [ht : TyD P t (.slice e)] [TyS P e 1 by_] {x hi : Operand} {a0 : Option Addr} {n c : Nat} {k : IntKind} {j : Int} {S : Value} (h' : Nat) (hd : Nat.blt d N = true) (hx : ev Γ x = some (.slice a0 n c)) (hhi : ev Γ hi = some (.int k j)) (hj : j = (h' : Int)) (h2 : h' ≤ c) (e : S = .slice a0 h' c)
  (h : Wl rest P md ops N ((d,S) :: Γ) C Q) : Wl (⟨some d,.slice t x none (some hi) none,ty,pos,af,none⟩ :: rest) P md ops N Γ C Q := by
 subst e hj
 exact Wl.slice0 hd hx (.yes hhi (by omega)) .no (fun h => nomatch h) (by omega) (Nat.le_refl _) (by rw [Int.toNat_natCast];exact h)
theorem Wl.sliceFrom {t e by_ : TypeId} [ht : TyD P t (.slice e)] [TyS P e 1 by_] {x lo : Operand} {b off n c : Nat} {k : IntKind} {j : Int} {S : Value} (l : Nat) (hd : Nat.blt d N = true) (hx : ev Γ x = some (.slice (some ⟨b,off,none⟩) n c)) (hlo : ev Γ lo = some (.int k j)) (hj : j = (l : Int)) (h1 : l < n) (h2 : n ≤ c) (e : S = .slice (some ⟨b,off + l,none⟩) (n - l) (c - l))
  (h : Wl rest P md ops N ((d,S) :: Γ) C Q) : Wl (⟨some d,.slice t x (some lo) none none,ty,pos,af,none⟩ :: rest) P md ops N Γ C Q := by
 subst e hj
 exact Wl.sliceFull (l := ((l : Int)).toNat) hd hx (.yes hlo (by omega)) .no .no (fun h => nomatch h) (by omega) h2 (Nat.le_refl _) (by
  rw [Int.toNat_natCast,if_neg (by omega),Nat.mul_one]
  simp only [Option.map_some,addLit]
  exact h)
end
theorem bsNew1 {w wq : World} {v : Value} {l : List UInt8} {b1 : Blk} {X : List Blk} (h : Bs w v l) (hq : Hp w (b1 :: X) wq) (hX : NewX w X) (h1 : w.heap.size ≤ b1.b) : Bs wq v l :=
 bsNew h hq fun x hx => (List.mem_cons.1 hx).elim (fun e => e ▸ h1) (hX x)
end Go.Pt
namespace Go.Proofs.YtmjlceimjlabpaaDoor
open Go.RowKit Go.Pt
attribute [local irreducible] Prim.P256 Prim.N256
theorem zPo : (Value.agg #[.int .u32 0,.int .u32 0,.int .u32 0,.int .u32 0,.int .u32 0,.int .u32 0,.int .u32 0,.int .u32 0,.int .u32 0,.int .u32 0,.int .u32 0,.int .u32 0,.int .u32 0,.int .u32 0,.int .u32 0,.int .u32 0,.bool false]).cells.toList = poC 0 0 false := by rw [← po_zero];rfl
section
variable {md : Md} {N : Nat} {ops : Array Oper} {rest : List Oper} {Γ : Env} {C : World → Prop} {Q : Exit → Act → World → Prop} {d : Nat} {ty : TypeId} {pos : String} {af : Array Edge} {parts : Array (Nat × Operand)}
theorem Wl.buildPz (hd : Nat.blt d N = true) (hp : Parts Γ parts.toList []) (h : Wl rest Tryd.prog md ops N ((d,.agg (poC 0 0 false).toArray) :: Γ) C Q) :
  Wl (⟨some d,.build 71 parts,ty,pos,af,none⟩ :: rest) Tryd.prog md ops N Γ C Q := by
 refine Wl.build hd hp (fun _ => run_build_struct ?_) h
 rw [← po_zero]
 exact .nil
end
theorem bsHalves {w : World} {ab off cap : Nat} {l : List UInt8} (hv : Bs w (.slice (some ⟨ab,off,none⟩) 64 cap) l) (hl : l.length = 64) :
  Bs w (.slice (some ⟨ab,off,none⟩) 32 cap) (l.take 32) ∧ Bs w (.slice (some ⟨ab,off + 32,none⟩) 32 (cap - 32)) (l.drop 32) := by
 obtain ⟨h1,h2,h3⟩ := hv.len
 refine ⟨?_,?_⟩
 ·have := hv.sub (lo := 0) (hi := 32) (mx := cap) (by omega) (by omega) (by omega) (by omega)
  simpa [Addr.add,show ¬ cap = 0 by omega] using this
 ·have := hv.sub (lo := 32) (hi := 64) (mx := cap) (by omega) (by omega) (by omega) (by omega)
  simpa [Addr.add,show ¬ cap = 32 by omega,List.take_of_length_le (show l.length ≤ 64 by omega)] using this
theorem gOnK {k bm X Y : Nat} {w : World} (hV : CurV w k bm) (hX : X < W256) (hY : Y < W256) {r : Bool} (e : r = onB X Y) : Calls Tryd.prog 63 #[mp k,.agg (poC X Y false).toArray] w fun e w' => e = .returned (.bool r) ∧ Hp w [] w' := by
 have := curOnC k bm X Y false w hV hX hY
 rw [Bool.not_false,Bool.true_and,← e] at this
 exact this
theorem bsHalf2 {w : World} {ab off cap : Nat} {l : List UInt8} (hv : Bs w (.slice (some ⟨ab,off,none⟩) 64 cap) l) (hl : l.length = 64) :
  Bs w (.slice (if cap = Int.toNat 32 then some ⟨ab,off,none⟩ else Option.map (fun x : Addr => x.add (Int.toNat 32 * 1)) (some ⟨ab,off,none⟩)) (64 - Int.toNat 32) (cap - Int.toNat 32)) (l.drop 32) := by
 obtain ⟨h1,h2,h3⟩ := hv.len
 have := hv.sub (lo := 32) (hi := 64) (mx := cap) (by omega) (by omega) (by omega) (by omega)
 rw [List.take_of_length_le (show l.length ≤ 64 by omega)] at this
 exact this
set_option maxHeartbeats 8000000 in
theorem signKeyN (v : Value) (l : List UInt8) (w : World) (hv : Bs w v l) (hl : l.length ≠ 64) : Calls Tryd.prog 29 #[v] w fun e w' => e = .returned (.tuple #[.agg (poC 0 0 false).toArray,.int .i64 2]) ∧ Hp w [] w' := by
 obtain ⟨a,cap,rfl,hlc,hm⟩ := hv.shape
 have hd : decide ((l.length : Int) ≠ 64) = true := decide_eq_true (by omega)
 refine enter (args := [_]) (Γ := [(0,_)]) Tryd.func29 Tryd.ntmps29 rfl (of_decide_eq_true rfl) (.cons rfl .nil) ?_
 repeat' first | (apply Wl.allocC (t := 71);exact rfl;exact zPo;intro c hc ho) | (apply Wl.buildPz;exact rfl;(focus ((repeat (first | exact Parts.nil | apply Parts.cons rfl));done))) | (apply Wl.storeAll;exact rfl;exact rfl;(focus repeat constructor);(first | exact ptC_len _ _ _ | exact poC_len _ _ _ | exact poD_len _);(first | exact rfl | exact ptC_len _ _ _ | exact poC_len _ _ _ | exact poD_len _);(first | exact ptC_one _ _ _ | exact poC_one _ _ _ | exact poD_one _)) | refine Wl.move rfl rfl ?_ | refine Wl.assign rfl rfl ?_ | refine Wl.neq rfl rfl rfl ?_ | refine Wl.len rfl rfl ?_ | apply Wl.nil | apply St.seq | apply St.region | (apply St.condT;exact rfl;(with_reducible first | rfl | assumption | decide)) | apply St.ret | apply Gt.next | apply Gt.thenRet
 apply Gt.outCT
 ·exact rfl
 ·infer_instance
 ·exact rfl
 ·exact rfl
 ·repeat constructor
 ·exact LSub.whole (poC_len _ _ _)
 intro w' hp
 exact ⟨rfl,hp.drop (by simp;omega)⟩
set_option maxHeartbeats 16000000 in
theorem signKey (v : Value) (l : List UInt8) (w : World) (hv : Bs w v l) (hvl : ∀ k,v.ownBlock = some k → k < w.heap.size) (hl : l.length = 64) : Calls Tryd.prog 29 #[v] w fun e w' =>
  e = .returned (if onB (rdL (l.take 32)) (rdL (l.drop 32)) then .tuple #[.agg (poC (rdL (l.take 32)) (rdL (l.drop 32)) false).toArray,.int .i64 0] else .tuple #[.agg (poC 0 0 false).toArray,.int .i64 3]) ∧ Hp w [] w' := by
 obtain ⟨a,cap,rfl,hlc,hm⟩ := hv.shape
 unfold maxLen at hm
 obtain ⟨ab,off,rfl,hcell⟩ := hv.cells (fun e => by subst e;simp at hl)
 rw [hl] at hv ⊢
 have hal : ab < w.heap.size := hvl ab rfl
 obtain ⟨hs1,_⟩ := bsHalves hv hl
 have hs2 := bsHalf2 hv hl
 refine enter (args := [_]) (Γ := [(0,_)]) Tryd.func29 Tryd.ntmps29 rfl (of_decide_eq_true rfl) (.cons rfl .nil) ?_
 repeat' first | (apply Wl.allocC (t := 71);exact rfl;exact zPo;intro c hc ho) | refine Wl.move rfl rfl ?_ | refine Wl.assign rfl rfl ?_ | refine Wl.neq rfl rfl rfl ?_ | refine Wl.len rfl rfl ?_ | (apply Wl.slice0;exact rfl;exact rfl;(first | exact BoundIs.no | exact BoundIs.yes rfl (by omega));(first | exact BoundIs.no | exact BoundIs.yes rfl (by omega));(first | exact fun _ => rfl | exact fun h => nomatch h);omega;omega) | apply Wl.nil | apply St.seq | apply St.region | (apply St.condF;exact rfl;(with_reducible first | rfl | assumption | decide)) | apply St.skip | apply Gt.next
 apply Wl.callQ
 exact rfl
 (focus repeat constructor)
 ·intro wq hq
  exact hq.q (limbRead _ (l.take 32) wq (bsNew hs1 hq (by simp;omega)) (by rw [List.length_take];omega))
 repeat' first | (apply Wl.storeW;exact rfl;exact rfl;(focus repeat constructor);exact rfl;(first | exact cellsN_len _ _ _ | exact rfl)) | (apply Wl.allocN;exact rfl;(first | exact z8 | exact z16 | exact z17 | exact z33 | exact z10);intro c hc ho) | refine Wl.move rfl rfl ?_ | refine Wl.assign rfl rfl ?_ | refine Wl.extract rfl rfl rfl ?_ | (apply Wl.sliceFull;exact rfl;exact rfl;(first | exact BoundIs.no | exact BoundIs.yes rfl (by omega));(first | exact BoundIs.no | exact BoundIs.yes rfl (by omega));(first | exact BoundIs.no | exact BoundIs.yes rfl (by omega));(first | exact fun _ => rfl | exact fun h => nomatch h);omega;omega;omega) | apply Wl.nil | apply St.seq | apply St.region | apply Gt.next
 apply Wl.callQ
 exact rfl
 (focus repeat constructor)
 ·intro wq hq
  exact hq.q (limbRead _ (l.drop 32) wq (bsNew hs2 hq (by simp;omega)) (by rw [List.length_drop];omega))
 repeat' first | (apply Wl.allocC (t := 71);exact rfl;exact zPo;intro c hc ho) | (apply Wl.buildPo;exact rfl;(focus ((repeat (first | exact Parts.nil | apply Parts.cons rfl));done))) | (apply Wl.storeAll;exact rfl;exact rfl;(focus repeat constructor);(first | exact ptC_len _ _ _ | exact poC_len _ _ _ | exact poD_len _);(first | exact rfl | exact ptC_len _ _ _ | exact poC_len _ _ _ | exact poD_len _);(first | exact ptC_one _ _ _ | exact poC_one _ _ _ | exact poD_one _)) | (apply Wl.loadW;exact rfl;exact rfl;(focus repeat constructor);exact rfl) | (apply Wl.storeW;exact rfl;exact rfl;(focus repeat constructor);exact rfl;(first | exact cellsN_len _ _ _ | exact rfl)) | (apply Wl.allocN;exact rfl;(first | exact z8 | exact z16 | exact z17 | exact z33 | exact z10);intro c hc ho) | refine Wl.move rfl rfl ?_ | refine Wl.assign rfl rfl ?_ | refine Wl.extract rfl rfl rfl ?_ | apply Wl.nil | apply St.seq | apply St.region | apply Gt.next
 generalize hX : rdL (l.take 32) = X at *
 generalize hY : rdL (l.drop 32) = Y at *
 have hXW : X < W256 := hX ▸ rdL_lt _
 have hYW : Y < W256 := hY ▸ rdL_lt _
 obtain ⟨r,hr0⟩ : ∃ r,r = onB X Y := ⟨_,rfl⟩
 rw [← hr0]
 rename_i c1 h1 o1 c2 h2 o2 c3 h3 o3
 refine St.tree (Hp w [⟨c,poC X Y false,71⟩,⟨c3,cellsN .u32 8 (dg W32 Y),69⟩,⟨c2,cellsN .u32 8 (dg W32 X),69⟩,⟨c1,poC 0 0 false,71⟩]) mixed (fun _ h => ⟨Hp.drew h,Hp.drew h⟩) ?_
 refine Mt.pure 1 (by decide +kernel) (by exact rfl) (by exact rfl) (by decide +kernel) (by decide +kernel) ?_
 repeat' first | (apply Wl.loadAH;exact rfl;exact rfl;(focus repeat constructor);(first | exact ptC_x _ _ _ | exact ptC_y _ _ _ | exact ptC_z _ _ _ | exact poC_x _ _ _ | exact poC_y _ _ _ | exact poD_x _ | exact poD_y _ | exact LSub.whole (ptC_len _ _ _) | exact LSub.whole (poC_len _ _ _) | exact LSub.whole (poD_len _))) | apply Wl.nilM
 apply Mt.back
 refine Mt.eff1 (i := 0) (by decide +kernel) (by exact rfl) ?_
 apply Wl.callC
 ·exact rfl
 ·repeat constructor
 intro wq hq
 refine (curNew wq).mono ?_
 rintro e wr ⟨k,bm,rfl,hk,hbm,hV,hr⟩
 have hqr := hq.keep hr
 refine ⟨_,_,rfl,hpRb hqr,?_⟩
 have hszq := hq.upd.size
 have l0 := hq.own.lt (.head _)
 have l1 := hq.own.lt (.tail _ (.head _))
 have l2 := hq.own.lt (.tail _ (.tail _ (.head _)))
 have l3 := hq.own.lt (.tail _ (.tail _ (.tail _ (.head _))))
 simp only at l0 l1 l2 l3
 have hu : Upd (fun k => w.heap.size ≤ k) w wr := hpOn hqr (Upd.refl _ _) (by simp;omega)
 obtain ⟨hkl,hbl⟩ := hV.lt
 clear hq hr
 repeat' first | apply Wl.nil
 refine Mt.backE (fun u h => hpTr hqr h) ?_
 refine Mt.eff1 (i := 2) (by decide +kernel) (by exact rfl) ?_
 repeat' first | (apply Wl.callQ (f := 63);exact rfl;(focus repeat constructor);(intro wq hq;refine (gOnK (hV.hp hq (by (repeat (first | exact trivial | exact hX.off (by omega) | refine ⟨by first | assumption | omega | (simp only;omega),?_⟩))) (by (repeat (first | exact trivial | exact hX.off (by omega) | refine ⟨by first | assumption | omega | (simp only;omega),?_⟩)))) hXW hYW hr0).mono ?_;rintro e wr ⟨rfl,hr⟩;exact ⟨rfl,hq.keep hr⟩)) | apply Wl.nil
 refine Mt.backE (fun u h => hpTr hqr h) ?_
 refine Mt.pure 3 (by decide +kernel) (by exact rfl) (by exact rfl) (by decide +kernel) (by decide +kernel) ?_
 repeat' first | refine Wl.not rfl rfl ?_ | apply Wl.nilM
 apply Mt.back
 refine Mt.toGt (by decide +kernel) ?_
 cases r with
 | true =>
  repeat' first | (apply Wl.loadAH;exact rfl;exact rfl;(focus repeat constructor);(first | exact ptC_x _ _ _ | exact ptC_y _ _ _ | exact ptC_z _ _ _ | exact poC_x _ _ _ | exact poC_y _ _ _ | exact poD_x _ | exact poD_y _ | exact LSub.whole (ptC_len _ _ _) | exact LSub.whole (poC_len _ _ _) | exact LSub.whole (poD_len _))) | (apply Wl.storeAll;exact rfl;exact rfl;(focus repeat constructor);(first | exact ptC_len _ _ _ | exact poC_len _ _ _ | exact poD_len _);(first | exact rfl | exact ptC_len _ _ _ | exact poC_len _ _ _ | exact poD_len _);(first | exact ptC_one _ _ _ | exact poC_one _ _ _ | exact poD_one _)) | refine Wl.assign rfl rfl ?_ | apply Wl.nil | apply St.seq | apply St.region | (apply St.condF;exact rfl;(with_reducible first | rfl | assumption | decide)) | apply St.ret | apply St.skip | apply Gt.next
  apply Gt.outCT
  ·exact rfl
  ·infer_instance
  ·exact rfl
  ·exact rfl
  ·repeat constructor
  ·exact LSub.whole (poC_len _ _ _)
  intro w' hp
  exact ⟨by rw [if_pos rfl],hpFin hp hu (by simp;omega)⟩
 | false =>
  repeat' first | (apply Wl.buildPz;exact rfl;(focus ((repeat (first | exact Parts.nil | apply Parts.cons rfl));done))) | (apply Wl.storeAll;exact rfl;exact rfl;(focus repeat constructor);(first | exact ptC_len _ _ _ | exact poC_len _ _ _ | exact poD_len _);(first | exact rfl | exact ptC_len _ _ _ | exact poC_len _ _ _ | exact poD_len _);(first | exact ptC_one _ _ _ | exact poC_one _ _ _ | exact poD_one _)) | refine Wl.assign rfl rfl ?_ | apply Wl.nil | apply St.seq | apply St.region | (apply St.condT;exact rfl;(with_reducible first | rfl | assumption | decide)) | apply St.ret | apply Gt.next | apply Gt.thenRet
  apply Gt.outCT
  ·exact rfl
  ·infer_instance
  ·exact rfl
  ·exact rfl
  ·repeat constructor
  ·exact LSub.whole (poC_len _ _ _)
  intro w' hp
  exact ⟨by rw [if_neg (by decide)],hpFin hp hu (by simp;omega)⟩
theorem gOnRK {b X Y : Nat} {w : World} (hF : FldV w b Prim.P256) (hX : X < Prim.P256) (hY : Y < Prim.P256) {r : Bool} (e : r = onB X Y) : Calls Tryd.prog 81 #[mp b,num16 X,num16 Y] w fun e w' => e = .returned (.bool r) ∧ Hp w [] w' := by
 have := refOn b (nF X) (nF Y) w hF
 rw [nF_val,nF_val,Nat.mod_eq_of_lt hX,Nat.mod_eq_of_lt hY] at this
 have e2 : onB X Y = decide (nF Y * nF Y = nF X * nF X * nF X - (nF X + nF X + nF X) + curB) := by
  unfold onB
  rw [decide_eq_true hX,decide_eq_true hY,Bool.true_and,Bool.true_and]
 rw [← e2,← e] at this
 exact this
theorem onB_no {X Y : Nat} (h : ¬ (X < Prim.P256 ∧ Y < Prim.P256)) : onB X Y = false := by
 unfold onB
 by_cases hx : X < Prim.P256
 ·rw [decide_eq_false (fun hy => h ⟨hx,hy⟩ : ¬ Y < Prim.P256),Bool.false_and,Bool.and_false]
 ·rw [decide_eq_false hx,Bool.false_and]
section
variable {md : Md} {N : Nat} {ops : Array Oper} {rest : List Oper} {Γ : Env} {C : World → Prop} {Q : Exit → Act → World → Prop} {d : Nat} {ty : TypeId} {pos : String} {af : Array Edge} {parts : Array (Nat × Operand)}
theorem Wl.buildRz (hd : Nat.blt d N = true) (hp : Parts Γ parts.toList []) (h : Wl rest Tryd.prog md ops N ((d,.agg (rpC 0 0 0).toArray) :: Γ) C Q) :
  Wl (⟨some d,.build 96 parts,ty,pos,af,none⟩ :: rest) Tryd.prog md ops N Γ C Q := by
 refine Wl.build hd hp (fun _ => run_build_struct ?_) h
 rw [← rp_zero]
 exact .nil
end
theorem zRp : (Value.agg #[.int .u64 0,.int .u64 0,.int .u64 0,.int .u64 0,.int .u64 0,.int .u64 0,.int .u64 0,.int .u64 0,.int .u64 0,.int .u64 0,.int .u64 0,.int .u64 0,.int .u64 0,.int .u64 0,.int .u64 0,.int .u64 0,.int .u64 0,.int .u64 0,.int .u64 0,.int .u64 0,.int .u64 0,.int .u64 0,.int .u64 0,.int .u64 0,.int .u64 0,.int .u64 0,.int .u64 0,.int .u64 0,.int .u64 0,.int .u64 0,.int .u64 0,.int .u64 0,.int .u64 0,.int .u64 0,.int .u64 0,.int .u64 0,.int .u64 0,.int .u64 0,.int .u64 0,.int .u64 0,.int .u64 0,.int .u64 0,.int .u64 0,.int .u64 0,.int .u64 0,.int .u64 0,.int .u64 0,.int .u64 0]).cells.toList = rpC 0 0 0 := by rw [← rp_zero];rfl
set_option maxHeartbeats 16000000 in
theorem refKeyN (v : Value) (l : List UInt8) (w : World) (hv : Bs w v l) (hl : l.length ≠ 64) : Calls Tryd.prog 46 #[v] w fun e w' => e = .returned (.tuple #[.agg (rpC 0 0 0).toArray,.bool false]) ∧ Hp w [] w' := by
 obtain ⟨a,cap,rfl,hlc,hm⟩ := hv.shape
 have hd : decide ((l.length : Int) ≠ 64) = true := decide_eq_true (by omega)
 refine enter (args := [_]) (Γ := [(0,_)]) Tryd.func46 Tryd.ntmps46 rfl (of_decide_eq_true rfl) (.cons rfl .nil) ?_
 repeat' first | (apply Wl.allocC (t := 96);exact rfl;exact zRp;intro c hc ho) | (apply Wl.buildRz;exact rfl;(focus ((repeat (first | exact Parts.nil | apply Parts.cons rfl));done))) | (apply Wl.storeAll;exact rfl;exact rfl;(focus repeat constructor);(first | exact rpC_len _ _ _);(first | exact rfl | exact rpC_len _ _ _);(first | exact rpC_one _ _ _)) | refine Wl.move rfl rfl ?_ | refine Wl.assign rfl rfl ?_ | refine Wl.neq rfl rfl rfl ?_ | refine Wl.len rfl rfl ?_ | apply Wl.nil | apply St.seq | apply St.region | (apply St.condT;exact rfl;(with_reducible first | rfl | assumption | decide)) | apply St.ret | apply Gt.next | apply Gt.thenRet
 apply Gt.outCT
 ·exact rfl
 ·infer_instance
 ·exact rfl
 ·exact rfl
 ·repeat constructor
 ·exact LSub.whole (rpC_len _ _ _)
 intro w' hp
 exact ⟨rfl,hp.drop (by simp;omega)⟩
theorem newFieldP (w : World) : Calls Tryd.prog 48 #[num16 Prim.P256] w fun e w' => ∃ b,e = .returned (mp b) ∧ w.heap.size ≤ b ∧ FldV w' b Prim.P256 ∧ Hp w [] w' := newField Prim.P256 w pW (by decide +kernel) (by decide +kernel) (by decide +kernel)
set_option maxHeartbeats 16000000 in
theorem refKey (v : Value) (l : List UInt8) (w : World) (hv : Bs w v l) (hl : l.length = 64) : Calls Tryd.prog 46 #[v] w fun e w' =>
  e = .returned (if onB (rdL (l.take 32)) (rdL (l.drop 32)) then .tuple #[.agg (rpC (rdL (l.take 32)) (rdL (l.drop 32)) 1).toArray,.bool true] else .tuple #[.agg (rpC 0 0 0).toArray,.bool false]) ∧ Hp w [] w' := by
 obtain ⟨a,cap,rfl,hlc,hm⟩ := hv.shape
 unfold maxLen at hm
 obtain ⟨ab,off,rfl,hcell⟩ := hv.cells (fun e => by subst e;simp at hl)
 rw [hl] at hv ⊢
 obtain ⟨hs1,hs2⟩ := bsHalves hv hl
 obtain ⟨S1,hS1⟩ : ∃ S1,S1 = Value.slice (some ⟨ab,off,none⟩) 32 cap := ⟨_,rfl⟩
 obtain ⟨S2,hS2⟩ : ∃ S2,S2 = Value.slice (some ⟨ab,off + 32,none⟩) (64 - 32) (cap - 32) := ⟨_,rfl⟩
 rw [← hS1] at hs1
 rw [show (32 : Nat) = 64 - 32 from rfl,← hS2] at hs2
 have hc64 := hv.len.2.1
 have hl1 : (l.take 32).length = 32 := by rw [List.length_take];omega
 have hl2 : (l.drop 32).length = 32 := by rw [List.length_drop];omega
 refine enter (args := [_]) (Γ := [(0,_)]) Tryd.func46 Tryd.ntmps46 rfl (of_decide_eq_true rfl) (.cons rfl .nil) ?_
 repeat' first | (apply St.bagX 8 [];exact mixed;(decide +kernel);kernel_rfl) | apply OpsX.nil | (apply OpsX.b;exact rfl) | (apply OpsX.v;(intro X hX;change Wl [_] _ _ _ _ _ _ _;apply Wl.catX;(focus repeat constructor))) | (apply Gt.endX;exact rfl) | (apply EndX.new;intro c hc ho) | (apply EndX.on;exact rfl) | (apply EndX.off;exact rfl) | (apply EndX.nil';apply Wl.catE;(focus repeat constructor)) | (apply Wl.sliceTo 32;exact rfl;exact rfl;exact rfl;exact rfl;omega;exact hS1) | (apply Wl.sliceFrom 32;exact rfl;exact rfl;exact rfl;exact rfl;(decide);exact hc64;exact hS2) | (apply Wl.allocC (t := 96);exact rfl;exact zRp;intro c hc ho) | (apply Wl.callQ (f := 47);exact rfl;(focus repeat constructor);(intro wq hq;have hb1 := bsNew1 hs1 hq hX hc;have hb2 := bsNew1 hs2 hq hX hc;with_reducible first | refine (refNum _ (l.take 32) wq hb1 hl1).mono ?_ | refine (refNum _ (l.drop 32) wq hb2 hl2).mono ?_);(rintro e wr ⟨rfl,hr⟩;exact ⟨rfl,hq.keep hr⟩)) | (apply Wl.storeW;exact rfl;exact rfl;(focus repeat constructor);exact rfl;(first | exact cellsN_len _ _ _ | exact rfl)) | refine Wl.move rfl rfl ?_ | refine Wl.assign rfl rfl ?_ | refine Wl.neq rfl rfl rfl ?_ | refine Wl.len rfl rfl ?_ | apply Wl.nil | apply St.seq | apply St.region | (apply St.condF;exact rfl;(with_reducible first | rfl | assumption | decide)) | apply St.skip | apply Gt.next
 generalize hX : rdL (l.take 32) = X at *
 generalize hY : rdL (l.drop 32) = Y at *
 have hXW : X < W256 := hX ▸ rdL_lt _
 have hYW : Y < W256 := hY ▸ rdL_lt _
 rename_i c1 h1 o1 c2 h2 o2
 repeat' first | (apply Wl.callQ (f := 53);exact rfl;(focus repeat constructor);(intro wq hq;exact hq.q (ref4P wq)))
 apply Wl.callC
 ·exact rfl
 ·repeat constructor
 intro wq hq
 refine (newFieldP wq).mono ?_
 rintro e wr ⟨b,rfl,hbn,hF,hr⟩
 have hqr := hq.keep hr
 have hszq := hq.upd.size
 have l0 := hq.own.lt (.head _)
 have l1 := hq.own.lt (.tail _ (.head _))
 have l2 := hq.own.lt (.tail _ (.tail _ (.head _)))
 simp only at l0 l1 l2
 refine ⟨_,_,rfl,hpRb hqr,?_⟩
 have hu : Upd (fun k => w.heap.size ≤ k) w wr := hpOn hqr (Upd.refl _ _) (by simp;omega)
 have hbl := hF.blk
 clear hq hr hqr
 obtain ⟨r,hr0⟩ : ∃ r,r = onB X Y := ⟨_,rfl⟩
 rw [← hr0]
 have hB1 := fun wq => refBelow X Prim.P256 hXW pW wq
 have hB2 := fun wq => refBelow Y Prim.P256 hYW pW wq
 have hc : (∃ _ : X < Prim.P256,∃ _ : Y < Prim.P256,decide (X < Prim.P256) = true ∧ decide (Y < Prim.P256) = true ∧ (r = true ∨ r = false)) ∨ (decide (X < Prim.P256) = true ∧ decide (Y < Prim.P256) = false ∧ r = false) ∨ (decide (X < Prim.P256) = false ∧ r = false) := by
  by_cases a : X < Prim.P256
  ·by_cases b : Y < Prim.P256
   ·exact .inl ⟨a,b,decide_eq_true a,decide_eq_true b,by cases r <;> simp⟩
   ·exact .inr (.inl ⟨decide_eq_true a,decide_eq_false b,hr0.trans (onB_no fun h => b h.2)⟩)
  ·exact .inr (.inr ⟨decide_eq_false a,hr0.trans (onB_no fun h => a h.1)⟩)
 rcases hc with ⟨pX,pY,dX,dY,rfl | rfl⟩ | ⟨dX,dY,rfl⟩ | ⟨dX,rfl⟩
 all_goals (try rw [dX] at hB1)
 all_goals (try rw [dY] at hB2)
 all_goals
  repeat' first | (apply St.bagX 23 [22];exact mixed;(decide +kernel);kernel_rfl) | apply OpsX.nil | (apply OpsX.v;(intro X hX;change Wl [_] _ _ _ _ _ _ _;apply Wl.catX;(focus repeat constructor))) | (apply Gt.endX;exact rfl) | (apply EndX.on;exact rfl) | (apply EndX.off;exact rfl) | (apply EndX.nil';apply Wl.catE;(focus repeat constructor)) | (apply Wl.loadM;exact rfl;exact rfl;exact hF.mod;(repeat (first | exact trivial | exact hX.off (by omega) | refine ⟨by first | assumption | omega | (simp only;omega),?_⟩));exact rfl) | (apply Wl.buildRp;exact rfl;(focus ((repeat (first | exact Parts.nil | apply Parts.cons rfl));done))) | (apply Wl.buildRz;exact rfl;(focus ((repeat (first | exact Parts.nil | apply Parts.cons rfl));done))) | (apply Wl.buildN;exact rfl;(repeat (first | exact Parts.nil | apply Parts.cons rfl));(repeat (first | apply Fills.nil | (apply Fills.one;exact rfl;exact rfl;(repeat (first | apply LSet.z | apply LSet.s))) | (apply Fills.agg;exact rfl;exact rfl;(repeat (first | apply LPut.s | apply LPut.z | apply LOver.nil | apply LOver.cons)))));exact one16) | (apply Wl.storeAll;exact rfl;exact rfl;(focus repeat constructor);(first | exact rpC_len _ _ _);(first | exact rfl | exact rpC_len _ _ _);(first | exact rpC_one _ _ _)) | (apply Wl.callQ (f := 50);exact rfl;(focus repeat constructor);(intro wq hq;with_reducible first | refine (hB1 wq).mono ?_ | refine (hB2 wq).mono ?_);(rintro e wr ⟨rfl,hr⟩;exact ⟨rfl,hq.keep hr⟩)) | (apply Wl.callQ (f := 81);exact rfl;(focus repeat constructor);(intro wq hq;have hFq := hF.hp hq (by (repeat (first | exact trivial | exact hX.off (by omega) | refine ⟨by first | assumption | omega | (simp only;omega),?_⟩)));exact hq.q (gOnRK hFq (by with_reducible assumption) (by with_reducible assumption) hr0))) | (apply Wl.loadW;exact rfl;exact rfl;(focus repeat constructor);exact rfl) | refine Wl.move rfl rfl ?_ | refine Wl.assign rfl rfl ?_ | (apply Wl.on;exact rfl;exact rfl;(with_reducible first | rfl | assumption | decide)) | (apply Wl.off;exact rfl;exact rfl;exact rfl;(first | with_reducible rfl | (show _ = false;with_reducible assumption) | (show _ = true;with_reducible assumption) | decide)) | refine Wl.nilCheck rfl rfl ?_ | (apply Wl.pickT;exact rfl;exact rfl;(with_reducible first | rfl | assumption | decide);exact rfl) | (apply Wl.pickF;exact rfl;exact rfl;(with_reducible first | rfl | assumption | decide);exact rfl) | refine Wl.not rfl rfl ?_ | refine Wl.fieldAddr0 rfl rfl ?_ | apply Wl.nil | apply St.seq | apply St.region | (apply St.condT;exact rfl;(with_reducible first | rfl | assumption | decide)) | (apply St.condF;exact rfl;(with_reducible first | rfl | assumption | decide)) | apply St.ret | apply St.skip | apply Gt.next | apply Gt.thenRet
  apply Gt.outCT
  ·exact rfl
  ·infer_instance
  ·exact rfl
  ·exact rfl
  ·repeat constructor
  ·exact LSub.whole (rpC_len _ _ _)
  intro w' hp
 ·exact ⟨by rw [if_pos rfl],hpFin hp hu (by simp;omega)⟩
 all_goals exact ⟨by rw [if_neg (by decide)],hpFin hp hu (by simp;omega)⟩
end Go.Proofs.YtmjlceimjlabpaaDoor
end
section
namespace Go.Pt
open Go.RowKit
inductive Ks
 | v (x : Value)
 | b (t : TypeId) (cs : List Value) (st : Option (Nat × List Value))
 | s (j : Nat)
def curS (listed : Array Bool) (cs : List Value) : Option (Nat × List Value) → List Value
 | some (i,cs') => if listed.getD i false then cs' else cs
 | none => cs
def DepS (f : Nat → Nat) (l : List Oper) (ks : List Ks) (K : Env → Prop) : List Edge → Env → Prop
 | [],Γ => K Γ
 | e :: es,Γ => if Region.binds .any e then (match ks[e.on]? with
  | some (.v x) => DepS f l ks K es ((dstAt l e.on,x) :: Γ)
  | some (.b _ _ _) => DepS f l ks K es ((dstAt l e.on,.pointer (some ⟨f e.on,0,none⟩)) :: Γ)
  | _ => DepS f l ks K es Γ) else DepS f l ks K es Γ
def PostS (N : Nat) (Γ : Env) (D : World → Prop) : Exit → Act → World → Prop := fun e a w => e = .normal ∧ Fr N a Γ ∧ D w
inductive OpsS (P : Program) (l : List Oper) (N : Nat) (Γ : Env) (w0 : World) (H : List Blk) (all : List Ks) : Nat → List Oper → List Ks → Prop
 | nil {k : Nat} : OpsS P l N Γ w0 H all k [] []
 | v {k : Nat} {o : Oper} {rest : List Oper} {x : Value} {tl : List Ks} (hd : o.dst.isSome = true) (h : ∀ X f,NewX w0 X → DepS f l all (fun Γ' => Wl [o] P .seq l.toArray N Γ' (Hp w0 (H ++ X)) (PostX N (dstO o) x (Hp w0 (H ++ X)))) o.after.toList Γ) (hs : OpsS P l N Γ w0 H all (k + 1) rest tl) : OpsS P l N Γ w0 H all k (o :: rest) (.v x :: tl)
 | b {k d t : Nat} {ty : TypeId} {pos : String} {af : Array Edge} {rest : List Oper} {z : Value} {cs : List Value} {st : Option (Nat × List Value)} {tl : List Ks} [hz : TyZ P t z] (hd : Nat.blt d N = true) (hcs : z.cells.toList = cs) (hs : OpsS P l N Γ w0 H all (k + 1) rest tl) : OpsS P l N Γ w0 H all k (⟨some d,.alloc t,ty,pos,af,none⟩ :: rest) (.b t cs st :: tl)
 | s {k j t : Nat} {o : Oper} {rest : List Oper} {cs cs' : List Value} {tl : List Ks} (hd : o.dst = none) (hj : all[j]? = some (.b t cs (some (k,cs')))) (hw : o.after.toList.any (fun e => Nat.beq e.on j && Region.binds .any e) = true)
   (h : ∀ X f,NewX w0 X → w0.heap.size ≤ f j → DepS f l all (fun Γ' => Wl [o] P .seq l.toArray N Γ' (Hp w0 (⟨f j,cs,t⟩ :: (H ++ X))) (PostS N [] (Hp w0 (⟨f j,cs',t⟩ :: (H ++ X))))) o.after.toList Γ) (hs : OpsS P l N Γ w0 H all (k + 1) rest tl) : OpsS P l N Γ w0 H all k (o :: rest) (.s j :: tl)
theorem OpsS.out {P : Program} {l : List Oper} {N : Nat} {Γ : Env} {w0 : World} {H : List Blk} {all : List Ks} {k : Nat} {l' : List Oper} {tl : List Ks} (h : OpsS P l N Γ w0 H all k l' tl) {i : Nat} {o : Oper} (hi : l'[i]? = some o) :
  (o.dst.isSome = true ∧ ∃ x,tl[i]? = some (.v x) ∧ ∀ X f,NewX w0 X → DepS f l all (fun Γ' => Wl [o] P .seq l.toArray N Γ' (Hp w0 (H ++ X)) (PostX N (dstO o) x (Hp w0 (H ++ X)))) o.after.toList Γ) ∨
  (o.dst.isSome = true ∧ ∃ t cs st,tl[i]? = some (.b t cs st) ∧ ∀ X,Wl [o] P .seq l.toArray N Γ (Hp w0 (H ++ X)) (PostB N (dstO o) t cs w0 (H ++ X))) ∨
  (o.dst = none ∧ ∃ j t cs cs',tl[i]? = some (.s j) ∧ all[j]? = some (.b t cs (some (k + i,cs'))) ∧ (∃ e ∈ o.after.toList,e.on = j ∧ Region.binds .any e = true) ∧
   ∀ X f,NewX w0 X → w0.heap.size ≤ f j → DepS f l all (fun Γ' => Wl [o] P .seq l.toArray N Γ' (Hp w0 (⟨f j,cs,t⟩ :: (H ++ X))) (PostS N [] (Hp w0 (⟨f j,cs',t⟩ :: (H ++ X))))) o.after.toList Γ) := by
 induction h generalizing i with
 | nil => simp at hi
 | @v k o' rest x tl hd h hs ih =>
  cases i with
  | zero => simp only [List.getElem?_cons_zero,Option.some.injEq] at hi;subst hi;exact .inl ⟨hd,x,rfl,h⟩
  | succ i =>
   have := ih (i := i) (by simpa using hi)
   rw [show k + 1 + i = k + (i + 1) by omega] at this
   simpa using this
 | @b k d t ty pos af rest z cs st tl hz hd hcs hs ih =>
  cases i with
  | zero =>
   simp only [List.getElem?_cons_zero,Option.some.injEq] at hi
   subst hi
   refine .inr (.inl ⟨rfl,t,cs,st,rfl,fun X => ?_⟩)
   apply Wl.alloc hd
   intro c hc ho
   apply Wl.nil
   rw [hcs]
   exact Gt.intro fun a w ha hw => ⟨rfl,c,hc,ho,ha.sub (.cons (by simp [look,dstO]) .nil),hw⟩
  | succ i =>
   have := ih (i := i) (by simpa using hi)
   rw [show k + 1 + i = k + (i + 1) by omega] at this
   simpa using this
 | @s k j t o' rest cs cs' tl hd hj hw h hs ih =>
  cases i with
  | zero =>
   simp only [List.getElem?_cons_zero,Option.some.injEq] at hi
   subst hi
   obtain ⟨e,he,h2⟩ := List.any_eq_true.1 hw
   rw [Bool.and_eq_true] at h2
   exact .inr (.inr ⟨hd,j,t,cs,cs',rfl,hj,⟨e,he,Nat.eq_of_beq_eq_true h2.1,h2.2⟩,h⟩)
  | succ i =>
   have := ih (i := i) (by simpa using hi)
   rw [show k + 1 + i = k + (i + 1) by omega] at this
   simpa using this
theorem OpsS.len {P : Program} {l : List Oper} {N : Nat} {Γ : Env} {w0 : World} {H : List Blk} {all : List Ks} {k : Nat} {l' : List Oper} {tl : List Ks} (h : OpsS P l N Γ w0 H all k l' tl) : tl.length = l'.length := by
 induction h with
 | nil => rfl
 | v _ _ _ ih => simp [ih]
 | b _ _ _ ih => simp [ih]
 | s _ _ _ _ _ ih => simp [ih]
theorem DepS.run {f : Nat → Nat} {l : List Oper} {ks : List Ks} {K : Env → Prop} {N : Nat} {a : Act} {es : List Edge} {Γ : Env} (h : DepS f l ks K es Γ) (ha : Fr N a Γ)
  (hes : ∀ e ∈ es,Region.binds .any e = true → ∀ x,ks[e.on]? = some (.v x) → a.tmps[dstAt l e.on]? = some x)
  (heb : ∀ e ∈ es,Region.binds .any e = true → ∀ t cs st,ks[e.on]? = some (.b t cs st) → a.tmps[dstAt l e.on]? = some (.pointer (some ⟨f e.on,0,none⟩))) : ∃ Γ',Fr N a Γ' ∧ K Γ' := by
 induction es generalizing Γ with
 | nil => exact ⟨Γ,ha,h⟩
 | cons e es ih =>
  unfold DepS at h
  split at h
  ·rename_i hb
   split at h
   ·rename_i x hx
    exact ih h (ha.cons (hes e (by simp) hb x hx)) (fun e he => hes e (by simp [he])) fun e he => heb e (by simp [he])
   ·rename_i t cs st hx
    exact ih h (ha.cons (heb e (by simp) hb _ _ _ hx)) (fun e he => hes e (by simp [he])) fun e he => heb e (by simp [he])
   ·exact ih h ha (fun e he => hes e (by simp [he])) fun e he => heb e (by simp [he])
  ·exact ih h ha (fun e he => hes e (by simp [he])) fun e he => heb e (by simp [he])
structure InvS (l : List Oper) (N : Nat) (Γ : Env) (w0 : World) (H : List Blk) (ks : List Ks) (f : Nat → Nat) (listed : Array Bool) (a : Act) (w : World) : Prop where
 fr : Fr N a Γ
 hp : Hp w0 H w
 val : ∀ i o x,l[i]? = some o → ks[i]? = some (.v x) → listed.getD i false = true → a.tmps[dstO o]? = some x
 ptr : ∀ i o t cs st,l[i]? = some o → ks[i]? = some (.b t cs st) → listed.getD i false = true → a.tmps[dstO o]? = some (.pointer (some ⟨f i,0,none⟩)) ∧ w0.heap.size ≤ f i ∧ Off H (f i) ∧ w.heap[f i]? = some (.cells (curS listed cs st).toArray t (0,0))
 inj : ∀ i j t cs st t' cs' st',i ≠ j → ks[i]? = some (.b t cs st) → ks[j]? = some (.b t' cs' st') → listed.getD i false = true → listed.getD j false = true → f i ≠ f j
def blkS (f : Nat → Nat) (listed : Array Bool) (ks : List Ks) (i : Nat) : Option Blk := match ks[i]? with
 | some (.b t cs st) => if listed.getD i false then some ⟨f i,curS listed cs st,t⟩ else none
 | _ => none
theorem blkS_some {f : Nat → Nat} {listed : Array Bool} {ks : List Ks} {i : Nat} {x : Blk} (h : blkS f listed ks i = some x) : ∃ t cs st,ks[i]? = some (.b t cs st) ∧ listed.getD i false = true ∧ x = ⟨f i,curS listed cs st,t⟩ := by
 unfold blkS at h
 split at h
 ·rename_i t cs st hk
  split at h
  ·rename_i hl;cases h;exact ⟨t,cs,st,hk,hl,rfl⟩
  ·cases h
 ·cases h
def blksS (f : Nat → Nat) (listed : Array Bool) (ks : List Ks) (p : Nat → Bool) (m : Nat) : List Blk := (List.range m).reverse.filterMap fun i => if p i then blkS f listed ks i else none
theorem mem_blksS {f : Nat → Nat} {listed : Array Bool} {ks : List Ks} {p : Nat → Bool} {m : Nat} {x : Blk} : x ∈ blksS f listed ks p m ↔ ∃ i,i < m ∧ p i = true ∧ blkS f listed ks i = some x := by
 unfold blksS
 rw [List.mem_filterMap]
 constructor
 ·rintro ⟨i,hi,h⟩
  split at h
  ·exact ⟨i,by simpa using hi,by assumption,h⟩
  ·cases h
 ·rintro ⟨i,hi,hp,h⟩
  exact ⟨i,by simpa using hi,by rw [if_pos hp];exact h⟩
theorem InvS.full {l : List Oper} {N : Nat} {Γ : Env} {w0 : World} {H : List Blk} {ks : List Ks} {f : Nat → Nat} {listed : Array Bool} {a : Act} {w : World} (hkl : ks.length = l.length) (h : InvS l N Γ w0 H ks f listed a w) (p : Nat → Bool) :
  NewX w0 (blksS f listed ks p l.length) ∧ Hp w0 (H ++ blksS f listed ks p l.length) w := by
 have key : ∀ x ∈ blksS f listed ks p l.length,w0.heap.size ≤ x.b ∧ Off H x.b ∧ w.heap[x.b]? = some (.cells x.cs.toArray x.t (0,0)) := fun x hx => by
  obtain ⟨i,hi,_,hgi⟩ := mem_blksS.1 hx
  obtain ⟨t,cs,st,hk,hl,rfl⟩ := blkS_some hgi
  obtain ⟨_,h2,h3,h4⟩ := h.ptr i _ t cs st (List.getElem?_eq_getElem hi) hk hl
  exact ⟨h2,h3,h4⟩
 refine ⟨fun x hx => (key x hx).1,⟨h.hp.upd.mono fun k hk hn ho => hn (off_left ho),Own.of fun x hx => ?_,apart_append h.hp.apart (fun x hx => (key x hx).2.1) (apart_map _ fun i j x y hij hj hx hy => ?_)⟩⟩
 ·rcases List.mem_append.1 hx with hx | hx
  ·exact h.hp.own.at hx
  ·exact (key x hx).2.2
 ·split at hx <;> try cases hx
  split at hy <;> try cases hy
  obtain ⟨t,cs,st,hk,hl,rfl⟩ := blkS_some hx
  obtain ⟨t',cs',st',hk',hl',rfl⟩ := blkS_some hy
  exact h.inj i j t cs st t' cs' st' (by omega) hk hk' hl hl'
inductive ConS (all : List Ks) : Nat → List Ks → Prop
 | nil {k : Nat} : ConS all k []
 | v {k : Nat} {x : Value} {tl : List Ks} (hs : ConS all (k + 1) tl) : ConS all k (.v x :: tl)
 | s {k j : Nat} {tl : List Ks} (hs : ConS all (k + 1) tl) : ConS all k (.s j :: tl)
 | b0 {k t : Nat} {cs : List Value} {tl : List Ks} (hs : ConS all (k + 1) tl) : ConS all k (.b t cs none :: tl)
 | b1 {k t i : Nat} {cs cs' : List Value} {tl : List Ks} (h : all[i]? = some (.s k)) (hs : ConS all (k + 1) tl) : ConS all k (.b t cs (some (i,cs')) :: tl)
theorem ConS.out {all : List Ks} {k : Nat} {tl : List Ks} (h : ConS all k tl) {j t i : Nat} {cs cs' : List Value} (hj : tl[j]? = some (.b t cs (some (i,cs')))) : all[i]? = some (.s (k + j)) := by
 induction h generalizing j with
 | nil => simp at hj
 | @v k x tl hs ih =>
  cases j with
  | zero => simp at hj
  | succ j => have := ih (j := j) (by simpa using hj);rw [show k + 1 + j = k + (j + 1) by omega] at this;exact this
 | @s k j' tl hs ih =>
  cases j with
  | zero => simp at hj
  | succ j => have := ih (j := j) (by simpa using hj);rw [show k + 1 + j = k + (j + 1) by omega] at this;exact this
 | @b0 k t' cs0 tl hs ih =>
  cases j with
  | zero => simp at hj
  | succ j => have := ih (j := j) (by simpa using hj);rw [show k + 1 + j = k + (j + 1) by omega] at this;exact this
 | @b1 k t' i' cs0 cs0' tl h hs ih =>
  cases j with
  | zero =>
   simp only [List.getElem?_cons_zero,Option.some.injEq,Ks.b.injEq,Prod.mk.injEq] at hj
   obtain ⟨_,_,rfl,_⟩ := hj
   exact h
  | succ j => have := ih (j := j) (by simpa using hj);rw [show k + 1 + j = k + (j + 1) by omega] at this;exact this
def bagSB (l : List Oper) (N : Nat) (Γ : Env) : Nat → List Oper → Bool
 | _,[] => true
 | i,o :: rest => (match o.dst with | some d => Nat.blt d N && !(Γ.any fun p => Nat.beq p.1 d) && rest.all fun o' => (match o'.dst with | some d' => !(Nat.beq d' d) | none => true) | none => true) && o.after.toList.all (fun e => !(Region.binds .any e) || Nat.blt e.on i) && bagSB l N Γ (i + 1) rest
theorem bagSB_out {l : List Oper} {N : Nat} {Γ : Env} {k : Nat} {l' : List Oper} (h : bagSB l N Γ k l' = true) {i : Nat} {o : Oper} (hi : l'[i]? = some o) :
  (∀ e ∈ o.after.toList,Region.binds .any e = true → e.on < k + i) ∧ ∀ d,o.dst = some d → d < N ∧ (∀ t v,look Γ t = some v → t ≠ d) ∧ ∀ j o',i < j → l'[j]? = some o' → o'.dst ≠ some d := by
 induction l' generalizing k i with
 | nil => simp at hi
 | cons x rest ih =>
  simp only [bagSB,Bool.and_eq_true] at h
  obtain ⟨⟨h1,h2⟩,h3⟩ := h
  cases i with
  | zero =>
   simp only [List.getElem?_cons_zero,Option.some.injEq] at hi
   subst hi
   refine ⟨fun e he hb => ?_,fun d hd => ?_⟩
   ·have := List.all_eq_true.1 h2 e he
    rw [hb,Bool.not_true,Bool.false_or] at this
    exact Nat.le_of_ble_eq_true this
   ·rw [hd] at h1
    simp only [Bool.and_eq_true,Bool.not_eq_true',List.all_eq_true] at h1
    obtain ⟨⟨h1,h4⟩,h5⟩ := h1
    refine ⟨Nat.le_of_ble_eq_true h1,fun t v ht e => ?_,fun j o' hj ho' e => ?_⟩
    ·rw [← e,look_any ht] at h4;cases h4
    ·cases j with
     | zero => omega
     | succ j =>
      have := h5 o' (List.mem_of_getElem? (by simpa using ho'))
      rw [e] at this
      simp at this
  | succ i =>
   have := ih h3 (i := i) (by simpa using hi)
   refine ⟨fun e he hb => by have := this.1 e he hb;omega,fun d hd => ?_⟩
   obtain ⟨a1,a2,a3⟩ := this.2 d hd
   refine ⟨a1,a2,fun j o' hj ho' => ?_⟩
   cases j with
   | zero => omega
   | succ j => exact a3 j o' (by omega) (by simpa using ho')
theorem getF_set {x : Array Bool} {i j : Nat} (h : i ≠ j) : (x.setIfInBounds i true).getD j false = x.getD j false := by
 simp [Array.getD_eq_getD_getElem?,Array.getElem?_setIfInBounds_ne h]
theorem getF_self {x : Array Bool} {i : Nat} (h : i < x.size) : (x.setIfInBounds i true).getD i false = true := by
 simp [Array.getD_eq_getD_getElem?,h]
theorem curS_set {listed : Array Bool} {i : Nat} {cs : List Value} {st : Option (Nat × List Value)} (h : ∀ q cs',st = some (q,cs') → q ≠ i) : curS (listed.setIfInBounds i true) cs st = curS listed cs st := by
 cases st with
 | none => rfl
 | some p =>
  obtain ⟨q,cs'⟩ := p
  unfold curS
  simp only
  rw [getF_set (h q cs' rfl).symm]
theorem hpPopS {w0 w : World} {x : Blk} {H : List Blk} (h : Hp w0 (x :: H) w) (hx : w0.heap.size ≤ x.b) : Hp w0 H w :=
 ⟨h.upd.mono fun k hk hs ho => hs ⟨fun e => by omega,ho⟩,h.own.2,h.apart.2⟩
theorem InvS.step {P : Program} {l : List Oper} {N : Nat} {Γ : Env} {w0 : World} {H : List Blk} {ks : List Ks} {f : Nat → Nat} {Q : Exit → Act → World → Prop} {listed : Array Bool} {a : Act} {w : World} (hsz : listed.size = l.length) (hc : bagSB l N Γ 0 l = true)
  (hops : OpsS P l N Γ w0 H ks 0 l ks) (hcon : ConS ks 0 ks) {i : Nat} (hr : i ∈ Region.ready .any l.toArray listed) (hdown : ∀ j o,l[j]? = some o → listed.getD j false = true → ∀ e ∈ o.after.toList,Region.binds .any e = true → listed.getD e.on false = true) (hi : InvS l N Γ w0 H ks f listed a w) {K : Act → World → Prop} (hK : ∀ f' a' w',InvS l N Γ w0 H ks f' (listed.setIfInBounds i true) a' w' → K a' w') : wpOp P l.toArray Q i K a w := by
 have hkl := hops.len
 have hil := ready_lt hr
 have hol : l[i]? = some l[i] := List.getElem?_eq_getElem hil
 have hedges := ((ready_iff hol).1 hr).2
 have hunl := ((ready_iff hol).1 hr).1
 generalize l[i] = o at hol hedges
 have hoa : l.toArray[i]? = some o := by simpa using hol
 obtain ⟨hed,hdd⟩ := bagSB_out hc hol
 have hui : listed.getD i false = false := by
  rw [← getD_tf (by omega)];exact hunl
 have hlist : ∀ e ∈ o.after.toList,Region.binds .any e = true → listed.getD e.on false = true := fun e he hb => hedges e (by simpa using he) hb
 have hdep : ∀ e ∈ o.after.toList,Region.binds .any e = true → ∀ x,ks[e.on]? = some (.v x) → a.tmps[dstAt l e.on]? = some x := fun e he hb x hx => by
  have h2 := hed e he hb
  have h3 : l[e.on]? = some l[e.on] := List.getElem?_eq_getElem (by omega)
  have := hi.val e.on _ x h3 hx (hlist e he hb)
  unfold dstAt
  rw [h3]
  exact this
 have hdeb : ∀ e ∈ o.after.toList,Region.binds .any e = true → ∀ t cs st,ks[e.on]? = some (.b t cs st) → a.tmps[dstAt l e.on]? = some (.pointer (some ⟨f e.on,0,none⟩)) := fun e he hb t cs st hx => by
  have h2 := hed e he hb
  have h3 : l[e.on]? = some l[e.on] := List.getElem?_eq_getElem (by omega)
  have := (hi.ptr e.on _ t cs st h3 hx (hlist e he hb)).1
  unfold dstAt
  rw [h3]
  exact this
 have fin : ∀ (Post : Exit → Act → World → Prop),wpList P l.toArray Post [o] a w → (∀ e a' w',Post e a' w' → e = .normal) → (∀ a' w',Post .normal a' w' → (∃ v,a'.tmps = (a.put o.dst v).tmps) → K a' w') → wpOp P l.toArray Q i K a w := fun Post hwl hn key => by
  unfold wpOp
  simp only [hoa]
  simp only [wpList] at hwl
  split
  ·rename_i hw
   rw [if_pos hw] at hwl
   rcases hwl with h | ⟨_,x,y,h⟩
   ·have h1 := wp_only (fun _ _ _ h => hn _ _ _ h) (wp_tmps h)
    refine .inl ?_
    have h2 := Oper.wp_mono (fun a' w' hh => key a' w' hh.1 hh.2) h1
    unfold Oper.wp at *
    generalize (execOp a.eval o).run P w = r at *
    cases r with
    | ok n w' =>
     cases n <;> simp only [Oper.upon] at h2 ⊢
     case value u => exact h2
     case skip => exact h2
     case defer d => exact h2
     case enter f args => exact Calls.mono h2 (fun e w'' he => by cases e <;> first | exact he | exact he.elim | (obtain ⟨_,_,hf⟩ := he;exact hf.elim))
     case row row args => exact h2
    | halt x w' => cases x <;> simp only [Oper.upon] at h2
   ·cases hn _ _ _ h
  ·rename_i hw
   rw [if_neg hw] at hwl
   exact key _ _ hwl ⟨undef,rfl⟩
 have hfullT := hi.full hkl (fun _ => true)
 have dstOf : ∀ {oj : Oper} {d : Nat},oj.dst = some d → dstO oj = d := fun h => by simp [dstO,h]
 have hdst : ∀ j oj,l[j]? = some oj → i ≠ j → o.dst.isSome = true → oj.dst.isSome = true → dstO oj ≠ dstO o := fun j oj hjo hij hs hs' e => by
  obtain ⟨d,hd⟩ := Option.isSome_iff_exists.1 hs
  obtain ⟨d',hd'⟩ := Option.isSome_iff_exists.1 hs'
  rw [dstOf hd,dstOf hd'] at e
  subst e
  rcases Nat.lt_or_gt_of_ne hij with h | h
  ·exact (hdd d' hd).2.2 j oj h hjo hd'
  ·exact ((bagSB_out hc hjo).2 d' hd').2.2 i o h hol hd
 have keepT : ∀ {a' : Act} {u : Value},a'.tmps = (a.put o.dst u).tmps → ∀ t,(o.dst.isSome = true → t ≠ dstO o) → a'.tmps[t]? = a.tmps[t]? := fun {a' u} hu t ht => by
  rw [hu]
  cases hd : o.dst with
  | none => simp [Act.put]
  | some d =>
   have := ht (by rw [hd];rfl)
   rw [dstOf hd] at this
   simp [Act.put,Array.getElem?_setIfInBounds_ne (Ne.symm this)]
 have hΓ : ∀ t v,look Γ t = some v → o.dst.isSome = true → t ≠ dstO o := fun t v ht hs => by
  obtain ⟨d,hd⟩ := Option.isSome_iff_exists.1 hs
  rw [dstOf hd]
  exact (hdd d hd).2.1 t v ht
 have someOf : ∀ {j : Nat} {oj : Oper},l[j]? = some oj → (∃ x,ks[j]? = some (.v x)) ∨ (∃ t cs st,ks[j]? = some (.b t cs st)) → oj.dst.isSome = true := fun {j oj} hjo hk => by
  rcases hops.out hjo with ⟨h,_⟩ | ⟨h,_⟩ | ⟨_,_,_,_,_,h,_⟩
  ·exact h
  ·exact h
  ·rcases hk with ⟨x,hk⟩ | ⟨_,_,_,hk⟩ <;> · rw [h] at hk;cases hk
 have noS : ∀ {j q : Nat} {t : TypeId} {cs cs' : List Value},ks[j]? = some (.b t cs (some (q,cs'))) → (∀ j',ks[i]? ≠ some (.s j')) → q ≠ i := fun {j q t cs cs'} hk hn e => by
  have := hcon.out hk
  rw [Nat.zero_add,e] at this
  exact hn _ this
 have blkIn : ∀ {j t : Nat} {cs : List Value} {st : Option (Nat × List Value)} (p : Nat → Bool),j < l.length → p j = true → ks[j]? = some (.b t cs st) → listed.getD j false = true → (⟨f j,curS listed cs st,t⟩ : Blk) ∈ blksS f listed ks p l.length := fun {j t cs st} p hj hp hk hl =>
  mem_blksS.2 ⟨j,hj,hp,by unfold blkS;rw [hk];simp only;rw [if_pos hl]⟩
 rcases hops.out hol with ⟨hsd,x,hx,hW⟩ | ⟨hsd,t,cs,st,hx,hW⟩ | ⟨hnd,j,t,cs,cs',hx,hkj,⟨ej,hej,hej1,hej2⟩,hW⟩
 ·obtain ⟨hnew,hfull⟩ := hfullT
  obtain ⟨Γ',hf',hW⟩ := (hW _ f hnew).run hi.fr hdep hdeb
  refine fin _ (hW.elim a w hf' hfull) (fun _ _ _ h => h.1) ?_
  rintro a' w' ⟨_,hfr,hp'⟩ ⟨u,hu⟩
  have hne := keepT hu
  have hcur : ∀ {j t : Nat} {cs : List Value} {st : Option (Nat × List Value)},ks[j]? = some (.b t cs st) → curS (listed.setIfInBounds i true) cs st = curS listed cs st := fun {j t cs st} hk => curS_set fun q cs' e => noS (e ▸ hk) fun j' hj' => by rw [hx] at hj';cases hj'
  refine hK f a' w' ⟨⟨hfr.defers,hfr.size,fun t v ht => by rw [hne t (hΓ t v ht)];exact hi.fr.get t v ht⟩,hp_left hp' hnew,fun j oj y hjo hy hl => ?_,fun j oj t cs st hjo hy hl => ?_,fun j k t cs st t' cs' st' hjk hk1 hk2 hl hl' => ?_⟩
  ·by_cases e : i = j
   ·subst e
    rw [hol] at hjo
    cases hjo
    rw [hx] at hy
    cases hy
    exact hfr.get _ _ (by simp [look])
   ·rw [getF_set e] at hl
    rw [hne _ (fun hs => hdst j oj hjo e hs (someOf hjo (.inl ⟨_,hy⟩)))]
    exact hi.val j oj y hjo hy hl
  ·have e : i ≠ j := fun e => by subst e;rw [hx] at hy;cases hy
   rw [getF_set e] at hl
   obtain ⟨h1,h2,h3,_⟩ := hi.ptr j oj t cs st hjo hy hl
   rw [hcur hy]
   exact ⟨by rw [hne _ (fun hs => hdst j oj hjo e hs (someOf hjo (.inr ⟨_,_,_,hy⟩)))];exact h1,h2,h3,hp'.own.at (List.mem_append_right _ (blkIn _ (List.getElem?_eq_some_iff.1 hjo).1 rfl hy hl))⟩
  ·have e : i ≠ j := fun e => by subst e;rw [hx] at hk1;cases hk1
   have e' : i ≠ k := fun e => by subst e;rw [hx] at hk2;cases hk2
   rw [getF_set e] at hl
   rw [getF_set e'] at hl'
   exact hi.inj j k t cs st t' cs' st' hjk hk1 hk2 hl hl'
 ·obtain ⟨hnew,hfull⟩ := hfullT
  refine fin _ ((hW _).elim a w hi.fr hfull) (fun _ _ _ h => h.1) ?_
  rintro a' w' ⟨_,c,hc0,hco,hfr,hp'⟩ ⟨u,hu⟩
  have hne := keepT hu
  have hcur : ∀ {j t : Nat} {cs : List Value} {st : Option (Nat × List Value)},ks[j]? = some (.b t cs st) → curS (listed.setIfInBounds i true) cs st = curS listed cs st := fun {j t cs st} hk => curS_set fun q cs' e => noS (e ▸ hk) fun j' hj' => by rw [hx] at hj';cases hj'
  have hcurI : curS (listed.setIfInBounds i true) cs st = cs := by
   rw [hcur hx]
   cases st with
   | none => rfl
   | some p =>
    obtain ⟨q,cs'⟩ := p
    have hq := hcon.out hx
    rw [Nat.zero_add] at hq
    unfold curS
    simp only
    have : listed.getD q false = false := by
     cases hlq : listed.getD q false with
     | false => rfl
     | true =>
      exfalso
      have hql : q < l.length := by have := (List.getElem?_eq_some_iff.1 hq).1;omega
      rcases hops.out (List.getElem?_eq_getElem hql) with ⟨_,x,h,_⟩ | ⟨_,_,_,_,h,_⟩ | ⟨_,j',_,_,_,h,_,⟨e,he,he1,he2⟩,_⟩
      ·rw [hq] at h;cases h
      ·rw [hq] at h;cases h
      ·rw [hq] at h
       cases h
       have := hdown q _ (List.getElem?_eq_getElem hql) hlq e he he2
       rw [he1,hui] at this
       cases this
    rw [this]
    rfl
  have hnew' : NewX w0 (⟨c,cs,t⟩ :: blksS f listed ks (fun _ => true) l.length) := fun y hy => by
   rcases List.mem_cons.1 hy with rfl | hy
   ·exact hc0
   ·exact hnew y hy
  have hH : Hp w0 H w' := hp_left (hpPopS hp' hc0) hnew
  have hfi : ∀ j,i ≠ j → (if j = i then c else f j) = f j := fun j e => if_neg (fun e' => e e'.symm)
  have hoff : ∀ j t' cs' st',ks[j]? = some (.b t' cs' st') → listed.getD j false = true → f j ≠ c := fun j t' cs' st' hk hl => (off_right hco).at (blkIn (fun _ => true) (by have := (List.getElem?_eq_some_iff.1 hk).1;omega) rfl hk hl)
  refine hK (fun k => if k = i then c else f k) a' w' ⟨⟨hfr.defers,hfr.size,fun t v ht => by rw [hne t (hΓ t v ht)];exact hi.fr.get t v ht⟩,hH,fun j oj y hjo hy hl => ?_,fun j oj t' cs' st' hjo hy hl => ?_,fun j k t1 cs1 st1 t2 cs2 st2 hjk hkj hkk hl hl' => ?_⟩
  ·have e : i ≠ j := fun e => by subst e;rw [hx] at hy;cases hy
   rw [getF_set e] at hl
   rw [hne _ (fun hs => hdst j oj hjo e hs (someOf hjo (.inl ⟨_,hy⟩)))]
   exact hi.val j oj y hjo hy hl
  ·by_cases e : i = j
   ·subst e
    rw [hol] at hjo
    cases hjo
    rw [hx] at hy
    cases hy
    simp only [if_true]
    rw [hcurI]
    exact ⟨hfr.get _ _ (by simp [look]),hc0,off_left hco,hp'.own.1⟩
   ·rw [getF_set e] at hl
    obtain ⟨h1,h2,h3,h4⟩ := hi.ptr j oj t' cs' st' hjo hy hl
    rw [hfi j e,hcur hy]
    exact ⟨by rw [hne _ (fun hs => hdst j oj hjo e hs (someOf hjo (.inr ⟨_,_,_,hy⟩)))];exact h1,h2,h3,hp'.own.at (.tail _ (List.mem_append_right _ (blkIn _ (List.getElem?_eq_some_iff.1 hjo).1 rfl hy hl)))⟩
  ·by_cases e : i = j
   ·subst e
    have e' : i ≠ k := hjk
    rw [getF_set e'] at hl'
    rw [hfi k e',if_pos rfl]
    exact fun h => hoff k _ _ _ hkk hl' h.symm
   ·by_cases e' : i = k
    ·subst e'
     rw [getF_set e] at hl
     rw [hfi j e,if_pos rfl]
     exact hoff j _ _ _ hkj hl
    ·rw [getF_set e] at hl
     rw [getF_set e'] at hl'
     rw [hfi j e,hfi k e']
     exact hi.inj j k _ _ _ _ _ _ hjk hkj hkk hl hl'
 ·rw [Nat.zero_add] at hkj
  have hjl : listed.getD j false = true := hej1 ▸ hlist ej hej hej2
  have hjlt : j < l.length := by have := (List.getElem?_eq_some_iff.1 hkj).1;omega
  obtain ⟨hpj,hfj0,hfjH,hfjc⟩ := hi.ptr j _ t cs _ (List.getElem?_eq_getElem hjlt) hkj hjl
  have hcj : curS listed cs (some (i,cs')) = cs := by unfold curS;simp only;rw [hui];rfl
  rw [hcj] at hfjc
  obtain ⟨hnew,hfull⟩ := hi.full hkl (fun q => !(Nat.beq q j))
  have hoffX : Off (blksS f listed ks (fun q => !(Nat.beq q j)) l.length) (f j) := Off.of fun x hxm => by
   obtain ⟨q,hq,hpq,hgq⟩ := mem_blksS.1 hxm
   obtain ⟨t',cs2,st2,hk2,hl2,rfl⟩ := blkS_some hgq
   exact hi.inj q j _ _ _ _ _ _ (fun e => by subst e;simp at hpq) hk2 hkj hl2 hjl
  have hfull' : Hp w0 (⟨f j,cs,t⟩ :: (H ++ blksS f listed ks (fun q => !(Nat.beq q j)) l.length)) w :=
   ⟨hfull.upd.mono fun k hk hn ho => hn ho.2,⟨hfjc,hfull.own⟩,⟨off_append hfjH hoffX,hfull.apart⟩⟩
  obtain ⟨Γ',hf',hW⟩ := (hW _ f hnew hfj0).run hi.fr hdep hdeb
  refine fin _ (hW.elim a w hf' hfull') (fun _ _ _ h => h.1) ?_
  rintro a' w' ⟨_,hfr,hp'⟩ ⟨u,hu⟩
  have hne := keepT hu
  have hne' : ∀ t : Nat,a'.tmps[t]? = a.tmps[t]? := fun t => hne t (fun hs => by rw [hnd] at hs;cases hs)
  have noI : ∀ {q t : Nat} {cs1 : List Value} {st1 : Option (Nat × List Value)},ks[q]? = some (.b t cs1 st1) → q ≠ j → curS (listed.setIfInBounds i true) cs1 st1 = curS listed cs1 st1 := fun {q t cs1 st1} hk hq => curS_set fun q' cs2 e e' => by
   have := hcon.out (e ▸ hk)
   rw [Nat.zero_add,e',hx] at this
   cases this
   exact hq rfl
  refine hK f a' w' ⟨⟨hfr.defers,hfr.size,fun t v ht => by rw [hne' t];exact hi.fr.get t v ht⟩,hp_left (hpPopS hp' hfj0) hnew,fun q oj y hjo hy hl => ?_,fun q oj t1 cs1 st1 hjo hy hl => ?_,fun q k t1 cs1 st1 t2 cs2 st2 hjk hkq hkk hl hl' => ?_⟩
  ·have e : i ≠ q := fun e => by subst e;rw [hx] at hy;cases hy
   rw [getF_set e] at hl
   rw [hne']
   exact hi.val q oj y hjo hy hl
  ·have e : i ≠ q := fun e => by subst e;rw [hx] at hy;cases hy
   rw [getF_set e] at hl
   obtain ⟨h1,h2,h3,h4⟩ := hi.ptr q oj t1 cs1 st1 hjo hy hl
   by_cases eq : q = j
   ·subst eq
    rw [hkj] at hy
    cases hy
    have : curS (listed.setIfInBounds i true) cs (some (i,cs')) = cs' := by unfold curS;simp only;rw [getF_self (by omega),if_pos rfl]
    rw [this]
    exact ⟨by rw [hne'];exact h1,h2,h3,hp'.own.1⟩
   ·rw [noI hy eq]
    exact ⟨by rw [hne'];exact h1,h2,h3,hp'.own.at (.tail _ (List.mem_append_right _ (blkIn _ (List.getElem?_eq_some_iff.1 hjo).1 (by rw [beqFalse eq];rfl) hy hl)))⟩
  ·have e : i ≠ q := fun e => by subst e;rw [hx] at hkq;cases hkq
   have e' : i ≠ k := fun e => by subst e;rw [hx] at hkk;cases hkk
   rw [getF_set e] at hl
   rw [getF_set e'] at hl'
   exact hi.inj q k _ _ _ _ _ _ hjk hkq hkk hl hl'
theorem bagS_run {P : Program} {l : List Oper} {N : Nat} {Γ : Env} {w0 : World} {H : List Blk} {ks : List Ks} {Q : Exit → Act → World → Prop} (hc : bagSB l N Γ 0 l = true) (hops : OpsS P l N Γ w0 H ks 0 l ks) (hcon : ConS ks 0 ks)
  (hend : ∀ f listed a w,(∀ j,j < l.length → listed.getD j false = true) → InvS l N Γ w0 H ks f listed a w → Q .normal a w) :
  ∀ n (listed : Array Bool) f a w,listed.size = l.length → listed.toList.count false = n → InvS l N Γ w0 H ks f listed a w →
   (∀ j o,l[j]? = some o → listed.getD j false = true → ∀ e ∈ o.after.toList,Region.binds .any e = true → listed.getD e.on false = true) → wpAny P .any l.toArray Q n listed a w := by
 have hbk : ∀ (i : Nat) (o : Oper),l[i]? = some o → ∀ e ∈ o.after.toList,Region.binds .any e = true → e.on < i := fun i o ho e he hb => by
  have := (bagSB_out hc ho).1 e he hb
  omega
 intro n
 induction n with
 | zero =>
  intro listed f a w hsz hn hi hdown
  have hcn : ∀ j,j < l.length → listed.getD j false = true := fun j hj => by
   have h2 : false ∉ listed.toList := List.count_eq_zero.1 hn
   cases e : listed.getD j false with
   | true => rfl
   | false =>
    rw [Array.getD_eq_getD_getElem?,Array.getElem?_eq_getElem (by omega)] at e
    have h3 : listed[j]'(by omega) ∈ listed.toList := by simp
    have e' : listed[j]'(by omega) = false := e
    rw [e'] at h3
    exact (h2 h3).elim
  have hr : Region.ready .any l.toArray listed = [] := by
   rw [List.eq_nil_iff_forall_not_mem]
   intro i hi'
   have hil := ready_lt hi'
   have := ((ready_iff (List.getElem?_eq_getElem hil)).1 hi').1
   rw [getD_tf (by omega),hcn i hil] at this
   cases this
  exact ⟨hr,hend f listed a w hcn hi⟩
 | succ n ih =>
  intro listed f a w hsz hn hi hdown
  have hex : ∃ j,j < l.length ∧ listed.getD j false = false ∧ ∀ q,q < j → listed.getD q false = true := by
   have key : ∀ d,(∀ j,j < d → listed.getD j false = true) ∨ ∃ j,j < d ∧ listed.getD j false = false ∧ ∀ q,q < j → listed.getD q false = true := by
    intro d
    induction d with
    | zero => exact .inl fun j h => by omega
    | succ d ihd =>
     rcases ihd with h | ⟨j,h1,h2,h3⟩
     ·cases hl : listed.getD d false with
      | false => exact .inr ⟨d,by omega,hl,h⟩
      | true =>
       refine .inl fun j hj => ?_
       rcases Nat.lt_succ_iff_lt_or_eq.1 hj with hj | hj
       ·exact h j hj
       ·subst hj;exact hl
     ·exact .inr ⟨j,by omega,h2,h3⟩
   rcases key l.length with h | h
   ·exfalso
    have h0 : listed.toList.count false = 0 := List.count_eq_zero.2 fun hm => by
     obtain ⟨j,hj,e⟩ := List.getElem_of_mem hm
     have hj' : j < listed.size := by simpa using hj
     have := h j (by omega)
     rw [Array.getD_eq_getD_getElem?,Array.getElem?_eq_getElem hj'] at this
     have e' : listed[j] = false := by simpa using e
     rw [e'] at this
     cases this
    omega
   ·exact h
  refine ⟨fun hr => ?_,fun i hr => ?_⟩
  ·obtain ⟨j,hjl,hj,hbefore⟩ := hex
   have ho : l[j]? = some l[j] := List.getElem?_eq_getElem hjl
   have : j ∈ Region.ready .any l.toArray listed := (ready_iff ho).2 ⟨by rw [getD_tf (by omega)];exact hj,fun e he hb => hbefore e.on (hbk j _ ho e he hb)⟩
   rw [hr] at this
   cases this
  ·have hil := ready_lt hr
   have hio := (ready_iff (List.getElem?_eq_getElem hil)).1 hr
   have hcount : (listed.setIfInBounds i true).toList.count false = n := by
    have hi2 : i < listed.size := by omega
    have hfi : listed[i] = false := by
     have := hio.1
     rw [Array.getD_eq_getD_getElem?,Array.getElem?_eq_getElem hi2] at this
     exact this
    have e1 : (listed.setIfInBounds i true).toList = listed.toList.set i true := by simp
    have hlt : i < listed.toList.length := by simpa using hi2
    have e2 : listed.toList[i] = false := by simpa using hfi
    rw [e1,List.count_set (by simpa using hi2)]
    have hn' : Array.count false listed = n + 1 := by rw [← hn];simp
    simp [hfi]
    omega
   refine hi.step hsz hc hops hcon hr hdown fun f' a' w' hi' => ih _ f' a' w' (by simp [hsz]) hcount hi' fun j o ho hl e he hb => ?_
   have hlist : e.on = i ∨ listed.getD e.on false = true := by
    by_cases e' : i = j
    ·subst e'
     have hox := List.getElem?_eq_getElem hil
     rw [ho] at hox
     cases hox
     exact .inr (hio.2 e (by simpa using he) hb)
    ·rw [getF_set e'] at hl
     exact .inr (hdown j o ho hl e he hb)
   by_cases e' : i = e.on
   ·rw [← e'];exact getF_self (by omega)
   ·rw [getF_set e'];exact hlist.resolve_left fun h => e' h.symm
def laidS (cs : List Value) : Option (Nat × List Value) → List Value
 | some p => p.2
 | none => cs
def EndS (kp : Nat → Bool) (w0 : World) (H : List Blk) (K : Env → List Blk → Prop) : List Oper → List Ks → Nat → Env → List Blk → Prop
 | [],_,_,Γ,B => K Γ B
 | _ :: _,[],_,Γ,B => K Γ B
 | o :: os,.v x :: ks,i,Γ,B => EndS kp w0 H K os ks (i + 1) (bif kp i then (dstO o,x) :: Γ else Γ) B
 | o :: os,.b t cs st :: ks,i,Γ,B => ∀ c,w0.heap.size ≤ c → Off (B ++ H) c → EndS kp w0 H K os ks (i + 1) ((dstO o,.pointer (some ⟨c,0,none⟩)) :: Γ) (⟨c,laidS cs st,t⟩ :: B)
 | _ :: os,.s _ :: ks,i,Γ,B => EndS kp w0 H K os ks (i + 1) Γ B
theorem EndS.run {kp : Nat → Bool} {w0 : World} {H : List Blk} {K : Env → List Blk → Prop} {l : List Oper} {N : Nat} {Γ0 : Env} {ks : List Ks} {f : Nat → Nat} {listed : Array Bool} {a : Act} {w : World} (hkl : ks.length = l.length) (hcon : ConS ks 0 ks) (hi : InvS l N Γ0 w0 H ks f listed a w) (hall : ∀ j,j < l.length → listed.getD j false = true) :
  ∀ (l' : List Oper) (ks' : List Ks) (i : Nat) (Γ : Env) (B : List Blk),l' = l.drop i → ks' = ks.drop i → i ≤ l.length → Fr N a Γ → B = blksS f listed ks (fun _ => true) i → EndS kp w0 H K l' ks' i Γ B →
   ∃ Γ',Fr N a Γ' ∧ K Γ' (blksS f listed ks (fun _ => true) l.length) := by
 intro l'
 induction l' with
 | nil =>
  intro ks' i Γ B hl hk him hf hB h
  have h1 : l.length ≤ i := by simpa using hl.symm
  have : i = l.length := by omega
  subst this
  subst hB
  cases ks' <;> exact ⟨Γ,hf,h⟩
 | cons o os ih =>
  intro ks' i Γ B hl hk him hf hB h
  have hlt : i < l.length := by
   rcases Nat.lt_or_ge i l.length with h' | h'
   ·exact h'
   ·rw [List.drop_eq_nil_of_le h'] at hl;cases hl
  have hol : l[i]? = some o := by
   have := List.getElem?_drop (xs := l) (i := i) (j := 0)
   rw [← hl] at this
   simpa using this.symm
  have hos : os = l.drop (i + 1) := by rw [← List.drop_drop,← hl];rfl
  have hki : ks[i]? = some (ks[i]'(by omega)) := List.getElem?_eq_getElem (by omega)
  rw [List.drop_eq_getElem_cons (by omega)] at hk
  have bstep : blksS f listed ks (fun _ => true) (i + 1) = (match blkS f listed ks i with | some x => x :: blksS f listed ks (fun _ => true) i | none => blksS f listed ks (fun _ => true) i) := by
   unfold blksS
   rw [List.range_succ,List.reverse_append,List.reverse_singleton,List.singleton_append,List.filterMap_cons]
   simp only [if_true]
   cases blkS f listed ks i <;> rfl
  generalize ks[i]'(by omega) = k at hk hki
  subst hk
  cases k with
  | v x =>
   have hv := hi.val i o x hol hki (hall i hlt)
   refine ih (ks.drop (i + 1)) (i + 1) _ B hos rfl (by omega) ?_ ?_ h
   ·cases kp i
    ·exact hf
    ·exact hf.cons hv
   ·rw [bstep,hB]
    unfold blkS
    rw [hki]
  | s j =>
   refine ih (ks.drop (i + 1)) (i + 1) _ B hos rfl (by omega) hf ?_ h
   rw [bstep,hB]
   unfold blkS
   rw [hki]
  | b t cs st =>
   obtain ⟨h1,h2,h3,h4⟩ := hi.ptr i o t cs st hol hki (hall i hlt)
   have hoff : Off B (f i) := by
    rw [hB]
    refine Off.of fun x hx => ?_
    obtain ⟨j,hj,_,hg⟩ := mem_blksS.1 hx
    obtain ⟨t',cs',st',hk',hl',rfl⟩ := blkS_some hg
    exact hi.inj j i _ _ _ _ _ _ (by omega) hk' hki hl' (hall i hlt)
   have hcur : curS listed cs st = laidS cs st := by
    cases st with
    | none => rfl
    | some p =>
     obtain ⟨q,cs'⟩ := p
     have hq := hcon.out hki
     unfold curS
     simp only
     rw [hall q (by have := (List.getElem?_eq_some_iff.1 hq).1;omega),if_pos rfl]
     rfl
   refine ih (ks.drop (i + 1)) (i + 1) _ (⟨f i,laidS cs st,t⟩ :: B) hos rfl (by omega) (hf.cons h1) ?_ (h (f i) h2 (off_append hoff h3))
   rw [bstep,hB]
   unfold blkS
   rw [hki]
   simp only [hall i hlt,if_true]
   rw [hcur]
section
variable {P : Program} {N : Nat} {Γ : Env} {C : World → Prop} {Q : Exit → Act → World → Prop}
theorem St.bagS {i : Nat} {l : List Oper} {w0 : World} {H : List Blk} {ks : List Ks} (sel : List Nat) (hm : P.follows .mixedOrders = true) (hc : bagSB l N Γ 0 l = true)
  (hops : OpsS P l N Γ w0 H ks 0 l ks) (hcon : ConS ks 0 ks)
  (hend : EndS (fun q => sel.any (Nat.beq q)) w0 H (fun Γ' B => Gt N .normal Γ' (Hp w0 (B ++ H)) Q) l ks 0 Γ []) : St (.region i l.toArray true) P N Γ (Hp w0 H) Q := St.intro fun a w ha hw => by
 have hkl := hops.len
 refine wp_region_any hm ?_
 have := bagS_run (Q := Q) hc hops hcon (fun f listed a w hall hi => by
  obtain ⟨Γ',hf,hK⟩ := EndS.run hkl hcon hi hall _ _ 0 Γ [] rfl rfl (Nat.zero_le _) hi.fr (by simp [blksS]) hend
  exact hK.elim a w hf (hp_swap (hi.full hkl _).2)) l.length (Array.replicate l.length false) (fun _ => 0) a w.drew (by simp) (by simp [List.count_replicate])
  ⟨ha,hw.drew,fun i o x ho _ hl => by
   simp [Array.getD_eq_getD_getElem?,Array.getElem?_replicate] at hl
   split at hl <;> simp at hl,fun i o t cs st ho _ hl => by
   simp [Array.getD_eq_getD_getElem?,Array.getElem?_replicate] at hl
   split at hl <;> simp at hl,fun i j t cs st t' cs' st' _ _ _ _ hl => by
   simp [Array.getD_eq_getD_getElem?,Array.getElem?_replicate] at hl
   split at hl <;> simp at hl⟩ (fun j o ho hl => by
   simp [Array.getD_eq_getD_getElem?,Array.getElem?_replicate] at hl
   split at hl <;> simp at hl)
 simpa using this
theorem St.bagSn {i : Nat} {l : List Oper} {w0 : World} {H : List Blk} {ks : List Ks} (n : Nat) (sel : List Nat) (_ : l.length = n) (hm : P.follows .mixedOrders = true) (hc : bagSB l N Γ 0 l = true)
  (hops : OpsS P l N Γ w0 H ks 0 l ks) (hcon : ConS ks 0 ks)
  (hend : EndS (fun q => sel.any (Nat.beq q)) w0 H (fun Γ' B => Gt N .normal Γ' (Hp w0 (B ++ H)) Q) l ks 0 Γ []) : St (.region i l.toArray true) P N Γ (Hp w0 H) Q := St.bagS sel hm hc hops hcon hend
theorem Gt.endS {D : World → Prop} (h : ∀ w,C w → D w) : Gt N .normal Γ C (PostS N [] D) := Gt.intro fun a w ha hw => ⟨rfl,ha.sub .nil,h w hw⟩
theorem EndS.nil' {kp : Nat → Bool} {w0 : World} {H : List Blk} {K : Env → List Blk → Prop} {ks : List Ks} {i : Nat} {B : List Blk} (h : K Γ B) : EndS kp w0 H K [] ks i Γ B := by
 cases ks <;> exact h
theorem EndS.on {kp : Nat → Bool} {w0 : World} {H : List Blk} {K : Env → List Blk → Prop} {ks : List Ks} {i d : Nat} {op : Op} {ty : TypeId} {pos : String} {af : Array Edge} {g : Option (Nat × Bool)} {os : List Oper} {x : Value} {B : List Blk} (hk : kp i = true) (h : EndS kp w0 H K os ks (i + 1) ((d,x) :: Γ) B) : EndS kp w0 H K (⟨some d,op,ty,pos,af,g⟩ :: os) (.v x :: ks) i Γ B := by
 unfold EndS;rw [hk];exact h
theorem EndS.off {kp : Nat → Bool} {w0 : World} {H : List Blk} {K : Env → List Blk → Prop} {ks : List Ks} {i : Nat} {o : Oper} {os : List Oper} {x : Value} {B : List Blk} (hk : kp i = false) (h : EndS kp w0 H K os ks (i + 1) Γ B) : EndS kp w0 H K (o :: os) (.v x :: ks) i Γ B := by
 unfold EndS;rw [hk];exact h
theorem EndS.st {kp : Nat → Bool} {w0 : World} {H : List Blk} {K : Env → List Blk → Prop} {ks : List Ks} {i j : Nat} {o : Oper} {os : List Oper} {B : List Blk} (h : EndS kp w0 H K os ks (i + 1) Γ B) : EndS kp w0 H K (o :: os) (.s j :: ks) i Γ B := by
 unfold EndS;exact h
theorem EndS.new {kp : Nat → Bool} {w0 : World} {H : List Blk} {K : Env → List Blk → Prop} {ks : List Ks} {i q d : Nat} {op : Op} {ty : TypeId} {pos : String} {af : Array Edge} {g : Option (Nat × Bool)} {os : List Oper} {t : TypeId} {cs cs' : List Value} {B : List Blk} (h : ∀ c,w0.heap.size ≤ c → Off (B ++ H) c → EndS kp w0 H K os ks (i + 1) ((d,.pointer (some ⟨c,0,none⟩)) :: Γ) (⟨c,cs',t⟩ :: B)) : EndS kp w0 H K (⟨some d,op,ty,pos,af,g⟩ :: os) (.b t cs (some (q,cs')) :: ks) i Γ B := by
 unfold EndS;exact h
theorem Wl.catS {ops : Array Oper} {w0 : World} {l : List Oper} {b b' : Blk} {B H R : List Blk} (e : CatB B H R) (h : Wl l P .seq ops N Γ (Hp w0 (b :: R)) (PostS N [] (Hp w0 (b' :: R)))) : Wl l P .seq ops N Γ (Hp w0 (b :: (B ++ H))) (PostS N [] (Hp w0 (b' :: (B ++ H)))) := by
 rw [e.out] at h;exact h
theorem Gt.catS {B H R : List Blk} {w0 : World} (e : CatB B H R) (h : Gt N .normal Γ (Hp w0 R) Q) : Gt N .normal Γ (Hp w0 (B ++ H)) Q := by
 rw [e.out] at h;exact h
end
attribute [irreducible] EndS
end Go.Pt
end
section
namespace Go.Pt
open Go.RowKit
end Go.Pt
namespace Go.Proofs.YtmjlceimjlabpaaDoor
open Go.RowKit Go.Pt
attribute [local irreducible] Prim.P256 Prim.N256
end Go.Proofs.YtmjlceimjlabpaaDoor
end
section
namespace Go.Pt
open Go.RowKit
section
variable {P : Program} {md : Md} {N : Nat} {ops : Array Oper} {rest : List Oper} {Γ : Env} {C : World → Prop} {Q : Exit → Act → World → Prop} {d : Nat} {ty : TypeId} {pos : String} {af : Array Edge} {t u : TypeId} {x y : Operand} {m n : Nat}
theorem Wl.xorM (hd : Nat.blt d N = true) (hx : ev Γ x = some (.int .u64 (m : Int))) (hy : ev Γ y = some (.int .u64 (n : Int))) (hm : m < 4294967296) (hn : n < 4294967296) (h : Wl rest P md ops N ((d,.int .u64 ((Sha.X m n : Nat) : Int)) :: Γ) C Q) : Wl (⟨some d,.binOp .xor t x y u,ty,pos,af,none⟩ :: rest) P md ops N Γ C Q :=
 Wl.xorN64 hd hx hy (by rw [Sha.X64 hm hn];exact h)
theorem Wl.andM (hd : Nat.blt d N = true) (hx : ev Γ x = some (.int .u64 (m : Int))) (hy : ev Γ y = some (.int .u64 (n : Int))) (hm : m < 4294967296) (h : Wl rest P md ops N ((d,.int .u64 ((Sha.A m n : Nat) : Int)) :: Γ) C Q) : Wl (⟨some d,.binOp .and t x y u,ty,pos,af,none⟩ :: rest) P md ops N Γ C Q :=
 Wl.andN64 hd hx hy (by rw [Sha.A64 hm];exact h)
theorem Wl.indexSC {t e by_ : TypeId} [ht : TyD P t (.slice e)] [TyS P e 1 by_] {x i : Operand} {b n c : Nat} {k : IntKind} {jj : Int} (j : Nat) (hd : Nat.blt d N = true) (hx : ev Γ x = some (.slice (some ⟨b,0,none⟩) n c)) (hi : ev Γ i = some (.int k jj)) (hjj : jj = (j : Int))
  (hj : j < n) (h : Wl rest P md ops N ((d,.pointer (some ⟨b,j,none⟩)) :: Γ) C Q) : Wl (⟨some d,.indexAddr t x i,ty,pos,af,none⟩ :: rest) P md ops N Γ C Q :=
 Wl.indexS0 hd hx (hjj ▸ hi) hj h
theorem Wl.subUC {i : Int} (m : Nat) (hd : Nat.blt d N = true) (hx : ev Γ x = some (.int .u64 i)) (hi : i = (m : Int)) (hy : ev Γ y = some (.int .u64 (n : Int))) (hn : n ≤ m) (hm : m < 18446744073709551616) (h : Wl rest P md ops N ((d,.int .u64 ((m - n : Nat) : Int)) :: Γ) C Q) : Wl (⟨some d,.binOp .sub t x y u,ty,pos,af,none⟩ :: rest) P md ops N Γ C Q :=
 Wl.subE hd hx hy (by rw [hi,IntKind.wrap_u64];omega) h
end
theorem hpDrop2 {w0 w : World} {x : Blk} {b t : Nat} {cs : List Value} {H : List Blk} (h : Hp w0 (x :: ⟨b,cs,t⟩ :: H) w) (hy : w0.heap.size ≤ b ∨ w0.heap[b]? = some (.cells cs.toArray t (0,0))) : Hp w0 (x :: H) w :=
 ⟨⟨h.upd.os,h.upd.tape,h.upd.output,h.upd.size,fun k hk hs => by
  by_cases e : b = k
  ·subst e
   rcases hy with hy | hy
   ·omega
   ·rw [hy];exact h.own.2.1
  ·exact h.upd.block k hk fun y => hs fun ho => y ⟨ho.1,e,ho.2⟩⟩,⟨h.own.1,h.own.2.2⟩,⟨h.apart.1.2,h.apart.2.2⟩⟩
end Go.Pt
namespace Go.Proofs.YtmjlceimjlabpaaDoor
open Go.RowKit Go.Pt
theorem Wl.rightQ {N : Nat} {ops : Array Oper} {rest : List Oper} {Γ : Env} {w0 : World} {H : List Blk} {Q : Exit → Act → World → Prop} {d : Nat} {ty : TypeId} {pos : String} {af : Array Edge} {xs : Array Operand} {ts : Array TypeId} {m : Nat} {k : Int} (r : Nat) (hd : Nat.blt d N = true)
  (hx : Evs Γ xs.toList [.int .u64 (m : Int),.int .u64 k]) (hk : k = (r : Int)) (hr : (decide (r ≤ 31) && decide (0 < r)) = true) (hm : m < 4294967296)
  (h : Wl rest Tryd.prog .seq ops N ((d,.int .u64 ((Sha.rr r m : Nat) : Int)) :: Γ) (Hp w0 H) Q) :
  Wl (⟨some d,.call { callee := .value (.func 60),args := xs,argTypes := ts },ty,pos,af,none⟩ :: rest) Tryd.prog .seq ops N Γ (Hp w0 H) Q := by
 rw [Bool.and_eq_true] at hr
 subst hk
 exact Wl.callQ hd hx (fun w hw => (refRight m r w hm (of_decide_eq_true hr.1) (of_decide_eq_true hr.2)).mono fun e w' he => ⟨he.1,hw.keep he.2⟩) h
theorem rowOpen {w : World} {base n : Nat} {v : Value} {f : Nat → Nat} {xs : List Value} (h : w.ownsRow base 92 1 v n xs) (hn : 0 < n) (hx : xs = cellsN .u64 n f) :
  ∃ g cap rest,v = .slice (some ⟨g,0,none⟩) n cap ∧ base ≤ g ∧ w.heap[g]? = some (.cells (cellsN .u64 n f ++ rest).toArray 92 (0,0)) := by
 rcases h.2 with ⟨_,h0⟩ | ⟨g,cap,cur,rfl,hb,hg,_,_,_,ht⟩
 ·omega
 ·refine ⟨g,cap,cur.toList.drop n,rfl,hb,?_⟩
  rw [← hx,← ht,Nat.mul_one,List.take_append_drop]
  simpa using hg
theorem rowArr {w : World} {g n : Nat} {f : Nat → Nat} {rest : List Value} {t : TypeId} {fr : Nat × Nat} {k : IntKind} (h : w.heap[g]? = some (.cells (cellsN k n f ++ rest).toArray t fr)) : ArrAt w g 0 k n f := fun j hj => by
 rw [cellAt h,Nat.zero_add]
 simp only [List.getElem?_toArray]
 rw [List.getElem?_append_left (by rw [cellsN_len];exact hj),cellsN_get hj]
theorem u64s_range (n : Nat) (f : Nat → Nat) : u64s ((List.range n).map f) = cellsN .u64 n f := by
 unfold u64s cellsN
 rw [List.map_map];rfl
theorem KL_range : Sha.KL = (List.range 64).map Sha.K := by decide +kernel
theorem rowGet {n j : Nat} {f : Nat → Nat} {rest : List Value} (hj : j < n) : (cellsN .u64 n f ++ rest)[j]? = some (.int .u64 (f j)) := by
 rw [List.getElem?_append_left (by rw [cellsN_len];exact hj),cellsN_get hj]
theorem Bo.arr {w : World} {base : Nat} {v : Value} {l : List UInt8} (h : Bo w base v l) (hne : l ≠ []) : ∃ g cap,v = .slice (some ⟨g,0,none⟩) l.length cap ∧ base ≤ g ∧ g < w.heap.size ∧ ArrAt w g 0 .u8 l.length (Sha.byteAt l) := by
 have hbs := h.bs
 rcases h.2 with ⟨_,h0⟩ | ⟨g,cap,cur,rfl,hb,hg,_,_,_,ht⟩
 ·exact absurd (List.length_eq_zero_iff.1 h0) hne
 ·refine ⟨g,cap,rfl,hb,(Array.getElem?_eq_some_iff.1 hg).1,fun j hj => ?_⟩
  obtain ⟨b,off,e,hc⟩ := hbs.cells hne
  cases e
  have := hc j hj
  rw [Sha.byteAt_get hj]
  exact this
def SB (wB : World) (gh c : Nat) : Nat → Prop := fun k => wB.heap.size ≤ k ∨ k = gh ∨ k = c
theorem SB.of {wB : World} {gh c k : Nat} {b1 b2 : Blk} (h1 : b1.b = gh) (h2 : b2.b = c) (h : ¬ Off [b1,b2] k) : SB wB gh c k := .inr (by
 apply Classical.byContradiction
 intro hn
 exact h ⟨fun e => hn (.inl (e.symm.trans h1)),fun e => hn (.inr (e.symm.trans h2)),trivial⟩)
theorem Wl.lenBs {N : Nat} {ops : Array Oper} {rest : List Oper} {Γ : Env} {C : World → Prop} {Q : Exit → Act → World → Prop} {md : Md} {d : Nat} {ty t : TypeId} {pos : String} {af : Array Edge} {x : Operand} {v : Value} {a : Option Addr} {n c e : Nat} [TyD Tryd.prog t (.slice e)] (he : v = .slice a n c) (hd : Nat.blt d N = true) (hx : ev Γ x = some v)
  (h : Wl rest Tryd.prog md ops N ((d,.int .i64 n) :: Γ) C Q) : Wl (⟨some d,.call { callee := .builtin .len,args := #[x],argTypes := #[t] },ty,pos,af,none⟩ :: rest) Tryd.prog md ops N Γ C Q := Wl.len hd (he ▸ hx) h
instance tz64u : TyZ Tryd.prog 116 (.agg (cellsN .u64 64 fun _ => 0).toArray) := ⟨by kernel_rfl⟩
theorem z64u : (Value.agg (cellsN .u64 64 fun _ => 0).toArray).cells.toList = cellsN .u64 64 fun _ => 0 := rfl
theorem fillN_lt {f g : Nat → Nat} {i j : Nat} (h : j < i) : fillN f g i j = g j := by unfold fillN;rw [if_pos h]
theorem updN_at (f : Nat → Nat) (i x : Nat) : updN f i x i = x := by unfold updN;rw [if_pos rfl]
theorem updN_upd (f : Nat → Nat) (i x y : Nat) : updN (updN f i x) i y = updN f i y := by funext j;unfold updN;split <;> rfl
theorem updN_self {f : Nat → Nat} {i x : Nat} (h : f i = x) : updN f i x = f := by funext j;unfold updN;split <;> simp_all
theorem v8u (a b c d e f g h : Nat) : [Value.int .u64 (a : Int),.int .u64 (b : Int),.int .u64 (c : Int),.int .u64 (d : Int),.int .u64 (e : Int),.int .u64 (f : Int),.int .u64 (g : Int),.int .u64 (h : Int)] = cellsN .u64 8 (Sha.v8 a b c d e f g h) := by unfold cellsN;rfl
theorem hpBack {wq w5 w' : World} {gh c2 : Nat} {x1 x2 x3 x4 : Blk} (U : Upd (SB wq gh c2) wq w5) (h : Hp w5 [x1,x2,x3,x4] w') (h1 : wq.heap.size ≤ x1.b) (h2 : wq.heap.size ≤ x2.b) (h3 : x3.b = gh) (h4 : x4.b = c2) : Hp wq [x3,x4] w' :=
 ⟨U.comp h.upd fun k hk hs ho => hs.elim (fun hs => by
  rcases hs with hs | hs | hs
  ·omega
  ·exact ho.1 (h3.trans hs.symm)
  ·exact ho.2.1 (h4.trans hs.symm)) fun hs => hs ⟨fun e => by omega,fun e => by omega,ho⟩,h.own.2.2,h.apart.2.2⟩
set_option maxHeartbeats 32000000 in
theorem refSum (v : Value) (l : List UInt8) (w : World) (hv : Bs w v l) (hn : l.length < 100000000) (hvl : l ≠ [] → ∀ k,v.ownBlock = some k → k < w.heap.size) :
  Calls Tryd.prog 22 #[v] w fun e w' => e = .returned (.agg (cellsN .u8 32 (Sha.of l)).toArray) ∧ Hp w [] w' := by
 refine enter (args := [_]) (Γ := [(0,_)]) Tryd.func22 Tryd.ntmps22 rfl (of_decide_eq_true rfl) (.cons rfl .nil) ?_
 repeat' first | (apply Wl.allocN;exact rfl;exact z32b;intro c hc ho) | apply Wl.nil | apply St.seq | apply St.region | apply Gt.next
 apply Wl.callC
 ·exact rfl
 ·repeat constructor
 intro wq hq
 refine (refRoots 64 3 312 wq (.inr rfl) (by decide) (by decide) (by decide) Sha.cnt64 Sha.len64).mono ?_
 rintro e wr ⟨v3,rfl,h3,u3⟩
 rw [Sha.rl64,KL_range,u64s_range] at h3
 obtain ⟨ga,capa,resta,rfl,hga,hA⟩ := rowOpen h3 (by decide) rfl
 have hAa := rowArr hA
 have hgal : ga < wr.heap.size := (Array.getElem?_eq_some_iff.1 hA).1
 have lc := hq.own.lt (.head _)
 simp only at lc
 have hsz1 := hq.upd.size
 have hu1 : Upd (fun k => w.heap.size ≤ k) w wr := hpOn (hpNewer hq u3) (Upd.refl _ _) (by simp;omega)
 refine ⟨_,_,rfl,hpRb (hpNewer hq u3),?_⟩
 have hszr := u3.size
 clear hq u3 h3 hA
 repeat' first | refine Wl.assign rfl rfl ?_ | apply Wl.nil | apply St.seq | apply St.region | apply Gt.next
 apply Wl.callC
 ·exact rfl
 ·repeat constructor
 intro wq2 hq
 refine (refRoots 8 2 20 wq2 (.inl rfl) (by decide) (by decide) (by decide) Sha.cnt8 Sha.len8).mono ?_
 rintro e wB ⟨v4,rfl,h4,u4⟩
 rw [Sha.rl8,u64s_range] at h4
 obtain ⟨gh,caph,resth,rfl,hgh,hH⟩ := rowOpen h4 (by decide) rfl
 have hszr2 := hq.upd.size
 have hszr4 := u4.size
 have hKB : ArrAt wB ga 0 .u64 64 Sha.K := (hAa.hp hq (Off.of (by simp;omega))).upd u4 (by omega)
 have hghl : gh < wB.heap.size := (Array.getElem?_eq_some_iff.1 hH).1
 have hu2 : Upd (fun k => w.heap.size ≤ k) w wB := hpOn (hpNewer hq u4) hu1 (by simp;omega)
 refine ⟨_,_,rfl,Hp.open (hpRb (hpNewer hq u4)) hH ⟨by simp only;omega,trivial⟩,?_⟩
 clear hq u4 h4 hH hAa
 have hvB : Bs wB v l := hv.upd hu2 fun k hk hlt _ hs => by omega
 have hvo : ∀ k,v.ownBlock = some k → k < wB.heap.size → byteCells l ≠ [] → Off [⟨gh,cellsN .u64 8 Sha.H0 ++ resth,92⟩,⟨c,cellsN .u8 32 fun _ => 0,48⟩] k := fun k hk _ hne => by
  have := hvl (byteCells_ne.1 hne) k hk
  exact ⟨by simp only;omega,by simp only;omega,trivial⟩
 repeat' first | refine Wl.move rfl rfl ?_ | refine Wl.assign rfl rfl ?_ | apply Wl.nil | apply St.seq | apply St.region | apply Gt.next
 apply Wl.appendV (news := byteCells l) (m := l.length) (base := wB.heap.size) (n := 0) (xs := [])
 ·exact rfl
 ·exact rfl
 ·exact rfl
 ·exact hvB
 ·exact hvo
 ·exact World.ownsRow_nil _ _ _ _
 ·intro k hk;simp [Value.ownBlock] at hk
 ·exact byteCells_all l
 ·exact rfl
 ·decide
 ·unfold maxLen;omega
 ·omega
 ·exact Nat.le_refl _
 intro vp w1 ho1 u1 _ hoff1
 have hb1 : Bo w1 wB.heap.size vp l := by
  have := Bo.of (l := []) (m := l) (cs := byteCells l) ho1 (by simp) rfl
  simpa using this
 have hU1 : Upd (SB wB gh c) wB w1 := u1.mono fun k _ hs => hs.elim (fun e => by simp [Value.ownBlock] at e) (SB.of rfl rfl)
 clear ho1 u1
 generalize c = c2 at *
 have hcw : w.heap.size ≤ c2 := hc
 repeat' first | (apply Wl.lit;exact rfl;(repeat (first | exact Parts.nil | apply Parts.cons rfl));exact rfl;exact rfl;(repeat (first | apply CatP.nil | (apply CatP.one;exact rfl;exact rfl) | (apply CatP.agg;exact rfl) | apply LApp.nil | apply LApp.cons));intro c hc ho)
 apply Wl.appendT
 ·exact rfl
 ·exact rfl
 ·exact rfl
 ·exact hc
 ·exact rfl
 ·exact hb1
 ·intro k hk
  have := hb1.base hk
  exact ⟨by simp only;omega,by simp only;omega,trivial⟩
 ·exact rfl
 ·exact rfl
 ·decide
 ·unfold maxLen;omega
 ·omega
 ·exact hU1.size
 intro vq wC ho1 u1 _ hoff2
 have hbC : Bo wC wB.heap.size vq (l ++ 0x80 :: Sha.zeros 0) := Bo.of (l := l) (m := [0x80]) ho1 rfl rfl
 have hUC : Upd (SB wB gh c2) wB wC := hU1.comp u1 fun k hk hs => hs.elim id fun hs => hs.elim (fun e => .inl (hb1.base e)) (SB.of rfl rfl)
 clear ho1 u1 hb1 hU1 hoff1 hoff2
 repeat' first | refine Wl.assign rfl rfl ?_ | apply Wl.nil | apply St.seq | apply St.block | apply Gt.next
 generalize hk : (119 - l.length % 64) % 64 = kz
 refine St.loop (σ := Nat × World × Value) (fun τ => τ.1 ≤ kz ∧ Upd (SB wB gh c2) wB τ.2.1 ∧ Bo τ.2.1 wB.heap.size τ.2.2 (l ++ 0x80 :: Sha.zeros τ.1))
  (fun τ => [(0,v),(2,mp c2),(3,.slice (some ⟨ga,0,none⟩) 64 capa),(4,.slice (some ⟨gh,0,none⟩) 8 caph),(5,τ.2.2)])
  (fun τ => Hp τ.2.1 [⟨gh,cellsN .u64 8 Sha.H0 ++ resth,92⟩,⟨c2,cellsN .u8 32 fun _ => 0,48⟩]) (fun τ => kz - τ.1) (0,wC,vq) ⟨by simp,hUC,hbC⟩ (by repeat constructor) (fun _ h => h) ?_
 clear hbC hUC
 rintro ⟨j,wj,vj⟩ ⟨hj,hU,hb⟩
 simp only at hj hU hb ⊢
 obtain ⟨pa,pcap,e1,hpl,hpm⟩ := hb.shape
 have hlen : (l ++ 0x80 :: Sha.zeros j).length = l.length + 1 + j := by simp [Sha.zeros];omega
 have hlm : ((l.length + 1 + j : Nat) : Int) % 64 = (((l.length + 1 + j) % 64 : Nat) : Int) := by omega
 rw [hlen] at e1
 subst e1
 by_cases hlt : j < kz
 ·have hd : decide ((((l.length + 1 + j) % 64 : Nat) : Int) ≠ 56) = true := decide_eq_true (by omega)
  repeat' first | (apply Wl.remN (n := 64);exact rfl;exact rfl;exact rfl;(decide)) | refine Wl.move rfl rfl ?_ | refine Wl.neq rfl rfl rfl ?_ | refine Wl.len rfl rfl ?_ | (apply Wl.lit;exact rfl;(repeat (first | exact Parts.nil | apply Parts.cons rfl));exact rfl;exact rfl;(repeat (first | apply CatP.nil | (apply CatP.one;exact rfl;exact rfl) | (apply CatP.agg;exact rfl) | apply LApp.nil | apply LApp.cons));intro c hc ho) | apply Wl.nil | apply St.seq | apply St.block | apply St.region | (apply St.condT;exact rfl;(with_reducible first | rfl | assumption | decide)) | apply St.skip | apply Gt.next
  apply Wl.appendT
  ·exact rfl
  ·exact rfl
  ·exact rfl
  ·exact hc
  ·exact rfl
  ·exact hb
  ·intro k hk
   have := hb.base hk
   exact ⟨by simp only;omega,by simp only;omega,trivial⟩
  ·exact rfl
  ·exact rfl
  ·decide
  ·unfold maxLen;omega
  ·omega
  ·exact hU.size
  intro vk wk ho1 u1 _ _
  have hbk : Bo wk wB.heap.size vk (l ++ 0x80 :: Sha.zeros (j + 1)) := by
   have := Bo.of (l := l ++ 0x80 :: Sha.zeros j) (m := [0]) ho1 (by rw [hlen];rfl) rfl
   rw [List.append_assoc,List.cons_append,show Sha.zeros j ++ [0] = Sha.zeros (j + 1) by unfold Sha.zeros;rw [List.replicate_succ']] at this
   exact this
  have hUk : Upd (SB wB gh c2) wB wk := hU.comp u1 fun k hk hs => hs.elim id fun hs => hs.elim (fun e => .inl (hb.base e)) (SB.of rfl rfl)
  clear ho1 u1
  repeat' first | refine Wl.assign rfl rfl ?_ | apply Wl.nil | apply Gt.inNormal
  apply Gt.round (j + 1,wk,vk)
  rotate_left
  ·simp only;omega
  ·repeat constructor
  ·exact fun _ h => h
  ·exact ⟨by simp only;omega,hUk,hbk⟩
 have hjk : j = kz := by omega
 subst hjk
 have hd : decide ((((l.length + 1 + j) % 64 : Nat) : Int) ≠ 56) = false := decide_eq_false (by omega)
 repeat' first | (apply Wl.remN (n := 64);exact rfl;exact rfl;exact rfl;(decide)) | refine Wl.move rfl rfl ?_ | refine Wl.assign rfl rfl ?_ | refine Wl.neq rfl rfl rfl ?_ | refine Wl.len rfl rfl ?_ | apply Wl.nil | apply St.seq | apply St.block | apply St.region | (apply St.condF;exact rfl;(with_reducible first | rfl | assumption | decide)) | apply St.exit | apply Gt.next | apply Gt.thenExit | apply Gt.inExit
 obtain ⟨av,capv,hve,hvl2,_⟩ := hvB.shape
 have hl8 : (Sha.be8 (l.length * 8)).length = 8 := by simp [Sha.be8]
 refine St.loop (σ := Nat × World × Value) (fun τ => τ.1 ≤ 8 ∧ Upd (SB wB gh c2) wB τ.2.1 ∧ Bo τ.2.1 wB.heap.size τ.2.2 (l ++ 0x80 :: (Sha.zeros j ++ (Sha.be8 (l.length * 8)).take τ.1)))
  (fun τ => [(0,v),(2,mp c2),(3,.slice (some ⟨ga,0,none⟩) 64 capa),(4,.slice (some ⟨gh,0,none⟩) 8 caph),(5,τ.2.2),(6,.int .i64 (7 - (τ.1 : Int)))])
  (fun τ => Hp τ.2.1 [⟨gh,cellsN .u64 8 Sha.H0 ++ resth,92⟩,⟨c2,cellsN .u8 32 fun _ => 0,48⟩]) (fun τ => 8 - τ.1) (0,wj,.slice pa (l.length + 1 + j) pcap) ⟨by simp,hU,by simpa using hb⟩ (by repeat constructor) (fun _ h => h) ?_
 clear hb hU hpl hpm hlt hd hlm
 rintro ⟨q,wq,vq⟩ ⟨hq,hU,hb⟩
 simp only at hq hU hb ⊢
 have hlen2 : (l ++ 0x80 :: (Sha.zeros j ++ (Sha.be8 (l.length * 8)).take q)).length = l.length + 1 + j + q := by
  simp [Sha.zeros,hl8];omega
 obtain ⟨pa,pcap,e1,hpl,hpm⟩ := hb.shape
 rw [hlen2] at e1
 subst e1
 by_cases hlt : q < 8
 ·have e7 : (7 : Int) - (q : Int) = ((7 - q : Nat) : Int) := by omega
  rw [e7]
  have hd : decide (((7 - q : Nat) : Int) ≥ 0) = true := decide_eq_true (by omega)
  have hd' : decide (0 ≤ ((7 - q : Nat) : Int)) = true := decide_eq_true (by omega)
  repeat' first | (apply Wl.lenBs hve;exact rfl;exact rfl) | (apply Wl.mulNI (n := 8);exact rfl;exact rfl;exact rfl;omega) | (apply Wl.mulNI (m := 8);exact rfl;exact rfl;exact rfl;omega) | (apply Wl.shrV;exact rfl;exact rfl;exact rfl;(show _ ≤ 64;omega)) | refine Wl.convN8 rfl rfl ?_ | refine Wl.move rfl rfl ?_ | refine Wl.geq rfl rfl rfl ?_ | (apply Wl.lit;exact rfl;(repeat (first | exact Parts.nil | apply Parts.cons rfl));exact rfl;exact rfl;(repeat (first | apply CatP.nil | (apply CatP.one;exact rfl;exact rfl) | (apply CatP.agg;exact rfl) | apply LApp.nil | apply LApp.cons));intro c hc ho) | apply Wl.nil | apply St.seq | apply St.block | apply St.region | (apply St.condT;exact rfl;(with_reducible first | rfl | assumption | decide)) | apply St.skip | apply Gt.next
  apply Wl.appendT
  ·exact rfl
  ·exact rfl
  ·exact rfl
  ·exact hc
  ·exact rfl
  ·exact hb
  ·intro k hk
   have := hb.base hk
   exact ⟨by simp only;omega,by simp only;omega,trivial⟩
  ·exact rfl
  ·exact rfl
  ·decide
  ·unfold maxLen;omega
  ·omega
  ·exact hU.size
  intro vk wk ho1 u1 _ _
  have he8 : 56 - 8 * q = 8 * (7 - q) := by omega
  have hge : (Sha.be8 (l.length * 8)).take (q + 1) = (Sha.be8 (l.length * 8)).take q ++ [UInt8.ofNat (l.length * 8 / 2 ^ (8 * (7 - q)))] := by
   rw [List.take_succ_eq_append_getElem (by omega)]
   simp [Sha.be8,he8]
  have hbk : Bo wk wB.heap.size vk (l ++ 0x80 :: (Sha.zeros j ++ (Sha.be8 (l.length * 8)).take (q + 1))) := by
   have := Bo.of (l := l ++ 0x80 :: (Sha.zeros j ++ (Sha.be8 (l.length * 8)).take q)) (m := [UInt8.ofNat (l.length * 8 / 2 ^ (8 * (7 - q)))]) ho1 (by rw [hlen2];rfl) (by simp [byteCells])
   rw [hge]
   simpa using this
  have hUk : Upd (SB wB gh c2) wB wk := hU.comp u1 fun k hk hs => hs.elim id fun hs => hs.elim (fun e => .inl (hb.base e)) (SB.of rfl rfl)
  clear ho1 u1
  repeat' first | refine Wl.move rfl rfl ?_ | refine Wl.assign rfl rfl ?_ | (refine Wl.subI rfl rfl rfl ?_ ?_;constructor <;> omega) | apply Wl.nil | apply St.region | apply Gt.next | apply Gt.inNormal
  apply Gt.round (q + 1,wk,vk)
  rotate_left
  ·simp only;omega
  ·have e8 : (7 : Int) - ((q + 1 : Nat) : Int) = ((7 - q : Nat) : Int) - 1 := by omega
   rw [e8]
   (focus repeat constructor)
  ·exact fun _ h => h
  ·exact ⟨by simp only;omega,hUk,hbk⟩
 have hq8 : q = 8 := by omega
 subst hq8
 have hd : decide ((7 : Int) - ((8 : Nat) : Int) ≥ 0) = false := by decide
 have hd' : decide (0 ≤ (7 : Int) - ((8 : Nat) : Int)) = false := by decide
 rw [show l ++ 0x80 :: (Sha.zeros j ++ (Sha.be8 (l.length * 8)).take 8) = Sha.padded l by
  unfold Sha.padded Sha.pad
  rw [hk,List.take_of_length_le (by omega)]] at hb hlen2
 have hlen3 := Sha.padded_len l
 rw [hk] at hlen3
 have hof := Sha.of_eq l
 generalize hpd : Sha.padded l = pd at *
 repeat' first | refine Wl.move rfl rfl ?_ | refine Wl.assign rfl rfl ?_ | refine Wl.geq rfl rfl rfl ?_ | apply Wl.nil | apply St.seq | apply St.block | apply St.region | (apply St.condF;exact rfl;(with_reducible first | rfl | assumption | decide)) | apply St.exit | apply Gt.next | apply Gt.thenExit | apply Gt.inExit
 obtain ⟨gp,capp,ep,hgp,hgpl,hP⟩ := hb.arr (fun e => by subst e;simp at hlen2)
 rw [← hlen2] at ep
 cases ep
 rw [← hlen2]
 have hpl8 : pd.length = 64 * (pd.length / 64) := by omega
 generalize hNb : pd.length / 64 = NB at *
 have hKq : ArrAt wq ga 0 .u64 64 Sha.K := hKB.upd hU (fun h => by rcases h with h | h | h <;> omega)
 clear hb hpl hpm hpd hlt hd hd'
 refine St.loop (σ := Nat × World) (fun τ => τ.1 ≤ NB ∧ Upd (SB wq gh c2) wq τ.2) (fun τ => [(2,mp c2),(3,.slice (some ⟨ga,0,none⟩) 64 capa),(4,.slice (some ⟨gh,0,none⟩) 8 caph),(5,.slice (some ⟨gp,0,none⟩) pd.length pcap),(7,.int .i64 ((64 * τ.1 : Nat) : Int))])
  (fun τ => Hp τ.2 [⟨gh,cellsN .u64 8 (Sha.hN Sha.H0 pd τ.1) ++ resth,92⟩,⟨c2,cellsN .u8 32 fun _ => 0,48⟩]) (fun τ => NB - τ.1) (0,wq) ⟨by simp,Upd.refl _ _⟩ (by repeat constructor) (fun _ h => h) ?_
 rintro ⟨k,wk⟩ ⟨hkN,hUk⟩
 simp only at hkN hUk ⊢
 have hPk : ArrAt wk gp 0 .u8 pd.length (Sha.byteAt pd) := hP.upd hUk (fun h => by rcases h with h | h | h <;> omega)
 have hKk : ArrAt wk ga 0 .u64 64 Sha.K := hKq.upd hUk (fun h => by rcases h with h | h | h <;> omega)
 have hszk := hUk.size
 have hHl : ∀ j,j < 8 → Sha.hN Sha.H0 pd k j < 4294967296 := fun j hj => by
  cases k with
  | zero => exact Sha.H0_lt j hj
  | succ k => exact Sha.comp_lt _ _ _
 by_cases hlt : k < NB
 ·have hd : decide (((64 * k : Nat) : Int) < ((pd.length : Nat) : Int)) = true := decide_eq_true (by omega)
  have hstep : Sha.hN Sha.H0 pd (k + 1) = Sha.comp (Sha.hN Sha.H0 pd k) fun j => Sha.byteAt pd (64 * k + j) := rfl
  generalize Sha.hN Sha.H0 pd k = h at *
  generalize hpB : (fun j => Sha.byteAt pd (64 * k + j)) = pB at *
  have hpl : ∀ j,pB j < 256 := fun j => by rw [← hpB];exact Sha.byteAt_lt _ _
  have hcomp : Sha.comp h pB = fun j => Sha.P (h j) (Sha.rnds Sha.K (Sha.sch (Sha.ldw pB 64) 48) h 64 j) := rfl
  have hW1 : ∀ i,i < 16 → Sha.sch (Sha.ldw pB 64) 48 i = Sha.word pB i := fun i hi => by rw [Sha.sch_lo _ hi,Sha.ldw64 hpl,if_pos hi]
  have hW2 : ∀ i,16 ≤ i → i < 64 → Sha.sch (Sha.ldw pB 64) 48 i = Sha.sch1 (Sha.sch (Sha.ldw pB 64) 48) i := fun i h1 h2 => Sha.sch_at _ h1 h2
  have hW3 : ∀ i,i < 64 → Sha.sch (Sha.ldw pB 64) 48 i < 4294967296 := fun i hi => Sha.sch_lt (fun j => by
   rw [Sha.ldw64 hpl]
   split
   ·exact Sha.word_lt hpl _
   ·decide) hi
  generalize Sha.sch (Sha.ldw pB 64) 48 = W at *
  repeat' first | (apply Wl.allocN;exact rfl;exact z64u;intro c hc ho) | refine Wl.move rfl rfl ?_ | refine Wl.assign rfl rfl ?_ | refine Wl.lss rfl rfl rfl ?_ | refine Wl.len rfl rfl ?_ | apply Wl.nil | apply St.seq | apply St.block | apply St.region | (apply St.condT;exact rfl;(with_reducible first | rfl | assumption | decide)) | apply St.skip | apply Gt.next
  refine St.loop (σ := Nat) (fun i => i ≤ 64) (fun i => [(2,mp c2),(3,.slice (some ⟨ga,0,none⟩) 64 capa),(4,.slice (some ⟨gh,0,none⟩) 8 caph),(5,.slice (some ⟨gp,0,none⟩) pd.length pcap),(7,.int .i64 ((64 * k : Nat) : Int)),(8,mp c),(9,.int .i64 i)])
   (fun i => Hp wk [⟨c,cellsN .u64 64 (fillN (fun _ => 0) W i),116⟩,⟨gh,cellsN .u64 8 h ++ resth,92⟩,⟨c2,cellsN .u8 32 fun _ => 0,48⟩]) (fun i => 64 - i) 0 (by omega) (by repeat constructor) (fun _ h => by rw [fillN_zero];exact h) ?_
  intro i hi
  have hset : updN (fillN (fun _ => 0) W i) i (W i) = fillN (fun _ => 0) W (i + 1) := fillN_step _ _ _
  by_cases hli : i < 64
  ·have hdi : decide ((i : Int) < 64) = true := decide_eq_true (by omega)
   by_cases h16 : i < 16
   ·have hd16 : decide ((i : Int) < 16) = true := decide_eq_true (by omega)
    repeat' first | refine Wl.move rfl rfl ?_ | refine Wl.assign rfl rfl ?_ | refine Wl.lss rfl rfl rfl ?_ | apply Wl.nil | apply St.seq | apply St.block | apply St.region | (apply St.condT;exact rfl;(with_reducible first | rfl | assumption | decide)) | apply St.skip | apply Gt.next
    refine St.loop (σ := Nat) (fun q => q ≤ 4) (fun q => [(2,mp c2),(3,.slice (some ⟨ga,0,none⟩) 64 capa),(4,.slice (some ⟨gh,0,none⟩) 8 caph),(5,.slice (some ⟨gp,0,none⟩) pd.length pcap),(7,.int .i64 ((64 * k : Nat) : Int)),(8,mp c),(9,.int .i64 i),(10,.int .i64 q)])
     (fun q => Hp wk [⟨c,cellsN .u64 64 (updN (fillN (fun _ => 0) W i) i (Sha.wpart pB i q)),116⟩,⟨gh,cellsN .u64 8 h ++ resth,92⟩,⟨c2,cellsN .u8 32 fun _ => 0,48⟩]) (fun q => 4 - q) 0 (by omega) (by repeat constructor)
     (fun _ h => by rw [show updN (fillN (fun _ => 0) W i) i (Sha.wpart pB i 0) = fillN (fun _ => 0) W i from updN_self (by unfold fillN;rw [if_neg (by omega)];rfl)];exact h) ?_
    intro q hq4
    by_cases hlq : q < 4
    ·have hdq : decide ((q : Int) < 4) = true := decide_eq_true (by omega)
     have hwl : Sha.wpart pB i q < 16777216 := Nat.lt_of_lt_of_le (Sha.wpart_lt hpl i q) (Nat.le_trans (Nat.pow_le_pow_right (by decide) (show q ≤ 3 by omega)) (by decide))
     have hG := updN_at (fillN (fun _ => 0) W i) i (Sha.wpart pB i q)
     have hnx : updN (fillN (fun _ => 0) W i) i (Sha.wpart pB i (q + 1)) = updN (updN (fillN (fun _ => 0) W i) i (Sha.wpart pB i q)) i (Sha.wpart pB i q * 256 + Sha.byteAt pd (64 * k + 4 * i + q)) := by
      rw [updN_upd]
      show updN _ i (Sha.wpart pB i q * 256 + pB (4 * i + q)) = _
      rw [show pB (4 * i + q) = Sha.byteAt pd (64 * k + 4 * i + q) by
       rw [← hpB]
       show Sha.byteAt pd (64 * k + (4 * i + q)) = _
       rw [show 64 * k + (4 * i + q) = 64 * k + 4 * i + q by omega]]
     generalize updN (fillN (fun _ => 0) W i) i (Sha.wpart pB i q) = G at *
     have hGl : G i < 16777216 := by rw [hG];exact hwl
     have hbl := Sha.byteAt_lt pd (64 * k + 4 * i + q)
     have hbl2 : Sha.byteAt pd (64 * k + 4 * i + q) < 18446744073709551616 := by omega
     repeat' first | (apply St.bagX 17 [];exact mixed;(decide +kernel);kernel_rfl) | apply OpsX.nil | (apply OpsX.v;(intro X hX;change Wl [_] _ _ _ _ _ _ _;apply Wl.catX;(focus repeat constructor))) | (apply Gt.endX;exact rfl) | (apply EndX.on;exact rfl) | (apply EndX.off;exact rfl) | (apply EndX.nil';apply Wl.catE;(focus repeat constructor)) | (apply Wl.mulNI (m := 4);exact rfl;exact rfl;exact rfl;omega) | (apply Wl.addNI (m := 64 * k) (n := 4 * i);exact rfl;exact rfl;exact rfl;omega) | (apply Wl.addNI (m := 64 * k + 4 * i) (n := q);exact rfl;exact rfl;exact rfl;omega) | (apply Wl.indexS0;exact rfl;exact rfl;exact rfl;(first | with_reducible assumption | omega)) | (apply Wl.indexA;exact rfl;exact rfl;exact rfl;(first | with_reducible assumption | omega)) | (apply Wl.loadME;exact rfl;exact rfl;exact hPk;(first | (repeat (first | exact trivial | exact hX.off (by omega) | refine ⟨by first | assumption | omega | (simp only;omega),?_⟩)) | (apply Off.of;simp;omega));omega) | (apply Wl.mulNU (n := 256);exact rfl;exact rfl;exact rfl;omega) | (apply Wl.loadN;exact rfl;exact rfl;(focus repeat constructor);omega) | (apply Wl.storeN;exact rfl;exact rfl;(focus repeat constructor);omega) | (apply Wl.addNU;exact rfl;exact rfl;exact rfl;(first | assumption | omega)) | (apply Wl.convNU;exact rfl;exact rfl;(with_reducible assumption)) | refine Wl.move rfl rfl ?_ | refine Wl.assign rfl rfl ?_ | refine Wl.lss rfl rfl rfl ?_ | (refine Wl.addI rfl rfl rfl ?_ ?_;constructor <;> omega) | apply Wl.nil | apply St.seq | apply St.block | apply St.region | (apply St.condT;exact rfl;(with_reducible first | rfl | assumption | decide)) | apply St.skip | apply Gt.next | apply Gt.inNormal
     rw [hG]
     apply Gt.round (q + 1)
     rotate_left
     ·omega
     ·repeat constructor
     ·exact fun _ h => by rw [hnx];exact h
     ·omega
    have hq4' : q = 4 := by omega
    subst hq4'
    rw [Sha.wpart4,← hW1 i h16,hset]
    repeat' first | refine Wl.move rfl rfl ?_ | refine Wl.assign rfl rfl ?_ | refine Wl.lss rfl rfl rfl ?_ | (refine Wl.addI rfl rfl rfl ?_ ?_;constructor <;> omega) | apply Wl.nil | apply St.seq | apply St.region | (apply St.condF;exact rfl;(with_reducible first | rfl | assumption | decide)) | apply St.exit | apply Gt.next | apply Gt.thenExit | apply Gt.inExit
    apply Gt.round (i + 1)
    rotate_left
    ·omega
    ·repeat constructor
    ·exact fun _ h => h
    ·omega
   ·have hd16 : decide ((i : Int) < 16) = false := decide_eq_false (by omega)
    have g16 := fillN_lt (f := fun _ => 0) (g := W) (show i - 16 < i by omega)
    have g15 := fillN_lt (f := fun _ => 0) (g := W) (show i - 15 < i by omega)
    have g7 := fillN_lt (f := fun _ => 0) (g := W) (show i - 7 < i by omega)
    have g2 := fillN_lt (f := fun _ => 0) (g := W) (show i - 2 < i by omega)
    have b15 := hW3 (i - 15) (by omega)
    have b2 := hW3 (i - 2) (by omega)
    have hWi := hW2 i (by omega) hli
    unfold Sha.sch1 Sha.sg0 Sha.sg1 at hWi
    rw [← g16,← g15,← g7,← g2,← Sha.add4] at hWi
    rw [← g15] at b15
    rw [← g2] at b2
    generalize fillN (fun _ => 0) W i = G at *
    repeat' first | (apply St.bagX 10 [8,9];exact mixed;(decide +kernel);kernel_rfl) | (apply St.bagX 30 [];exact mixed;(decide +kernel);kernel_rfl) | apply OpsX.nil | (apply OpsX.v;(intro X hX;change Wl [_] _ _ _ _ _ _ _;apply Wl.catX;(focus repeat constructor))) | (apply Gt.endX;exact rfl) | (apply EndX.on;exact rfl) | (apply EndX.off;exact rfl) | (apply EndX.nil';apply Wl.catE;(focus repeat constructor)) | (apply Wl.subC 15;exact rfl;exact rfl;exact rfl;exact rfl;omega;omega) | (apply Wl.subC 2;exact rfl;exact rfl;exact rfl;exact rfl;omega;omega) | (apply Wl.subC 16;exact rfl;exact rfl;exact rfl;exact rfl;omega;omega) | (apply Wl.subC 7;exact rfl;exact rfl;exact rfl;exact rfl;omega;omega) | (apply Wl.indexA;exact rfl;exact rfl;exact rfl;(first | with_reducible assumption | omega)) | (apply Wl.rightQ 7;exact rfl;(focus repeat constructor);exact rfl;(decide);(first | with_reducible assumption | with_reducible exact Sha.rr_lt _ _ | with_reducible exact Sha.X_lt _ _ | with_reducible exact Sha.A_lt _ _ | with_reducible exact Sha.P_lt _ _ | with_reducible exact Sha.div_lt _ (by with_reducible assumption) | omega)) | (apply Wl.rightQ 17;exact rfl;(focus repeat constructor);exact rfl;(decide);(first | with_reducible assumption | with_reducible exact Sha.rr_lt _ _ | with_reducible exact Sha.X_lt _ _ | with_reducible exact Sha.A_lt _ _ | with_reducible exact Sha.P_lt _ _ | with_reducible exact Sha.div_lt _ (by with_reducible assumption) | omega)) | (apply Wl.rightQ 18;exact rfl;(focus repeat constructor);exact rfl;(decide);(first | with_reducible assumption | with_reducible exact Sha.rr_lt _ _ | with_reducible exact Sha.X_lt _ _ | with_reducible exact Sha.A_lt _ _ | with_reducible exact Sha.P_lt _ _ | with_reducible exact Sha.div_lt _ (by with_reducible assumption) | omega)) | (apply Wl.rightQ 19;exact rfl;(focus repeat constructor);exact rfl;(decide);(first | with_reducible assumption | with_reducible exact Sha.rr_lt _ _ | with_reducible exact Sha.X_lt _ _ | with_reducible exact Sha.A_lt _ _ | with_reducible exact Sha.P_lt _ _ | with_reducible exact Sha.div_lt _ (by with_reducible assumption) | omega)) | (apply Wl.xorM;exact rfl;exact rfl;exact rfl;(first | with_reducible assumption | with_reducible exact Sha.rr_lt _ _ | with_reducible exact Sha.X_lt _ _ | with_reducible exact Sha.A_lt _ _ | with_reducible exact Sha.P_lt _ _ | with_reducible exact Sha.div_lt _ (by with_reducible assumption) | omega);(first | with_reducible assumption | with_reducible exact Sha.rr_lt _ _ | with_reducible exact Sha.X_lt _ _ | with_reducible exact Sha.A_lt _ _ | with_reducible exact Sha.P_lt _ _ | with_reducible exact Sha.div_lt _ (by with_reducible assumption) | omega)) | (apply Wl.shrP 3;exact rfl;exact rfl;exact rfl;exact rfl;(decide)) | (apply Wl.shrP 10;exact rfl;exact rfl;exact rfl;exact rfl;(decide)) | refine Wl.addW rfl rfl rfl ?_ | (apply Wl.remN (n := 4294967296);exact rfl;exact rfl;exact rfl;(decide)) | (apply Wl.loadN;exact rfl;exact rfl;(focus repeat constructor);omega) | (apply Wl.storeN;exact rfl;exact rfl;(focus repeat constructor);omega) | refine Wl.move rfl rfl ?_ | refine Wl.assign rfl rfl ?_ | refine Wl.lss rfl rfl rfl ?_ | (refine Wl.addI rfl rfl rfl ?_ ?_;constructor <;> omega) | apply Wl.nil | apply St.seq | apply St.block | apply St.region | (apply St.condT;exact rfl;(with_reducible first | rfl | assumption | decide)) | (apply St.condF;exact rfl;(with_reducible first | rfl | assumption | decide)) | apply St.skip | apply Gt.next | apply Gt.inNormal
    rw [← hWi,hset]
    apply Gt.round (i + 1)
    rotate_left
    ·omega
    ·repeat constructor
    ·exact fun _ h => h
    ·omega
  have hi64 : i = 64 := by omega
  subst hi64
  rw [show cellsN .u64 64 (fillN (fun _ => 0) W 64) = cellsN .u64 64 W from cellsN_congr fun j hj => fillN_lt hj]
  repeat' first | refine Wl.move rfl rfl ?_ | refine Wl.lss rfl rfl rfl ?_ | apply Wl.nil | apply St.seq | apply St.region | (apply St.condF;exact rfl;(with_reducible first | rfl | assumption | decide)) | apply St.exit | apply Gt.next | apply Gt.thenExit | apply Gt.inExit
  apply Wl.append (news := cellsN .u64 8 h) (m := 8) (base := wk.heap.size) (n := 0) (xs := []) (z := .int .u64 0)
  ·exact rfl
  ·exact rfl
  ·exact rfl
  ·exact World.ownsRow_nil _ _ _ _
  ·rw [cellsN_len]
  ·intro w' hw' jj u hj
   have := hw'.own.at (.tail _ (.head _))
   simp only at this
   have hj8 : jj < 8 := by have := (List.getElem?_eq_some_iff.1 hj).1;rw [cellsN_len] at this;exact this
   rw [cellsN_get hj8] at hj
   cases hj
   have e := rowArr this jj hj8
   rw [addLit]
   exact e
  ·intro k hk;simp [Value.ownBlock] at hk
  ·exact cellsN_one _ _ _
  ·exact rfl
  ·decide
  ·decide
  ·decide
  ·exact Nat.le_refl _
  intro vs w5 ho5 u5 _ hoff5
  rw [List.nil_append] at ho5
  obtain ⟨gs,caps,rests,rfl,hgs,hSs⟩ := rowOpen ho5 (by decide) rfl
  have hgsl : gs < w5.heap.size := (Array.getElem?_eq_some_iff.1 hSs).1
  have hoffs := (hoff5 gs rfl).1
  have hSk : ∀ {k},SB wq gh c2 k ∨ ¬ Off [⟨c,cellsN .u64 64 W,116⟩,⟨gh,cellsN .u64 8 h ++ resth,92⟩,⟨c2,cellsN .u8 32 fun _ => 0,48⟩] k → SB wq gh c2 k := fun hs => hs.elim id fun hs => by
   apply Classical.byContradiction
   intro hn
   exact hs ⟨fun e => hn (.inl (by have e' : c = _ := e;omega)),fun e => hn (.inr (.inl e.symm)),fun e => hn (.inr (.inr e.symm)),trivial⟩
  have hU5 : Upd (SB wq gh c2) wq w5 := hUk.comp u5 fun k hk hs => hSk (hs.imp id fun hs => hs.elim (fun e => by simp [Value.ownBlock] at e) id)
  have hK5 : ArrAt w5 ga 0 .u64 64 Sha.K := hKq.upd hU5 (fun h => by rcases h with h | h | h <;> omega)
  have hszk5 := u5.size
  clear ho5 u5 hoff5
  generalize c = cw at *
  repeat' first | refine Wl.assign rfl rfl ?_ | apply Wl.nil | apply St.seq | apply St.block | apply St.region | apply Gt.next
  refine St.loop (σ := Nat × Nat × Nat × List Value) (fun τ => τ.1 ≤ 64 ∧ wk.heap.size ≤ τ.2.1 ∧ (w5.heap.size ≤ τ.2.1 ∨ w5.heap[τ.2.1]? = some (.cells (cellsN .u64 8 (Sha.rnds Sha.K W h τ.1) ++ τ.2.2.2).toArray 92 (0,0))))
   (fun τ => [(2,mp c2),(3,.slice (some ⟨ga,0,none⟩) 64 capa),(4,.slice (some ⟨gh,0,none⟩) 8 caph),(5,.slice (some ⟨gp,0,none⟩) pd.length pcap),(7,.int .i64 ((64 * k : Nat) : Int)),(8,mp cw),(13,.slice (some ⟨τ.2.1,0,none⟩) 8 τ.2.2.1),(14,.int .i64 τ.1)])
   (fun τ => Hp w5 [⟨τ.2.1,cellsN .u64 8 (Sha.rnds Sha.K W h τ.1) ++ τ.2.2.2,92⟩,⟨cw,cellsN .u64 64 W,116⟩,⟨gh,cellsN .u64 8 h ++ resth,92⟩,⟨c2,cellsN .u8 32 fun _ => 0,48⟩]) (fun τ => 64 - τ.1) (0,gs,caps,rests) ⟨by simp,hgs,.inr hSs⟩ (by repeat constructor) (fun _ h => Hp.open h hSs hoffs) ?_
  clear hi hset hSs hgs hgsl hoffs
  have hsz5 := hU5.size
  have hga5 : ga < w5.heap.size := by have := hU.size;omega
  have hkb : 64 * k + 64 < 1000000000 := by omega
  have n2 : cw ≠ ga := by omega
  have n3 : gh ≠ ga := by omega
  have n4 : c2 ≠ ga := by omega
  rintro ⟨i,gs,caps,rests⟩ ⟨hi,hgk,hgs⟩
  simp only at hi hgk hgs ⊢
  have n1 : gs ≠ ga := by omega
  clear hv hn hvl hga hgal hsz1 hu1 hszr hgh hszr2 hszr4 hKB hu2 hvB hvo lc hlen hk hj hve hvl2 hl8 hU hq hlen2 hlen3 hP hNb hpl8 hKq hPk hKk hpB hpl hW1 hW2 hSk
  have hfl := Sha.rnds_lt (K := Sha.K) (W := W) hHl i
  have hrn : Sha.rnds Sha.K W h (i + 1) = Sha.rnd (Sha.rnds Sha.K W h i) (Sha.K i) (W i) := rfl
  generalize hf : Sha.rnds Sha.K W h i = f at *
  have f0 := hfl 0 (by decide)
  have f1 := hfl 1 (by decide)
  have f2 := hfl 2 (by decide)
  have f4 := hfl 4 (by decide)
  by_cases hli : i < 64
  ·have hdi : decide ((i : Int) < 64) = true := decide_eq_true (by omega)
   have ht : ((((f 7 + Sha.X (Sha.X (Sha.rr 6 (f 4)) (Sha.rr 11 (f 4))) (Sha.rr 25 (f 4))) % 18446744073709551616 + Sha.X (Sha.A (f 4) (f 5)) (Sha.A (4294967295 - f 4) (f 6))) % 18446744073709551616 + Sha.K i) % 18446744073709551616 + W i) % 18446744073709551616 % 4294967296 = Sha.tt f (Sha.K i) (W i) := by
    rw [Sha.add5,Sha.ch_eq f4];rfl
   have hu : (Sha.X (Sha.X (Sha.rr 2 (f 0)) (Sha.rr 13 (f 0))) (Sha.rr 22 (f 0)) + Sha.X (Sha.X (Sha.A (f 0) (f 1)) (Sha.A (f 0) (f 2))) (Sha.A (f 1) (f 2))) % 18446744073709551616 % 4294967296 = Sha.uu f := by
    rw [Sha.add2,Sha.mj_eq];rfl
   repeat' first | refine Wl.move rfl rfl ?_ | refine Wl.assign rfl rfl ?_ | (apply St.bagX 36 [35];exact mixed;(decide +kernel);kernel_rfl) | apply OpsX.nil | (apply OpsX.v;(intro X hX;change Wl [_] _ _ _ _ _ _ _;apply Wl.catX;(focus repeat constructor))) | (apply Gt.endX;exact rfl) | (apply EndX.on;exact rfl) | (apply EndX.off;exact rfl) | (apply EndX.nil';apply Wl.catE;(focus repeat constructor)) | (apply Wl.subUC 4294967295;exact rfl;exact rfl;exact rfl;exact rfl;omega;(decide)) | (apply Wl.indexSC 0;exact rfl;exact rfl;exact rfl;exact rfl;(decide)) | (apply Wl.indexSC 4;exact rfl;exact rfl;exact rfl;exact rfl;(decide)) | (apply Wl.indexSC 5;exact rfl;exact rfl;exact rfl;exact rfl;(decide)) | (apply Wl.indexSC 6;exact rfl;exact rfl;exact rfl;exact rfl;(decide)) | (apply Wl.indexSC 7;exact rfl;exact rfl;exact rfl;exact rfl;(decide)) | (apply Wl.loadH;exact rfl;exact rfl;(focus repeat constructor);exact rowGet (by first | decide | omega)) | (apply Wl.indexS0;exact rfl;exact rfl;exact rfl;(first | with_reducible assumption | omega)) | (apply Wl.indexA;exact rfl;exact rfl;exact rfl;(first | with_reducible assumption | omega)) | (apply Wl.loadME;exact rfl;exact rfl;exact hK5;(first | (repeat (first | exact trivial | exact hX.off (by omega) | refine ⟨by first | assumption | omega | (simp only;omega),?_⟩)) | (apply Off.of;simp;omega));omega) | (apply Wl.rightQ 6;exact rfl;(focus repeat constructor);exact rfl;(decide);(first | with_reducible assumption | with_reducible exact Sha.rr_lt _ _ | with_reducible exact Sha.X_lt _ _ | with_reducible exact Sha.A_lt _ _ | with_reducible exact Sha.P_lt _ _ | with_reducible exact Sha.div_lt _ (by with_reducible assumption) | omega)) | (apply Wl.rightQ 11;exact rfl;(focus repeat constructor);exact rfl;(decide);(first | with_reducible assumption | with_reducible exact Sha.rr_lt _ _ | with_reducible exact Sha.X_lt _ _ | with_reducible exact Sha.A_lt _ _ | with_reducible exact Sha.P_lt _ _ | with_reducible exact Sha.div_lt _ (by with_reducible assumption) | omega)) | (apply Wl.rightQ 25;exact rfl;(focus repeat constructor);exact rfl;(decide);(first | with_reducible assumption | with_reducible exact Sha.rr_lt _ _ | with_reducible exact Sha.X_lt _ _ | with_reducible exact Sha.A_lt _ _ | with_reducible exact Sha.P_lt _ _ | with_reducible exact Sha.div_lt _ (by with_reducible assumption) | omega)) | (apply Wl.xorM;exact rfl;exact rfl;exact rfl;(first | with_reducible assumption | with_reducible exact Sha.rr_lt _ _ | with_reducible exact Sha.X_lt _ _ | with_reducible exact Sha.A_lt _ _ | with_reducible exact Sha.P_lt _ _ | with_reducible exact Sha.div_lt _ (by with_reducible assumption) | omega);(first | with_reducible assumption | with_reducible exact Sha.rr_lt _ _ | with_reducible exact Sha.X_lt _ _ | with_reducible exact Sha.A_lt _ _ | with_reducible exact Sha.P_lt _ _ | with_reducible exact Sha.div_lt _ (by with_reducible assumption) | omega)) | (apply Wl.andM;exact rfl;exact rfl;exact rfl;(first | with_reducible assumption | with_reducible exact Sha.rr_lt _ _ | with_reducible exact Sha.X_lt _ _ | with_reducible exact Sha.A_lt _ _ | with_reducible exact Sha.P_lt _ _ | with_reducible exact Sha.div_lt _ (by with_reducible assumption) | omega)) | refine Wl.addW rfl rfl rfl ?_ | (apply Wl.remN (n := 4294967296);exact rfl;exact rfl;exact rfl;(decide)) | (apply Wl.loadN;exact rfl;exact rfl;(focus repeat constructor);omega) | refine Wl.lss rfl rfl rfl ?_ | apply Wl.nil | apply St.seq | apply St.block | apply St.region | (apply St.condT;exact rfl;(with_reducible first | rfl | assumption | decide)) | apply St.skip | apply Gt.next
   rw [ht]
   apply St.bagX 30 [29]
   exact mixed
   decide +kernel
   kernel_rfl
   repeat' first | refine Wl.move rfl rfl ?_ | refine Wl.assign rfl rfl ?_ | apply OpsX.nil | (apply OpsX.v;(intro X hX;change Wl [_] _ _ _ _ _ _ _;apply Wl.catX;(focus repeat constructor))) | (apply Gt.endX;exact rfl) | (apply EndX.on;exact rfl) | (apply EndX.off;exact rfl) | (apply EndX.nil';apply Wl.catE;(focus repeat constructor)) | (apply Wl.indexSC 1;exact rfl;exact rfl;exact rfl;exact rfl;(decide)) | (apply Wl.indexSC 2;exact rfl;exact rfl;exact rfl;exact rfl;(decide)) | (apply Wl.loadH;exact rfl;exact rfl;(focus repeat constructor);exact rowGet (by first | decide | omega)) | (apply Wl.rightQ 2;exact rfl;(focus repeat constructor);exact rfl;(decide);(first | with_reducible assumption | with_reducible exact Sha.rr_lt _ _ | with_reducible exact Sha.X_lt _ _ | with_reducible exact Sha.A_lt _ _ | with_reducible exact Sha.P_lt _ _ | with_reducible exact Sha.div_lt _ (by with_reducible assumption) | omega)) | (apply Wl.rightQ 13;exact rfl;(focus repeat constructor);exact rfl;(decide);(first | with_reducible assumption | with_reducible exact Sha.rr_lt _ _ | with_reducible exact Sha.X_lt _ _ | with_reducible exact Sha.A_lt _ _ | with_reducible exact Sha.P_lt _ _ | with_reducible exact Sha.div_lt _ (by with_reducible assumption) | omega)) | (apply Wl.rightQ 22;exact rfl;(focus repeat constructor);exact rfl;(decide);(first | with_reducible assumption | with_reducible exact Sha.rr_lt _ _ | with_reducible exact Sha.X_lt _ _ | with_reducible exact Sha.A_lt _ _ | with_reducible exact Sha.P_lt _ _ | with_reducible exact Sha.div_lt _ (by with_reducible assumption) | omega)) | (apply Wl.xorM;exact rfl;exact rfl;exact rfl;(first | with_reducible assumption | with_reducible exact Sha.rr_lt _ _ | with_reducible exact Sha.X_lt _ _ | with_reducible exact Sha.A_lt _ _ | with_reducible exact Sha.P_lt _ _ | with_reducible exact Sha.div_lt _ (by with_reducible assumption) | omega);(first | with_reducible assumption | with_reducible exact Sha.rr_lt _ _ | with_reducible exact Sha.X_lt _ _ | with_reducible exact Sha.A_lt _ _ | with_reducible exact Sha.P_lt _ _ | with_reducible exact Sha.div_lt _ (by with_reducible assumption) | omega)) | (apply Wl.andM;exact rfl;exact rfl;exact rfl;(first | with_reducible assumption | with_reducible exact Sha.rr_lt _ _ | with_reducible exact Sha.X_lt _ _ | with_reducible exact Sha.A_lt _ _ | with_reducible exact Sha.P_lt _ _ | with_reducible exact Sha.div_lt _ (by with_reducible assumption) | omega)) | refine Wl.addW rfl rfl rfl ?_ | (apply Wl.remN (n := 4294967296);exact rfl;exact rfl;exact rfl;(decide)) | apply Wl.nil | apply Gt.next
   rw [hu]
   apply St.bagX 28 []
   exact mixed
   decide +kernel
   kernel_rfl
   repeat' first | refine Wl.move rfl rfl ?_ | refine Wl.assign rfl rfl ?_ | apply OpsX.nil | (apply OpsX.v;(intro X hX;change Wl [_] _ _ _ _ _ _ _;apply Wl.catX;(focus repeat constructor))) | (apply Gt.endX;exact rfl) | (apply EndX.on;exact rfl) | (apply EndX.off;exact rfl) | (apply EndX.nil';apply Wl.catE;(focus repeat constructor)) | (apply Wl.indexSC 0;exact rfl;exact rfl;exact rfl;exact rfl;(decide)) | (apply Wl.indexSC 1;exact rfl;exact rfl;exact rfl;exact rfl;(decide)) | (apply Wl.indexSC 2;exact rfl;exact rfl;exact rfl;exact rfl;(decide)) | (apply Wl.indexSC 3;exact rfl;exact rfl;exact rfl;exact rfl;(decide)) | (apply Wl.indexSC 4;exact rfl;exact rfl;exact rfl;exact rfl;(decide)) | (apply Wl.indexSC 5;exact rfl;exact rfl;exact rfl;exact rfl;(decide)) | (apply Wl.indexSC 6;exact rfl;exact rfl;exact rfl;exact rfl;(decide)) | (apply Wl.loadH;exact rfl;exact rfl;(focus repeat constructor);exact rowGet (by first | decide | omega)) | refine Wl.addW rfl rfl rfl ?_ | (apply Wl.remN (n := 4294967296);exact rfl;exact rfl;exact rfl;(decide)) | (refine Wl.addI rfl rfl rfl ?_ ?_;constructor <;> omega) | (apply Wl.lit;exact rfl;(repeat (first | exact Parts.nil | apply Parts.cons rfl));exact rfl;exact rfl;(repeat (first | apply CatP.nil | (apply CatP.one;exact rfl;exact rfl) | (apply CatP.agg;exact rfl) | apply LApp.nil | apply LApp.cons));intro c hc ho) | apply Wl.nil | apply St.region | apply Gt.next | apply Gt.inNormal
   apply Gt.round (i + 1,c,8,[])
   rotate_left
   ·simp only;omega
   ·repeat constructor
   ·intro w' hw
    rw [Sha.add2,Sha.add2,v8u] at hw
    have := hpDrop2 hw hgs
    simp only
    rw [List.append_nil,hrn]
    exact this
   ·exact ⟨by simp only;omega,by simp only;omega,.inl hc⟩
  have hi64 : i = 64 := by omega
  subst hi64
  repeat' first | refine Wl.move rfl rfl ?_ | refine Wl.assign rfl rfl ?_ | refine Wl.lss rfl rfl rfl ?_ | apply Wl.nil | apply St.seq | apply St.block | apply St.region | (apply St.condF;exact rfl;(with_reducible first | rfl | assumption | decide)) | apply St.exit | apply Gt.next | apply Gt.thenExit | apply Gt.inExit
  refine St.loop (σ := Nat) (fun q => q ≤ 8) (fun q => [(2,mp c2),(3,.slice (some ⟨ga,0,none⟩) 64 capa),(4,.slice (some ⟨gh,0,none⟩) 8 caph),(5,.slice (some ⟨gp,0,none⟩) pd.length pcap),(7,.int .i64 ((64 * k : Nat) : Int)),(13,.slice (some ⟨gs,0,none⟩) 8 caps),(19,.int .i64 q)])
   (fun q => Hp w5 [⟨gs,cellsN .u64 8 f ++ rests,92⟩,⟨cw,cellsN .u64 64 W,116⟩,⟨gh,cellsN .u64 8 (fillN h (fun q => Sha.P (h q) (f q)) q) ++ resth,92⟩,⟨c2,cellsN .u8 32 fun _ => 0,48⟩]) (fun q => 8 - q) 0 (by omega) (by repeat constructor) (fun _ hw => by rw [fillN_zero];exact hw) ?_
  intro q hq8
  by_cases hlq : q < 8
  ·have hdq : decide ((q : Int) < 8) = true := decide_eq_true (by omega)
   have hat : fillN h (fun q => Sha.P (h q) (f q)) q q = h q := fillN_at (Nat.le_refl q)
   have hnx : updN (fillN h (fun q => Sha.P (h q) (f q)) q) q (Sha.P (h q) (f q)) = _ := fillN_step h (fun q => Sha.P (h q) (f q)) q
   generalize fillN h (fun q => Sha.P (h q) (f q)) q = G at *
   repeat' first | refine Wl.move rfl rfl ?_ | refine Wl.assign rfl rfl ?_ | (apply St.bagX 13 [];exact mixed;(decide +kernel);kernel_rfl) | apply OpsX.nil | (apply OpsX.v;(intro X hX;change Wl [_] _ _ _ _ _ _ _;apply Wl.catX;(focus repeat constructor))) | (apply Gt.endX;exact rfl) | (apply EndX.on;exact rfl) | (apply EndX.off;exact rfl) | (apply EndX.nil';apply Wl.catE;(focus repeat constructor)) | (apply Wl.loadH;exact rfl;exact rfl;(focus repeat constructor);exact rowGet (by first | decide | omega)) | (apply Wl.indexS0;exact rfl;exact rfl;exact rfl;(first | with_reducible assumption | omega)) | refine Wl.addW rfl rfl rfl ?_ | (apply Wl.remN (n := 4294967296);exact rfl;exact rfl;exact rfl;(decide)) | (apply Wl.store;exact rfl;exact rfl;exact rfl;(focus repeat constructor);exact LSet.appL (cellsN_set (by omega)) _) | refine Wl.lss rfl rfl rfl ?_ | (refine Wl.addI rfl rfl rfl ?_ ?_;constructor <;> omega) | apply Wl.nil | apply St.seq | apply St.block | apply St.region | (apply St.condT;exact rfl;(with_reducible first | rfl | assumption | decide)) | apply St.skip | apply Gt.next | apply Gt.inNormal
   rw [hat,Sha.add2,hnx]
   apply Gt.round (q + 1)
   rotate_left
   ·omega
   ·repeat constructor
   ·exact fun _ h => h
   ·omega
  have hq8' : q = 8 := by omega
  subst hq8'
  rw [show cellsN .u64 8 (fillN h (fun q => Sha.P (h q) (f q)) 8) = cellsN .u64 8 (Sha.hN Sha.H0 pd (k + 1)) by rw [fillN_end,hstep,hcomp,hf]]
  repeat' first | (apply Wl.addNI (m := 64 * k) (n := 64);exact rfl;exact rfl;exact rfl;omega) | refine Wl.move rfl rfl ?_ | refine Wl.assign rfl rfl ?_ | refine Wl.lss rfl rfl rfl ?_ | apply Wl.nil | apply St.seq | apply St.region | (apply St.condF;exact rfl;(with_reducible first | rfl | assumption | decide)) | apply St.exit | apply Gt.next | apply Gt.thenExit | apply Gt.inNormal | apply Gt.inExit
  apply Gt.round (k + 1,wq)
  rotate_left
  ·simp only;omega
  ·repeat constructor
  ·exact fun w' hw => hpBack hU5 hw (by simp only;omega) (by simp only;omega) rfl rfl
  ·exact ⟨by simp only;omega,Upd.refl _ _⟩
 have hkn : k = NB := by omega
 subst hkn
 generalize Sha.hN Sha.H0 pd k = HH at *
 repeat' first | (apply Wl.allocN;exact rfl;exact z32b;intro c hc ho) | refine Wl.move rfl rfl ?_ | refine Wl.assign rfl rfl ?_ | refine Wl.lss rfl rfl rfl ?_ | refine Wl.len rfl rfl ?_ | apply Wl.nil | apply St.seq | apply St.block | apply St.region | apply St.exit | apply Gt.next | apply Gt.thenExit | apply Gt.inExit | (apply St.condP;exact rfl;all_goals (intros;try (exfalso;omega)))
 refine St.loop (σ := Nat) (fun i => i ≤ 32) (fun i => [(2,mp c2),(4,.slice (some ⟨gh,0,none⟩) 8 caph),(20,mp c),(21,.int .i64 (i : Int))])
  (fun i => Hp wk [⟨c,cellsN .u8 32 (fillN (fun _ => 0) (Sha.outB HH) i),48⟩,⟨gh,cellsN .u64 8 HH ++ resth,92⟩,⟨c2,cellsN .u8 32 fun _ => 0,48⟩]) (fun i => 32 - i) 0 (by omega) (by repeat constructor) (fun _ h => by rw [fillN_zero];exact h) ?_
 intro i hi
 by_cases hli : i < 32
 ·have hdi : decide ((i : Int) < 32) = true := decide_eq_true (by omega)
  have hi4 : i / 4 < 8 := by omega
  have hi3 : i % 4 < 4 := Nat.mod_lt _ (by decide)
  repeat' first | (apply Wl.quoN (n := 4);exact rfl;exact rfl;exact rfl;(decide);exact IntWalk.i64_in _ (by omega)) | (apply Wl.remN (n := 4);exact rfl;exact rfl;exact rfl;(decide)) | (apply Wl.loadH;exact rfl;exact rfl;(focus repeat constructor);exact rowGet (by first | decide | omega)) | (apply Wl.indexS0;exact rfl;exact rfl;exact rfl;(first | with_reducible assumption | omega)) | (apply Wl.indexA;exact rfl;exact rfl;exact rfl;(first | with_reducible assumption | omega)) | (apply Wl.mulNI (m := 8);exact rfl;exact rfl;exact rfl;omega) | (apply Wl.subR 24;exact rfl;exact rfl;exact rfl;exact rfl;omega;omega) | (apply Wl.shrV;exact rfl;exact rfl;exact rfl;(show _ ≤ 64;omega)) | refine Wl.convN8 rfl rfl ?_ | (apply Wl.storeN;exact rfl;exact rfl;(focus repeat constructor);omega) | refine Wl.move rfl rfl ?_ | refine Wl.assign rfl rfl ?_ | refine Wl.lss rfl rfl rfl ?_ | (refine Wl.addI rfl rfl rfl ?_ ?_;constructor <;> omega) | apply Wl.nil | apply St.seq | apply St.block | apply St.region | (apply St.condT;exact rfl;(with_reducible first | rfl | assumption | decide)) | apply St.skip | apply Gt.next | apply Gt.inNormal
  apply Gt.round (i + 1)
  rotate_left
  ·omega
  ·repeat constructor
  ·exact fun _ h => by rw [← fillN_step];exact h
  ·omega
 have hi32 : i = 32 := by omega
 subst hi32
 rw [fillN_end]
 have hu' : Upd (fun k => w.heap.size ≤ k) w wk := (hu2.comp hU fun k hk hs => hs.elim id fun hs => by rcases hs with h | h | h <;> omega).comp hUk fun k hk hs => hs.elim id fun hs => by rcases hs with h | h | h <;> omega
 repeat' first | (apply Gt.outN;exact rfl;infer_instance;exact rfl;(focus repeat constructor);exact rfl;intro w' hp) | (apply Wl.loadW;exact rfl;exact rfl;(focus repeat constructor);exact rfl) | (apply Wl.storeW;exact rfl;exact rfl;(focus repeat constructor);exact rfl;(first | exact cellsN_len _ _ _ | exact rfl)) | refine Wl.move rfl rfl ?_ | refine Wl.lss rfl rfl rfl ?_ | apply Wl.nil | apply St.seq | apply St.region | (apply St.condF;exact rfl;(with_reducible first | rfl | assumption | decide)) | apply St.ret | apply St.exit | apply Gt.next | apply Gt.thenExit | apply Gt.inExit
 refine ⟨by rw [hof],hpFin hp hu' (by simp;omega)⟩
end Go.Proofs.YtmjlceimjlabpaaDoor
end
section
namespace Go.Pt
open Go.RowKit
theorem Wl.sliceAll {P : Program} {md : Md} {N : Nat} {ops : Array Oper} {rest : List Oper} {Γ : Env} {C : World → Prop} {Q : Exit → Act → World → Prop} {d : Nat} {ty : TypeId} {pos : String} {af : Array Edge} {t e n sz by_ : TypeId} {x : Operand} {b o : Nat} {S : Value} [ht : TyD P t (.array n e)] [TyS P e sz by_]
  (hd : Nat.blt d N = true) (hx : ev Γ x = some (.pointer (some ⟨b,o,none⟩))) (hn : n ≠ 0) (hS : S = .slice (some ⟨b,o,none⟩) n n) (h : Wl rest P md ops N ((d,S) :: Γ) C Q) : Wl (⟨some d,.slice t x none none none,ty,pos,af,none⟩ :: rest) P md ops N Γ C Q := by
 subst hS
 exact Wl.val hd (fun a w ha _ => by
  simp [execOp,ha.ev hx,Instr.sliceAt,run_underlying ht.out,Instr.sliceBounds,Instr.sureAddr,Addr.add,run_size (P := P) (t := e),hn]) h
def shaL (l : List UInt8) : List UInt8 := (List.range 32).map fun j => UInt8.ofNat (Sha.of l j)
theorem shaL_len (l : List UInt8) : (shaL l).length = 32 := by simp [shaL]
theorem shaL_bytes (l : List UInt8) : byteCells (shaL l) = cellsN .u8 32 (Sha.of l) := by
 unfold shaL byteCells cellsN
 rw [List.map_map]
 apply List.map_congr_left
 intro j _
 have : Sha.of l j < 256 := by rw [Sha.of_eq];exact Nat.mod_lt _ (by decide)
 simp only [Function.comp_apply]
 rw [show (UInt8.ofNat (Sha.of l j)).toNat = Sha.of l j by rw [UInt8.toNat_ofNat'];exact Nat.mod_eq_of_lt this]
theorem bsSha {w : World} {c : Nat} {l : List UInt8} {t : TypeId} {fr : Nat × Nat} (h : w.heap[c]? = some (.cells (cellsN .u8 32 (Sha.of l)).toArray t fr)) : Bs w (.slice (some ⟨c,0,none⟩) 32 32) (shaL l) := by
 have := Bs.ofBlk (l := shaL l) (by rw [shaL_bytes];exact h) (by rw [shaL_len];decide)
 rw [shaL_len] at this
 exact this
end Go.Pt
namespace Go.Proofs.YtmjlceimjlabpaaDoor
open Go.RowKit Go.Pt
attribute [local irreducible] Prim.P256 Prim.N256
def eN (l : List UInt8) : Nat := rdL (shaL l) % Prim.N256
theorem ne16 {a b : Nat} (ha : a < W256) (hb : b < W256) (h : a ≠ b) : false = true ↔ ∀ j,j < 16 → dg D16 a j = dg D16 b j :=
 ⟨fun e => (by cases e),fun e => absurd (dg_ext (k := 16) (by rw [← W256_eq16];exact ha) (by rw [← W256_eq16];exact hb) e) h⟩
theorem zeroAgg : some (Value.agg #[Value.int .u64 0,.int .u64 0,.int .u64 0,.int .u64 0,.int .u64 0,.int .u64 0,.int .u64 0,.int .u64 0,.int .u64 0,.int .u64 0,.int .u64 0,.int .u64 0,.int .u64 0,.int .u64 0,.int .u64 0,.int .u64 0]) = some (.agg (cellsN .u64 16 (dg D16 0)).toArray) := by rw [← zero16]
theorem newFieldN (w : World) : Calls Tryd.prog 48 #[num16 Prim.N256] w fun e w' => ∃ b,e = .returned (mp b) ∧ w.heap.size ≤ b ∧ FldV w' b Prim.N256 ∧ Hp w [] w' := newField Prim.N256 w nW (by decide +kernel) (by decide +kernel) (by decide +kernel)
end Go.Proofs.YtmjlceimjlabpaaDoor
end
section
namespace Go.Proofs.YtmjlceimjlabpaaDoor
open Go.RowKit Go.Pt
def opF (f : List UInt8) : List Py → Nat → List (List UInt8) → Int × List (List UInt8)
 | [],p,acc => if p = f.length then (0,acc) else (3,[])
 | y :: r,p,acc => if f.length < p + y.size then (3,[]) else if shaL (part f p y.size) ≠ y.dig then (7,[]) else opF f r (p + y.size) (acc ++ [part f p y.size])
def opE (f : List UInt8) (kn : Nat) (a : Int) (counter : Nat) : Int :=
 if 32768 < f.length then 2 else if f.length < 68 + num f 64 4 then 3 else if decErr (part f 68 (num f 64 4)) ≠ 0 then decErr (part f 68 (num f 64 4)) else
 if (kn : Int) ≤ (decMan (part f 68 (num f 64 4))).key then 5 else if a ≠ 0 then a else if (decMan (part f 68 (num f 64 4))).counter < counter then 6 else 0
def opR (f : List UInt8) : Int × List (List UInt8) := opF f (decMan (part f 68 (num f 64 4))).pays (68 + num f 64 4) []
def opAll (f : List UInt8) (kn : Nat) (a : Int) (counter : Nat) : Int × Mf × List (List UInt8) :=
 if opE f kn a counter ≠ 0 then (opE f kn a counter,noM,[]) else if (opR f).1 ≠ 0 then ((opR f).1,noM,[]) else (0,decMan (part f 68 (num f 64 4)),(opR f).2)
theorem opAll_err {f : List UInt8} {kn : Nat} {a : Int} {c : Nat} {e : Int} (h : opE f kn a c = e) (he : e ≠ 0) : opAll f kn a c = (e,noM,[]) := by
 unfold opAll
 rw [if_pos (by rw [h];exact he),h]
theorem opAll_bad {f : List UInt8} {kn : Nat} {a : Int} {c : Nat} {e : Int} (h : opE f kn a c = 0) (h2 : (opR f).1 = e) (he : e ≠ 0) : opAll f kn a c = (e,noM,[]) := by
 unfold opAll
 rw [if_neg (by rw [h];simp),if_pos (by rw [h2];exact he),h2]
theorem opAll_ok {f : List UInt8} {kn : Nat} {a : Int} {c : Nat} {fs : List (List UInt8)} (h : opE f kn a c = 0) (h2 : opR f = (0,fs)) : opAll f kn a c = (0,decMan (part f 68 (num f 64 4)),fs) := by
 unfold opAll
 rw [if_neg (by rw [h];simp),if_neg (by rw [h2];simp),h2]
end Go.Proofs.YtmjlceimjlabpaaDoor
end
section
namespace Go.Proofs.YtmjlceimjlabpaaDoor
open Go.RowKit Go.Pt
attribute [local irreducible] Prim.P256 Prim.N256
def keyNo (l : List UInt8) : Prop := l.length ≠ 64 ∨ onB (rdL (l.take 32)) (rdL (l.drop 32)) = false
theorem refKeyNo (v : Value) (l : List UInt8) (w : World) (hv : Bs w v l) (h : keyNo l) : Calls Tryd.prog 46 #[v] w fun e w' => e = .returned (.tuple #[.agg (rpC 0 0 0).toArray,.bool false]) ∧ Hp w [] w' := by
 by_cases hl : l.length = 64
 ·have e := h.resolve_left (fun h => h hl)
  have := refKey v l w hv hl
  rw [e] at this
  exact this
 ·exact refKeyN v l w hv hl
theorem eq16 {a b : Nat} (h : a = b) : true = true ↔ ∀ j,j < 16 → dg D16 a j = dg D16 b j := ⟨fun _ _ _ => by rw [h],fun _ => rfl⟩
set_option maxHeartbeats 8000000 in
theorem refVer5 (kv mv gv : Value) (l : List UInt8) (w : World) (hv : Bs w kv l) (h : keyNo l) : Calls Tryd.prog 21 #[kv,mv,gv] w fun e w' => e = .returned (.int .i64 5) ∧ Hp w [] w' := by
 refine enter (args := [_,_,_]) (Γ := [(0,_),(1,_),(2,_)]) Tryd.func21 Tryd.ntmps21 rfl (of_decide_eq_true rfl) (.cons rfl (.cons rfl (.cons rfl .nil))) ?_
 repeat' first | (apply Wl.callQ (f := 46);exact rfl;(focus repeat constructor);(intro wq hq;exact hq.q (refKeyNo kv l wq (bsNew hv hq (by simp)) h))) | (apply Wl.allocC (t := 96);exact rfl;exact zRp;intro c hc ho) | (apply Wl.storeAll;exact rfl;exact rfl;(focus repeat constructor);(first | exact rpC_len _ _ _);(first | exact rfl | exact rpC_len _ _ _);(first | exact rpC_one _ _ _)) | refine Wl.move rfl rfl ?_ | refine Wl.assign rfl rfl ?_ | refine Wl.extract rfl rfl rfl ?_ | refine Wl.not rfl rfl ?_ | apply Wl.nil | apply St.seq | apply St.region | (apply St.condT;exact rfl;(with_reducible first | rfl | assumption | decide)) | apply St.ret | apply Gt.next | apply Gt.thenRet | (apply Gt.out1;exact rfl;exact rfl;intro w' hp)
 exact ⟨rfl,hp.drop (by simp;omega)⟩
theorem refKeyOk (v : Value) (l : List UInt8) (w : World) (hv : Bs w v l) (hl : l.length = 64) (h : onB (rdL (l.take 32)) (rdL (l.drop 32)) = true) : Calls Tryd.prog 46 #[v] w fun e w' => e = .returned (.tuple #[.agg (rpC (rdL (l.take 32)) (rdL (l.drop 32)) 1).toArray,.bool true]) ∧ Hp w [] w' := by
 have := refKey v l w hv hl
 rw [h] at this
 exact this
set_option maxHeartbeats 8000000 in
theorem refVer4 (kv mv gv : Value) (l g : List UInt8) (w : World) (hv : Bs w kv l) (hl : l.length = 64) (h : onB (rdL (l.take 32)) (rdL (l.drop 32)) = true) (hg : Bs w gv g) (hgl : g.length ≠ 64) : Calls Tryd.prog 21 #[kv,mv,gv] w fun e w' => e = .returned (.int .i64 4) ∧ Hp w [] w' := by
 obtain ⟨ga,gc,rfl,hglc,hgm⟩ := hg.shape
 have hdg : decide ((g.length : Int) ≠ 64) = true := decide_eq_true (by omega)
 refine enter (args := [_,_,_]) (Γ := [(0,_),(1,_),(2,_)]) Tryd.func21 Tryd.ntmps21 rfl (of_decide_eq_true rfl) (.cons rfl (.cons rfl (.cons rfl .nil))) ?_
 repeat' first | (apply Wl.callQ (f := 46);exact rfl;(focus repeat constructor);(intro wq hq;exact hq.q (refKeyOk kv l wq (bsNew hv hq (by simp)) hl h))) | (apply Wl.allocC (t := 96);exact rfl;exact zRp;intro c hc ho) | (apply Wl.storeAll;exact rfl;exact rfl;(focus repeat constructor);(first | exact rpC_len _ _ _);(first | exact rfl | exact rpC_len _ _ _);(first | exact rpC_one _ _ _)) | refine Wl.move rfl rfl ?_ | refine Wl.assign rfl rfl ?_ | refine Wl.extract rfl rfl rfl ?_ | refine Wl.not rfl rfl ?_ | refine Wl.neq rfl rfl rfl ?_ | refine Wl.len rfl rfl ?_ | apply Wl.nil | apply St.seq | apply St.region | (apply St.condT;exact rfl;(with_reducible first | rfl | assumption | decide)) | (apply St.condF;exact rfl;(with_reducible first | rfl | assumption | decide)) | apply St.ret | apply St.skip | apply Gt.next | apply Gt.thenRet | (apply Gt.out1;exact rfl;exact rfl;intro w' hp)
 exact ⟨rfl,hp.drop (by simp;omega)⟩
end Go.Proofs.YtmjlceimjlabpaaDoor
end
section
namespace Go.Proofs.YtmjlceimjlabpaaDoor
open Go.RowKit Go.Pt
attribute [local irreducible] Prim.P256 Prim.N256
theorem onP_of {X Y : Nat} (h : onB X Y = true) : X < Prim.P256 ∧ Y < Prim.P256 ∧ OnP (some (nF X,nF Y)) := by
 unfold onB at h
 simp only [Bool.and_eq_true,decide_eq_true_eq] at h
 obtain ⟨h1,h2,h3⟩ := h
 refine ⟨h1,h2,?_⟩
 show nF Y * nF Y = _
 rw [h3]
 unfold Ec.A3
 clear h1 h2 h3
 grind
def verA (r s : Nat) (A : Ec.Pt) : Int := if r = 0 ∨ s = 0 ∨ ¬ r < Prim.N256 ∨ ¬ s < Prim.N256 then 4 else if A = none ∨ poX A % Prim.N256 ≠ r then 4 else 0
theorem verP_eq {u1 v1 U1 V1 : Nat} {A : Ec.Pt} (hU1W : U1 < W256) (hV1W : V1 < W256) (hU1 : u1 = U1) (hV1 : v1 = V1) (hOn : OnP A) :
  Ec.ppt (Ec.pplus (ptimes U1 (ptR (some curG))) (ptimes V1 (ptR A))) = add3 (sm3 u1 (some curG)) (sm3 v1 A) := by
 rw [hU1,hV1]
 have e1 : Ec.ppt (ptimes U1 (ptR (some curG))) = sm3 U1 (some curG) := by rw [ptimes_pt hU1W (by rw [ptR_pt];exact onG),ptR_pt]
 have e2 : Ec.ppt (ptimes V1 (ptR A)) = sm3 V1 A := by rw [ptimes_pt hV1W (by rw [ptR_pt];exact hOn),ptR_pt]
 rw [Ec.pplus_pt,e1,e2]
theorem refTimesQ (b n X Y : Nat) (w : World) (hF : FldV w b Prim.P256) (hX : X < Prim.P256) (hY : Y < Prim.P256) : Calls Tryd.prog 56 #[mp b,num16 n,.agg (rpC X Y 1).toArray] w fun e w' => e = .returned (rpV (ptimes n (ptR (some (nF X,nF Y))))) ∧ Hp w [] w' := by
 have := refTimes b n (ptR (some (nF X,nF Y))) w hF
 rw [rpR_some,nF_val,nF_val,Nat.mod_eq_of_lt hX,Nat.mod_eq_of_lt hY] at this
 exact this
set_option maxHeartbeats 16000000 in
theorem refVerM (kv mv gv : Value) (l m g : List UInt8) (w : World) (hv : Bs w kv l) (hl : l.length = 64) (h : onB (rdL (l.take 32)) (rdL (l.drop 32)) = true) (hm : Bs w mv m) (hmn : m.length < 100000000) (hmv : m ≠ [] → ∀ k,mv.ownBlock = some k → k < w.heap.size) (hg : Bs w gv g) (hgl : g.length = 64)
  (U1 V1 : Nat) (A : Ec.Pt) (hu1 : eN m * pwm Prim.N256 (rdL (g.drop 32)) (Prim.N256 - 2) % Prim.N256 = U1) (hv1 : rdL (g.take 32) * pwm Prim.N256 (rdL (g.drop 32)) (Prim.N256 - 2) % Prim.N256 = V1) (hA : A = add3 (sm3 U1 (some curG)) (sm3 V1 (some (nF (rdL (l.take 32)),nF (rdL (l.drop 32)))))) :
  Calls Tryd.prog 21 #[kv,mv,gv] w fun e w' => e = .returned (.int .i64 (verA (rdL (g.take 32)) (rdL (g.drop 32)) A)) ∧ Hp w [] w' := by
 obtain ⟨ga,gc,rfl,hglc,hgm⟩ := hg.shape
 unfold maxLen at hgm
 obtain ⟨ab,off,rfl,hcell⟩ := hg.cells (fun e => by subst e;simp at hgl)
 rw [hgl] at hg ⊢
 obtain ⟨hs1,hs2⟩ := bsHalves hg hgl
 obtain ⟨S1,hS1⟩ : ∃ S1,S1 = Value.slice (some ⟨ab,off,none⟩) 32 gc := ⟨_,rfl⟩
 obtain ⟨S2,hS2⟩ : ∃ S2,S2 = Value.slice (some ⟨ab,off + 32,none⟩) (64 - 32) (gc - 32) := ⟨_,rfl⟩
 rw [← hS1] at hs1
 rw [show (32 : Nat) = 64 - 32 from rfl,← hS2] at hs2
 have hc64 := hg.len.2.1
 have hl1 : (g.take 32).length = 32 := by rw [List.length_take];omega
 have hl2 : (g.drop 32).length = 32 := by rw [List.length_drop];omega
 refine enter (args := [_,_,_]) (Γ := [(0,_),(1,_),(2,_)]) Tryd.func21 Tryd.ntmps21 rfl (of_decide_eq_true rfl) (.cons rfl (.cons rfl (.cons rfl .nil))) ?_
 repeat' first | (apply Wl.callQ (f := 46);exact rfl;(focus repeat constructor);(intro wq hq;exact hq.q (refKeyOk kv l wq (bsNew hv hq (by simp)) hl h))) | (apply Wl.allocC (t := 96);exact rfl;exact zRp;intro c hc ho) | (apply Wl.storeAll;exact rfl;exact rfl;(focus repeat constructor);(first | exact rpC_len _ _ _);(first | exact rfl | exact rpC_len _ _ _);(first | exact rpC_one _ _ _)) | refine Wl.move rfl rfl ?_ | refine Wl.assign rfl rfl ?_ | refine Wl.extract rfl rfl rfl ?_ | refine Wl.not rfl rfl ?_ | refine Wl.neq rfl rfl rfl ?_ | refine Wl.len rfl rfl ?_ | apply Wl.nil | apply St.seq | apply St.region | (apply St.condF;exact rfl;(with_reducible first | rfl | assumption | decide)) | apply St.skip | apply Gt.next
 generalize c = cK at *
 have hcK : w.heap.size ≤ cK := by assumption
 obtain ⟨XA,hXA⟩ : ∃ XA,XA = rdL (l.take 32) := ⟨_,rfl⟩
 obtain ⟨YA,hYA⟩ : ∃ YA,YA = rdL (l.drop 32) := ⟨_,rfl⟩
 rw [← hXA,← hYA] at h hA ⊢
 repeat' first | (apply St.bagSn 10 [];exact rfl;exact mixed;kernel_rfl) | apply OpsS.nil | (apply OpsS.b;rotate_left;exact rfl;exact rfl) | (apply OpsS.s (j := 6);exact rfl;exact rfl;exact rfl;(intro X f hX hfj;change Wl [_] _ _ _ _ _ _ _;apply Wl.catS;(focus repeat constructor))) | (apply OpsS.s (j := 7);exact rfl;exact rfl;exact rfl;(intro X f hX hfj;change Wl [_] _ _ _ _ _ _ _;apply Wl.catS;(focus repeat constructor))) | (apply OpsS.v;exact rfl;(intro X f hX;change Wl [_] _ _ _ _ _ _ _;apply Wl.catX;(focus repeat constructor))) | (apply Gt.endS;exact fun _ h => h) | (apply Gt.endX;exact rfl) | apply ConS.nil | apply ConS.v | apply ConS.s | (apply ConS.b1;exact rfl) | (apply EndS.new;intro c hc ho) | (apply EndS.off;exact rfl) | apply EndS.st | (apply EndS.nil';apply Gt.catS;(focus repeat constructor)) | (apply Wl.storeAll;exact rfl;exact rfl;(focus repeat constructor);exact cellsN_len _ _ _;exact rfl;exact cellsN_one _ _ _) | (apply Wl.sliceTo 32;exact rfl;exact rfl;exact rfl;exact rfl;omega;exact hS1) | (apply Wl.sliceFrom 32;exact rfl;exact rfl;exact rfl;exact rfl;(decide);exact hc64;exact hS2) | (apply Wl.callQ (f := 47);exact rfl;(focus repeat constructor);(intro wq hq;have hb1 := bsNew1 hs1 hq hX hcK;have hb2 := bsNew1 hs2 hq hX hcK;with_reducible first | refine (refNum _ (g.take 32) wq hb1 hl1).mono ?_ | refine (refNum _ (g.drop 32) wq hb2 hl2).mono ?_);(rintro e wr ⟨rfl,hr⟩;exact ⟨rfl,hq.keep hr⟩)) | refine Wl.move rfl rfl ?_ | apply Wl.nil | apply St.seq | apply St.region | apply Gt.next
 generalize hR : rdL (g.take 32) = R at *
 generalize hS : rdL (g.drop 32) = S at *
 have hRW : R < W256 := hR ▸ rdL_lt _
 have hSW : S < W256 := hS ▸ rdL_lt _
 generalize c = cs at *
 rename_i cr hcr hor
 repeat' first | (apply Wl.callQ (f := 49);exact rfl;(focus repeat constructor);(intro wq hq;exact hq.q (ref4N wq)))
 apply Wl.callC
 ·exact rfl
 ·repeat constructor
 intro wq hq
 refine (newFieldN wq).mono ?_
 rintro e w1 ⟨bn,rfl,hbn,hFn,hr1⟩
 have hqr := hq.keep hr1
 have hszq := hq.upd.size
 have l0 := hq.own.lt (.head _)
 have l1 := hq.own.lt (.tail _ (.head _))
 have l2 := hq.own.lt (.tail _ (.tail _ (.head _)))
 simp only at l0 l1 l2
 refine ⟨_,_,rfl,hpRb hqr,?_⟩
 have hu : Upd (fun k => w.heap.size ≤ k) w w1 := hpOn hqr (Upd.refl _ _) (by simp;omega)
 have hnl := hFn.blk
 clear hq hr1 hqr
 obtain ⟨hXP,hYP,hOn⟩ := onP_of h
 have hB1 := fun wq => refBelow R Prim.N256 hRW nW wq
 have hB2 := fun wq => refBelow S Prim.N256 hSW nW wq
 have hcs : R = 0 ∨ (R ≠ 0 ∧ S = 0) ∨ (R ≠ 0 ∧ S ≠ 0 ∧ decide (R < Prim.N256) = false) ∨ (R ≠ 0 ∧ S ≠ 0 ∧ decide (R < Prim.N256) = true ∧ decide (S < Prim.N256) = false) ∨ (R ≠ 0 ∧ S ≠ 0 ∧ decide (R < Prim.N256) = true ∧ decide (S < Prim.N256) = true) := by
  by_cases a : R = 0
  ·exact .inl a
  ·by_cases b : S = 0
   ·exact .inr (.inl ⟨a,b⟩)
   ·cases c : decide (R < Prim.N256)
    ·exact .inr (.inr (.inl ⟨a,b,rfl⟩))
    ·cases c2 : decide (S < Prim.N256)
     ·exact .inr (.inr (.inr (.inl ⟨a,b,rfl,rfl⟩)))
     ·exact .inr (.inr (.inr (.inr ⟨a,b,rfl,rfl⟩)))
 rcases hcs with hR0 | ⟨hR0,hS0⟩ | ⟨hR0,hS0,hRN⟩ | ⟨hR0,hS0,hRN,hSN⟩ | ⟨hR0,hS0,hRN,hSN⟩
 all_goals (try rw [hRN] at hB1)
 all_goals (try rw [hSN] at hB2)
 all_goals
  repeat' first | (apply St.bagX 26 [25];exact mixed;(decide +kernel);kernel_rfl) | apply OpsX.nil | (apply OpsX.v;(intro X hX;change Wl [_] _ _ _ _ _ _ _;apply Wl.catX;(focus repeat constructor))) | (apply Gt.endX;exact rfl) | (apply EndX.on;exact rfl) | (apply EndX.off;exact rfl) | (apply EndX.nil';apply Wl.catE;(focus repeat constructor)) | (apply Wl.loadM;exact rfl;exact rfl;exact hFn.mod;(repeat (first | exact trivial | exact hX.off (by omega) | refine ⟨by first | assumption | omega | (simp only;omega),?_⟩));exact rfl) | (apply Wl.eqlA (t := 94);exact rfl;exact rfl;exact zeroAgg;kernel_rfl;kernel_rfl;kernel_rfl;kernel_rfl;exact cell64 _;exact cell64 _;(first | with_reducible exact ne16 hRW (by decide) hR0 | with_reducible exact ne16 hSW (by decide) hS0 | with_reducible exact eq16 hR0 | with_reducible exact eq16 hS0)) | (apply Wl.callQ (f := 50);exact rfl;(focus repeat constructor);(intro wq hq;with_reducible first | refine (hB1 wq).mono ?_ | refine (hB2 wq).mono ?_);(rintro e wr ⟨rfl,hr⟩;exact ⟨rfl,hq.keep hr⟩)) | (apply Wl.loadW;exact rfl;exact rfl;(focus repeat constructor);exact rfl) | refine Wl.move rfl rfl ?_ | refine Wl.assign rfl rfl ?_ | (apply Wl.on;exact rfl;exact rfl;(with_reducible first | rfl | assumption | decide)) | (apply Wl.off;exact rfl;exact rfl;exact rfl;(first | with_reducible rfl | (show _ = false;with_reducible assumption) | (show _ = true;with_reducible assumption) | decide)) | refine Wl.nilCheck rfl rfl ?_ | (apply Wl.pickT;exact rfl;exact rfl;(with_reducible first | rfl | assumption | decide);exact rfl) | (apply Wl.pickF;exact rfl;exact rfl;(with_reducible first | rfl | assumption | decide);exact rfl) | refine Wl.not rfl rfl ?_ | refine Wl.fieldAddr0 rfl rfl ?_ | (apply Wl.buildA;exact rfl;(repeat (first | exact Parts.nil | apply Parts.cons rfl));(repeat (first | apply Fills.nil | (apply Fills.one;exact rfl;exact rfl;(repeat (first | apply LSet.z | apply LSet.s))) | (apply Fills.agg;exact rfl;exact rfl;(repeat (first | apply LPut.s | apply LPut.z | apply LOver.nil | apply LOver.cons)))))) | apply Wl.nil | apply St.seq | apply St.region | (apply St.condT;exact rfl;(with_reducible first | rfl | assumption | decide)) | (apply St.condF;exact rfl;(with_reducible first | rfl | assumption | decide)) | apply St.ret | apply St.skip | apply Gt.next | apply Gt.thenRet | (apply Gt.out1;exact rfl;exact rfl;intro w' hp)
 ·exact ⟨by unfold verA;rw [if_pos (.inl hR0)],hpFin hp hu (by simp;omega)⟩
 ·exact ⟨by unfold verA;rw [if_pos (.inr (.inl hS0))],hpFin hp hu (by simp;omega)⟩
 ·exact ⟨by unfold verA;rw [if_pos (.inr (.inr (.inl (of_decide_eq_false hRN))))],hpFin hp hu (by simp;omega)⟩
 ·exact ⟨by unfold verA;rw [if_pos (.inr (.inr (.inr (of_decide_eq_false hSN))))],hpFin hp hu (by simp;omega)⟩
 have hRN' := of_decide_eq_true hRN
 have hSN' := of_decide_eq_true hSN
 have h0N : 0 < Prim.N256 := by omega
 have hmW : ∀ {H : List Blk} {wx : World},Hp w1 H wx → (∀ x ∈ H,w.heap.size ≤ x.b) → Bs wx mv m := fun hx hH => hm.upd (hpOn hx hu hH) fun k hk hlt hne hs => by omega
 obtain ⟨E,hE⟩ : ∃ E,E = eN m := ⟨_,rfl⟩
 have hEN : E < Prim.N256 := by rw [hE];exact Nat.mod_lt _ h0N
 have hRdE := fun wq => refReduce (rdL (shaL m)) Prim.N256 wq (rdL_lt _) nW h0N
 rw [show rdL (shaL m) % Prim.N256 = E from hE.symm] at hRdE
 rw [← hE] at hu1
 obtain ⟨V,hV⟩ : ∃ V,V = pwm Prim.N256 S (Prim.N256 - 2) := ⟨_,rfl⟩
 have hVN : V < Prim.N256 := hV ▸ pwm_lt _ _ h0N
 have hInv := fun wq h => refFInv bn Prim.N256 S wq h hSN' (by decide +kernel)
 rw [← hV] at hInv
 rw [← hV] at hu1 hv1
 have hU1W : U1 < W256 := by rw [← hu1];exact Nat.lt_trans (Nat.mod_lt _ h0N) nW
 have hV1W : V1 < W256 := by rw [← hv1];exact Nat.lt_trans (Nat.mod_lt _ h0N) nW
 have hM1 := fun wq h => refFMul bn Prim.N256 E V wq h hEN hVN
 rw [hu1] at hM1
 have hM2 := fun wq h => refFMul bn Prim.N256 R V wq h hRN' hVN
 rw [hv1] at hM2
 clear hu1 hv1
 repeat' first | (apply Wl.callQ (f := 22);exact rfl;(focus repeat constructor);(intro wq hq;exact hq.q (refSum mv m wq (hmW hq (by simp;omega)) hmn (fun a k hk => by have := hmv a k hk;have := hq.upd.size;omega)))) | (apply Wl.allocC (t := 48);exact rfl;exact z32b;intro c hc ho) | (apply Wl.storeW;exact rfl;exact rfl;(focus repeat constructor);exact rfl;(first | exact cellsN_len _ _ _ | exact rfl)) | apply Wl.nil | apply St.seq | apply Gt.next
 generalize c = cH at *
 have hcH : w1.heap.size ≤ cH := by assumption
 repeat' first | (apply St.bagSn 9 [];exact rfl;exact mixed;kernel_rfl) | apply OpsS.nil | (apply OpsS.b;rotate_left;exact rfl;exact rfl) | (apply OpsS.s (j := 7);exact rfl;exact rfl;exact rfl;(intro X f hX hfj;change Wl [_] _ _ _ _ _ _ _;apply Wl.catS;(focus repeat constructor))) | (apply OpsS.v;exact rfl;(intro X f hX;change Wl [_] _ _ _ _ _ _ _;apply Wl.catX;(focus repeat constructor))) | (apply Gt.endS;exact fun _ h => h) | (apply Gt.endX;exact rfl) | apply ConS.nil | apply ConS.v | apply ConS.s | (apply ConS.b1;exact rfl) | (apply EndS.new;intro c hc ho) | (apply EndS.off;exact rfl) | apply EndS.st | (apply EndS.nil';apply Gt.catS;(focus repeat constructor)) | (apply Wl.sliceAll;exact rfl;exact rfl;(decide);exact rfl) | (apply Wl.storeAll;exact rfl;exact rfl;(focus repeat constructor);exact cellsN_len _ _ _;exact rfl;exact cellsN_one _ _ _) | (apply Wl.loadM;exact rfl;exact rfl;exact hFn.mod;(repeat (first | exact trivial | exact hX.off (by omega) | refine ⟨by first | assumption | omega | (simp only;omega),?_⟩));exact rfl) | (apply Wl.callQ (f := 51);exact rfl;(focus repeat constructor);(intro wq hq;exact hq.q (hRdE wq))) | (apply Wl.callQ (f := 47);exact rfl;(focus repeat constructor);(intro wq hq;have hb : wq.heap[cH]? = _ := hq.own.at (x := ⟨cH,cellsN .u8 32 (Sha.of m),48⟩) (by repeat constructor);exact hq.q (refNum _ (shaL m) wq (bsSha hb) (shaL_len m)))) | (apply Wl.loadW;exact rfl;exact rfl;(focus repeat constructor);exact rfl) | refine Wl.move rfl rfl ?_ | refine Wl.nilCheck rfl rfl ?_ | refine Wl.fieldAddr0 rfl rfl ?_ | apply Wl.nil | apply St.seq | apply St.region | apply Gt.next
 generalize c = cE at *
 have hcE : w1.heap.size ≤ cE := by assumption
 repeat' first | (apply Wl.callQ (f := 52);exact rfl;(focus repeat constructor);(intro wq hq;refine (hInv wq (hFn.hp hq (by (repeat (first | exact trivial | exact hX.off (by omega) | refine ⟨by first | assumption | omega | (simp only;omega),?_⟩))))).mono ?_;rintro e wr ⟨rfl,hr⟩;exact ⟨rfl,hq.keep hr⟩)) | (apply Wl.callQ (f := 53);exact rfl;(focus repeat constructor);(intro wq hq;exact hq.q (ref4P wq))) | (apply Wl.storeW;exact rfl;exact rfl;(focus repeat constructor);exact rfl;(first | exact cellsN_len _ _ _ | exact rfl)) | (apply Wl.allocN;exact rfl;(first | exact z8 | exact z16 | exact z17 | exact z33 | exact z10);intro c hc ho) | apply Wl.nil | apply St.seq | apply St.region | apply Gt.next
 generalize c = cV at *
 have hcV : w1.heap.size ≤ cV := by assumption
 apply Wl.callC
 ·exact rfl
 ·repeat constructor
 intro wq2 hq
 refine (newFieldP wq2).mono ?_
 rintro e wr ⟨b,rfl,hbb,hF,hr1⟩
 have hqr := hq.keep hr1
 have hszq2 := hq.upd.size
 have hszr := hr1.upd.size
 have hFn2 : FldV wr bn Prim.N256 := (hFn.hp hq (by (repeat (first | exact trivial | exact hX.off (by omega) | refine ⟨by first | assumption | omega | (simp only;omega),?_⟩)))).hp hr1 trivial
 refine ⟨_,_,rfl,hpRb hqr,?_⟩
 have hu2 : Upd (fun k => w.heap.size ≤ k) w wr := hpOn hqr hu (by simp;omega)
 have hbl := hF.blk
 have k1 := hq.own.lt (.head _)
 have k2 := hq.own.lt (.tail _ (.head _))
 have k3 := hq.own.lt (.tail _ (.tail _ (.head _)))
 simp only at k1 k2 k3
 clear hq hr1 hqr
 obtain ⟨q1,hq1⟩ : ∃ q1,q1 = ptimes U1 (ptR (some curG)) := ⟨_,rfl⟩
 obtain ⟨q2,hq2⟩ : ∃ q2,q2 = ptimes V1 (ptR (some (nF XA,nF YA))) := ⟨_,rfl⟩
 obtain ⟨q3,hq3⟩ : ∃ q3,q3 = Ec.pplus q1 q2 := ⟨_,rfl⟩
 have hqA : Ec.ppt q3 = A := by
  rw [hq3,hq1,hq2,hA]
  exact verP_eq hU1W hV1W rfl rfl hOn
 have hT1 := fun wq h => refTimes b U1 (ptR (some curG)) wq h
 rw [← hq1] at hT1
 have hT2 := fun wq h => refTimesQ b V1 XA YA wq h hXP hYP
 rw [← hq2] at hT2
 have hPl := fun wq h => refPlus b q1 q2 wq h
 rw [← hq3] at hPl
 have hPn := fun wq h => refPlain b q3 wq h
 rw [hqA] at hPn
 clear hq1 hq2 hq3 hqA hV hInv hRdE
 have hAns : verA R S A = if A = none ∨ poX A % Prim.N256 ≠ R then 4 else 0 := by
  unfold verA
  rw [if_neg (by rintro (h | h | h | h);exact hR0 h;exact hS0 h;exact h hRN';exact h hSN')]
 rw [hAns]
 clear hAns hA
 repeat' first | (apply St.bagSn 27 [26];exact rfl;exact mixed;kernel_rfl) | apply OpsS.nil | (apply OpsS.b;rotate_left;exact rfl;exact rfl) | (apply OpsS.s (j := 22);exact rfl;exact rfl;exact rfl;(intro X f hX hfj;change Wl [_] _ _ _ _ _ _ _;apply Wl.catS;(focus repeat constructor))) | (apply OpsS.s (j := 23);exact rfl;exact rfl;exact rfl;(intro X f hX hfj;change Wl [_] _ _ _ _ _ _ _;apply Wl.catS;(focus repeat constructor))) | (apply OpsS.v;exact rfl;(intro X f hX;change Wl [_] _ _ _ _ _ _ _;apply Wl.catX;(focus repeat constructor))) | (apply Gt.endS;exact fun _ h => h) | (apply Gt.endX;exact rfl) | apply ConS.nil | apply ConS.v | apply ConS.s | (apply ConS.b1;exact rfl) | (apply EndS.new;intro c hc ho) | (apply EndS.on;exact rfl) | (apply EndS.off;exact rfl) | apply EndS.st | (apply EndS.nil';apply Gt.catS;(focus repeat constructor)) | (apply Wl.storeAll;exact rfl;exact rfl;(focus repeat constructor);exact cellsN_len _ _ _;exact rfl;exact cellsN_one _ _ _) | (apply Wl.loadAH;exact rfl;exact rfl;(focus repeat constructor);(first | exact rpC_x _ _ _ | exact rpC_y _ _ _ | exact rpC_z _ _ _ | exact LSub.whole (rpC_len _ _ _))) | (apply Wl.callQ (f := 58);exact rfl;(focus repeat constructor);(intro wq hq;exact hq.q (ref4Base wq))) | (apply Wl.callQ (f := 55);exact rfl;(focus repeat constructor);(intro wq hq;refine (hPl wq (hF.hp hq (by (repeat (first | exact trivial | exact hX.off (by omega) | refine ⟨by first | assumption | omega | (simp only;omega),?_⟩))))).mono ?_;rintro e wr ⟨rfl,hr⟩;exact ⟨rfl,hq.keep hr⟩)) | (apply Wl.callQ (f := 54);exact rfl;(focus repeat constructor);(intro wq hq;refine (hPn wq (hF.hp hq (by (repeat (first | exact trivial | exact hX.off (by omega) | refine ⟨by first | assumption | omega | (simp only;omega),?_⟩))))).mono ?_;rintro e wr ⟨rfl,hr⟩;exact ⟨rfl,hq.keep hr⟩)) | (apply Wl.callQ (f := 57);exact rfl;(focus repeat constructor);(intro wq hq;have hFq := hFn2.hp hq (by (repeat (first | exact trivial | exact hX.off (by omega) | refine ⟨by first | assumption | omega | (simp only;omega),?_⟩)));with_reducible first | refine (hM1 wq hFq).mono ?_ | refine (hM2 wq hFq).mono ?_);(rintro e wr ⟨rfl,hr⟩;exact ⟨rfl,hq.keep hr⟩)) | (apply Wl.callQ (f := 56);exact rfl;(focus repeat constructor);(intro wq hq;have hFq := hF.hp hq (by (repeat (first | exact trivial | exact hX.off (by omega) | refine ⟨by first | assumption | omega | (simp only;omega),?_⟩)));with_reducible first | refine (hT1 wq hFq).mono ?_ | refine (hT2 wq hFq).mono ?_);(rintro e wr ⟨rfl,hr⟩;exact ⟨rfl,hq.keep hr⟩)) | (apply Wl.loadW;exact rfl;exact rfl;(focus repeat constructor);exact rfl) | refine Wl.move rfl rfl ?_ | refine Wl.assign rfl rfl ?_ | refine Wl.extract rfl rfl rfl ?_ | apply Wl.nil | apply St.seq | apply Gt.next
 clear hT1 hT2 hPl hPn hM1 hM2
 have hXW := poX_W A
 obtain ⟨T,hT⟩ : ∃ T,T = poX A % Prim.N256 := ⟨_,rfl⟩
 have hTW : T < W256 := by rw [hT];exact Nat.lt_trans (Nat.mod_lt _ h0N) nW
 have hRd := fun wq => refReduce (poX A) Prim.N256 wq hXW nW h0N
 rw [← hT] at hRd ⊢
 generalize poX A = XX at *
 generalize poY A = YY at *
 have hcs2 : A = none ∨ (A.isNone = false ∧ A ≠ none ∧ T = R) ∨ (A.isNone = false ∧ A ≠ none ∧ T ≠ R) := by
  cases A with
  | none => exact .inl rfl
  | some x => exact (Classical.em (T = R)).elim (fun e => .inr (.inl ⟨rfl,by simp,e⟩)) fun e => .inr (.inr ⟨rfl,by simp,e⟩)
 rcases hcs2 with hA0 | ⟨hA1,hA0,hTR⟩ | ⟨hA1,hA0,hTR⟩
 ·subst hA0
  repeat' first | (apply St.bagX 12 [11];exact mixed;(decide +kernel);kernel_rfl) | apply OpsX.nil | (apply OpsX.v;(intro X hX;change Wl [_] _ _ _ _ _ _ _;apply Wl.catX;(focus repeat constructor))) | (apply Gt.endX;exact rfl) | (apply EndX.on;exact rfl) | (apply EndX.off;exact rfl) | (apply EndX.nil';apply Wl.catE;(focus repeat constructor)) | refine Wl.move rfl rfl ?_ | refine Wl.assign rfl rfl ?_ | (apply Wl.off;exact rfl;exact rfl;exact rfl;(first | with_reducible rfl | (show _ = false;with_reducible assumption) | (show _ = true;with_reducible assumption) | decide)) | (apply Wl.pickT;exact rfl;exact rfl;(with_reducible first | rfl | assumption | decide);exact rfl) | refine Wl.not rfl rfl ?_ | apply Wl.nil | apply St.seq | apply St.region | (apply St.condT;exact rfl;(with_reducible first | rfl | assumption | decide)) | apply St.ret | apply Gt.next | apply Gt.thenRet | (apply Gt.out1;exact rfl;exact rfl;intro w' hp)
  exact ⟨by rw [if_pos (.inl rfl)],hpFin hp hu2 (by simp;omega)⟩
 all_goals rw [hA1]
 all_goals
  repeat' first | (apply St.bagX 12 [11];exact mixed;(decide +kernel);kernel_rfl) | apply OpsX.nil | (apply OpsX.v;(intro X hX;change Wl [_] _ _ _ _ _ _ _;apply Wl.catX;(focus repeat constructor))) | (apply Gt.endX;exact rfl) | (apply EndX.on;exact rfl) | (apply EndX.off;exact rfl) | (apply EndX.nil';apply Wl.catE;(focus repeat constructor)) | (apply Wl.loadM;exact rfl;exact rfl;exact hFn2.mod;(repeat (first | exact trivial | exact hX.off (by omega) | refine ⟨by first | assumption | omega | (simp only;omega),?_⟩));exact rfl) | (apply Wl.callQ (f := 51);exact rfl;(focus repeat constructor);(intro wq hq;exact hq.q (hRd wq))) | (apply Wl.neqA (t := 94);exact rfl;exact rfl;exact rfl;kernel_rfl;kernel_rfl;kernel_rfl;kernel_rfl;exact cell64 _;exact cell64 _;(first | with_reducible exact ne16 hTW hRW hTR | with_reducible exact eq16 hTR)) | (apply Wl.loadW;exact rfl;exact rfl;(focus repeat constructor);exact rfl) | refine Wl.move rfl rfl ?_ | refine Wl.assign rfl rfl ?_ | (apply Wl.on;exact rfl;exact rfl;(with_reducible first | rfl | assumption | decide)) | refine Wl.nilCheck rfl rfl ?_ | (apply Wl.pickF;exact rfl;exact rfl;(with_reducible first | rfl | assumption | decide);exact rfl) | refine Wl.not rfl rfl ?_ | refine Wl.fieldAddr0 rfl rfl ?_ | apply Wl.nil | apply St.seq | apply St.region | (apply St.condT;exact rfl;(with_reducible first | rfl | assumption | decide)) | (apply St.condF;exact rfl;(with_reducible first | rfl | assumption | decide)) | apply St.ret | apply St.skip | apply Gt.next | apply Gt.thenRet | (apply Gt.out1;exact rfl;exact rfl;intro w' hp)
 ·exact ⟨by rw [if_neg (by rintro (h | h);exact hA0 h;exact h hTR)],hpFin hp hu2 (by simp;omega)⟩
 ·exact ⟨by rw [if_pos (.inr hTR)],hpFin hp hu2 (by simp;omega)⟩
end Go.Proofs.YtmjlceimjlabpaaDoor
end
