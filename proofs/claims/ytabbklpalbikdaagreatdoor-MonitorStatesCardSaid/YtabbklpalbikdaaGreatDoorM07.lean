/-
 8 texts,one behind the other;each says what it proves. Conditions: as each text says.
-/
import Derived.Test.YtabbklpalbikdaaGreatDoorM03
import Derived.Test.YtabbklpalbikdaaGreatDoorM02
import Derived.Test.YtabbklpalbikdaaGreatDoorM06
import Derived.Test.YtabbklpalbikdaaGreatDoorM05
set_option maxHeartbeats 32000000
set_option linter.unusedVariables false
set_option linter.unusedSimpArgs false
section
namespace Go.Pt
open Go.RowKit
section
variable {P : Program} {md : Md} {N : Nat} {ops : Array Oper} {rest : List Oper} {Γ : Env} {C : World → Prop} {Q : Exit → Act → World → Prop} {d : Nat} {ty t u : TypeId} {pos : String} {af : Array Edge}
theorem Wl.indexSJ {x i : Operand} {q : IntKind} {s : ByteArray} {jj z : Int} (j : Nat) (b : UInt8) [ht : TyD P t .string] (hd : Nat.blt d N = true) (hx : ev Γ x = some (.string s)) (hi : ev Γ i = some (.int q jj)) (hj : jj = (j : Int)) (hb : s[j]? = some b) (hz : (b.toNat : Int) = z) (h : Wl rest P md ops N ((d,.int .u8 z) :: Γ) C Q) : Wl (⟨some d,.index t x i,ty,pos,af,none⟩ :: rest) P md ops N Γ C Q := by
 subst hz hj
 exact Wl.val hd (fun a w ha _ => by
  simp [execOp,ha.ev hx,ha.ev hi,Instr.index,asIntOf,run_underlying ht.out,hb]) h
end
end Go.Pt
namespace Go.Proofs.YtabbklpalbikdaaGreatDoor
open Go.RowKit Go.Pt
theorem _root_.Go.Pt.Hp.keep1 {w w' : World} {a b : Blk} (h : Hp w [a,b] w') (hb : w.heap.size ≤ b.b) : Hp w [a] w' := ⟨h.upd.mono fun k hk hn ho => hn ⟨ho.1,fun e => by omega,trivial⟩,⟨h.own.1,trivial⟩,⟨trivial,trivial⟩⟩
instance entOnes : Ent Tryz.prog 145 := ent_of Tryz.func145 zg zg
theorem onesX (x : Int) (hx : x = 4096 ∨ x = 32) (w : World) : Calls Tryz.prog 145 #[.int .u32 x] w fun e w' => e = .returned (.int .i64 1) ∧ Hp w [] w' := by
 refine enter (args := [_]) (Γ := [(0,_)]) Tryz.func145 Tryz.ntmps145 rfl odq (.cons rfl .nil) ?_
 rcases hx with rfl | rfl
 all_goals repeat' first | (apply Wl.indexSJ 0 0;exact rfl;exact rfl;exact rfl;(decide +kernel);(decide +kernel);exact rfl) | (apply Wl.indexSJ 16 1;exact rfl;exact rfl;exact rfl;(decide +kernel);(decide +kernel);exact rfl) | (apply Wl.indexSJ 32 1;exact rfl;exact rfl;exact rfl;(decide +kernel);(decide +kernel);exact rfl) | refine Wl.move rfl rfl ?_ | refine Wl.assign rfl rfl ?_ | refine Wl.add rfl rfl rfl ?_ | refine Wl.and rfl rfl rfl ?_ | (refine Wl.shr rfl rfl rfl ?_ ?_;omega) | refine Wl.convI rfl rfl ?_ | apply Wl.nil | apply Wl.nilQ | apply St.seq | apply St.region | (apply St.draw;exact mixed;(kernel_rfl);exact (fun _ h => Hp.drew h)) | apply St.ret | apply Gt.next | (apply Gt.out1;exact rfl;exact rfl;intro w' hp)
 all_goals exact ⟨rfl,hp⟩
def napA (s z : Int) : Int := bits .or .u32 (s.fdiv (2 ^ min (Int.toNat 2) IntKind.u32.bits)) (IntKind.u32.wrap (z.fdiv (2 ^ min (Int.toNat 3) IntKind.u32.bits) - 1))
theorem oneX (s z r : Int) (hz : z = 4096 ∨ z = 32) (hs : s.tmod z = 0) (w : World) : Calls Tryz.prog 106 #[.agg #[.int .u32 s,.int .u32 z,.int .i64 r]] w fun e w' => ∃ b,e = .returned (.slice (some ⟨b,0,none⟩) 1 1) ∧ Hp w [⟨b,[.int .i64 3,.int .i64 r,.int .u32 (napA s z)],160⟩] w' ∧ w.heap.size ≤ b := by
 have hz0 : z ≠ 0 := by omega
 have hd1 : decide (z = 4) = false := decide_eq_false ky
 have hd2 : decide (s.tmod z = 0) = true := decide_eq_true hs
 refine enter (args := [_]) (Γ := [(0,_)]) Tryz.func106 Tryz.ntmps106 rfl odq (.cons rfl .nil) ?_
 apply St.seq
 apply St.region
 apply Wl.boxA
 ·exact rfl
 ·exact rfl
 intro c1 hc1 ho1
 repeat' first | refine Wl.assign rfl rfl ?_ | refine Wl.fieldAddr0 rfl rfl ?_ | refine Wl.fieldAddrZ rfl rfl ?_ | (apply Wl.loadH;exact rfl;exact rfl;exact ke;exact rfl) | refine Wl.eql rfl rfl rfl ?_ | (refine Wl.shr rfl rfl rfl ?_ ?_;omega) | apply Wl.nil | apply St.seq | apply St.block | apply St.region | (apply St.condF;exact rfl;exact ka) | apply Gt.next
 apply Wl.callQ
 exact rfl
 (focus repeat constructor)
 ·intro wq hq
  exact hq.q (onesX z hz wq)
 repeat' first | refine Wl.move rfl rfl ?_ | refine Wl.assign rfl rfl ?_ | (apply Wl.on;exact rfl;exact rfl;exact ka) | (apply Wl.pickT;exact rfl;exact rfl;exact ka;exact rfl) | refine Wl.fieldAddr0 rfl rfl ?_ | refine Wl.fieldAddrZ rfl rfl ?_ | (apply Wl.loadH;exact rfl;exact rfl;exact ke;exact rfl) | (apply Wl.eqlIs;exact rfl;exact rfl;exact rfl;exact kv) | refine Wl.sub' rfl rfl rfl ?_ | (apply Wl.rem;exact rfl;exact rfl;exact rfl;exact qx) | refine Wl.or rfl rfl rfl ?_ | (refine Wl.shr rfl rfl rfl ?_ ?_;omega) | (apply Wl.buildS;exact rfl;exact ki;exact kc) | (apply Wl.lit;exact rfl;exact ki;exact rfl;exact rfl;exact kj;intro c hc ho) | apply Wl.nil | apply St.seq | apply St.region | (apply St.condT;exact rfl;exact ka) | apply St.ret | apply Gt.next | apply Gt.thenRet | apply Gt.inRet | (apply Gt.out1;exact rfl;exact rfl;intro w' hp)
 refine ⟨_,rfl,?_,by assumption⟩
 exact hp.keep1 hc1
def gr3 (at_ : Int) (k : Nat) : Int × Int × Int := match k with
 | 0 => (at_,4096,5)
 | 1 => (IntKind.u32.wrap (at_ + 4096),4096,3)
 | _ => (IntKind.u32.wrap (at_ + 8192),32,1)
def en4 (at_ : Int) (k : Nat) : Int × Int × Int := match k with
 | 0 => (3,5,napA (gr3 at_ 0).1 4096)
 | 1 => (3,3,napA (gr3 at_ 1).1 4096)
 | 2 => (3,1,napA (gr3 at_ 2).1 32)
 | _ => (3,0,536870911)
def enC (e : Int × Int × Int) : List Value := [.int .i64 e.1,.int .i64 e.2.1,.int .u32 e.2.2]
def enR (at_ : Int) (n : Nat) : List Value := ((List.range n).map fun k => enC (en4 at_ k)).flatten
theorem enR_succ (at_ : Int) (n : Nat) : enR at_ (n + 1) = enR at_ n ++ enC (en4 at_ n) := by simp [enR,List.range_succ]
def biasI (i : Nat) : Int := 2147487744 + 12288 * i
theorem gr3_ok {i : Nat} (hi : i < 3) {k : Nat} (hk : k < 3) : ((gr3 (biasI i) k).2.1 = 4096 ∨ (gr3 (biasI i) k).2.1 = 32) ∧ (gr3 (biasI i) k).1.tmod (gr3 (biasI i) k).2.1 = 0 ∧ (0 ≤ (gr3 (biasI i) k).1 ∧ (gr3 (biasI i) k).1 < 2147549184) ∧ (gr3 (biasI i) k).1.tmod 4 = 0 ∧ (gr3 (biasI i) k).2.1.tmod 4 = 0 ∧ (1 ≤ (gr3 (biasI i) k).2.2 ∧ (gr3 (biasI i) k).2.2 ≤ 7) ∧ en4 (biasI i) k = (3,(gr3 (biasI i) k).2.2,napA (gr3 (biasI i) k).1 (gr3 (biasI i) k).2.1) := by
 have h : i = 0 ∨ i = 1 ∨ i = 2 := by omega
 have h' : k = 0 ∨ k = 1 ∨ k = 2 := by omega
 rcases h with rfl | rfl | rfl <;> rcases h' with rfl | rfl | rfl <;> exact ⟨by decide,by decide,by decide,by decide,by decide,by decide,rfl⟩
def GrF (w : World) (gb : Nat) (at_ : Int) : Prop := ∀ k : Nat,k < 3 → w.cell? ⟨gb,0 + k * 3,none⟩ = some (.int .u32 (gr3 at_ k).1) ∧ w.cell? ⟨gb,0 + k * 3 + 1,none⟩ = some (.int .u32 (gr3 at_ k).2.1) ∧ w.cell? ⟨gb,0 + k * 3 + 2,none⟩ = some (.int .i64 (gr3 at_ k).2.2)
theorem planX (i : Nat) (hi : i < 3) (gb gc : Nat) (w : World) (hG : GrF w gb (biasI i)) :
  Calls Tryz.prog 55 #[.slice (some ⟨gb,0,none⟩) 3 gc] w fun e w' => ∃ eb ec,e = .returned (.tuple #[.slice (some ⟨eb,0,none⟩) 4 ec,.int .i64 0]) ∧ EntX w' (some ⟨eb,0,none⟩) 4 (en4 (biasI i)) ∧ w.heap.size ≤ eb ∧ (∃ cs : List Value,w'.heap[eb]? = some (.cells cs.toArray 160 (0,0))) ∧ Upd (fun k => w.heap.size ≤ k) w w' := by
 have hgl : gb < w.heap.size := cell_old (hG 0 ze).1
 refine enter (args := [_]) (Γ := [(0,_)]) Tryz.func55 Tryz.ntmps55 rfl odq (.cons rfl .nil) ?_
 repeat' first | refine Wl.move rfl rfl ?_ | refine Wl.assign rfl rfl ?_ | refine Wl.len rfl rfl ?_ | apply Wl.nil | apply St.seq | apply St.block | apply St.region | apply Gt.next
 refine St.loop (σ := Nat × World × Value) (fun τ => τ.1 ≤ 3 ∧ Upd (fun k => w.heap.size ≤ k) w τ.2.1 ∧ τ.2.1.ownsRow w.heap.size 160 3 τ.2.2 τ.1 (enR (biasI i) τ.1))
  (fun τ => [(2,.slice none 0 0),(3,.int .i64 0),(4,τ.2.2),(7,.slice (some ⟨gb,0,none⟩) 3 gc),(8,.int .i64 3),(9,.int .i64 (τ.1 : Int))]) (fun τ => Hp τ.2.1 []) (fun τ => 3 - τ.1) (0,w,.slice none 0 0) ⟨Nat.zero_le _,Upd.refl _ _,World.ownsRow_nil w _ _ _⟩ kw (fun _ h => h) ?_
 rintro ⟨k,w0,v⟩ ⟨hk,hu0,hv⟩
 simp only at hk hu0 hv ⊢
 have s0 := hu0.size
 by_cases hlt : k < 3
 ·have hd : decide ((k : Int) < 3) = true := decide_eq_true ky
  obtain ⟨g1,g2,g3⟩ := hG k hlt
  obtain ⟨o1,o2,o3,o4,o5,o6,o7⟩ := gr3_ok hi hlt
  generalize gr3 (biasI i) k = gk at *
  obtain ⟨gs,gz,gr⟩ := gk
  simp only at g1 g2 g3 o1 o2 o3 o4 o5 o6 o7
  have hg0 : ∀ j v,[Value.int .u32 gs,.int .u32 gz,.int .i64 gr][j]? = some v → w0.cell? ⟨gb,0 + (k : Int).toNat * 3 + j,none⟩ = some v := by
   intro j v hj
   rw [Int.toNat_natCast]
   match j,hj with
   | 0,hj => cases hj;exact hu0.cell g1 q7
   | 1,hj => cases hj;exact hu0.cell g2 q7
   | 2,hj => cases hj;exact hu0.cell g3 q7
  have c1 : decide (gs.tmod 4 ≠ 0) = false := by rw [o4];decide
  have c2 : decide (gz.tmod 4 ≠ 0) = false := by rw [o5];decide
  have c3 : decide (gz = 0) = false := decide_eq_false ky
  have c4 : decide (gs + gz > 4294967296) = false := decide_eq_false ky
  have c5 : decide (gr < 1) = false := decide_eq_false ky
  have c6 : decide (gr > 7) = false := decide_eq_false ky
  repeat' first | (apply Wl.loadAB (xs := [Value.int .u32 gs,.int .u32 gz,.int .i64 gr]);exact rfl;exact rfl;(intro j v hj;exact hg0 j v hj);exact kh;exact rfl) | refine Wl.move rfl rfl ?_ | (apply Wl.on;exact rfl;exact rfl;exact ka) | (apply Wl.pickF;exact rfl;exact rfl;exact ka;exact rfl) | refine Wl.fieldAddr0 rfl rfl ?_ | refine Wl.fieldAddrZ rfl rfl ?_ | (apply Wl.loadH;exact rfl;exact rfl;exact ke;exact rfl) | (apply Wl.neqIs;exact rfl;exact rfl;exact rfl;exact kv) | refine Wl.eql rfl rfl rfl ?_ | refine Wl.lss rfl rfl rfl ?_ | refine Wl.gtr rfl rfl rfl ?_ | (refine Wl.addU rfl rfl rfl ?_ ?_;constructor <;> omega) | (apply Wl.rem;exact rfl;exact rfl;exact rfl;exact qx) | (refine Wl.convU64 rfl rfl ?_ ?_;constructor <;> omega) | (apply Wl.storeA;exact rfl;exact rfl;exact rfl;exact rfl;exact ke;exact kf) | (apply Wl.loadAH;exact rfl;exact rfl;exact ke;exact ke) | (apply Wl.alloc;exact rfl;intro c hc ho) | (refine Wl.indexAddr rfl rfl rfl ?_ ?_;constructor <;> omega) | apply Wl.nil | apply St.seq | apply St.block | apply St.region | (apply St.condT;exact rfl;exact ka) | (apply St.condF;exact rfl;exact ka) | apply St.skip | apply Gt.next
  apply Wl.callC
  ·exact rfl
  ·exact ke
  intro wq hq
  have zq := hq.upd.size
  refine (oneX gs gz gr o1 o2 wq).mono ?_
  rintro e w1 ⟨b,rfl,hp1,hb⟩
  refine ⟨_,_,rfl,hq.callNew hp1 hb,?_⟩
  apply Wl.appendT (base := w.heap.size) (n := k) (m := 1) (sz := 3) (e := 160) (xs := enR (biasI i) k)
  ·exact rfl
  ·exact rfl
  ·exact rfl
  ·omega
  ·exact rfl
  ·exact hv
  ·exact fun j hj => ⟨fun e => by have := (hv.ge j hj).2;simp only at e;omega,trivial⟩
  ·exact rfl
  ·exact rfl
  ·decide
  ·unfold maxLen;omega
  ·omega
  ·exact s0
  intro v' w2 ho2 u2 _ hoff2
  repeat' first | refine Wl.move rfl rfl ?_ | refine Wl.assign rfl rfl ?_ | (refine Wl.addI rfl rfl rfl ?_ ?_;constructor <;> omega) | apply Wl.nil | apply St.region | apply Gt.next | apply Gt.inNormal
  refine Gt.reb (H' := []) fun w3 h3 => ⟨trivial,trivial,?_⟩
  refine Gt.round (k + 1,w3,v') ⟨by simp only;omega,?_,?_⟩ q7 kw (fun _ h => h)
  ·refine hu0.comp (u2.comp h3.upd (T := fun k => w.heap.size ≤ k) fun j hj hs => ?_) fun j hj hs => hs.elim id id
   have key : ¬ Off [⟨c,[],0⟩] j → w.heap.size ≤ j := fun hn => Classical.byContradiction fun hc => hn ⟨fun e => by simp only at e;omega,trivial⟩
   exact hs.elim (fun hs => hs.elim (fun h => (hv.ge j h).1) key) key
  ·simp only
   rw [enR_succ,o7]
   exact ownsRow_upd ho2 h3.upd fun j hj y => y (hoff2 j hj).1
 ·obtain rfl : k = 3 := by omega
  have hd : decide (((3 : Nat) : Int) < 3) = false := by decide
  repeat' first | refine Wl.move rfl rfl ?_ | refine Wl.lss rfl rfl rfl ?_ | (apply Wl.buildS;exact rfl;exact ki;exact kc) | (apply Wl.lit;exact rfl;exact ki;exact rfl;exact rfl;exact kj;intro c hc ho) | apply Wl.nil | apply St.seq | apply St.region | (apply St.condF;exact rfl;exact ka) | apply St.exit | apply Gt.next | apply Gt.thenExit | apply Gt.inExit
  apply Wl.appendT (base := w.heap.size) (n := 3) (m := 1) (sz := 3) (e := 160) (xs := enR (biasI i) 3)
  ·exact rfl
  ·exact rfl
  ·exact rfl
  ·assumption
  ·exact rfl
  ·exact hv
  ·exact fun j hj => trivial
  ·exact rfl
  ·exact rfl
  ·decide
  ·unfold maxLen;omega
  ·omega
  ·exact s0
  intro v' w2 ho2 u2 _ hoff2
  have ho2' : w2.ownsRow w.heap.size 160 3 v' 4 (enR (biasI i) 4) := by rw [enR_succ];exact ho2
  obtain ⟨eb,ec,J,rfl,hge,hblk⟩ := ho2'.blk ze
  have s2 := u2.size
  have hd4 : decide ((4 : Int) > 16) = false := by decide
  repeat' first | refine Wl.move rfl rfl ?_ | refine Wl.assign rfl rfl ?_ | refine Wl.gtr rfl rfl rfl ?_ | refine Wl.len rfl rfl ?_ | apply Wl.nil | apply St.seq | apply St.region | (apply St.condF;exact rfl;exact ka) | apply St.ret | apply St.skip | apply Gt.next | (apply Gt.out2;exact rfl;exact rfl;exact rfl;intro w' hp)
  refine ⟨eb,ec,rfl,?_,hge,?_,?_⟩
  ·intro j hj
   have h4 : j = 0 ∨ j = 1 ∨ j = 2 ∨ j = 3 := by omega
   have hb := hp.upd.heap hblk fun y => y (hoff2 eb rfl).1
   have ha : ∀ q v,(enR (biasI i) 4)[q]? = some v → w'.cell? ⟨eb,q,none⟩ = some v := fun q v hq => cell_of hb (by rw [List.getElem?_append_left (List.getElem?_eq_some_iff.1 hq).1];exact hq)
   refine ⟨eb,0,rfl,?_⟩
   rcases h4 with rfl | rfl | rfl | rfl <;> exact ⟨ha _ _ rfl,ha _ _ rfl,ha _ _ rfl⟩
  ·exact ⟨_,hp.upd.heap hblk fun y => y (hoff2 eb rfl).1⟩
  ·refine hu0.comp (u2.comp hp.upd (T := fun k => w.heap.size ≤ k) fun j hj hs => ?_) fun j hj hs => hs.elim id id
   exact hs.elim (fun hs => hs.elim (fun h => (hv.ge j h).1) fun hn => (hn trivial).elim) fun hn => (hn trivial).elim
def dgK (i k : Nat) : List Value := (List.range 32).map fun q => .int .u8 (if q < k then IntKind.u8.wrap ((q : Int) * q + i) else 0)
theorem dgK_len (i k : Nat) : (dgK i k).length = 32 := by simp [dgK]
theorem dgK_set (i : Nat) {k : Nat} (hk : k < 32) : (dgK i k).set k (.int .u8 (IntKind.u8.wrap ((k : Int) * k + i))) = dgK i (k + 1) := by
 refine List.ext_getElem? fun q => ?_
 rw [List.getElem?_set]
 by_cases h : q < 32
 ·by_cases e : k = q
  ·subst e
   rw [if_pos rfl,if_pos (by rw [dgK_len];exact h)]
   simp [dgK,h]
  ·rw [if_neg e]
   have h2 : (q < k + 1) = (q < k) := by apply propext;omega
   simp [dgK,h,h2]
 ·rw [if_neg ky,List.getElem?_eq_none (by rw [dgK_len];omega),List.getElem?_eq_none (by rw [dgK_len];omega)]
def dgL (i : Nat) : List UInt8 := (List.range 32).map fun q => UInt8.ofNat (q * q + i)
theorem dgL_len (i : Nat) : (dgL i).length = 32 := by simp [dgL]
theorem dgL_cells {i : Nat} (hi : i < 3) : dgK i 32 = byteCells (dgL i) := by
 have h : i = 0 ∨ i = 1 ∨ i = 2 := by omega
 rcases h with rfl | rfl | rfl <;> rfl
def payX (i g : Nat) (ca : Int) : List Value := byteCells (dgL i) ++ [.int .u32 0,.int .u32 (biasI i),.slice (some ⟨g,0,none⟩) 3 3,.int .i64 ca]
theorem payX_len (i g : Nat) (ca : Int) : (payX i g ca).length = 36 := by simp [payX,byteCells_length,dgL_len]
def payRs (gs : Nat → Nat) (ca : Nat → Int) (n : Nat) : List (List Value) := (List.range n).map fun j => payX j (gs j) (ca j)
theorem payRs_succ (gs : Nat → Nat) (ca : Nat → Int) (n : Nat) : (payRs gs ca (n + 1)).flatten = (payRs gs ca n).flatten ++ payX n (gs n) (ca n) := by simp [payRs,List.range_succ]
theorem payRs_gs (gs gs' : Nat → Nat) (ca : Nat → Int) (n : Nat) (h : ∀ j,j < n → gs j = gs' j) : payRs gs ca n = payRs gs' ca n := by
 unfold payRs
 refine List.map_congr_left fun j hj => ?_
 rw [h j (List.mem_range.1 hj)]
def grC (at_ : Int) : List Value := [.int .u32 at_,.int .u32 4096,.int .i64 5,.int .u32 (IntKind.u32.wrap (at_ + 4096)),.int .u32 4096,.int .i64 3,.int .u32 (IntKind.u32.wrap (at_ + 8192)),.int .u32 32,.int .i64 1]
theorem grF {w : World} {g : Nat} {at_ : Int} (h : w.heap[g]? = some (.cells (grC at_).toArray 180 (0,0))) : GrF w g at_ := fun k hk => by
 have h' : k = 0 ∨ k = 1 ∨ k = 2 := by omega
 rcases h' with rfl | rfl | rfl <;> exact ⟨cell_of h rfl,cell_of h rfl,cell_of h rfl⟩
theorem payloads (n : Nat) (hn : n ≤ 3) (w : World) :
  Calls Tryz.prog 39 #[.int .i64 (n : Int)] w fun e w' => ∃ v gs,e = .returned v ∧ w'.ownsRow w.heap.size 116 36 v n (payRs gs (fun _ => 255) n).flatten ∧ (∀ j,j < n → w.heap.size ≤ gs j ∧ w'.heap[gs j]? = some (.cells (grC (biasI j)).toArray 180 (0,0))) ∧ Upd (fun k => w.heap.size ≤ k) w w' := by
 refine enter (args := [_]) (Γ := [(0,_)]) Tryz.func39 Tryz.ntmps39 rfl odq (.cons rfl .nil) ?_
 repeat' first | refine Wl.move rfl rfl ?_ | refine Wl.assign rfl rfl ?_ | apply Wl.nil | apply St.seq | apply St.block | apply St.region | apply Gt.next
 refine St.loop (σ := Nat × World × Value × (Nat → Nat)) (fun τ => τ.1 ≤ n ∧ Upd (fun k => w.heap.size ≤ k) w τ.2.1 ∧ τ.2.1.ownsRow w.heap.size 116 36 τ.2.2.1 τ.1 (payRs τ.2.2.2 (fun _ => 255) τ.1).flatten ∧ (∀ j,j < τ.1 → w.heap.size ≤ τ.2.2.2 j ∧ τ.2.1.heap[τ.2.2.2 j]? = some (.cells (grC (biasI j)).toArray 180 (0,0))))
  (fun τ => [(3,τ.2.2.1),(8,.int .i64 (n : Int)),(9,.int .i64 (τ.1 : Int))]) (fun τ => Hp τ.2.1 []) (fun τ => n - τ.1) (0,w,.slice none 0 0,fun _ => 0) ⟨Nat.zero_le _,Upd.refl _ _,World.ownsRow_nil w _ _ _,fun j hj => by cases hj⟩ kw (fun _ h => h) ?_
 rintro ⟨i,w0,v,gs⟩ ⟨hi,hu0,hv,hg⟩
 simp only at hi hu0 hv hg ⊢
 have s0 := hu0.size
 by_cases hlt : i < n
 ·have hd : decide ((i : Int) < (n : Int)) = true := decide_eq_true ky
  have hi3 : i < 3 := by omega
  repeat' first | refine Wl.move rfl rfl ?_ | refine Wl.assign rfl rfl ?_ | refine Wl.lss rfl rfl rfl ?_ | (refine Wl.addI rfl rfl rfl ?_ ?_;constructor <;> omega) | (refine Wl.mulI rfl rfl rfl ?_ ?_;constructor <;> omega) | refine Wl.add rfl rfl rfl ?_ | (refine Wl.convU32 rfl rfl ?_ ?_;constructor <;> omega) | (apply Wl.storeA;exact rfl;exact rfl;exact rfl;exact rfl;exact ke;exact kf) | (apply Wl.buildS;exact rfl;exact ki;exact kc) | (apply Wl.lit;exact rfl;exact ki;exact rfl;exact rfl;exact kj;intro c hc ho) | (apply Wl.alloc;exact rfl;intro c hc ho) | apply Wl.nil | apply St.seq | apply St.block | apply St.region | (apply St.condT;exact rfl;exact ka) | apply St.skip | apply Gt.next
  rename_i g hcg hog
  generalize c = c6 at *
  have hc6 : w0.heap.size ≤ c6 := by assumption
  refine St.loop (σ := Nat) (fun k => k ≤ 32) (fun k => [(3,v),(4,.int .i64 (i : Int)),(6,.pointer (some ⟨c6,0,none⟩)),(8,.int .i64 (n : Int)),(9,.int .i64 (i : Int)),(27,.int .i64 (k : Int))])
   (fun k => Hp w0 [⟨c6,dgK i k ++ [.int .u32 0,.int .u32 (biasI i),.slice (some ⟨g,0,none⟩) 3 3,.int .i64 255],116⟩,⟨g,grC (biasI i),180⟩]) (fun k => 32 - k) 0 qs kw (fun _ h => h) ?_
  intro k hk
  by_cases hk2 : k < 32
  ·have hd2 : decide ((k : Int) < 32) = true := decide_eq_true ky
   have hkk : (k : Int) * k ≤ 1024 ∧ 0 ≤ (k : Int) * k := ⟨by have : (k : Int) * k ≤ 32 * 32 := Int.mul_le_mul ky ky ky ky;omega,Int.mul_nonneg ky ky⟩
   have hset : LSet (dgK i k ++ [.int .u32 0,.int .u32 (biasI i),.slice (some ⟨g,0,none⟩) 3 3,.int .i64 255]) (0 + (k : Int).toNat * 1) (.int .u8 (IntKind.u8.wrap ((k : Int) * k + i))) (dgK i (k + 1) ++ [.int .u32 0,.int .u32 (biasI i),.slice (some ⟨g,0,none⟩) 3 3,.int .i64 255]) := by
    rw [Int.toNat_natCast,Nat.zero_add,Nat.mul_one,← dgK_set i hk2]
    exact LSet.left (by rw [dgK_len];exact hk2)
   repeat' first | (apply Wl.store;exact rfl;exact rfl;exact rfl;exact ke;exact hset) | refine Wl.move rfl rfl ?_ | refine Wl.assign rfl rfl ?_ | refine Wl.fieldAddr0 rfl rfl ?_ | refine Wl.lss rfl rfl rfl ?_ | (refine Wl.addI rfl rfl rfl ?_ ?_;constructor <;> omega) | (refine Wl.mulI rfl rfl rfl ?_ ?_;constructor <;> omega) | refine Wl.convI rfl rfl ?_ | (refine Wl.indexArr rfl rfl rfl ?_ ?_;constructor <;> omega) | apply Wl.nil | apply St.seq | apply St.block | apply St.region | (apply St.condT;exact rfl;exact ka) | apply St.skip | apply Gt.next | apply Gt.inNormal
   refine Gt.round (k + 1) ky ky kw (fun _ h => h)
  ·obtain rfl : k = 32 := by omega
   have hd2 : decide (((32 : Nat) : Int) < 32) = false := by decide
   repeat' first | (apply Wl.loadAH (xs := payX i g 255);exact rfl;exact rfl;exact ke;(rw [dgL_cells hi3];exact LSub.whole' (payX_len i g 255))) | refine Wl.move rfl rfl ?_ | refine Wl.lss rfl rfl rfl ?_ | (apply Wl.lit;exact rfl;exact ki;exact rfl;exact rfl;exact kj;intro c hc ho) | apply Wl.nil | apply St.seq | apply St.region | (apply St.condF;exact rfl;exact ka) | apply St.exit | apply Gt.next | apply Gt.thenExit | apply Gt.inExit
   apply Wl.appendT (base := w.heap.size) (n := i) (m := 1) (sz := 36) (e := 116) (xs := (payRs gs (fun _ => 255) i).flatten)
   ·exact rfl
   ·exact rfl
   ·exact rfl
   ·omega
   ·exact rfl
   ·exact hv
   ·exact fun j hj => ⟨fun e => by have := (hv.ge j hj).2;simp only at e;omega,fun e => by have := (hv.ge j hj).2;simp only at e;omega,trivial⟩
   ·exact rfl
   ·exact rfl
   ·decide
   ·unfold maxLen;omega
   ·omega
   ·exact s0
   intro v' w2 ho2 u2 _ hoff2
   repeat' first | refine Wl.move rfl rfl ?_ | refine Wl.assign rfl rfl ?_ | (refine Wl.addI rfl rfl rfl ?_ ?_;constructor <;> omega) | apply Wl.nil | apply St.region | apply Gt.next | apply Gt.inNormal
   refine Gt.reb (H' := []) fun w3 h3 => ⟨trivial,trivial,?_⟩
   have key : ∀ j,¬ Off [⟨c6,[],0⟩,⟨g,[],0⟩] j → w0.heap.size ≤ j := fun j hn => Classical.byContradiction fun hc => hn ⟨fun e => by simp only at e;omega,fun e => by simp only at e;omega,trivial⟩
   have hu3 : Upd (fun k => w.heap.size ≤ k) w w3 := by
    refine hu0.comp (u2.comp h3.upd (T := fun k => w.heap.size ≤ k) fun j hj hs => ?_) fun j hj hs => hs.elim id id
    exact hs.elim (fun hs => hs.elim (fun h => (hv.ge j h).1) fun h => Nat.le_trans s0 (key j h)) fun h => Nat.le_trans s0 (key j h)
   refine Gt.round (i + 1,w3,v',fun j => if j = i then g else gs j) ⟨by simp only;omega,hu3,?_,?_⟩ q7 kw (fun _ h => h)
   ·simp only
    rw [payRs_succ,if_pos rfl,payRs_gs _ gs _ i (fun j hj => if_neg ky)]
    exact ownsRow_upd ho2 h3.upd fun j hj y => y (hoff2 j hj).1
   ·intro j hj
    simp only
    by_cases e : j = i
    ·rw [if_pos e,e]
     exact ⟨by omega,h3.own.at (.tail _ (.head _))⟩
    ·rw [if_neg e]
     obtain ⟨h1,h2⟩ := hg j (by simp only at hj;omega)
     have hl := lt_of_block h2
     have hne : v.ownBlock ≠ some (gs j) := fun hk => (hv.heap hk).elim fun _ hb => by rw [hb] at h2;cases h2
     refine ⟨h1,(h3.upd.heap (u2.heap h2 fun hs => hs.elim hne fun h => by have := key _ h;omega) fun h => by have := key _ h;omega)⟩
 ·obtain rfl : i = n := by omega
  have hd : decide ((i : Int) < (i : Int)) = false := decide_eq_false ky
  repeat' first | refine Wl.move rfl rfl ?_ | refine Wl.assign rfl rfl ?_ | refine Wl.lss rfl rfl rfl ?_ | apply Wl.nil | apply St.seq | apply St.region | (apply St.condF;exact rfl;exact ka) | apply St.ret | apply St.exit | apply Gt.next | apply Gt.thenExit | apply Gt.inExit | (apply Gt.out1;exact rfl;exact rfl;intro w' hp)
  exact ⟨v,gs,rfl,ownsRow_upd hv hp.upd fun _ _ y => y trivial,fun j hj => ⟨(hg j hj).1,hp.upd.heap (hg j hj).2 fun y => y trivial⟩,hu0.comp hp.upd fun k _ hs => hs.elim id fun y => (y trivial).elim⟩
def RW (w : World) (base c n : Nat) : Prop := ∃ rv xs,w.heap[c]? = some (.cells #[rv,.slice none 0 0] 167 (0,0)) ∧ w.ownsRow base 169 36 rv n xs
theorem RW.upd {w w' : World} {base c n : Nat} {S : Nat → Prop} (h : RW w base c n) (u : Upd S w w') (hc : ¬ S c) (hs : ∀ k,base ≤ k → k < w.heap.size → ¬ S k) : RW w' base c n := by
 obtain ⟨rv,xs,h1,h2⟩ := h
 exact ⟨rv,xs,u.heap h1 hc,ownsRow_upd h2 u fun k hk => hs k (h2.ge k hk).1 (h2.ge k hk).2⟩
theorem rwNew (a : Option Addr) (n cap : Nat) (p : Nat → Int) (w : World) (hn : n ≤ 4) (hA : WordF w a n p) :
  Calls Tryz.prog 107 #[.slice a n cap] w fun e w' => ∃ c,e = .returned (.pointer (some ⟨c,0,none⟩)) ∧ RW w' w.heap.size c n ∧ w.heap.size ≤ c ∧ Upd (fun k => w.heap.size ≤ k) w w' := by
 refine enter (args := [_]) (Γ := [(0,_)]) Tryz.func107 Tryz.ntmps107 rfl odq (.cons rfl .nil) ?_
 repeat' first | refine Wl.assign rfl rfl ?_ | (apply Wl.buildS;exact rfl;exact ki;exact kc) | (apply Wl.boxA;exact rfl;exact rfl;intro c hc ho) | apply Wl.nil | apply St.seq | apply St.block | apply St.region | apply Gt.next
 generalize c = c3 at *
 have hc3 : w.heap.size ≤ c3 := by assumption
 refine St.loop (σ := Nat × World × Value × List Value) (fun τ => τ.1 ≤ n ∧ Upd (fun k => w.heap.size ≤ k) w τ.2.1 ∧ τ.2.1.ownsRow w.heap.size 169 36 τ.2.2.1 τ.1 τ.2.2.2 ∧ ∀ k,τ.2.2.1.ownBlock = some k → k ≠ c3)
  (fun τ => [(0,.slice a n cap),(3,.pointer (some ⟨c3,0,none⟩)),(4,.int .i64 (τ.1 : Int))]) (fun τ => Hp τ.2.1 [⟨c3,[τ.2.2.1,.slice none 0 0],167⟩]) (fun τ => n - τ.1) (0,w,.slice none 0 0,[]) ⟨Nat.zero_le _,Upd.refl _ _,World.ownsRow_nil w _ _ _,fun k hk => by cases hk⟩ kw (fun _ h => h) ?_
 rintro ⟨i,w0,v,xs⟩ ⟨hi,hu0,hv,hoff⟩
 simp only at hi hu0 hv hoff ⊢
 have s0 := hu0.size
 by_cases hlt : i < n
 ·have hd : decide ((i : Int) < (n : Int)) = true := decide_eq_true ky
  obtain ⟨b,o,rfl,hc,_⟩ := hA i hlt
  have hbl : b < w.heap.size := World.block_lt_of_cell? w _ hc
  have hb : w0.cell? ⟨b,o + (i : Int).toNat,none⟩ = some (.int .u32 (p i)) := by
   rw [Int.toNat_natCast]
   exact hu0.cell hc (Nat.not_le.2 hbl)
  repeat' first | refine Wl.move rfl rfl ?_ | refine Wl.lss rfl rfl rfl ?_ | refine Wl.len rfl rfl ?_ | apply Wl.nil | apply St.seq | apply St.block | apply St.region | (apply St.condT;exact rfl;exact ka) | apply St.skip | apply Gt.next
  refine St.tree (fun w' => w'.cell? ⟨b,o + (i : Int).toNat,none⟩ = some (.int .u32 (p i))) mixed (fun _ h' => ⟨Hp.drew h',(Hp.drew h').upd.cell hb fun y => y ⟨by simp only;omega,trivial⟩⟩) ?_
  refine Mt.pm 0 ?_
  refine Mt.pm 1 ?_
  refine Mt.pm 5 ?_
  refine Mt.pm 6 ?_
  refine Mt.pm 7 ?_
  refine Mt.pn 2 ?_
  refine Mt.pu 8 ?_
  refine Wl.indexAddr1 rfl rfl rfl ?_ ?_;constructor <;> omega;apply Wl.nilB
  refine Mt.pf 3 ?_
  refine Mt.pu 9 ?_
  apply Wl.loadF;exact rfl;exact rfl;(intro w' h';exact h');apply Wl.nilB
  refine Mt.pu 10 ?_
  apply Wl.buildS;exact rfl;exact ki;exact kc;apply Wl.nilB
  refine Mt.pu 11 ?_
  apply Wl.buildS;exact rfl;exact ki;exact kc;apply Wl.nilB
  refine Mt.eff2 (i := 4) (j := 12) kg zd zd ?_ ?_
  ·repeat' first | (apply Wl.loadH;exact rfl;exact rfl;exact ke;exact rfl) | apply Wl.nil
   refine Mt.backE (fun _ h' => by first | exact h'.upd.cell hb (fun y => y ⟨by simp only;omega,trivial⟩) | exact h'.upd.cell hb (fun y => y ⟨by simp only;omega,by simp only;omega,trivial⟩) | exact h'.upd.cell (u1.cell hb (fun y => y.elim (fun h => by have := (hv.ge _ h).1;simp only at this;omega) fun y => y ⟨by simp only;omega,trivial⟩)) (fun y => y ⟨by simp only;omega,trivial⟩)) ?_
   refine Mt.e1 12 ?_
   repeat' first | (apply Wl.lit;exact rfl;exact ki;exact rfl;exact rfl;exact kj;intro c hc ho) | apply Wl.nil
   refine Mt.backE (fun _ h' => by first | exact h'.upd.cell hb (fun y => y ⟨by simp only;omega,trivial⟩) | exact h'.upd.cell hb (fun y => y ⟨by simp only;omega,by simp only;omega,trivial⟩) | exact h'.upd.cell (u1.cell hb (fun y => y.elim (fun h => by have := (hv.ge _ h).1;simp only at this;omega) fun y => y ⟨by simp only;omega,trivial⟩)) (fun y => y ⟨by simp only;omega,trivial⟩)) ?_
   refine Mt.e1 13 ?_
   apply Wl.appendT (base := w.heap.size) (n := i) (m := 1) (sz := 36) (e := 169) (xs := xs)
   ·exact rfl
   ·exact rfl
   ·exact rfl
   ·assumption
   ·exact rfl
   ·exact hv
   ·exact fun k hk => ⟨fun e => hoff k hk e.symm,trivial⟩
   ·exact rfl
   ·exact rfl
   ·decide
   ·unfold maxLen;omega
   ·omega
   ·exact s0
   intro v' w1 ho1 u1 _ hoff1
   have hov := ho1.one
   have s1 := u1.size
   apply Wl.nil
   refine Mt.backE (fun _ h' => by first | exact h'.upd.cell hb (fun y => y ⟨by simp only;omega,trivial⟩) | exact h'.upd.cell hb (fun y => y ⟨by simp only;omega,by simp only;omega,trivial⟩) | exact h'.upd.cell (u1.cell hb (fun y => y.elim (fun h => by have := (hv.ge _ h).1;simp only at this;omega) fun y => y ⟨by simp only;omega,trivial⟩)) (fun y => y ⟨by simp only;omega,trivial⟩)) ?_
   refine Mt.pn 14 ?_
   refine Mt.pf 15 ?_
   refine Mt.e1 16 ?_
   apply Wl.store
   ·exact rfl
   ·exact rfl
   ·first | exact hov | exact rfl
   ·exact ke
   ·exact kx
   apply Wl.nil
   refine Mt.backE (fun _ h' => by first | exact h'.upd.cell hb (fun y => y ⟨by simp only;omega,trivial⟩) | exact h'.upd.cell hb (fun y => y ⟨by simp only;omega,by simp only;omega,trivial⟩) | exact h'.upd.cell (u1.cell hb (fun y => y.elim (fun h => by have := (hv.ge _ h).1;simp only at this;omega) fun y => y ⟨by simp only;omega,trivial⟩)) (fun y => y ⟨by simp only;omega,trivial⟩)) ?_
   refine Mt.toGt kg ?_
   repeat' first | refine Wl.move rfl rfl ?_ | refine Wl.assign rfl rfl ?_ | (refine Wl.addI rfl rfl rfl ?_ ?_;constructor <;> omega) | apply Wl.nil | apply St.region | apply Gt.next | apply Gt.inNormal
   obtain ⟨ys,hys⟩ : ∃ ys,w1.ownsRow w.heap.size 169 36 v' (i + 1) ys := ⟨_,ho1⟩
   refine Gt.round (i + 1,w1,v',ys) ⟨by simp only;omega,?_,hys,?_⟩ q7 kw (fun _ h => h)
   ·refine hu0.comp u1 fun k hk hs => ?_
    rcases hs with y | y | y
    ·exact y
    ·exact (hv.ge k y).1
    ·exact Classical.byContradiction fun hn => y ⟨fun e => hn qn,trivial⟩
   ·exact fun k hk e => (hoff1 k hk).1.1 e.symm
  ·repeat' first | (apply Wl.lit;exact rfl;exact ki;exact rfl;exact rfl;exact kj;intro c hc ho) | apply Wl.nil
   refine Mt.backE (fun _ h' => by first | exact h'.upd.cell hb (fun y => y ⟨by simp only;omega,trivial⟩) | exact h'.upd.cell hb (fun y => y ⟨by simp only;omega,by simp only;omega,trivial⟩) | exact h'.upd.cell (u1.cell hb (fun y => y.elim (fun h => by have := (hv.ge _ h).1;simp only at this;omega) fun y => y ⟨by simp only;omega,trivial⟩)) (fun y => y ⟨by simp only;omega,trivial⟩)) ?_
   refine Mt.e1 4 ?_
   repeat' first | (apply Wl.loadH;exact rfl;exact rfl;exact ke;exact rfl) | apply Wl.nil
   refine Mt.backE (fun _ h' => by first | exact h'.upd.cell hb (fun y => y ⟨by simp only;omega,trivial⟩) | exact h'.upd.cell hb (fun y => y ⟨by simp only;omega,by simp only;omega,trivial⟩) | exact h'.upd.cell (u1.cell hb (fun y => y.elim (fun h => by have := (hv.ge _ h).1;simp only at this;omega) fun y => y ⟨by simp only;omega,trivial⟩)) (fun y => y ⟨by simp only;omega,trivial⟩)) ?_
   refine Mt.e1 13 ?_
   apply Wl.appendT (base := w.heap.size) (n := i) (m := 1) (sz := 36) (e := 169) (xs := xs)
   ·exact rfl
   ·exact rfl
   ·exact rfl
   ·assumption
   ·exact rfl
   ·exact hv
   ·exact fun k hk => ⟨fun e => hoff k hk e.symm,trivial⟩
   ·exact rfl
   ·exact rfl
   ·decide
   ·unfold maxLen;omega
   ·omega
   ·exact s0
   intro v' w1 ho1 u1 _ hoff1
   have hov := ho1.one
   have s1 := u1.size
   apply Wl.nil
   refine Mt.backE (fun _ h' => by first | exact h'.upd.cell hb (fun y => y ⟨by simp only;omega,trivial⟩) | exact h'.upd.cell hb (fun y => y ⟨by simp only;omega,by simp only;omega,trivial⟩) | exact h'.upd.cell (u1.cell hb (fun y => y.elim (fun h => by have := (hv.ge _ h).1;simp only at this;omega) fun y => y ⟨by simp only;omega,trivial⟩)) (fun y => y ⟨by simp only;omega,trivial⟩)) ?_
   refine Mt.pn 14 ?_
   refine Mt.pf 15 ?_
   refine Mt.e1 16 ?_
   apply Wl.store
   ·exact rfl
   ·exact rfl
   ·first | exact hov | exact rfl
   ·exact ke
   ·exact kx
   apply Wl.nil
   refine Mt.backE (fun _ h' => by first | exact h'.upd.cell hb (fun y => y ⟨by simp only;omega,trivial⟩) | exact h'.upd.cell hb (fun y => y ⟨by simp only;omega,by simp only;omega,trivial⟩) | exact h'.upd.cell (u1.cell hb (fun y => y.elim (fun h => by have := (hv.ge _ h).1;simp only at this;omega) fun y => y ⟨by simp only;omega,trivial⟩)) (fun y => y ⟨by simp only;omega,trivial⟩)) ?_
   refine Mt.toGt kg ?_
   repeat' first | refine Wl.move rfl rfl ?_ | refine Wl.assign rfl rfl ?_ | (refine Wl.addI rfl rfl rfl ?_ ?_;constructor <;> omega) | apply Wl.nil | apply St.region | apply Gt.next | apply Gt.inNormal
   obtain ⟨ys,hys⟩ : ∃ ys,w1.ownsRow w.heap.size 169 36 v' (i + 1) ys := ⟨_,ho1⟩
   refine Gt.round (i + 1,w1,v',ys) ⟨by simp only;omega,?_,hys,?_⟩ q7 kw (fun _ h => h)
   ·refine hu0.comp u1 fun k hk hs => ?_
    rcases hs with y | y | y
    ·exact y
    ·exact (hv.ge k y).1
    ·exact Classical.byContradiction fun hn => y ⟨fun e => hn qn,trivial⟩
   ·exact fun k hk e => (hoff1 k hk).1.1 e.symm
 ·obtain rfl : i = n := by omega
  have hd : decide ((i : Int) < (i : Int)) = false := decide_eq_false ky
  repeat' first | refine Wl.move rfl rfl ?_ | refine Wl.assign rfl rfl ?_ | refine Wl.lss rfl rfl rfl ?_ | refine Wl.len rfl rfl ?_ | apply Wl.nil | apply St.seq | apply St.region | (apply St.condF;exact rfl;exact ka) | apply St.ret | apply St.exit | apply Gt.next | apply Gt.thenExit | apply Gt.inExit | (apply Gt.out1;exact rfl;exact rfl;intro w' hp)
  refine ⟨c3,rfl,⟨v,xs,hp.own.at (.head _),ownsRow_upd hv hp.upd fun k hk y => y ⟨fun e => hoff k hk e.symm,trivial⟩⟩,hc3,hu0.comp hp.upd fun k hk hs => hs.elim id fun y => Classical.byContradiction fun hn => y ⟨fun e => hn qn,trivial⟩⟩
theorem rwTurn (c n : Nat) (rv : Value) (xs : List Value) (base : Nat) (w : World) (h1 : w.heap[c]? = some (.cells #[rv,.slice none 0 0] 167 (0,0))) (h2 : w.ownsRow base 169 36 rv n xs) (hn : 0 < n) (hx : xs[0]? = some (.int .i64 0)) (hc : n < 100) :
  Calls Tryz.prog 86 #[.pointer (some ⟨c,0,none⟩)] w fun e w' => e = .returned (.int .i64 0) ∧ Hp w [] w' := by
 obtain ⟨g,cap,J,rfl,hge,hb⟩ := h2.blk hn
 have c0 : w.cell? ⟨c,0,none⟩ = some (.slice (some ⟨g,0,none⟩) n cap) := cell_of h1 rfl
 have g0 : w.cell? ⟨g,0 + Int.toNat 0 * 36,none⟩ = some (.int .i64 0) := cell_of hb (by rw [show 0 + Int.toNat 0 * 36 = 0 from rfl,List.getElem?_append_left (List.getElem?_eq_some_iff.1 hx).1];exact hx)
 have hd : decide ((n : Int) = 0) = false := decide_eq_false ky
 refine enter (args := [_]) (Γ := [(0,_)]) Tryz.func86 Tryz.ntmps86 rfl odq (.cons rfl .nil) ?_
 repeat' first | (apply Wl.loadO;exact rfl;exact rfl;exact zw;exact kh) | refine Wl.move rfl rfl ?_ | refine Wl.assign rfl rfl ?_ | refine Wl.nilCheck rfl rfl ?_ | refine Wl.fieldAddr0 rfl rfl ?_ | refine Wl.eql rfl rfl rfl ?_ | refine Wl.len rfl rfl ?_ | (refine Wl.indexAddr rfl rfl rfl ?_ ?_;constructor <;> omega) | apply Wl.nil | apply St.seq | apply St.region | (apply St.condF;exact rfl;exact ka) | apply St.ret | apply St.skip | apply Gt.next | (apply Gt.out1;exact rfl;exact rfl;intro w' hp)
 exact ⟨rfl,hp⟩
theorem rwSet (base cw n : Nat) (sv : Value) (L : List Sta) (w : World) (hR : RW w base cw n) (hb : base ≤ w.heap.size) (hn : 1 ≤ n ∧ n ≤ 4) (hL : L.length = n) (hS : Sv w 35 n sv (stas L).flatten) (hso : ∀ k,sv.ownBlock = some k → k ≠ cw) (hok : ∀ x ∈ L,StaOk x ∧ x.s = 0 ∧ x.c = 0 ∧ x.xs[0]? = some (.int .u32 0)) :
  Calls Tryz.prog 57 #[.pointer (some ⟨cw,0,none⟩),sv,.int .i64 0] w fun e w' => e = .returned (.int .i64 0) ∧ Upd (fun k => k = cw ∨ w.heap.size ≤ k) w w' := by
 obtain ⟨rv,rxs,hcw,hrow⟩ := hR
 have hcl := lt_of_block hcw
 have hst : ∀ x ∈ stas L,x.length = 35 := stas_len fun x hx => (hok x hx).1
 obtain ⟨_,sa,sc,rfl,h2,h3,h5,h4⟩ := hS
 obtain ⟨sb,so,rfl,hcells⟩ := h4 (by intro e;have h := congrArg List.length e;rw [flat_len hst] at h;simp [stas] at h;omega)
 have hd0 : decide ((n : Int) ≠ (n : Int) + 0) = false := by simp
 obtain ⟨ra,rc,hrv⟩ : ∃ ra rc,rv = .slice ra n rc := by
  rcases hrow.2 with ⟨rfl,h⟩ | ⟨g,cap,cur,rfl,_⟩
  ·exact ⟨none,0,by rw [h]⟩
  ·exact ⟨_,_,rfl⟩
 subst hrv
 have c0 : w.cell? ⟨cw,0,none⟩ = some (.slice ra n rc) := cell_of hcw rfl
 have c1 : w.cell? ⟨cw,1,none⟩ = some (.slice none 0 0) := cell_of hcw rfl
 refine enter (args := [_,_,_]) (Γ := [(0,_),(1,_),(2,_)]) Tryz.func57 Tryz.ntmps57 rfl odq (.cons rfl (.cons rfl (.cons rfl .nil))) ?_
 repeat' first | (apply Wl.loadO;exact rfl;exact rfl;exact zw;exact kh) | refine Wl.move rfl rfl ?_ | refine Wl.assign rfl rfl ?_ | refine Wl.nilCheck rfl rfl ?_ | refine Wl.fieldAddr0 rfl rfl ?_ | refine Wl.fieldAddrZ rfl rfl ?_ | refine Wl.neq rfl rfl rfl ?_ | (refine Wl.addI rfl rfl rfl ?_ ?_;constructor <;> omega) | refine Wl.len rfl rfl ?_ | (apply Wl.buildS;exact rfl;exact ki;exact kc) | (apply Wl.boxA;exact rfl;exact rfl;intro c hc ho) | apply Wl.nil | apply Wl.nilQ | apply St.seq | apply St.block | apply St.region | (apply St.draw;exact mixed;(kernel_rfl);exact (fun _ h => Hp.drew h)) | apply St.skip | apply Gt.next | (apply St.condP;exact rfl;all_goals (intros;try (exfalso;omega)))
 generalize c = c7 at *
 have hc7 : w.heap.size ≤ c7 := by assumption
 refine St.loop (σ := Nat × World × Value × List Value) (fun τ => τ.1 ≤ n ∧ Upd (fun k => w.heap.size ≤ k) w τ.2.1 ∧ τ.2.1.ownsRow w.heap.size 169 36 τ.2.2.1 τ.1 τ.2.2.2 ∧ (∀ k,τ.2.2.1.ownBlock = some k → k ≠ c7) ∧ (0 < τ.1 → τ.2.2.2[0]? = some (.int .i64 0)))
  (fun τ => [(0,.pointer (some ⟨cw,0,none⟩)),(1,.slice (some ⟨sb,so,none⟩) n sc),(2,.int .i64 0),(7,.pointer (some ⟨c7,0,none⟩)),(8,.int .i64 (τ.1 : Int))]) (fun τ => Hp τ.2.1 [⟨c7,[τ.2.2.1,.slice none 0 0],167⟩]) (fun τ => n - τ.1) (0,w,.slice none 0 0,[]) ⟨Nat.zero_le _,Upd.refl _ _,World.ownsRow_nil w _ _ _,fun k hk => (by cases hk),fun h => absurd h (Nat.lt_irrefl 0)⟩ kw (fun _ h => h) ?_
 rintro ⟨i,w0,v,xs⟩ ⟨hi,hu0,hv,hoff,hx0⟩
 simp only at hi hu0 hv hoff hx0 ⊢
 have s0 := hu0.size
 by_cases hlt : i < n
 ·have hd : decide ((i : Int) < (n : Int)) = true := decide_eq_true ky
  obtain ⟨x,hx⟩ : ∃ x,L[i]? = some x := ⟨_,List.getElem?_eq_getElem ky⟩
  obtain ⟨k1,k2,k3,k4⟩ := hok x (List.mem_of_getElem? hx)
  have hxl : x.cells.length = 35 := k1.len
  have hr1 : Int.tmod 0 (n : Int) = 0 := Int.zero_tmod _
  have hr2 : (0 + (i : Int)).tmod (n : Int) = (i : Int) := by rw [Int.zero_add,Int.tmod_eq_emod_of_nonneg ky];exact Int.emod_eq_of_lt ky ky
  have hcell : ∀ q v,x.cells[q]? = some v → w0.cell? ⟨sb,so + (i : Int).toNat * 35 + q,none⟩ = some v := fun q v hq => by
   rw [Int.toNat_natCast,Nat.add_assoc]
   have hql : q < 35 := by rw [← hxl];exact (List.getElem?_eq_some_iff.1 hq).1
   have hg := flat_get hst (stas_at hx) hql
   rw [hq] at hg
   obtain ⟨hlt',hval⟩ := List.getElem?_eq_some_iff.1 hg
   have hc' := hcells (i * 35 + q) hlt'
   rw [hval] at hc'
   exact hu0.cell hc' (Nat.not_le.2 (World.block_lt_of_cell? w _ hc'))
  have hsbl : sb < w0.heap.size := by have := World.block_lt_of_cell? w0 _ (hcell 0 _ rfl);exact this
  have hsb0 : sb < w.heap.size := by
   have hl : 0 < (stas L).flatten.length := by rw [flat_len hst];simp [stas];omega
   exact World.block_lt_of_cell? w _ (hcells 0 hl)
  have hx1 := k1.one
  have dx0 : decide ((0 : Int) ≠ 0) = false := by decide
  have ds1 : decide (x.s < 0) = false := decide_eq_false ky
  have ds2 : decide (x.s > 2) = false := decide_eq_false ky
  have ds3 : decide (x.s = 0) = true := decide_eq_true k2
  have ds4 : decide (x.c ≠ 0) = false := by rw [k3];decide
  have hx3 : x.cells[3]? = some (.int .u32 0) := k4
  repeat' first | (apply Wl.remIs (z := 0);exact rfl;exact rfl;exact rfl;omega;exact hr1) | (apply Wl.remIs (z := (i : Int));exact rfl;exact rfl;exact rfl;omega;exact hr2) | (apply Wl.loadAB (xs := x.cells);exact rfl;exact rfl;(intro j v hj;exact hcell j v hj);exact kh;exact hxl) | (apply Wl.storeA (xs := x.cells);exact rfl;exact rfl;exact hxl;exact hx1;exact ke;exact .z (LOver.whole (by rw [hxl];rfl))) | (apply Wl.loadH;exact rfl;exact rfl;exact ke;exact hx3) | refine Wl.move rfl rfl ?_ | refine Wl.assign rfl rfl ?_ | (apply Wl.on;exact rfl;exact rfl;exact ka) | (apply Wl.pickT;exact rfl;exact rfl;exact ka;exact rfl) | (apply Wl.pickF;exact rfl;exact rfl;exact ka;exact rfl) | refine Wl.fieldAddr0 rfl rfl ?_ | refine Wl.fieldAddrZ rfl rfl ?_ | (apply Wl.loadH;exact rfl;exact rfl;exact ke;exact rfl) | (apply Wl.eqlIs;exact rfl;exact rfl;exact rfl;exact kv) | (apply Wl.neqIs;exact rfl;exact rfl;exact rfl;exact kv) | refine Wl.lss rfl rfl rfl ?_ | refine Wl.gtr rfl rfl rfl ?_ | refine Wl.geq rfl rfl rfl ?_ | (refine Wl.addI rfl rfl rfl ?_ ?_;constructor <;> omega) | refine Wl.len rfl rfl ?_ | (apply Wl.alloc;exact rfl;intro c hc ho) | (refine Wl.indexAddr rfl rfl rfl ?_ ?_;constructor <;> omega) | (refine Wl.indexArr rfl rfl rfl ?_ ?_;constructor <;> omega) | apply Wl.nil | apply St.seq | apply St.block | apply St.region | (apply St.condT;exact rfl;exact ka) | (apply St.condF;exact rfl;exact ka) | apply St.skip | apply Gt.next
  generalize c = c10 at *
  have hc10 : w0.heap.size ≤ c10 := by assumption
  have h107 : c10 ≠ c7 := fun e => by have := ‹Off [⟨c7,_,_⟩] c10›;exact this.1 e.symm
  refine St.tree (fun w' => w'.heap[c10]? = some (.cells x.cells.toArray 44 (0,0))) mixed (fun _ h' => ⟨Hp.drew h',(Hp.drew h').own.at (.head _)⟩) ?_
  refine Mt.pm 0 ?_
  refine Mt.pm 1 ?_
  refine Mt.pm 5 ?_
  refine Mt.pu 6 ?_
  apply Wl.loadAF (xs := x.cells);exact rfl;exact rfl;exact hxl;(intro w' h' j v hj;rw [addLit];exact cell_of h' (by rw [Nat.zero_add];exact hj));apply Wl.nilB
  refine Mt.pn 2 ?_
  refine Mt.pu 7 ?_
  apply Wl.buildS (ps := [(0,.int .i64 (i : Int)),(1,.agg x.cells.toArray)]) (cs := .int .i64 (i : Int) :: x.cells);exact rfl;exact ki;(exact Fills.one rfl rfl .z (.agg rfl (by rw [hxl];rfl) (.s (.z (LOver.whole (by rw [hxl];rfl)))) .nil));apply Wl.nilB
  refine Mt.pf 3 ?_
  refine Mt.eff2 (i := 4) (j := 8) kg zd zd ?_ ?_
  ·repeat' first | (apply Wl.loadH;exact rfl;exact rfl;exact ke;exact rfl) | apply Wl.nil
   refine Mt.backE (fun _ h' => by first | exact h'.own.at (.head _) | exact h'.own.at (.tail _ (.head _))) ?_
   refine Mt.e1 8 ?_
   apply Wl.lit (cs := .int .i64 (i : Int) :: x.cells)
   ·exact rfl
   ·(repeat (first | exact Parts.nil | apply Parts.cons rfl))
   ·exact rfl
   ·exact rfl
   ·exact CatP.agg (by show Nat.beq (x.cells.length + 1) 36 = true;rw [hxl];rfl) .nil (lappE _)
   intro c8 hc8 ho8
   apply Wl.nil
   refine Mt.backE (fun _ h' => by first | exact h'.own.at (.head _) | exact h'.own.at (.tail _ (.head _))) ?_
   refine Mt.e1 9 ?_
   apply Wl.appendT (base := w.heap.size) (n := i) (m := 1) (sz := 36) (e := 169) (xs := xs)
   ·exact rfl
   ·exact rfl
   ·exact rfl
   ·assumption
   ·show Nat.beq (x.cells.length + 1) (1 * 36) = true;rw [hxl];rfl
   ·exact hv
   ·exact fun k hk => ⟨fun e => by have := (hv.ge k hk).2;simp only at e;omega,fun e => hoff k hk e.symm,trivial⟩
   ·show (x.cells.all Value.oneCell') = true;exact hx1
   ·exact rfl
   ·decide
   ·unfold maxLen;omega
   ·omega
   ·exact s0
   intro v' w1 ho1 u1 _ hoff1
   have hov := ho1.one
   have s1 := u1.size
   apply Wl.nil
   refine Mt.backE (fun _ h' => by first | exact h'.own.at (.head _) | exact h'.own.at (.tail _ (.head _))) ?_
   refine Mt.pn 10 ?_
   refine Mt.pf 11 ?_
   refine Mt.e1 12 ?_
   apply Wl.store
   ·exact rfl
   ·exact rfl
   ·first | exact hov | exact rfl
   ·exact ke
   ·exact kx
   apply Wl.nil
   refine Mt.backE (fun _ h' => by first | exact h'.own.at (.head _) | exact h'.own.at (.tail _ (.head _))) ?_
   refine Mt.toGt kg ?_
   repeat' first | refine Wl.move rfl rfl ?_ | refine Wl.assign rfl rfl ?_ | (refine Wl.addI rfl rfl rfl ?_ ?_;constructor <;> omega) | apply Wl.nil | apply St.region | apply Gt.next | apply Gt.inNormal
   refine Gt.reb (H' := [⟨c7,[v',.slice none 0 0],167⟩]) fun w2 h2 => ⟨⟨h2.own.at (.tail _ (.head _)),trivial⟩,⟨trivial,trivial⟩,?_⟩
   obtain ⟨ys,hys,hy0⟩ : ∃ ys,w2.ownsRow w.heap.size 169 36 v' (i + 1) ys ∧ ys[0]? = some (.int .i64 0) := by
    refine ⟨_,ownsRow_upd ho1 h2.upd fun k hk y => y (hoff1 k hk).1,?_⟩
    by_cases hi0 : i = 0
    ·subst hi0
     rw [show xs = [] from List.eq_nil_of_length_eq_zero (by have := hv.1;omega)]
     rfl
    ·have h := hx0 ky
     rw [List.getElem?_append_left (List.getElem?_eq_some_iff.1 h).1]
     exact h
   have key : ∀ k,¬ Off [⟨c10,[],0⟩,⟨c7,[],0⟩] k → w.heap.size ≤ k := fun k hn => Classical.byContradiction fun hc => hn ⟨fun e => by simp only at e;omega,fun e => by simp only at e;omega,trivial⟩
   refine Gt.round (i + 1,w2,v',ys) ⟨by simp only;omega,?_,hys,fun k hk e => (hoff1 k hk).1.2.1 e.symm,fun _ => hy0⟩ q7 kw (fun _ h => h)
   refine hu0.comp (u1.comp h2.upd (T := fun k => w.heap.size ≤ k) fun k hk hs => ?_) fun k hk hs => hs.elim id id
   rcases hs with (y | y) | y
   ·exact (hv.ge k y).1
   ·exact key k y
   ·exact key k y
  ·apply Wl.lit (cs := .int .i64 (i : Int) :: x.cells)
   ·exact rfl
   ·(repeat (first | exact Parts.nil | apply Parts.cons rfl))
   ·exact rfl
   ·exact rfl
   ·exact CatP.agg (by show Nat.beq (x.cells.length + 1) 36 = true;rw [hxl];rfl) .nil (lappE _)
   intro c8 hc8 ho8
   apply Wl.nil
   refine Mt.backE (fun _ h' => by first | exact h'.own.at (.head _) | exact h'.own.at (.tail _ (.head _))) ?_
   refine Mt.e1 4 ?_
   repeat' first | (apply Wl.loadH;exact rfl;exact rfl;exact ke;exact rfl) | apply Wl.nil
   refine Mt.backE (fun _ h' => by first | exact h'.own.at (.head _) | exact h'.own.at (.tail _ (.head _))) ?_
   refine Mt.e1 9 ?_
   apply Wl.appendT (base := w.heap.size) (n := i) (m := 1) (sz := 36) (e := 169) (xs := xs)
   ·exact rfl
   ·exact rfl
   ·exact rfl
   ·assumption
   ·show Nat.beq (x.cells.length + 1) (1 * 36) = true;rw [hxl];rfl
   ·exact hv
   ·exact fun k hk => ⟨fun e => by have := (hv.ge k hk).2;simp only at e;omega,fun e => hoff k hk e.symm,trivial⟩
   ·show (x.cells.all Value.oneCell') = true;exact hx1
   ·exact rfl
   ·decide
   ·unfold maxLen;omega
   ·omega
   ·exact s0
   intro v' w1 ho1 u1 _ hoff1
   have hov := ho1.one
   have s1 := u1.size
   apply Wl.nil
   refine Mt.backE (fun _ h' => by first | exact h'.own.at (.head _) | exact h'.own.at (.tail _ (.head _))) ?_
   refine Mt.pn 10 ?_
   refine Mt.pf 11 ?_
   refine Mt.e1 12 ?_
   apply Wl.store
   ·exact rfl
   ·exact rfl
   ·first | exact hov | exact rfl
   ·exact ke
   ·exact kx
   apply Wl.nil
   refine Mt.backE (fun _ h' => by first | exact h'.own.at (.head _) | exact h'.own.at (.tail _ (.head _))) ?_
   refine Mt.toGt kg ?_
   repeat' first | refine Wl.move rfl rfl ?_ | refine Wl.assign rfl rfl ?_ | (refine Wl.addI rfl rfl rfl ?_ ?_;constructor <;> omega) | apply Wl.nil | apply St.region | apply Gt.next | apply Gt.inNormal
   refine Gt.reb (H' := [⟨c7,[v',.slice none 0 0],167⟩]) fun w2 h2 => ⟨⟨h2.own.at (.tail _ (.head _)),trivial⟩,⟨trivial,trivial⟩,?_⟩
   obtain ⟨ys,hys,hy0⟩ : ∃ ys,w2.ownsRow w.heap.size 169 36 v' (i + 1) ys ∧ ys[0]? = some (.int .i64 0) := by
    refine ⟨_,ownsRow_upd ho1 h2.upd fun k hk y => y (hoff1 k hk).1,?_⟩
    by_cases hi0 : i = 0
    ·subst hi0
     rw [show xs = [] from List.eq_nil_of_length_eq_zero (by have := hv.1;omega)]
     rfl
    ·have h := hx0 ky
     rw [List.getElem?_append_left (List.getElem?_eq_some_iff.1 h).1]
     exact h
   have key : ∀ k,¬ Off [⟨c10,[],0⟩,⟨c7,[],0⟩] k → w.heap.size ≤ k := fun k hn => Classical.byContradiction fun hc => hn ⟨fun e => by simp only at e;omega,fun e => by simp only at e;omega,trivial⟩
   refine Gt.round (i + 1,w2,v',ys) ⟨by simp only;omega,?_,hys,fun k hk e => (hoff1 k hk).1.2.1 e.symm,fun _ => hy0⟩ q7 kw (fun _ h => h)
   refine hu0.comp (u1.comp h2.upd (T := fun k => w.heap.size ≤ k) fun k hk hs => ?_) fun k hk hs => hs.elim id id
   rcases hs with (y | y) | y
   ·exact (hv.ge k y).1
   ·exact key k y
   ·exact key k y
 ·obtain rfl : i = n := by omega
  have hd : decide ((i : Int) < (i : Int)) = false := decide_eq_false ky
  have dx0 : decide ((0 : Int) ≠ 0) = false := by decide
  repeat' first | refine Wl.move rfl rfl ?_ | refine Wl.lss rfl rfl rfl ?_ | refine Wl.len rfl rfl ?_ | apply Wl.nil | apply St.seq | apply St.region | (apply St.condF;exact rfl;exact ka) | apply St.exit | apply Gt.next | apply Gt.thenExit | apply Gt.inExit
  apply Wl.callC
  ·exact rfl
  ·exact ke
  intro wq hq
  refine (rwTurn c7 i v xs w.heap.size wq (hq.own.at (.head _)) (ownsRow_upd hv hq.upd fun k hk y => y ⟨fun e => hoff k hk e.symm,trivial⟩) ky (hx0 ky) ky).mono ?_
  rintro e wr ⟨rfl,hr⟩
  refine ⟨_,_,rfl,hq.keep hr,?_⟩
  clear hr hq wr wq
  have c0' : w0.heap[cw]? = some (.cells #[.slice ra i rc,.slice none 0 0] 167 (0,0)) := hu0.heap hcw (Nat.not_le.2 hcl)
  refine Wl.cls (fun _ h' => Hp.open h' c0' (by exact ⟨by simp only;omega,trivial⟩)) ?_
  repeat' first | (apply Wl.store;exact rfl;exact rfl;(first | exact hv.one | exact rfl);exact ke;exact kx) | refine Wl.move rfl rfl ?_ | refine Wl.assign rfl rfl ?_ | refine Wl.nilCheck rfl rfl ?_ | refine Wl.fieldAddr0 rfl rfl ?_ | refine Wl.fieldAddrZ rfl rfl ?_ | (apply Wl.loadH;exact rfl;exact rfl;exact ke;exact rfl) | (apply Wl.neqIs;exact rfl;exact rfl;exact rfl;exact kv) | apply Wl.nil | apply St.seq | apply St.region | (apply St.condF;exact rfl;exact ka) | apply St.ret | apply St.skip | apply Gt.next | (apply Gt.out1;exact rfl;exact rfl;intro w' hp)
  refine ⟨rfl,(hu0.mono fun k _ h => .inr h).comp hp.upd fun k hk hs => hs.elim id fun y => Classical.byContradiction fun hn => y ⟨fun e => hn qn,fun e => hn qn,trivial⟩⟩
end Go.Proofs.YtabbklpalbikdaaGreatDoor
end
section
namespace Go.Pt
open Go.RowKit
theorem Hp.ext {w w' : World} (h : Hp w [] w') : Ext w w' := h.upd.mono fun _ _ y => y trivial
theorem Gt.bagEnd {N : Nat} {Γ : Env} {C : World → Prop} {E : World → World → Prop} {d : Nat} {v : Value} {w1 : World} {R : Value → World → Prop} (hv : look Γ d = some v) (h : ∀ w',C w' → E w1 w' ∧ R v w') : Gt N .normal Γ C (BagPost E N w1 d R) := Gt.intro fun a w ha hw =>
 ⟨rfl,(h w hw).1,v,ha.sub (.cons hv .nil),(h w hw).2⟩
end Go.Pt
namespace Go.Proofs.YtabbklpalbikdaaGreatDoor
open Go.RowKit Go.Pt
def RM26 (w : World) (base : Nat) (v : Value) (n : Nat) : Prop := ∃ m c d,v = .pointer (some ⟨m,0,none⟩) ∧ w.heap[m]? = some (.cells #[.pointer (some ⟨c,0,none⟩),.pointer (some ⟨d,0,none⟩)] 91 (0,0)) ∧ RW w base c n ∧ base ≤ c ∧ base ≤ m ∧ m ≠ c
theorem RW.ext {w w' : World} {base c n : Nat} (h : RW w base c n) (e : Ext w w') : RW w' base c n := h.upd e (fun y => y) fun _ _ _ y => y
theorem r26New (a1 a2 a3 r : Option Addr) (n c1 c2 c3 : Nat) (p : Nat → Int) (w : World) (hn : 1 ≤ n ∧ n ≤ 4) (hA : WordF w a3 n p) :
  Calls Tryz.prog 56 #[.slice a1 n c1,.slice a2 n c2,.slice a3 n c3,.pointer r] w fun e w' => ∃ v,e = .returned v ∧ RM26 w' w.heap.size v n ∧ Upd (fun k => w.heap.size ≤ k) w w' := by
 refine enter (args := [_,_,_,_]) (Γ := [(0,_),(1,_),(2,_),(3,_)]) Tryz.func56 Tryz.ntmps56 rfl odq (.cons rfl (.cons rfl (.cons rfl (.cons rfl .nil)))) ?_
 repeat' first | refine Wl.move rfl rfl ?_ | refine Wl.assign rfl rfl ?_ | refine Wl.len rfl rfl ?_ | apply Wl.nil | apply St.seq | apply St.region | apply Gt.next
 apply St.sub (Γ' := [(0,.slice a1 n c1),(1,.slice a2 n c2),(2,.slice a3 n c3),(3,.pointer r),(9,.int .i64 (n : Int))])
 ·exact ke
 apply St.base
 intro w0 h0
 have hw0 : Ext w w0 := h0.upd.mono fun _ _ y => y trivial
 have hwn : ∀ w1,Ext w0 w1 → w.heap.size ≤ w1.heap.size := fun w1 e => Nat.le_trans hw0.size e.size
 apply St.bag (w0 := w0) Ext Ext.trans (fun w' h => Ext.start _ w' h) [fun v _ => v = .slice a3 n c3,fun v w' => ∃ c,v = .pointer (some ⟨c,0,none⟩) ∧ RW w' w.heap.size c n ∧ w.heap.size ≤ c,fun v _ => v = .slice a1 n c1,fun v _ => v = .slice a2 n c2,fun v _ => v = .pointer r,fun v _ => v = .int .i64 (n : Int),fun v _ => ∃ b,v = .slice (some ⟨b,0,none⟩) n n,fun v _ => ∃ b,v = .agg #[.slice (some ⟨b,0,none⟩) n n],fun v _ => ∃ b,v = .pointer (some ⟨b,0,none⟩),fun v _ => v = .int .i64 (n : Int),fun v _ => ∃ b,v = .slice (some ⟨b,0,none⟩) n n,fun v _ => ∃ b,v = .agg #[.slice none 0 0,.slice none 0 0,.slice (some ⟨b,0,none⟩) n n],fun v _ => ∃ b,v = .pointer (some ⟨b,0,none⟩),fun v _ => ∃ p q,v = .agg #[.slice a1 n c1,.slice a2 n c2,.pointer r,.pointer (some ⟨p,0,none⟩),.pointer (some ⟨q,0,none⟩)],fun v _ => ∃ b,v = .pointer (some ⟨b,0,none⟩),fun v w' => ∃ c d,v = .agg #[.pointer (some ⟨c,0,none⟩),.pointer (some ⟨d,0,none⟩)] ∧ RW w' w.heap.size c n ∧ w.heap.size ≤ c,fun v w' => RM26 w' w.heap.size v n,fun v w' => RM26 w' w.heap.size v n] [17]
 ·exact mixed
 ·kernel_rfl
 ·refine .cons ?_ (.cons ?_ (.cons ?_ (.cons ?_ (.cons ?_ (.cons ?_ (.cons ?_ (.cons ?_ (.cons ?_ (.cons ?_ (.cons ?_ (.cons ?_ (.cons ?_ (.cons ?_ (.cons ?_ (.cons ?_ (.cons ?_ (.cons ?_ .nil)))))))))))))))))
  all_goals intro v w1 w2 e h
  all_goals first | exact h | (obtain ⟨c,h1,h2,h3⟩ := h;exact ⟨c,h1,h2.ext e,h3⟩) | (obtain ⟨c,d,h1,h2,h3⟩ := h;exact ⟨c,d,h1,h2.ext e,h3⟩) | (obtain ⟨m,c,d,h1,h2,h3,h4⟩ := h;exact ⟨m,c,d,h1,e.heap h2 (fun y => y),h3.ext e,h4⟩)
 ·rfl
 ·apply BagOps.cons
  ·intro w1 e1
   change Wl [_] _ _ _ _ _ _ _
   repeat' first | refine Wl.move rfl rfl ?_ | apply Wl.nil
   apply Gt.bagEnd
   ·exact rfl
   ·exact fun w' h' => ⟨h'.upd.mono fun _ _ y => y trivial,rfl⟩
  apply BagOps.cons
  ·intro w1 e1 v0 h0
   change Wl [_] _ _ _ _ _ _ _
   have h0 : v0 = .slice a3 n c3 := h0
   subst h0
   apply Wl.callC
   ·exact rfl
   ·exact ke
   intro wq hq
   have zq := hq.upd.size
   have z1 := hwn w1 e1
   refine (rwNew a3 n c3 p wq ky (fun i hi => by obtain ⟨b,o,e,k1,k2⟩ := hA i hi;exact ⟨b,o,e,hq.upd.cell (e1.cell (hw0.cell k1 (fun y => y)) (fun y => y)) nt0,k2⟩)).mono ?_
   rintro e w2 ⟨c,rfl,hRc,hcg,u2⟩
   refine ⟨_,_,rfl,Hp.start w2,?_⟩
   apply Wl.nil
   apply Gt.bagEnd
   ·exact rfl
   ·refine fun w' h' => ⟨(hq.upd.comp u2 (T := fun _ => False) (fun k hk hs => hs.elim nt0 fun y => by omega)).comp h'.upd fun k hk hs => hs.elim id fun y => y trivial,c,rfl,?_,by omega⟩
    obtain ⟨rv,xs,k1,k2⟩ := hRc.upd h'.upd nt0 (fun _ _ _ y => y trivial)
    exact ⟨rv,xs,k1,k2.baseLe ky⟩
  apply BagOps.cons
  ·intro w1 e1
   change Wl [_] _ _ _ _ _ _ _
   repeat' first | refine Wl.move rfl rfl ?_ | apply Wl.nil
   apply Gt.bagEnd
   ·exact rfl
   ·exact fun w' h' => ⟨h'.upd.mono fun _ _ y => y trivial,rfl⟩
  apply BagOps.cons
  ·intro w1 e1
   change Wl [_] _ _ _ _ _ _ _
   repeat' first | refine Wl.move rfl rfl ?_ | apply Wl.nil
   apply Gt.bagEnd
   ·exact rfl
   ·exact fun w' h' => ⟨h'.upd.mono fun _ _ y => y trivial,rfl⟩
  apply BagOps.cons
  ·intro w1 e1
   change Wl [_] _ _ _ _ _ _ _
   repeat' first | refine Wl.move rfl rfl ?_ | apply Wl.nil
   apply Gt.bagEnd
   ·exact rfl
   ·exact fun w' h' => ⟨h'.upd.mono fun _ _ y => y trivial,rfl⟩
  apply BagOps.cons
  ·intro w1 e1
   change Wl [_] _ _ _ _ _ _ _
   repeat' first | refine Wl.move rfl rfl ?_ | apply Wl.nil
   apply Gt.bagEnd
   ·exact rfl
   ·exact fun w' h' => ⟨h'.upd.mono fun _ _ y => y trivial,rfl⟩
  apply BagOps.cons
  ·intro w1 e1 va ha v5 h5
   change Wl [_] _ _ _ _ _ _ _
   have h5 : v5 = .int .i64 (n : Int) := h5
   subst h5
   apply Wl.makeSlice (n := n)
   ·exact rfl
   ·exact rfl
   ·exact rfl
   ·exact Nat.ble_eq_true_of_le (Nat.le_trans (Nat.mul_le_mul_left _ hn.2) ze)
   ·omega
   intro c hc ho
   apply Wl.nil
   apply Gt.bagEnd
   ·exact rfl
   ·exact fun w' h' => ⟨(h'.drop zx).ext,c,rfl⟩
  apply BagOps.cons
  ·intro w1 e1 v6 h6
   change Wl [_] _ _ _ _ _ _ _
   have h6 : ∃ b,v6 = .slice (some ⟨b,0,none⟩) n n := h6
   obtain ⟨b,rfl⟩ := h6
   repeat' first | (apply Wl.buildS;exact rfl;exact ki;exact kc) | apply Wl.nil
   apply Gt.bagEnd
   ·exact rfl
   ·exact fun w' h' => ⟨h'.upd.mono fun _ _ y => y trivial,b,rfl⟩
  apply BagOps.cons
  ·intro w1 e1 v7 h7
   change Wl [_] _ _ _ _ _ _ _
   have h7 : ∃ b,v7 = .agg #[.slice (some ⟨b,0,none⟩) n n] := h7
   obtain ⟨b,rfl⟩ := h7
   repeat' first | (apply Wl.boxA;exact rfl;exact rfl;intro c hc ho) | apply Wl.nil
   apply Gt.bagEnd
   ·exact rfl
   ·exact fun w' h' => ⟨(h'.drop zx).ext,_,rfl⟩
  apply BagOps.cons
  ·intro w1 e1
   change Wl [_] _ _ _ _ _ _ _
   repeat' first | refine Wl.move rfl rfl ?_ | apply Wl.nil
   apply Gt.bagEnd
   ·exact rfl
   ·exact fun w' h' => ⟨h'.upd.mono fun _ _ y => y trivial,rfl⟩
  apply BagOps.cons
  ·intro w1 e1 va ha v9 h9
   change Wl [_] _ _ _ _ _ _ _
   have h9 : v9 = .int .i64 (n : Int) := h9
   subst h9
   apply Wl.makeSlice (n := n)
   ·exact rfl
   ·exact rfl
   ·exact rfl
   ·exact Nat.ble_eq_true_of_le (Nat.le_trans (Nat.mul_le_mul_left _ hn.2) ze)
   ·omega
   intro c hc ho
   apply Wl.nil
   apply Gt.bagEnd
   ·exact rfl
   ·exact fun w' h' => ⟨(h'.drop zx).ext,c,rfl⟩
  apply BagOps.cons
  ·intro w1 e1 v10 h10
   change Wl [_] _ _ _ _ _ _ _
   have h10 : ∃ b,v10 = .slice (some ⟨b,0,none⟩) n n := h10
   obtain ⟨b,rfl⟩ := h10
   repeat' first | (apply Wl.buildS;exact rfl;exact ki;exact kc) | apply Wl.nil
   apply Gt.bagEnd
   ·exact rfl
   ·exact fun w' h' => ⟨h'.upd.mono fun _ _ y => y trivial,b,rfl⟩
  apply BagOps.cons
  ·intro w1 e1 v11 h11
   change Wl [_] _ _ _ _ _ _ _
   have h11 : ∃ b,v11 = .agg #[.slice none 0 0,.slice none 0 0,.slice (some ⟨b,0,none⟩) n n] := h11
   obtain ⟨b,rfl⟩ := h11
   repeat' first | (apply Wl.boxA;exact rfl;exact rfl;intro c hc ho) | apply Wl.nil
   apply Gt.bagEnd
   ·exact rfl
   ·exact fun w' h' => ⟨(h'.drop zx).ext,_,rfl⟩
  apply BagOps.cons
  ·intro w1 e1 v2 h2 v3 h3 v4 h4 v8 h8 v12 h12
   change Wl [_] _ _ _ _ _ _ _
   have h2 : v2 = .slice a1 n c1 := h2
   have h3 : v3 = .slice a2 n c2 := h3
   have h4 : v4 = .pointer r := h4
   have h8 : ∃ b,v8 = .pointer (some ⟨b,0,none⟩) := h8
   have h12 : ∃ b,v12 = .pointer (some ⟨b,0,none⟩) := h12
   subst h2 h3 h4
   obtain ⟨p8,rfl⟩ := h8
   obtain ⟨q8,rfl⟩ := h12
   repeat' first | (apply Wl.buildS;exact rfl;exact ki;exact kc) | apply Wl.nil
   apply Gt.bagEnd
   ·exact rfl
   ·exact fun w' h' => ⟨h'.upd.mono fun _ _ y => y trivial,p8,q8,rfl⟩
  apply BagOps.cons
  ·intro w1 e1 v13 h13
   change Wl [_] _ _ _ _ _ _ _
   have h13 : ∃ p q,v13 = .agg #[.slice a1 n c1,.slice a2 n c2,.pointer r,.pointer (some ⟨p,0,none⟩),.pointer (some ⟨q,0,none⟩)] := h13
   obtain ⟨p8,q8,rfl⟩ := h13
   repeat' first | (apply Wl.boxA;exact rfl;exact rfl;intro c hc ho) | apply Wl.nil
   apply Gt.bagEnd
   ·exact rfl
   ·exact fun w' h' => ⟨(h'.drop zx).ext,_,rfl⟩
  apply BagOps.cons
  ·intro w1 e1 v1 h1 v14 h14
   change Wl [_] _ _ _ _ _ _ _
   have h1 : ∃ c,v1 = .pointer (some ⟨c,0,none⟩) ∧ RW w1 w.heap.size c n ∧ w.heap.size ≤ c := h1
   have h14 : ∃ b,v14 = .pointer (some ⟨b,0,none⟩) := h14
   obtain ⟨c,rfl,k1,k2⟩ := h1
   obtain ⟨d,rfl⟩ := h14
   repeat' first | (apply Wl.buildS;exact rfl;exact ki;exact kc) | apply Wl.nil
   apply Gt.bagEnd
   ·exact rfl
   ·exact fun w' h' => ⟨h'.upd.mono fun _ _ y => y trivial,c,d,rfl,k1.ext (h'.upd.mono fun _ _ y => y trivial),k2⟩
  apply BagOps.cons
  ·intro w1 e1 v15 h15
   change Wl [_] _ _ _ _ _ _ _
   have h15 : ∃ c d,v15 = .agg #[.pointer (some ⟨c,0,none⟩),.pointer (some ⟨d,0,none⟩)] ∧ RW w1 w.heap.size c n ∧ w.heap.size ≤ c := h15
   obtain ⟨cw,d,rfl,k1,k2⟩ := h15
   have z1 := hwn w1 e1
   have lc : cw < w1.heap.size := by obtain ⟨rv,xs,k3,_⟩ := k1;exact lt_of_block k3
   repeat' first | (apply Wl.boxA;exact rfl;exact rfl;intro c hc ho) | apply Wl.nil
   apply Gt.bagEnd
   ·exact rfl
   ·exact fun w' h' => ⟨(h'.drop zx).ext,_,cw,d,rfl,h'.own.at (.head _),k1.ext (h'.drop zx).ext,k2,by omega,by omega⟩
  apply BagOps.cons
  ·intro w1 e1
   repeat intro _
   rename_i v16 h16
   change Wl [_] _ _ _ _ _ _ _
   have h16 : RM26 w1 w.heap.size v16 n := h16
   repeat' first | refine Wl.assign rfl rfl ?_ | apply Wl.nil
   apply Gt.bagEnd
   ·exact rfl
   ·exact fun w' h' => by obtain ⟨m,cw,d,k0,k1,k2,k3⟩ := h16;exact ⟨h'.upd.mono fun _ _ y => y trivial,m,cw,d,k0,h'.upd.heap k1 nt0,k2.ext (h'.upd.mono fun _ _ y => y trivial),k3⟩
  exact .nil
 intro w1 e1 v h
 repeat' first | apply St.ret | apply Gt.next | (apply Gt.out1;exact rfl;exact rfl;intro w' hp)
 have h' : RM26 w1 w.heap.size v n := h
 obtain ⟨m,cw,d,k0,k1,k2,k3⟩ := h'
 refine ⟨v,rfl,⟨m,cw,d,k0,hp.upd.heap k1 nt0,k2.ext (hp.upd.mono fun _ _ y => y trivial),k3⟩,((hw0.comp e1 (T := fun k => w.heap.size ≤ k) fun k _ hs => hs.elim (fun y => y.elim) fun y => y.elim).comp hp.upd fun k _ hs => hs.elim id fun y => (y trivial).elim)⟩
theorem refHasG (a n : Int) (w : World) (ha : -1000000 ≤ a ∧ a ≤ 4294967296000) (hn : 0 ≤ n ∧ n ≤ 5000) : Calls Tryz.prog 105 #[.int .i64 a,.int .i64 n] w fun e w' => (∃ z : Bool,e = .returned (.bool z)) ∧ Hp w [] w' := by
 refine enter (args := [_,_]) (Γ := [(0,_),(1,_)]) Tryz.func105 Tryz.ntmps105 rfl odq (.cons rfl (.cons rfl .nil)) ?_
 repeat' first | refine Wl.move rfl rfl ?_ | refine Wl.assign rfl rfl ?_ | (apply Wl.on;exact rfl;exact rfl;exact ka) | (apply Wl.off;exact rfl;exact rfl;exact rfl;exact kq) | (apply Wl.pickT;exact rfl;exact rfl;exact ka;exact rfl) | (apply Wl.pickF;exact rfl;exact rfl;exact ka;exact rfl) | refine Wl.leq rfl rfl rfl ?_ | refine Wl.geq rfl rfl rfl ?_ | (refine Wl.addI rfl rfl rfl ?_ ?_;constructor <;> omega) | apply Wl.nil | apply St.seq | apply St.region | apply St.ret | apply Gt.next | (apply Gt.out1;exact rfl;exact rfl;intro w' hp) | (apply Wl.splitP;exact rfl;exact rfl;all_goals (intros;try (exfalso;omega)))
 all_goals exact ⟨⟨_,rfl⟩,hp⟩
theorem ramPutG (c b n : Nat) (at_ : Int) (v : Value) (l : List UInt8) (w : World) (hR : RM w c b n) (hn : n < 1000000) (hl : l.length ≤ 5000) (hat : -1000000 ≤ at_ ∧ at_ ≤ 4294967296000) (hv : Bs w v l) (hvo : ∀ k,v.ownBlock = some k → l ≠ [] → k ≠ b) :
  Calls Tryz.prog 54 #[.pointer (some ⟨c,0,none⟩),.int .i64 at_,v] w fun e w' => (∃ z : Bool,e = .returned (.bool z)) ∧ RM w' c b (n + l.length) ∧ Upd (fun k => k = b) w w' := by
 have hlt := hR.lt
 obtain ⟨va,vc,rfl,_,hm⟩ := hv.shape
 unfold maxLen at hm
 have c0 : w.cell? ⟨c,0,none⟩ = some (.map (some b)) := cell_of hR.1 rfl
 have hcb : c ≠ b := by
  intro e
  obtain ⟨h1,D,es,clock,h2,_⟩ := hR
  rw [e] at h1
  rw [h1] at h2
  cases h2
 refine enter (args := [_,_,_]) (Γ := [(0,_),(1,_),(2,_)]) Tryz.func54 Tryz.ntmps54 rfl odq (.cons rfl (.cons rfl (.cons rfl .nil))) ?_
 repeat' first | refine Wl.move rfl rfl ?_ | refine Wl.assign rfl rfl ?_ | refine Wl.len rfl rfl ?_ | apply Wl.nil | apply St.seq | apply St.region | apply Gt.next
 apply Wl.callC
 ·exact rfl
 ·exact ke
 intro wq hq
 refine (refHasG _ _ wq hat ky).mono ?_
 rintro e wr ⟨⟨z,rfl⟩,hr⟩
 refine ⟨_,_,rfl,hq.keep hr,?_⟩
 clear hr hq wr wq
 cases z
 ·repeat' first | refine Wl.assign rfl rfl ?_ | refine Wl.not rfl rfl ?_ | apply Wl.nil | apply St.seq | apply St.region | (apply St.condT;exact rfl;exact ka) | apply St.ret | apply Gt.next | apply Gt.thenRet | (apply Gt.out1;exact rfl;exact rfl;intro w' hp)
  exact ⟨⟨_,rfl⟩,⟨hp.upd.heap hR.1 fun y => y trivial,by obtain ⟨D,hD⟩ := hR.2.upd hp.upd fun y => y trivial;exact ⟨D,hD.mono ky⟩⟩,hp.upd.mono fun _ _ y => (y trivial).elim⟩
 repeat' first | refine Wl.assign rfl rfl ?_ | refine Wl.not rfl rfl ?_ | apply Wl.nil | apply St.seq | apply St.block | apply St.region | (apply St.condF;exact rfl;exact ka) | apply St.skip | apply Gt.next
 refine St.loop (σ := Nat × World) (fun τ => τ.1 ≤ l.length ∧ RM τ.2 c b (n + τ.1) ∧ Upd (fun k => k = b) w τ.2)
  (fun τ => [(0,.pointer (some ⟨c,0,none⟩)),(1,.int .i64 at_),(2,.slice va l.length vc),(7,.int .i64 (τ.1 : Int))]) (fun τ => Hp τ.2 []) (fun τ => l.length - τ.1) (0,w) ⟨Nat.zero_le _,hR,Upd.refl _ _⟩ kw (fun _ h => h) ?_
 rintro ⟨i,w0⟩ ⟨hi,hR0,hu0⟩
 simp only at hi hR0 hu0 ⊢
 have c0' : w0.cell? ⟨c,0,none⟩ = some (.map (some b)) := cell_of hR0.1 rfl
 by_cases hlt2 : i < l.length
 ·have hd : decide ((i : Int) < (l.length : Int)) = true := decide_eq_true ky
  obtain ⟨vb,vo,rfl,hcells⟩ := hv.cells (fun e => by rw [e] at hlt2;simp at hlt2)
  have hb : w0.cell? ⟨vb,vo + (i : Int).toNat,none⟩ = some (.int .u8 (l[i].toNat : Int)) := by
   rw [Int.toNat_natCast]
   exact hu0.cell (hcells i hlt2) fun e => hvo vb rfl (fun e0 => by rw [e0] at hlt2;simp at hlt2) e
  have l1 := hR0.lt
  have l2 := World.block_lt_of_cell? w0 _ hb
  simp only at l2
  repeat' first | (apply St.bagX (i := 6) 11 [];exact mixed;(decide +kernel);kernel_rfl) | (apply Wl.loadO;exact rfl;exact rfl;(first | exact c0' | exact hb);(repeat (first | exact trivial | exact hX.off q4))) | apply OpsX.nil | (apply OpsX.v;(intro X hX;change Wl [_] _ _ _ _ _ _ _;apply Wl.catX;exact ke)) | (apply Gt.endX;exact rfl) | (apply EndX.on;exact rfl) | (apply EndX.off;exact rfl) | (apply EndX.nil';apply Wl.catE;exact ke) | refine Wl.move rfl rfl ?_ | refine Wl.nilCheck rfl rfl ?_ | refine Wl.fieldAddr0 rfl rfl ?_ | refine Wl.lss rfl rfl rfl ?_ | (refine Wl.addI rfl rfl rfl ?_ ?_;constructor <;> omega) | refine Wl.len rfl rfl ?_ | (refine Wl.indexAddr1 rfl rfl rfl ?_ ?_;constructor <;> omega) | apply Wl.nil | apply St.seq | apply St.block | apply St.region | (apply St.condT;exact rfl;exact ka) | apply St.skip | apply Gt.next
  apply Wl.storeMB (k := 3) (e := 5) (b := b) (n := n + i)
  ·exact rfl
  ·exact rfl
  ·exact rfl
  ·unfold I64;omega
  ·have := l[i].toNat_lt
   simp [Lit.wf,IntKind.min,IntKind.max,IntKind.signed,IntKind.bits]
   omega
  ·unfold maxLen;omega
  ·exact hR0.2
  ·exact trivial
  intro w1 hM hu1
  repeat' first | refine Wl.move rfl rfl ?_ | refine Wl.assign rfl rfl ?_ | (refine Wl.addI rfl rfl rfl ?_ ?_;constructor <;> omega) | apply Wl.nil | apply St.region | apply Gt.next | apply Gt.inNormal
  apply Gt.round (i + 1,w1)
  rotate_left
  ·simp only;omega
  ·exact ke
  ·exact fun _ h => h
  ·refine ⟨hlt2,⟨hu1.heap hR0.1 fun y => y.elim hcb fun y => y trivial,hM⟩,hu0.trans (hu1.mono fun k _ y => y.elim id fun y => (y trivial).elim)⟩
 ·obtain rfl : i = l.length := by omega
  have hd : decide ((l.length : Int) < (l.length : Int)) = false := decide_eq_false ky
  repeat' first | refine Wl.move rfl rfl ?_ | refine Wl.assign rfl rfl ?_ | refine Wl.lss rfl rfl rfl ?_ | refine Wl.len rfl rfl ?_ | apply Wl.nil | apply St.seq | apply St.region | (apply St.condF;exact rfl;exact ka) | apply St.ret | apply St.exit | apply Gt.next | apply Gt.thenExit | apply Gt.inExit | (apply Gt.out1;exact rfl;exact rfl;intro w' hp)
  exact ⟨⟨_,rfl⟩,⟨hp.upd.heap hR0.1 fun y => y trivial,by obtain ⟨D,hD⟩ := hR0.2.upd hp.upd fun y => y trivial;exact ⟨D,hD.mono ky⟩⟩,hu0.trans (hp.upd.mono fun _ _ y => (y trivial).elim)⟩
structure LoadD where
 code : List Int
 data : List UInt8
 calls : Int
 regs : List (Int × Int)
def WordsV (w : World) (v : Value) (l : List Int) : Prop := ∃ a c,v = .slice a l.length c ∧ ∀ (i : Nat) x,l[i]? = some x → ∃ b o,a = some ⟨b,o,none⟩ ∧ w.cell? ⟨b,o + i,none⟩ = some (.int .u32 x) ∧ 0 ≤ x ∧ x < 4294967296
def PairsV (w : World) (v : Value) (l : List (Int × Int)) : Prop := ∃ a c,v = .slice a l.length c ∧ ∀ (i : Nat) x,l[i]? = some x → ∃ b o,a = some ⟨b,o,none⟩ ∧ (w.cell? ⟨b,o + i * 2,none⟩ = some (.int .u32 x.1) ∧ 0 ≤ x.1 ∧ x.1 < 4294967296) ∧ w.cell? ⟨b,o + i * 2 + 1,none⟩ = some (.int .u32 x.2) ∧ 0 ≤ x.2 ∧ x.2 < 4294967296
theorem WordsV.upd {w w' : World} {v : Value} {l : List Int} {S : Nat → Prop} (h : WordsV w v l) (u : Upd S w w') (hs : ∀ k,k < w.heap.size → ¬ S k) : WordsV w' v l := by
 obtain ⟨a,c,e,h⟩ := h
 refine ⟨a,c,e,fun i x hx => ?_⟩
 obtain ⟨b,o,e,h1,h2⟩ := h i x hx
 exact ⟨b,o,e,u.cell h1 (hs _ (cell_old h1)),h2⟩
theorem PairsV.upd {w w' : World} {v : Value} {l : List (Int × Int)} {S : Nat → Prop} (h : PairsV w v l) (u : Upd S w w') (hs : ∀ k,k < w.heap.size → ¬ S k) : PairsV w' v l := by
 obtain ⟨a,c,e,h⟩ := h
 refine ⟨a,c,e,fun i x hx => ?_⟩
 obtain ⟨b,o,e,⟨h1,h2⟩,h3,h4⟩ := h i x hx
 exact ⟨b,o,e,⟨u.cell h1 (hs _ (cell_old h1)),h2⟩,u.cell h3 (hs _ (cell_old h3)),h4⟩
structure LoadV (w : World) (x : LoadD) (v0 v1 v3 : Value) : Prop where
 code : WordsV w v0 x.code
 data : Bs w v1 x.data
 dlt : ∀ k,v1.ownBlock = some k → x.data ≠ [] → k < w.heap.size
 regs : PairsV w v3 x.regs
 len : x.code.length ≤ 1024 ∧ x.data.length ≤ 4096 ∧ x.regs.length ≤ 1500
 cal : I64 x.calls
def loadC (v0 v1 v3 : Value) (x : LoadD) : List Value := [v0,v1,.int .i64 x.calls,v3]
def LoadsF (w : World) (a : Option Addr) (l : List LoadD) : Prop := ∀ (i : Nat) x,l[i]? = some x → ∃ b o,a = some ⟨b,o,none⟩ ∧ ∃ v0 v1 v3,(∀ q v,(loadC v0 v1 v3 x)[q]? = some v → w.cell? ⟨b,o + i * 4 + q,none⟩ = some v) ∧ LoadV w x v0 v1 v3
theorem LoadV.upd {w w' : World} {x : LoadD} {v0 v1 v3 : Value} {S : Nat → Prop} (h : LoadV w x v0 v1 v3) (u : Upd S w w') (hs : ∀ k,k < w.heap.size → ¬ S k) : LoadV w' x v0 v1 v3 :=
 ⟨h.code.upd u hs,h.data.upd u fun k _ hk _ => hs k hk,fun k hk hne => Nat.lt_of_lt_of_le (h.dlt k hk hne) u.size,h.regs.upd u hs,h.len,h.cal⟩
def codeF (f : Nat → Int) (o : Nat) : List Int → Nat → (Nat → Int)
 | _,0 => f
 | l,k + 1 => storeX (codeF f o l k) (o + 4 * k) (l.getD k 0) 4
def loadF1 (f : Nat → Int) (i : Nat) (x : LoadD) : Nat → Int := putF (codeF f (4096 + 12288 * i) x.code x.code.length) (8192 + 12288 * i) x.data
def loadF (l : List LoadD) : Nat → (Nat → Int)
 | 0 => fun _ => 0
 | i + 1 => loadF1 (loadF l i) i (l.getD i ⟨[],[],0,[]⟩)
def caF (l : List LoadD) (i j : Nat) : Int := if j < i then bits .and .i64 ((l.getD j ⟨[],[],0,[]⟩).calls) 255 else 255
structure BegS (w w0 : World) (n i : Nat) (pb : Nat) (J : List Value) (gs : Nat → Nat) (ca : Nat → Int) (cM rb rm rn : Nat) (f : Nat → Int) (v6 v7 : Value) (eb ec : Nat → Nat) : Prop where
 pay : w0.heap[pb]? = some (.cells ((payRs gs ca n).flatten ++ J).toArray 116 (0,0))
 gr : ∀ j,j < n → w.heap.size ≤ gs j ∧ w0.heap[gs j]? = some (.cells (grC (biasI j)).toArray 180 (0,0))
 mem : memH w0 cM f
 ram : RM w0 rb rm rn
 ent : w0.ownsRow w.heap.size 65 1 v6 i ((List.range i).map fun j => .slice (some ⟨eb j,0,none⟩) 4 (ec j))
 enx : ∀ j,j < i → w.heap.size ≤ eb j ∧ ∃ cs : List Value,w0.heap[eb j]? = some (.cells cs.toArray 160 (0,0)) ∧ EntX w0 (some ⟨eb j,0,none⟩) 4 (en4 (biasI j))
 st : w0.ownsRow w.heap.size 25 1 v7 i ((List.range i).map fun j => .int .u32 (biasI j))
 up : Upd (fun k => w.heap.size ≤ k) w w0
 ge : w.heap.size ≤ pb ∧ w.heap.size ≤ cM ∧ w.heap.size ≤ rb ∧ w.heap.size ≤ rm
def BegF (n i pb : Nat) (gs : Nat → Nat) (cM rb rm : Nat) (v6 v7 : Value) (eb : Nat → Nat) (b : Nat) : Prop := b = pb ∨ (∃ j,j < n ∧ b = gs j) ∨ b = cM ∨ b = rb ∨ b = rm ∨ v6.ownBlock = some b ∨ (∃ j,j < i ∧ b = eb j) ∨ v7.ownBlock = some b
section
variable {w w0 w' : World} {n i pb cM rb rm rn : Nat} {J : List Value} {gs eb ec : Nat → Nat} {ca : Nat → Int} {f : Nat → Int} {v6 v7 : Value}
theorem BegS.lt (k : BegS w w0 n i pb J gs ca cM rb rm rn f v6 v7 eb ec) : ∀ b,BegF n i pb gs cM rb rm v6 v7 eb b → w.heap.size ≤ b ∧ b < w0.heap.size := by
 rintro b (rfl | ⟨j,hj,rfl⟩ | rfl | rfl | rfl | h | ⟨j,hj,rfl⟩ | h)
 ·exact ⟨k.ge.1,lt_of_block k.pay⟩
 ·exact ⟨(k.gr j hj).1,lt_of_block (k.gr j hj).2⟩
 ·exact ⟨k.ge.2.1,lt_of_block k.mem⟩
 ·exact ⟨k.ge.2.2.1,k.ram.lt.1⟩
 ·exact ⟨k.ge.2.2.2,k.ram.lt.2⟩
 ·exact k.ent.ge b h
 ·exact ⟨(k.enx j hj).1,by obtain ⟨cs,h,_⟩ := (k.enx j hj).2;exact lt_of_block h⟩
 ·exact k.st.ge b h
theorem BegS.off (k : BegS w w0 n i pb J gs ca cM rb rm rn f v6 v7 eb ec) {b t : Nat} {cs : Array Value} (hb : w0.heap[b]? = some (.cells cs t (0,0))) (ht : t ≠ 116 ∧ t ≠ 180 ∧ t ≠ 156 ∧ t ≠ 178 ∧ t ≠ 65 ∧ t ≠ 160 ∧ t ≠ 25) :
  ∀ x,BegF n i pb gs cM rb rm v6 v7 eb x → x ≠ b := by
 obtain ⟨t1,t2,t3,t4,t5,t6,t7⟩ := ht
 have key : ∀ {x t' : Nat} {cs' : Array Value},w0.heap[x]? = some (.cells cs' t' (0,0)) → t ≠ t' → x ≠ b := fun hx hn e => by rw [e,hb] at hx;cases hx;exact hn rfl
 rintro x (rfl | ⟨j,hj,rfl⟩ | rfl | rfl | rfl | h | ⟨j,hj,rfl⟩ | h)
 ·exact key k.pay t1
 ·exact key (k.gr j hj).2 t2
 ·exact key k.mem t3
 ·exact key k.ram.1 t4
 ·intro e
  obtain ⟨D,es,clock,h2,_⟩ := k.ram.2
  rw [e,hb] at h2
  cases h2
 ·exact (k.ent.heap h).elim fun _ hg => key hg t5
 ·obtain ⟨cs',h,_⟩ := (k.enx j hj).2;exact key h t6
 ·exact (k.st.heap h).elim fun _ hg => key hg t7
theorem BegS.upd {S : Nat → Prop} (k : BegS w w0 n i pb J gs ca cM rb rm rn f v6 v7 eb ec) (u : Upd S w0 w') (hs : ∀ b,BegF n i pb gs cM rb rm v6 v7 eb b → ¬ S b) (hn : ∀ b,b < w.heap.size → ¬ S b) : BegS w w' n i pb J gs ca cM rb rm rn f v6 v7 eb ec where
 pay := u.heap k.pay (hs _ (.inl rfl))
 gr := fun j hj => ⟨(k.gr j hj).1,u.heap (k.gr j hj).2 (hs _ (.inr (.inl ⟨j,hj,rfl⟩)))⟩
 mem := u.heap k.mem (hs _ (.inr (.inr (.inl rfl))))
 ram := k.ram.upd u (hs _ (.inr (.inr (.inr (.inl rfl))))) (hs _ (.inr (.inr (.inr (.inr (.inl rfl))))))
 ent := ownsRow_upd k.ent u fun b hb => hs _ (.inr (.inr (.inr (.inr (.inr (.inl hb))))))
 enx := fun j hj => by
  obtain ⟨h1,cs,h2,h3⟩ := k.enx j hj
  refine ⟨h1,cs,u.heap h2 (hs _ (.inr (.inr (.inr (.inr (.inr (.inr (.inl ⟨j,hj,rfl⟩)))))))),fun q hq => ?_⟩
  obtain ⟨b,o,e,c1,c2,c3⟩ := h3 q hq
  cases e
  have hh := hs (eb j) (.inr (.inr (.inr (.inr (.inr (.inr (.inl ⟨j,hj,rfl⟩)))))))
  exact ⟨_,_,rfl,u.cell c1 hh,u.cell c2 hh,u.cell c3 hh⟩
 st := ownsRow_upd k.st u fun b hb => hs _ (.inr (.inr (.inr (.inr (.inr (.inr (.inr hb)))))))
 up := ⟨u.os.trans k.up.os,u.tape.trans k.up.tape,u.output.trans k.up.output,Nat.le_trans k.up.size u.size,fun q hq hsq => (u.block q (Nat.lt_of_lt_of_le hq k.up.size) (hn q hq)).trans (k.up.block q hq hsq)⟩
 ge := k.ge
theorem BegS.new (k : BegS w w0 n i pb J gs ca cM rb rm rn f v6 v7 eb ec) (u : Upd (fun b => w0.heap.size ≤ b) w0 w') : BegS w w' n i pb J gs ca cM rb rm rn f v6 v7 eb ec :=
 k.upd u (fun b hb => Nat.not_le.2 (k.lt b hb).2) fun b hb => Nat.not_le.2 (Nat.lt_of_lt_of_le hb k.up.size)
theorem hne {w0 : World} {x b t t' : Nat} {cs cs' : Array Value} (hx : w0.heap[x]? = some (.cells cs' t' (0,0))) (hb : w0.heap[b]? = some (.cells cs t (0,0))) (hn : t ≠ t') : x ≠ b := fun e => by rw [e,hb] at hx;cases hx;exact hn rfl
theorem BegS.rmne (k : BegS w w0 n i pb J gs ca cM rb rm rn f v6 v7 eb ec) {b t : Nat} {cs : Array Value} (hb : w0.heap[b]? = some (.cells cs t (0,0))) : rm ≠ b := by
 intro e
 obtain ⟨D,es,clock,h2,_⟩ := k.ram.2
 rw [e,hb] at h2
 cases h2
theorem BegS.mem' {f' : Nat → Int} (k : BegS w w0 n i pb J gs ca cM rb rm rn f v6 v7 eb ec) (hm : memH w' cM f') (u : Upd (fun b => b = cM) w0 w') : BegS w w' n i pb J gs ca cM rb rm rn f' v6 v7 eb ec where
 pay := u.heap k.pay (hne k.pay k.mem ze)
 gr := fun j hj => ⟨(k.gr j hj).1,u.heap (k.gr j hj).2 (hne (k.gr j hj).2 k.mem ze)⟩
 mem := hm
 ram := k.ram.upd u (hne k.ram.1 k.mem ze) (k.rmne k.mem)
 ent := ownsRow_upd k.ent u fun b hb => (k.ent.heap hb).elim fun _ hg => hne hg k.mem ze
 enx := fun j hj => by
  obtain ⟨h1,cs,h2,h3⟩ := k.enx j hj
  have hh := hne h2 k.mem ze
  refine ⟨h1,cs,u.heap h2 hh,fun q hq => ?_⟩
  obtain ⟨b,o,e,c1,c2,c3⟩ := h3 q hq
  cases e
  exact ⟨_,_,rfl,u.cell c1 hh,u.cell c2 hh,u.cell c3 hh⟩
 st := ownsRow_upd k.st u fun b hb => (k.st.heap hb).elim fun _ hg => hne hg k.mem ze
 up := k.up.comp u fun b hb hs => hs.elim id fun e => e ▸ k.ge.2.1
 ge := k.ge
theorem BegS.ram' {rn' : Nat} (k : BegS w w0 n i pb J gs ca cM rb rm rn f v6 v7 eb ec) (hr : RM w' rb rm rn') (u : Upd (fun b => b = rm ∨ w0.heap.size ≤ b) w0 w') : BegS w w' n i pb J gs ca cM rb rm rn' f v6 v7 eb ec := by
 have key : ∀ {x t : Nat} {cs : Array Value},w0.heap[x]? = some (.cells cs t (0,0)) → ¬ (x = rm ∨ w0.heap.size ≤ x) := fun hx hs => hs.elim (fun e => k.rmne hx e.symm) fun h => absurd (lt_of_block hx) (Nat.not_lt.2 h)
 exact {
  pay := u.heap k.pay (key k.pay)
  gr := fun j hj => ⟨(k.gr j hj).1,u.heap (k.gr j hj).2 (key (k.gr j hj).2)⟩
  mem := u.heap k.mem (key k.mem)
  ram := hr
  ent := ownsRow_upd k.ent u fun b hb => (k.ent.heap hb).elim fun _ hg => key hg
  enx := fun j hj => by
   obtain ⟨h1,cs,h2,h3⟩ := k.enx j hj
   have hh := key h2
   refine ⟨h1,cs,u.heap h2 hh,fun q hq => ?_⟩
   obtain ⟨b,o,e,c1,c2,c3⟩ := h3 q hq
   cases e
   exact ⟨_,_,rfl,u.cell c1 hh,u.cell c2 hh,u.cell c3 hh⟩
  st := ownsRow_upd k.st u fun b hb => (k.st.heap hb).elim fun _ hg => key hg
  up := k.up.comp u fun b hb hs => hs.elim id fun e => e.elim (fun e => e ▸ k.ge.2.2.2) fun h => Nat.le_trans k.up.size h
  ge := k.ge }
theorem BegS.pay' {ca' : Nat → Int} (k : BegS w w0 n i pb J gs ca cM rb rm rn f v6 v7 eb ec) (hp : w'.heap[pb]? = some (.cells ((payRs gs ca' n).flatten ++ J).toArray 116 (0,0))) (u : Upd (fun b => b = pb ∨ w0.heap.size ≤ b) w0 w') : BegS w w' n i pb J gs ca' cM rb rm rn f v6 v7 eb ec := by
 have key : ∀ {x t : Nat} {cs : Array Value},w0.heap[x]? = some (.cells cs t (0,0)) → 116 ≠ t → ¬ (x = pb ∨ w0.heap.size ≤ x) := fun hx hn hs => hs.elim (hne hx k.pay hn) fun h => absurd (lt_of_block hx) (Nat.not_lt.2 h)
 exact {
  pay := hp
  gr := fun j hj => ⟨(k.gr j hj).1,u.heap (k.gr j hj).2 (key (k.gr j hj).2 ze)⟩
  mem := u.heap k.mem (key k.mem ze)
  ram := k.ram.upd u (key k.ram.1 ze) (fun hs => hs.elim (k.rmne k.pay) fun h => absurd k.ram.lt.2 (Nat.not_lt.2 h))
  ent := ownsRow_upd k.ent u fun b hb => (k.ent.heap hb).elim fun _ hg => key hg ze
  enx := fun j hj => by
   obtain ⟨h1,cs,h2,h3⟩ := k.enx j hj
   have hh := key h2 ze
   refine ⟨h1,cs,u.heap h2 hh,fun q hq => ?_⟩
   obtain ⟨b,o,e,c1,c2,c3⟩ := h3 q hq
   cases e
   exact ⟨_,_,rfl,u.cell c1 hh,u.cell c2 hh,u.cell c3 hh⟩
  st := ownsRow_upd k.st u fun b hb => (k.st.heap hb).elim fun _ hg => key hg ze
  up := k.up.comp u fun b hb hs => hs.elim id fun e => e.elim (fun e => e ▸ k.ge.1) fun h => Nat.le_trans k.up.size h
  ge := k.ge }
theorem BegS.rows {v6' v7' : Value} {eb' ec' : Nat → Nat} {S : Nat → Prop} (k : BegS w w0 n i pb J gs ca cM rb rm rn f v6 v7 eb ec)
  (h6 : w'.ownsRow w.heap.size 65 1 v6' (i + 1) ((List.range (i + 1)).map fun j => .slice (some ⟨eb' j,0,none⟩) 4 (ec' j))) (hx : ∀ j,j < i + 1 → w.heap.size ≤ eb' j ∧ ∃ cs : List Value,w'.heap[eb' j]? = some (.cells cs.toArray 160 (0,0)) ∧ EntX w' (some ⟨eb' j,0,none⟩) 4 (en4 (biasI j)))
  (h7 : w'.ownsRow w.heap.size 25 1 v7' (i + 1) ((List.range (i + 1)).map fun j => .int .u32 (biasI j))) (u : Upd S w0 w') (hs : ∀ b,BegF n i pb gs cM rb rm v6 v7 eb b → S b → v6.ownBlock = some b ∨ v7.ownBlock = some b) (hn0 : ∀ b,S b → w.heap.size ≤ b) : BegS w w' n (i + 1) pb J gs ca cM rb rm rn f v6' v7' eb' ec' := by
 have key : ∀ {x t : Nat} {cs : Array Value},BegF n i pb gs cM rb rm v6 v7 eb x → w0.heap[x]? = some (.cells cs t (0,0)) → 65 ≠ t → 25 ≠ t → ¬ S x := fun hF hx hn hn' h => (hs _ hF h).elim (fun h => (k.ent.heap h).elim fun _ hg => hne hx hg hn rfl) fun h => (k.st.heap h).elim fun _ hg => hne hx hg hn' rfl
 exact {
  pay := u.heap k.pay (key (.inl rfl) k.pay ze ze)
  gr := fun j hj => ⟨(k.gr j hj).1,u.heap (k.gr j hj).2 (key (.inr (.inl ⟨j,hj,rfl⟩)) (k.gr j hj).2 ze ze)⟩
  mem := u.heap k.mem (key (.inr (.inr (.inl rfl))) k.mem ze ze)
  ram := k.ram.upd u (key (.inr (.inr (.inr (.inl rfl)))) k.ram.1 ze ze) (fun h => (hs _ (.inr (.inr (.inr (.inr (.inl rfl))))) h).elim (fun h => (k.ent.heap h).elim fun _ hg => k.rmne hg rfl) fun h => (k.st.heap h).elim fun _ hg => k.rmne hg rfl)
  ent := h6
  enx := hx
  st := h7
  up := k.up.comp u fun b hb h => h.elim id fun h => hn0 b h
  ge := k.ge }
end
theorem MonF.with {I : Mi} {M : Mv2} {L : List Sta} {t : Int} {ins : List (List UInt8)} {sa b : Nat} (h : MonF {I with sa := sa} {M with L := L,t := t,ins := ins} b) : MonF I M b ∨ b = sa := by
 rcases h with h | h | h | h | h | h | h | h | h | h | h | h | h
 ·exact .inl (.inl h)
 ·exact .inl (.inr (.inl h))
 ·exact .inl (.inr (.inr (.inl h)))
 ·exact .inl (.inr (.inr (.inr (.inl h))))
 ·exact .inr h
 ·exact .inl (.inr (.inr (.inr (.inr (.inr (.inl h))))))
 ·exact .inl (.inr (.inr (.inr (.inr (.inr (.inr (.inl h)))))))
 ·exact .inl (.inr (.inr (.inr (.inr (.inr (.inr (.inr (.inl h))))))))
 ·exact .inl (.inr (.inr (.inr (.inr (.inr (.inr (.inr (.inr (.inl h)))))))))
 ·exact .inl (.inr (.inr (.inr (.inr (.inr (.inr (.inr (.inr (.inr (.inl h))))))))))
 ·exact .inl (.inr (.inr (.inr (.inr (.inr (.inr (.inr (.inr (.inr (.inr (.inl h)))))))))))
 ·exact .inl (.inr (.inr (.inr (.inr (.inr (.inr (.inr (.inr (.inr (.inr (.inr (.inl h))))))))))))
 ·exact .inl (.inr (.inr (.inr (.inr (.inr (.inr (.inr (.inr (.inr (.inr (.inr (.inr h))))))))))))
def insK (ins : List (List UInt8)) (k n : Nat) : List (List UInt8) := ins.take k ++ List.replicate (n - k) []
theorem insK_0 (ins : List (List UInt8)) (n : Nat) : insK ins 0 n = List.replicate n [] := by simp [insK]
theorem insK_n (ins : List (List UInt8)) {n : Nat} (h : ins.length = n) : insK ins n n = ins := by simp [insK,← h]
theorem insK_at (ins : List (List UInt8)) {k n : Nat} (hk : k < n) (hl : n ≤ ins.length) : (insK ins k n)[k]? = some [] := by
 unfold insK
 rw [List.getElem?_append_right jc,List.getElem?_replicate,if_pos jc]
theorem insK_set {ins : List (List UInt8)} {k n : Nat} {s : List UInt8} (hk : k < n) (hs : ins[k]? = some s) : (insK ins k n).set k ([] ++ s) = insK ins (k + 1) n := by
 have hl := (List.getElem?_eq_some_iff.1 hs).1
 unfold insK
 rw [List.set_append_right _ _ jc,List.take_add_one,hs,show n - k = (n - (k + 1)) + 1 by omega,List.replicate_succ,List.length_take,show k - min k ins.length = 0 by omega]
 simp
structure WiB (w w' : World) (I : Mi) (M : Mv2) (c : Nat) (cs : List Value) : Prop where
 mm : w'.heap[I.m]? = some (.cells #[.pointer (some ⟨I.h,0,none⟩),.pointer (some ⟨I.d,0,none⟩),.pointer (some ⟨I.wd,0,none⟩),M.seen] 130 (0,0))
 dd : w'.heap[I.d]? = some (.cells #[M.pv,M.ev,.pointer (some ⟨I.cM,0,none⟩),.pointer (some ⟨I.pp,0,none⟩),.pointer (some ⟨I.bd,0,none⟩)] 139 (0,0))
 cc : w'.heap[c]? = some (.cells cs.toArray 54 (0,0))
 u : Upd (fun k => w.heap.size ≤ k) w w'
theorem mZ0 : (madeCells (Value.int .u32 0).cells (0 * 1)).toList = List.replicate 0 (Value.int .u32 0) := by kernel_rfl
theorem mZ1 : (madeCells (Value.int .u32 0).cells (1 * 1)).toList = List.replicate 1 (Value.int .u32 0) := by kernel_rfl
theorem mZ2 : (madeCells (Value.int .u32 0).cells (2 * 1)).toList = List.replicate 2 (Value.int .u32 0) := by kernel_rfl
theorem mZ3 : (madeCells (Value.int .u32 0).cells (3 * 1)).toList = List.replicate 3 (Value.int .u32 0) := by kernel_rfl
theorem mZ4 : (madeCells (Value.int .u32 0).cells (4 * 1)).toList = List.replicate 4 (Value.int .u32 0) := by kernel_rfl
theorem mZ (n : Nat) (hn : n ≤ 4) : (madeCells (Value.int .u32 0).cells (n * 1)).toList = List.replicate n (Value.int .u32 0) := by
 have h : n = 0 ∨ n = 1 ∨ n = 2 ∨ n = 3 ∨ n = 4 := by omega
 rcases h with rfl | rfl | rfl | rfl | rfl
 ·exact mZ0
 ·exact mZ1
 ·exact mZ2
 ·exact mZ3
 ·exact mZ4
theorem wordZ {w : World} {b n t : Nat} (h : w.heap[b]? = some (.cells (List.replicate n (Value.int .u32 0)).toArray t (0,0))) : WordF w (some ⟨b,0,none⟩) n (fun _ => 0) := fun i hi =>
 ⟨b,0,rfl,cell_of h (by rw [Nat.zero_add,List.getElem?_replicate,if_pos hi]),Int.le_refl _,by show (0 : Int) < 4294967296;decide⟩
theorem rot {α : Type} (l : List α) (j : Nat) (h : j < l.length) : l.drop j ++ l.take j = l[j] :: (l.drop (j + 1) ++ l.take j) ∧ (l.drop (j + 1) ++ l.take j) ++ [l[j]] = l.drop (j + 1) ++ l.take (j + 1) := by
 refine ⟨by rw [List.drop_eq_getElem_cons h];rfl,?_⟩
 rw [List.append_assoc,List.take_add_one,List.getElem?_eq_getElem h]
 rfl
theorem pAll (pp pa : Nat) (cs : List Nat) (bx : Nat → List Value) (i ch : Nat) (ls : List (Int × List UInt8)) (w : World) (hP : PostS w pp pa cs bx) (hi : cs[i]? = some ch) (hb : bx i = ls.map letV) (h4 : ls.length ≤ 4) :
  Calls Tryz.prog 75 #[.pointer (some ⟨pp,0,none⟩),.int .i64 i] w fun e w' => ∃ v,e = .returned v ∧ w'.ownsRow w.heap.size 78 2 v ls.length (ls.map lineC).flatten ∧ PostS w' pp pa cs bx ∧ Upd (fun k => k = ch ∨ w.heap.size ≤ k) w w' := by
 have hlts := hP.lt
 have hch := hP.2.1 i ch hi
 have hlc := hch.lt
 refine enterN (args := [_,_]) (Γ := [(0,_),(1,_)]) Tryz.func75 Tryz.ntmps75 rfl odq (.cons rfl (.cons rfl .nil)) ?_
 refine StN.seq (StN.of ?_)
 repeat' first | refine Wl.assign rfl rfl ?_ | apply Wl.nil | apply St.region
 refine GtN.next (StN.seq (StN.of ?_))
 repeat' first | refine Wl.move rfl rfl ?_ | apply St.region
 apply Wl.callQ
 exact rfl
 (focus repeat constructor)
 ·intro wq hq
  exact hq.q (pBox pp pa cs bx i ch wq (hP.upd hq.upd nt0 nt0 fun _ _ y => y trivial) hi)
 repeat' first | refine Wl.assign rfl rfl ?_ | apply Wl.nil
 refine GtN.next (StN.seq (StN.of ?_))
 repeat' first | refine Wl.assign rfl rfl ?_ | apply Wl.nil | apply St.region
 refine GtN.next (StN.seq (StN.seq (StN.of ?_)))
 repeat' first | (apply Wl.lenChan (b := ch) (cap := 4) (l := bx i) chTy;exact rfl;exact rfl;(intro w' h';exact hch.upd h'.upd fun y => y trivial)) | refine Wl.move rfl rfl ?_ | apply Wl.nil | apply St.region
 rw [show (bx i).length = ls.length by rw [hb,List.length_map]]
 refine GtN.next (GtN.base fun w0 h0 => StN.block ?_)
 refine StN.loop (σ := Nat × World × Value) (fun τ => τ.1 ≤ ls.length ∧ ChanB τ.2.1 ch 4 ((ls.drop τ.1 ++ ls.take τ.1).map letV) ∧ τ.2.1.ownsRow w.heap.size 78 2 τ.2.2 τ.1 ((ls.take τ.1).map lineC).flatten ∧ Upd (fun k => k = ch ∨ w.heap.size ≤ k) w τ.2.1)
  (fun τ => [(5,.chan (some ch)),(6,τ.2.2),(12,.int .i64 (ls.length : Int)),(13,.int .i64 (τ.1 : Int))]) (fun τ => Hp τ.2.1 []) (fun τ => ls.length - τ.1) (0,w0,.slice none 0 0) ⟨Nat.zero_le _,?_,World.ownsRow_nil _ _ _ _,h0.upd.mono fun _ _ y => (y trivial).elim⟩ kw (fun _ h => h) ?_
 ·simp only [List.drop_zero,List.take_zero,List.append_nil]
  rw [← hb]
  exact hch.upd h0.upd fun y => y trivial
 rintro ⟨j,w1,v⟩ ⟨hj,hc1,hv,hu⟩
 simp only at hj hc1 hv hu ⊢
 have z1 := hu.size
 by_cases hjl : j < ls.length
 ·have hd : decide ((j : Int) < (ls.length : Int)) = true := decide_eq_true ky
  obtain ⟨r1,r2⟩ := rot ls j hjl
  rw [r1,List.map_cons] at hc1
  refine StN.seq (StN.of ?_)
  repeat' first | refine Wl.lss rfl rfl rfl ?_ | apply Wl.nil | apply St.region
  refine GtN.next (StN.seq (StN.of ?_))
  repeat' first | (apply St.condT;exact rfl;exact ka) | apply St.skip
  refine GtN.next (StN.seq (StN.block (StN.seq (StN.region ?_))))
  refine SmN.val (v := .chan (some ch)) rfl rfl rfl rfl (fun a w ha _ => by simp [execOp,ha.ev (x := .tmp 5) rfl]) ?_
  refine SmN.recv (c := ch) (cap := 4) (l := (ls.drop (j + 1) ++ ls.take j).map letV) (v := letV ls[j]) (t := 232) (ch := .tmp 15) (zv := zLet) rfl rfl rfl rfl rfl (fun w' => ?_) rfl hc1 trivial (fun w2 hc2 u2 => ?_)
  ·simp [execOp,Go.Conc.rcase,run_zero (P := Tryz.prog) (t := 78),zLet]
  refine SmN.tail 2 ?_
  simp only [List.drop_succ_cons,List.drop_zero]
  have hv2 : w2.ownsRow w.heap.size 78 2 v j ((ls.take j).map lineC).flatten := ownsRow_upd hv u2 fun k hk hs => hs.elim (fun e => (hv.heap hk).elim fun _ hg => chan_ne hc1 hg e.symm) fun y => y trivial
  have U2 : Upd (fun k => k = ch ∨ w.heap.size ≤ k) w w2 := hu.comp u2 fun k _ hs => hs.elim id fun h => h.elim .inl fun y => (y trivial).elim
  have z2 := U2.size
  repeat' first | (apply Wl.storeA;exact rfl;exact rfl;exact rfl;exact rfl;exact ke;exact kf) | (apply Wl.alloc;exact rfl;intro c hc ho) | apply Wl.nil
  generalize c = c7 at *
  have hc7 : w2.heap.size ≤ c7 := by assumption
  refine GtN.next (StN.seq (StN.of ?_))
  repeat' first | refine Wl.move rfl rfl ?_ | (apply Wl.loadAH;exact rfl;exact rfl;exact ke;exact ke) | (apply Wl.lit;exact rfl;exact ki;exact rfl;exact rfl;exact kj;intro c hc ho) | apply St.region
  apply Wl.appendT (base := w.heap.size) (n := j) (m := 1) (sz := 2) (e := 78) (xs := ((ls.take j).map lineC).flatten)
  ·exact rfl
  ·exact rfl
  ·exact rfl
  ·assumption
  ·exact rfl
  ·exact hv2
  ·exact fun k hk => ⟨fun e => by have := (hv2.ge k hk).2;simp only at e;omega,trivial⟩
  ·exact rfl
  ·exact rfl
  ·decide
  ·unfold maxLen;omega
  ·omega
  ·exact z2
  intro v' w3 ho3 u3 _ hoff3
  repeat' first | refine Wl.assign rfl rfl ?_ | apply Wl.nil
  have nch : ∀ k,v.ownBlock = some k → k ≠ ch := fun k hk e => (hv2.heap hk).elim fun _ hg => chan_ne hc2 hg e.symm
  have hc3 : ChanB w3 ch 4 ((ls.drop (j + 1) ++ ls.take j).map letV) := hc2.upd u3 fun h => h.elim (fun h => nch ch h rfl) fun y => y ⟨by have := hc2.lt;simp only;omega,trivial⟩
  have z3 := u3.size
  refine GtN.next (GtN.base fun w4 h4' => StN.region ?_)
  have hc4 : ChanB w4 ch 4 ((ls.drop (j + 1) ++ ls.take j).map letV) := hc3.upd h4'.upd fun y => y ⟨by have := hc2.lt;simp only;omega,trivial⟩
  refine SmN.val (v := .chan (some ch)) rfl rfl rfl rfl (fun a w ha _ => by simp [execOp,ha.ev (x := .tmp 5) rfl]) ?_
  refine SmN.val (v := letV ls[j]) rfl rfl rfl rfl (fun a w' ha hw => ?_) ?_
  ·have e7 : a.eval (.tmp 7) = .pointer (some ⟨c7,0,none⟩) := ha.ev rfl
   have hcell : ∀ q v,(lineC ls[j])[q]? = some v → w'.cell? (Addr.add ⟨c7,0,none⟩ q) = some v := fun q v hq => by
    rw [addLit,Nat.zero_add]
    exact cell_of (hw.own.at (.head _)) hq
   simp [execOp,e7,Instr.loadAt,Instr.sureAddr,run_loadA (P := Tryz.prog) (t := 78) (xs := lineC ls[j]) rfl hcell]
   rfl
  refine SmN.send (c := ch) (cap := 4) (l := (ls.drop (j + 1) ++ ls.take j).map letV) (v := letV ls[j]) (ch := .tmp 21) (x := .tmp 22) rfl rfl rfl rfl rfl rfl hc4 zx ⟨by have := hc2.lt;simp only;omega,trivial⟩ (fun w5 hc5 u5 => ?_)
  refine SmN.nil ?_
  apply Gt.inNormal
  refine GtN.next (StN.of ?_)
  repeat' first | refine Wl.move rfl rfl ?_ | (refine Wl.addI rfl rfl rfl ?_ ?_;constructor <;> omega) | apply Wl.nil | apply St.region
  refine Gt.reb (H' := []) fun w6 h6 => ⟨trivial,trivial,?_⟩
  have key : ∀ {k},¬ Off [⟨c7,lineC ls[j],78⟩] k → w.heap.size ≤ k := fun {k} hn => Classical.byContradiction fun hlt => hn ⟨fun e => by simp only at e;omega,trivial⟩
  have U3 : Upd (fun k => k = ch ∨ w.heap.size ≤ k) w w3 := U2.comp u3 fun k _ hs => hs.elim id fun h => h.elim (fun h => .inr (hv2.ge k h).1) fun h => .inr (by
   refine Classical.byContradiction fun hlt => h ⟨fun e => ?_,trivial⟩
   simp only at e
   omega)
  have U6 : Upd (fun k => k = ch ∨ w.heap.size ≤ k) w w6 := ((U3.comp h4'.upd (T := fun k => k = ch ∨ w.heap.size ≤ k) fun k _ hs => hs.elim id fun h => .inr (key h)).comp u5 (T := fun k => k = ch ∨ w.heap.size ≤ k) fun k _ hs => hs.elim id fun h => h.elim .inl fun h => .inr (key h)).comp h6.upd fun k _ hs => hs.elim id fun h => .inr (key h)
  have hv6 : ∀ k,v'.ownBlock = some k → k ≠ ch ∧ Off [⟨c7,lineC ls[j],78⟩] k := fun k hk => ⟨fun e => (ho3.heap hk).elim fun _ hg => chan_ne hc3 hg e.symm,(hoff3 k hk).1⟩
  refine Gt.round (j + 1,w6,v') ⟨by simp only;omega,?_,?_,U6⟩ q7 kw (fun _ h => h)
  ·have e : (ls.drop (j + 1) ++ ls.take j).map letV ++ [letV ls[j]] = (ls.drop (j + 1) ++ ls.take (j + 1)).map letV := by rw [← r2,List.map_append (l₂ := [ls[j]])];rfl
   rw [e] at hc5
   exact hc5.upd h6.upd fun y => y ⟨by have := hc2.lt;simp only;omega,trivial⟩
  ·have e : ((ls.take (j + 1)).map lineC).flatten = ((ls.take j).map lineC).flatten ++ lineC ls[j] := by
    rw [List.take_add_one,List.getElem?_eq_getElem hjl,List.map_append,List.flatten_append]
    simp only [Option.toList_some,List.map_cons,List.map_nil,List.flatten_cons,List.flatten_nil,List.append_nil]
   simp only
   rw [e]
   exact ownsRow_upd (ownsRow_upd (ownsRow_upd ho3 h4'.upd fun k hk y => y (hv6 k hk).2) u5 fun k hk y => y.elim (hv6 k hk).1 fun y => y (hv6 k hk).2) h6.upd fun k hk y => y (hv6 k hk).2
 ·obtain rfl : j = ls.length := by omega
  have hd : decide ((ls.length : Int) < (ls.length : Int)) = false := decide_eq_false ky
  have eT : ls.take ls.length = ls := List.take_length
  have eD : ls.drop ls.length ++ ls = ls := by rw [List.drop_length];rfl
  rw [eT] at hc1 hv
  rw [eD,← hb] at hc1
  refine StN.seq (StN.of ?_)
  repeat' first | refine Wl.lss rfl rfl rfl ?_ | apply Wl.nil | apply St.region
  refine GtN.next (StN.seq (StN.of ?_))
  repeat' first | (apply St.condF;exact rfl;exact ka) | apply St.exit | apply Gt.thenExit | apply Gt.inExit
  refine GtN.next (StN.of ?_)
  repeat' first | refine Wl.move rfl rfl ?_ | refine Wl.assign rfl rfl ?_ | apply Wl.nil | apply St.seq | apply St.region | apply St.ret | apply Gt.next | (apply Gt.out1;exact rfl;exact rfl;intro w' hp)
  have hw : Upd (fun _ => False) w1 w' := (by assumption : Hp w1 [] w').upd.mono fun _ _ y => (y trivial).elim
  have U := hu.comp hw (T := fun k => k = ch ∨ w.heap.size ≤ k) fun k _ hs => hs.elim id fun y => y.elim
  obtain ⟨⟨cap,J,a,b⟩,hchs,hjj,rr⟩ := hP
  refine ⟨v,rfl,ownsRow_upd hv hw fun k _ y => y.elim,⟨⟨cap,J,U.heap a fun e => e.elim (fun e => chan_ne (hchs i ch hi) a e.symm) ky,U.heap b fun e => e.elim (fun e => chan_ne (hchs i ch hi) b e.symm) ky⟩,fun j' c' hj' => ?_,hjj,rr⟩,U⟩
  by_cases e : j' = i
  ·subst e
   rw [hi] at hj'
   cases hj'
   exact hc1.upd hw fun y => y
  ·exact (hchs j' c' hj').upd U fun e' => e'.elim (fun e' => e (hjj j' i ch (e' ▸ hj') hi)) fun y => by have := (hchs j' c' hj').lt;omega
end Go.Proofs.YtabbklpalbikdaaGreatDoor
end
