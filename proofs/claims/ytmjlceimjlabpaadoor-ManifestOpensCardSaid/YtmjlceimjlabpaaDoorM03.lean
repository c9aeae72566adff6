/-
 16 texts,one behind the other;each says what it proves. Conditions: as each text says.
-/
import Derived.Test.YtmjlceimjlabpaaDoorM02
import Derived.Test.YtmjlceimjlabpaaDoorM01
section
namespace Go.Proofs.YtmjlceimjlabpaaDoor
open Go.RowKit Go.Pt
def decErr (f : List UInt8) : Nat := match decM f with | none => 3 | some m => rightOf m
def noM : Mf := ⟨0,0,[]⟩
def decMan (f : List UInt8) : Mf := match decM f with | none => noM | some m => if rightOf m = 0 then m else noM
def noV : Value := .agg #[.int .u32 0,.int .i64 0,.slice none 0 0]
theorem noM_v (w : World) : MfV w noV noM := ⟨_,[],rfl,rfl,Sv.nil w 36,fun x hx => (by cases hx),by decide,by unfold I64;decide⟩
def DecPost (f : List UInt8) (w : World) (e : Ending) (w' : World) : Prop := ∃ x,e = .returned (.tuple #[x,.int .i64 (decErr f)]) ∧ MfV w' x (decMan f) ∧ Upd (fun k => w.heap.size ≤ k) w w'
theorem decPost_none {f : List UInt8} {w w' : World} (h : decM f = none) (hu : Upd (fun k => w.heap.size ≤ k) w w') : DecPost f w (.returned (.tuple #[noV,.int .i64 3])) w' :=
 ⟨_,by unfold decErr;rw [h];rfl,by unfold decMan;rw [h];exact noM_v w',hu⟩
theorem _root_.Go.Pt.Hp.newer {w0 w w' : World} {H : List Blk} (h : Hp w0 H w) (u : Upd (fun k => w.heap.size ≤ k) w w') : Hp w0 H w' :=
 h.step u (fun x hx hle => by have := h.own.lt hx;omega) (fun k hk hle => by have := h.upd.size;omega)
theorem own_ne {w : World} {base e n sz c T : Nat} {cs : Array Value} {fr : Nat × Nat} {v : Value} {xs : List Value} (h : w.ownsRow base e sz v n xs) (hc : w.heap[c]? = some (.cells cs T fr)) (hT : T ≠ e) : v.ownBlock ≠ some c := fun e' => by
 obtain ⟨_,h⟩ := h
 rcases h with ⟨rfl,_⟩ | ⟨g,cap,cur,rfl,_,hh,_⟩
 ·cases e'
 ·simp only [Value.ownBlock,Option.some.injEq] at e'
  subst e'
  rw [hh] at hc
  simp only [Option.some.injEq,Obj.cells.injEq] at hc
  exact hT hc.2.1.symm
theorem u8_pos (c : Nat) (v0 v : Value) (f : List UInt8) (k : Nat) (w : World) (h : w.heap[c]? = some (.cells #[v,.bool (decide (f.length < k))] 66 (0,0))) (hb : Bs w v0 f) (hv : Left v0 f v k) :
  Calls Tryd.prog 24 #[.pointer (some ⟨c,0,none⟩)] w fun e w' => ∃ v',e = .returned (.int .i64 (num f k 1)) ∧ Hp w [⟨c,[v',.bool (decide (f.length < k + 1))],66⟩] w' ∧ Left v0 f v' (k + 1) := by
 refine (u8_at c v (f.drop k) _ w (cTake_pos f k 1) rfl h (hv w hb)).mono ?_
 rintro e w' ⟨v',rfl,hp,hx⟩
 exact ⟨v',rfl,hp,fun u hu => hx u (hv u hu)⟩
theorem digcopy (f : List UInt8) (k : Nat) (r : List Value) : byteCells (part f k 32) ++ (byteCells (List.replicate 32 0) ++ r).drop (part f k 32).length = byteCells (digAt f k) ++ r := by
 unfold digAt
 by_cases h : k + 32 ≤ f.length
 ·rw [if_pos h]
  have : (part f k 32).length = 32 := by unfold part;rw [if_pos h];simp;omega
  rw [this,List.drop_left' (by rfl)]
 ·rw [if_neg h]
  have : part f k 32 = [] := by unfold part;rw [if_neg h]
  rw [this]
  rfl
theorem digAt_len (f : List UInt8) (k : Nat) : (digAt f k).length = 32 := by
 unfold digAt
 by_cases h : k + 32 ≤ f.length
 ·rw [if_pos h];unfold part;rw [if_pos h];simp;omega
 ·rw [if_neg h];rfl
def PyD (base : Nat) (w : World) (x : Py × Value) : Prop := w.ownsRow base 61 3 x.2 x.1.grants.length (x.1.grants.flatMap grCells) ∧ PyFit x.1
theorem PyD.v {base : Nat} {w : World} {x : Py × Value} (h : PyD base w x) : PyV w x := by
 obtain ⟨h1,h2,h3,h4,h5,h6,h7,h8⟩ := h
 refine ⟨Sv.ofOwn h1,h2,h3,h4,by unfold I64;omega,fun g hg => ?_,by omega⟩
 obtain ⟨a1,a2,a3,a4⟩ := h8 g hg
 exact ⟨a1,a2,by unfold I64;omega⟩
theorem own_base {w : World} {base base' e sz n : Nat} {v : Value} {xs : List Value} (h : w.ownsRow base e sz v n xs) (hb : base' ≤ base) : w.ownsRow base' e sz v n xs := by
 obtain ⟨h1,h2⟩ := h
 refine ⟨h1,?_⟩
 rcases h2 with h2 | ⟨g,cap,cur,e1,h3,r⟩
 ·exact .inl h2
 ·exact .inr ⟨g,cap,cur,e1,Nat.le_trans hb h3,r⟩
theorem own_ne2 {w : World} {base e n sz base' e' n' sz' : Nat} {v v' : Value} {xs xs' : List Value} (h : w.ownsRow base e sz v n xs) (h' : w.ownsRow base' e' sz' v' n' xs') (hT : e ≠ e') {k : Nat} (hk : v.ownBlock = some k) : v'.ownBlock ≠ some k := by
 obtain ⟨_,h⟩ := h
 rcases h with ⟨rfl,_⟩ | ⟨g,cap,cur,rfl,_,hh,_⟩
 ·cases hk
 ·simp only [Value.ownBlock,Option.some.injEq] at hk
  subst hk
  exact own_ne h' hh hT
theorem own_off {w : World} {base e n sz : Nat} {v : Value} {xs : List Value} (h : w.ownsRow base e sz v n xs) {H : List Blk} (ho : Own w H) (hT : (H.all fun x => !Nat.beq x.t e) = true) {q : Nat} (hq : v.ownBlock = some q) : Off H q :=
 Off.of fun x hx e' => by
  have h1 := List.all_eq_true.1 hT x hx
  refine own_ne h (ho.at hx) (fun e'' => ?_) (e' ▸ hq)
  rw [e''] at h1
  simp at h1
theorem num1 (f : List UInt8) (k : Nat) : num f k 1 < 256 := num_lt f k 1
set_option maxHeartbeats 4000000 in
theorem decode_any (v : Value) (f : List UInt8) (w : World) (hv : Bs w v f) (h3 : f.length ≤ 40000) :
  Calls Tryd.prog 8 #[v] w (DecPost f w) := by
 obtain ⟨a,cap,rfl,hlc,hm⟩ := hv.shape
 unfold maxLen at hm
 refine enter (args := [_]) (Γ := [(0,_)]) Tryd.func8 Tryd.ntmps8 rfl (of_decide_eq_true rfl) (.cons rfl .nil) ?_
 repeat' first | refine Wl.move rfl rfl ?_ | refine Wl.assign rfl rfl ?_ | (apply Wl.alloc;exact rfl;intro c hc ho) | apply Wl.nil | apply St.seq | apply St.region | apply Gt.next
 rename_i c2 hc2 ho2
 generalize c = c4 at *
 have hc4 : w.heap.size ≤ c4 := hc
 apply Wl.callC
 exact rfl
 (focus repeat constructor)
 intro w1 h1
 refine (at_pos _ f w1 (hv.upd h1.upd fun j _ hj _ hno => hno ⟨by simp only;omega,by simp only;omega,trivial⟩)).mono ?_
 rintro e w2 ⟨c5,rfl,hc,h2⟩
 refine ⟨_,_,rfl,h1.callNew h2 hc,?_⟩
 have hc5 : w.heap.size ≤ c5 := by have := h1.upd.size;omega
 have n45 : c4 < c5 := by have := h1.own.lt (.head _);simp only at this;omega
 have n25 : c2 < c5 := by have := h1.own.lt (.tail _ (.head _));simp only at this;omega
 clear h1 h2 hc
 have hbw (wq : World) (H : List Blk) (hq : Hp w H wq) (hH : ∀ x ∈ H,w.heap.size ≤ x.b) : Bs wq (.slice a f.length cap) f := hv.upd hq.upd fun j _ hj _ hno => hno (Off.of fun x hx e => by have := hH x hx;omega)
 have hv0 := left0 (.slice a f.length cap) f
 repeat' first | refine Wl.move rfl rfl ?_ | refine Wl.assign rfl rfl ?_ | apply Wl.nil | apply St.seq | apply St.region | apply Gt.next
 apply Wl.callC
 exact rfl
 (focus repeat constructor)
 intro wq hq
 refine (take_pos c5 (.slice a f.length cap) _ f 0 8 wq (hq.own.at (.head _)) (hbw _ _ hq (by simp;omega)) hv0).mono ?_
 rintro e wr ⟨x1,v1,rfl,hp,hv1,hx1⟩
 refine ⟨_,_,rfl,hq.callSet (by repeat constructor) hp,?_⟩
 clear hp hq wq wr
 apply Wl.convBS
 ·exact rfl
 ·exact rfl
 ·exact fun u hu => hx1 u (hbw u _ hu (by simp;omega))
 apply Wl.neqSB (q := manMark)
 ·exact rfl
 ·exact rfl
 ·exact rfl
 repeat' first | (apply Gt.outCT;exact rfl;infer_instance;exact rfl;exact rfl;(focus repeat constructor);(focus repeat constructor);intro w' hp) | refine Wl.move rfl rfl ?_ | refine Wl.assign rfl rfl ?_ | (apply Wl.storeA;exact rfl;exact rfl;exact rfl;exact rfl;(focus repeat constructor);(repeat (first | apply LPut.s | apply LPut.z | apply LOver.nil | apply LOver.cons))) | (apply Wl.buildS;exact rfl;(repeat (first | exact Parts.nil | apply Parts.cons rfl));(repeat (first | apply Fills.nil | (apply Fills.one;exact rfl;exact rfl;(repeat (first | apply LSet.z | apply LSet.s))) | (apply Fills.agg;exact rfl;exact rfl;(repeat (first | apply LPut.s | apply LPut.z | apply LOver.nil | apply LOver.cons)))))) | apply Wl.nil | apply St.seq | apply St.region | apply St.ret | apply St.skip | apply Gt.next | apply Gt.thenRet | (apply St.condP;exact rfl;all_goals (intros;try (exfalso;omega)))
 ·refine decPost_none ?_ ((hp.drop (by simp;omega)).upd.mono fun _ _ y => (y trivial).elim)
  unfold decM
  rw [if_neg fun h => ‹part f 0 8 ≠ manMark› h.1]
 have hid : part f 0 8 = manMark := by
  have := ‹¬ part f 0 8 ≠ manMark›
  exact Classical.not_not.1 this
 apply Wl.callC
 exact rfl
 (focus repeat constructor)
 intro wq hq
 refine (u32_pos c5 (.slice a f.length cap) _ f 8 wq (hq.own.at (.head _)) (hbw _ _ hq (by simp;omega)) hv1).mono ?_
 rintro e wr ⟨v2,rfl,hp,hv2⟩
 refine ⟨_,_,rfl,hq.callSet (by repeat constructor) hp,?_⟩
 clear hp hq wq wr
 repeat' first | refine Wl.move rfl rfl ?_ | refine Wl.fieldAddr0 rfl rfl ?_ | (apply Wl.store;exact rfl;exact rfl;exact rfl;(focus repeat constructor);(repeat (first | apply LSet.z | apply LSet.s))) | apply Wl.nil | apply St.seq | apply St.region | apply Gt.next
 apply Wl.callC
 exact rfl
 (focus repeat constructor)
 intro wq hq
 refine (u8_pos c5 (.slice a f.length cap) _ f 12 wq (hq.own.at (.head _)) (hbw _ _ hq (by simp;omega)) hv2).mono ?_
 rintro e wr ⟨v3,rfl,hp,hv3⟩
 refine ⟨_,_,rfl,hq.callSet (by repeat constructor) hp,?_⟩
 clear hp hq wq wr
 repeat' first | refine Wl.move rfl rfl ?_ | refine Wl.fieldAddrZ rfl rfl ?_ | (apply Wl.store;exact rfl;exact rfl;exact rfl;(focus repeat constructor);(repeat (first | apply LSet.z | apply LSet.s))) | apply Wl.nil | apply St.seq | apply St.region | apply Gt.next
 apply Wl.callC
 exact rfl
 (focus repeat constructor)
 intro wq hq
 refine (u8_pos c5 (.slice a f.length cap) _ f 13 wq (hq.own.at (.head _)) (hbw _ _ hq (by simp;omega)) hv3).mono ?_
 rintro e wr ⟨v4,rfl,hp,hv4⟩
 refine ⟨_,_,rfl,hq.callSet (by repeat constructor) hp,?_⟩
 clear hp hq wq wr
 repeat' first | refine Wl.move rfl rfl ?_ | refine Wl.assign rfl rfl ?_ | apply Wl.nil | apply St.seq | apply St.region | apply Gt.next
 apply Wl.callC
 exact rfl
 (focus repeat constructor)
 intro wq hq
 refine (u16_pos c5 (.slice a f.length cap) _ f 14 wq (hq.own.at (.head _)) (hbw _ _ hq (by simp;omega)) hv4).mono ?_
 rintro e wr ⟨v5,rfl,hp,hv5⟩
 refine ⟨_,_,rfl,hq.callSet (by repeat constructor) hp,?_⟩
 clear hp hq wq wr
 have m13 := num1 f 13
 have m12 := num1 f 12
 have m8 := num4 f 8
 have m14 := num2 f 14
 repeat' first | (apply Gt.outCT;exact rfl;infer_instance;exact rfl;exact rfl;(focus repeat constructor);(focus repeat constructor);intro w' hp) | refine Wl.move rfl rfl ?_ | refine Wl.assign rfl rfl ?_ | (apply Wl.on;exact rfl;exact rfl;(with_reducible first | rfl | assumption | decide)) | (apply Wl.off;exact rfl;exact rfl;exact rfl;(first | with_reducible rfl | (show _ = false;with_reducible assumption) | (show _ = true;with_reducible assumption) | decide)) | (apply Wl.pickT;exact rfl;exact rfl;(with_reducible first | rfl | assumption | decide);exact rfl) | (apply Wl.pickF;exact rfl;exact rfl;(with_reducible first | rfl | assumption | decide);exact rfl) | refine Wl.neq rfl rfl rfl ?_ | refine Wl.gtr rfl rfl rfl ?_ | (apply Wl.storeA;exact rfl;exact rfl;exact rfl;exact rfl;(focus repeat constructor);(repeat (first | apply LPut.s | apply LPut.z | apply LOver.nil | apply LOver.cons))) | (apply Wl.buildS;exact rfl;(repeat (first | exact Parts.nil | apply Parts.cons rfl));(repeat (first | apply Fills.nil | (apply Fills.one;exact rfl;exact rfl;(repeat (first | apply LSet.z | apply LSet.s))) | (apply Fills.agg;exact rfl;exact rfl;(repeat (first | apply LPut.s | apply LPut.z | apply LOver.nil | apply LOver.cons)))))) | apply Wl.nil | apply St.seq | apply St.block | apply St.region | (apply St.condT;exact rfl;(with_reducible first | rfl | assumption | decide)) | apply St.ret | apply St.skip | apply Gt.next | apply Gt.thenRet | (apply Wl.splitP;exact rfl;exact rfl;all_goals (intros;try (exfalso;omega))) | (apply St.condP;exact rfl;all_goals (intros;try (exfalso;omega)))
 ·refine decPost_none ?_ ((hp.drop (by simp;omega)).upd.mono fun _ _ y => (y trivial).elim)
  unfold decM
  rw [if_neg fun h => by omega]
 ·refine decPost_none ?_ ((hp.drop (by simp;omega)).upd.mono fun _ _ y => (y trivial).elim)
  unfold decM
  rw [if_neg fun h => by omega]
 have hdm : decM f = match decP f (num f 13 1) 16 with | none => none | some r => if r.2 = f.length then some ⟨num f 8 4,num f 12 1,r.1⟩ else none := by
  unfold decM
  rw [if_pos ⟨hid,by omega,by omega⟩]
  rfl
 generalize hN : num f 13 1 = N at *
 refine St.reb (H' := [⟨c5,[v5,.bool (decide (f.length < 16))],66⟩,⟨c4,[.int .u32 (num f 8 4),.int .i64 (num f 12 1),.slice none 0 0],28⟩,⟨c2,[.int .u32 0,.int .i64 0,.slice none 0 0],28⟩]) ?_
 intro wa hwa
 refine ⟨hwa.own,hwa.apart,?_⟩
 have hua : Upd (fun k => w.heap.size ≤ k) w wa := (hwa.drop (by simp;omega)).upd.mono fun _ _ y => (y trivial).elim
 have howa := hwa.own
 clear hwa hbw hv1 hv2 hv3 hv4 hx1 hid hv0
 refine St.loop (σ := Nat × World × Value × List (Py × Value) × Value × Nat)
  (fun τ => τ.1 ≤ N ∧ Upd (fun k => w.heap.size ≤ k) w τ.2.1 ∧ τ.2.1.ownsRow w.heap.size 51 36 τ.2.2.1 τ.1 (τ.2.2.2.1.flatMap pyCells) ∧ τ.2.2.2.1.length = τ.1 ∧ (∀ x ∈ τ.2.2.2.1,PyD w.heap.size τ.2.1 x) ∧
   decP f N 16 = (decP f (N - τ.1) τ.2.2.2.2.2).map (fun r => (τ.2.2.2.1.map (·.1) ++ r.1,r.2)) ∧ Left (.slice a f.length cap) f τ.2.2.2.2.1 τ.2.2.2.2.2 ∧
   Own τ.2.1 [⟨c5,[τ.2.2.2.2.1,.bool (decide (f.length < τ.2.2.2.2.2))],66⟩,⟨c4,[.int .u32 (num f 8 4),.int .i64 (num f 12 1),τ.2.2.1],28⟩,⟨c2,[.int .u32 0,.int .i64 0,.slice none 0 0],28⟩])
  (fun τ => [(2,.pointer (some ⟨c2,0,none⟩)),(4,.pointer (some ⟨c4,0,none⟩)),(5,.pointer (some ⟨c5,0,none⟩)),(35,.int .i64 N),(36,.int .i64 τ.1)])
  (fun τ => Hp τ.2.1 [⟨c5,[τ.2.2.2.2.1,.bool (decide (f.length < τ.2.2.2.2.2))],66⟩,⟨c4,[.int .u32 (num f 8 4),.int .i64 (num f 12 1),τ.2.2.1],28⟩,⟨c2,[.int .u32 0,.int .i64 0,.slice none 0 0],28⟩])
  (fun τ => N - τ.1) (0,wa,.slice none 0 0,[],v5,16) ⟨Nat.zero_le _,hua,World.ownsRow_nil _ _ _ _,rfl,fun x hx => (by cases hx),by cases decP f N 16 <;> simp,hv5,howa⟩ (by repeat constructor) (fun _ h => h) ?_
 clear hua howa hv5 wa
 rintro ⟨i,w0,pv,xs,vc,k⟩ ⟨hin,hu,hown,hxl,hpd,hdp,hvc,hob⟩
 simp only at hin hu hown hxl hpd hdp hvc hob ⊢
 have hus := hu.size
 have hbw (wq : World) (H : List Blk) (hq : Hp w0 H wq) (hH : ∀ x ∈ H,w.heap.size ≤ x.b) : Bs wq (.slice a f.length cap) f := hv.upd (hu.comp hq.upd fun j _ hs => hs.elim id fun y => Classical.byContradiction fun hlt => y (Off.of fun x hx e => by have := hH x hx;omega)) fun j _ hj _ hno => by omega
 have l5 : c5 < w0.heap.size := hob.lt (.head _)
 have l4 : c4 < w0.heap.size := hob.lt (.tail _ (.head _))
 have l2 : c2 < w0.heap.size := hob.lt (.tail _ (.tail _ (.head _)))
 by_cases hlt : i < N
 ·obtain ⟨d0,d1,d2,d3,d4,d5,d6,d7,d8,d9,d10,d11,d12,d13,d14,d15,d16,d17,d18,d19,d20,d21,d22,d23,d24,d25,d26,d27,d28,d29,d30,d31,hdig⟩ := list32 (digAt f k) (digAt_len f k)
  repeat' first | refine Wl.lss rfl rfl rfl ?_ | apply Wl.nil | apply St.region | apply St.skip | apply Gt.next | (apply St.seqK (k := 13);exact rfl) | apply St.seqC | (apply St.condP;exact rfl;all_goals (intros;try (exfalso;omega)))
  apply St.seq
  apply St.block
  repeat' first | (apply Wl.alloc;exact rfl;intro c hc ho) | apply Wl.nil | apply St.region | apply Gt.next | (apply St.seqK (k := 13);exact rfl)
  generalize c = c7 at *
  have hc7 : w0.heap.size ≤ c7 := hc
  apply St.seq
  refine St.tree (fun _ => True) mixed (fun _ h => ⟨Hp.drew h,trivial⟩) ?_
  refine Mt.pure 0 (by kernel_rfl) (by exact rfl) (by exact rfl) (by kernel_rfl) (by kernel_rfl) ?_
  repeat' first | refine Wl.fieldAddr0 rfl rfl ?_ | apply Wl.nilM
  apply Mt.back
  refine Mt.pure 1 (by kernel_rfl) (by exact rfl) (by exact rfl) (by kernel_rfl) (by kernel_rfl) ?_
  repeat' first | (apply Wl.sliceArr;exact rfl;exact rfl;decide) | apply Wl.nilM
  apply Mt.back
  refine Mt.pure 2 (by kernel_rfl) (by exact rfl) (by exact rfl) (by kernel_rfl) (by kernel_rfl) ?_
  repeat' first | refine Wl.move rfl rfl ?_ | apply Wl.nilM
  apply Mt.back
  refine Mt.eff1 (i := 3) (by decide +kernel) (by exact rfl) ?_
  apply Wl.callC
  exact rfl
  (focus repeat constructor)
  intro wq hq
  refine (take_pos c5 (.slice a f.length cap) vc f k 32 wq (hq.own.at (.tail _ (.head _))) (hbw _ _ hq (by simp;omega)) hvc).mono ?_
  rintro e wr ⟨x2,u1,rfl,hp,hu1,hx2⟩
  refine ⟨_,_,rfl,hq.callSet (by repeat constructor) hp,?_⟩
  clear hp hq wq wr
  repeat' first | apply Wl.nil
  refine Mt.backE (fun _ _ => trivial) ?_
  refine Mt.eff1 (i := 4) (by decide +kernel) (by exact rfl) ?_
  apply Wl.copyB (l := part f k 32) (cs' := Value.int .u8 (d0.toNat : Int) :: Value.int .u8 (d1.toNat : Int) :: Value.int .u8 (d2.toNat : Int) :: Value.int .u8 (d3.toNat : Int) :: Value.int .u8 (d4.toNat : Int) :: Value.int .u8 (d5.toNat : Int) :: Value.int .u8 (d6.toNat : Int) :: Value.int .u8 (d7.toNat : Int) :: Value.int .u8 (d8.toNat : Int) :: Value.int .u8 (d9.toNat : Int) :: Value.int .u8 (d10.toNat : Int) :: Value.int .u8 (d11.toNat : Int) :: Value.int .u8 (d12.toNat : Int) :: Value.int .u8 (d13.toNat : Int) :: Value.int .u8 (d14.toNat : Int) :: Value.int .u8 (d15.toNat : Int) :: Value.int .u8 (d16.toNat : Int) :: Value.int .u8 (d17.toNat : Int) :: Value.int .u8 (d18.toNat : Int) :: Value.int .u8 (d19.toNat : Int) :: Value.int .u8 (d20.toNat : Int) :: Value.int .u8 (d21.toNat : Int) :: Value.int .u8 (d22.toNat : Int) :: Value.int .u8 (d23.toNat : Int) :: Value.int .u8 (d24.toNat : Int) :: Value.int .u8 (d25.toNat : Int) :: Value.int .u8 (d26.toNat : Int) :: Value.int .u8 (d27.toNat : Int) :: Value.int .u8 (d28.toNat : Int) :: Value.int .u8 (d29.toNat : Int) :: Value.int .u8 (d30.toNat : Int) :: Value.int .u8 (d31.toNat : Int) :: [.int .u32 0,.int .u32 0,.slice none 0 0,.int .i64 0])
  ·exact rfl
  ·exact rfl
  ·exact rfl
  ·repeat constructor
  ·exact (digcopy f k _).trans (by rw [hdig];rfl)
  ·exact part_len f k 32
  ·exact Nat.le_of_ble_eq_true rfl
  ·exact fun u hq => hx2 u (hbw u _ hq (by simp;omega))
  repeat' first | apply Wl.nil
  refine Mt.backE (fun _ _ => trivial) ?_
  refine Mt.toGt (by decide +kernel) ?_
  repeat' first | refine Wl.move rfl rfl ?_ | apply St.seq | apply St.region | apply Gt.next
  apply Wl.callC
  exact rfl
  (focus repeat constructor)
  intro wq hq
  refine (u32_pos c5 (.slice a f.length cap) _ f (k + 32) wq (hq.own.at (.tail _ (.head _))) (hbw _ _ hq (by simp;omega)) hu1).mono ?_
  rintro e wr ⟨u2,rfl,hp,hu2⟩
  refine ⟨_,_,rfl,hq.callSet (by repeat constructor) hp,?_⟩
  clear hp hq wq wr
  repeat' first | refine Wl.move rfl rfl ?_
  apply Wl.callC
  exact rfl
  (focus repeat constructor)
  intro wq hq
  refine (u32_pos c5 (.slice a f.length cap) _ f (k + 32 + 4) wq (hq.own.at (.tail _ (.head _))) (hbw _ _ hq (by simp;omega)) hu2).mono ?_
  rintro e wr ⟨u3,rfl,hp,hu3⟩
  refine ⟨_,_,rfl,hq.callSet (by repeat constructor) hp,?_⟩
  clear hp hq wq wr
  repeat' first | refine Wl.move rfl rfl ?_ | refine Wl.fieldAddrZ rfl rfl ?_ | (apply Wl.store;exact rfl;exact rfl;exact rfl;(focus repeat constructor);(repeat (first | apply LSet.z | apply LSet.s))) | apply Wl.nil | apply St.seq | apply St.region | apply Gt.next
  apply Wl.callC
  exact rfl
  (focus repeat constructor)
  intro wq hq
  refine (u8_pos c5 (.slice a f.length cap) _ f (k + 32 + 4 + 4) wq (hq.own.at (.tail _ (.head _))) (hbw _ _ hq (by simp;omega)) hu3).mono ?_
  rintro e wr ⟨u4,rfl,hp,hu4⟩
  refine ⟨_,_,rfl,hq.callSet (by repeat constructor) hp,?_⟩
  clear hp hq wq wr
  repeat' first | refine Wl.move rfl rfl ?_ | refine Wl.fieldAddrZ rfl rfl ?_ | (apply Wl.store;exact rfl;exact rfl;exact rfl;(focus repeat constructor);(repeat (first | apply LSet.z | apply LSet.s))) | apply Wl.nil | apply St.seq | apply St.region | apply Gt.next
  apply Wl.callC
  exact rfl
  (focus repeat constructor)
  intro wq hq
  refine (u8_pos c5 (.slice a f.length cap) _ f (k + 32 + 4 + 4 + 1) wq (hq.own.at (.tail _ (.head _))) (hbw _ _ hq (by simp;omega)) hu4).mono ?_
  rintro e wr ⟨u5,rfl,hp,hu5⟩
  refine ⟨_,_,rfl,hq.callSet (by repeat constructor) hp,?_⟩
  clear hp hq wq wr
  repeat' first | refine Wl.move rfl rfl ?_ | refine Wl.assign rfl rfl ?_ | apply Wl.nil | apply St.seq | apply St.region | apply Gt.next
  apply Wl.callC
  exact rfl
  (focus repeat constructor)
  intro wq hq
  refine (u16_pos c5 (.slice a f.length cap) _ f (k + 32 + 4 + 4 + 1 + 1) wq (hq.own.at (.tail _ (.head _))) (hbw _ _ hq (by simp;omega)) hu5).mono ?_
  rintro e wr ⟨u6,rfl,hp,hu6⟩
  refine ⟨_,_,rfl,hq.callSet (by repeat constructor) hp,?_⟩
  clear hp hq wq wr
  have m32 := num4 f (k + 32)
  have m36 := num4 f (k + 32 + 4)
  have m40 := num1 f (k + 32 + 4 + 4)
  have m41 := num1 f (k + 32 + 4 + 4 + 1)
  have m42 := num2 f (k + 32 + 4 + 4 + 1 + 1)
  have hno (hn : decP f (N - i) k = none) (H : List Blk) (w' : World) (hp : Hp w0 H w') (hH : ∀ x ∈ H,w.heap.size ≤ x.b) : DecPost f w (.returned (.tuple #[noV,.int .i64 3])) w' := by
   refine decPost_none (by rw [hdm,hdp,hn];rfl) (hu.comp hp.upd fun j _ hs => hs.elim id fun y => Classical.byContradiction fun hlt => y (Off.of fun x hx e => by have := hH x hx;omega))
  repeat' first | (apply Gt.outCT;exact rfl;infer_instance;exact rfl;exact rfl;(focus repeat constructor);(focus repeat constructor);intro w' hp) | refine Wl.move rfl rfl ?_ | refine Wl.assign rfl rfl ?_ | (apply Wl.on;exact rfl;exact rfl;(with_reducible first | rfl | assumption | decide)) | (apply Wl.off;exact rfl;exact rfl;exact rfl;(first | with_reducible rfl | (show _ = false;with_reducible assumption) | (show _ = true;with_reducible assumption) | decide)) | (apply Wl.pickT;exact rfl;exact rfl;(with_reducible first | rfl | assumption | decide);exact rfl) | (apply Wl.pickF;exact rfl;exact rfl;(with_reducible first | rfl | assumption | decide);exact rfl) | refine Wl.neq rfl rfl rfl ?_ | refine Wl.gtr rfl rfl rfl ?_ | (apply Wl.storeA;exact rfl;exact rfl;exact rfl;exact rfl;(focus repeat constructor);(repeat (first | apply LPut.s | apply LPut.z | apply LOver.nil | apply LOver.cons))) | (apply Wl.buildS;exact rfl;(repeat (first | exact Parts.nil | apply Parts.cons rfl));(repeat (first | apply Fills.nil | (apply Fills.one;exact rfl;exact rfl;(repeat (first | apply LSet.z | apply LSet.s))) | (apply Fills.agg;exact rfl;exact rfl;(repeat (first | apply LPut.s | apply LPut.z | apply LOver.nil | apply LOver.cons)))))) | apply Wl.nil | apply St.seq | apply St.block | apply St.region | (apply St.condT;exact rfl;(with_reducible first | rfl | assumption | decide)) | apply St.ret | apply St.skip | apply Gt.next | apply Gt.thenRet | apply Gt.inRet | (apply Wl.splitP;exact rfl;exact rfl;all_goals (intros;try (exfalso;omega))) | (apply St.condP;exact rfl;all_goals (intros;try (exfalso;omega)))
  ·refine hno ?_ _ _ hp (by simp;omega)
   rw [show N - i = (N - i - 1) + 1 by omega]
   simp only [decP]
   rw [if_neg fun h => by
    have h1 : num f (k + 32 + 4 + 4 + 1 + 1) 2 = 0 := h.1
    have h2 : num f (k + 32 + 4 + 4 + 1) 1 ≤ 4 := h.2
    omega]
  ·refine hno ?_ _ _ hp (by simp;omega)
   rw [show N - i = (N - i - 1) + 1 by omega]
   simp only [decP]
   rw [if_neg fun h => by
    have h1 : num f (k + 32 + 4 + 4 + 1 + 1) 2 = 0 := h.1
    have h2 : num f (k + 32 + 4 + 4 + 1) 1 ≤ 4 := h.2
    omega]
  have hk0 : num f (k + 42) 2 = 0 := by
   have : num f (k + 32 + 4 + 4 + 1 + 1) 2 = 0 := by omega
   exact this
  have hK4 : num f (k + 32 + 4 + 4 + 1) 1 ≤ 4 := by omega
  have hdP : decP f (N - i) k = match decG f (num f (k + 32 + 4 + 4 + 1) 1) (k + 44) with
    | none => none
    | some gs => (decP f (N - (i + 1)) (k + 44 + 12 * num f (k + 32 + 4 + 4 + 1) 1)).map fun r => (⟨digAt f k,num f (k + 32) 4,num f (k + 32 + 4) 4,gs,num f (k + 32 + 4 + 4) 1⟩ :: r.1,r.2) := by
   rw [show N - i = (N - (i + 1)) + 1 by omega]
   simp only [decP]
   rw [if_pos ⟨hk0,hK4⟩]
   rfl
  generalize hKe : num f (k + 32 + 4 + 4 + 1) 1 = K at *
  generalize num f (k + 32) 4 = psz at *
  generalize num f (k + 32 + 4) 4 = pbi at *
  generalize num f (k + 32 + 4 + 4) 1 = pca at *
  refine St.reb (H' := [⟨c7,Value.int .u8 (d0.toNat : Int) :: Value.int .u8 (d1.toNat : Int) :: Value.int .u8 (d2.toNat : Int) :: Value.int .u8 (d3.toNat : Int) :: Value.int .u8 (d4.toNat : Int) :: Value.int .u8 (d5.toNat : Int) :: Value.int .u8 (d6.toNat : Int) :: Value.int .u8 (d7.toNat : Int) :: Value.int .u8 (d8.toNat : Int) :: Value.int .u8 (d9.toNat : Int) :: Value.int .u8 (d10.toNat : Int) :: Value.int .u8 (d11.toNat : Int) :: Value.int .u8 (d12.toNat : Int) :: Value.int .u8 (d13.toNat : Int) :: Value.int .u8 (d14.toNat : Int) :: Value.int .u8 (d15.toNat : Int) :: Value.int .u8 (d16.toNat : Int) :: Value.int .u8 (d17.toNat : Int) :: Value.int .u8 (d18.toNat : Int) :: Value.int .u8 (d19.toNat : Int) :: Value.int .u8 (d20.toNat : Int) :: Value.int .u8 (d21.toNat : Int) :: Value.int .u8 (d22.toNat : Int) :: Value.int .u8 (d23.toNat : Int) :: Value.int .u8 (d24.toNat : Int) :: Value.int .u8 (d25.toNat : Int) :: Value.int .u8 (d26.toNat : Int) :: Value.int .u8 (d27.toNat : Int) :: Value.int .u8 (d28.toNat : Int) :: Value.int .u8 (d29.toNat : Int) :: Value.int .u8 (d30.toNat : Int) :: Value.int .u8 (d31.toNat : Int) :: [.int .u32 psz,.int .u32 pbi,.slice none 0 0,.int .i64 pca],51⟩,⟨c5,[u6,.bool (decide (f.length < k + 44))],66⟩,⟨c4,[.int .u32 (num f 8 4),.int .i64 (num f 12 1),pv],28⟩,⟨c2,[.int .u32 0,.int .i64 0,.slice none 0 0],28⟩]) ?_
  intro wb hwb
  refine ⟨hwb.own,hwb.apart,?_⟩
  have hS {H : List Blk} {b : Nat} (hH : ∀ x ∈ H,w0.heap.size ≤ x.b ∨ x.b = c5 ∨ x.b = c4 ∨ x.b = c2) (y : ¬ Off H b) : w0.heap.size ≤ b ∨ b = c5 ∨ b = c4 ∨ b = c2 :=
   Classical.byContradiction fun hn => y (Off.of fun x hx e => hn (e ▸ hH x hx))
  have hub : Upd (fun b => w0.heap.size ≤ b ∨ b = c5 ∨ b = c4 ∨ b = c2) w0 wb := hwb.upd.mono fun b _ y => hS (by simp;omega) y
  have hob1 := hwb.own
  clear hwb hu1 hu2 hu3 hu4 hu5 hx2 hc
  refine St.loop (σ := Nat × World × Value × List Gr × Value)
   (fun τ => τ.1 ≤ K ∧ Upd (fun b => w0.heap.size ≤ b ∨ b = c5 ∨ b = c4 ∨ b = c2) w0 τ.2.1 ∧ τ.2.1.ownsRow w0.heap.size 61 3 τ.2.2.1 τ.1 (τ.2.2.2.1.flatMap grCells) ∧ τ.2.2.2.1.length = τ.1 ∧ (∀ g ∈ τ.2.2.2.1,GrOk g) ∧
    decG f K (k + 44) = (decG f (K - τ.1) (k + 44 + 12 * τ.1)).map (τ.2.2.2.1 ++ ·) ∧ Left (.slice a f.length cap) f τ.2.2.2.2 (k + 44 + 12 * τ.1) ∧
    Own τ.2.1 [⟨c7,Value.int .u8 (d0.toNat : Int) :: Value.int .u8 (d1.toNat : Int) :: Value.int .u8 (d2.toNat : Int) :: Value.int .u8 (d3.toNat : Int) :: Value.int .u8 (d4.toNat : Int) :: Value.int .u8 (d5.toNat : Int) :: Value.int .u8 (d6.toNat : Int) :: Value.int .u8 (d7.toNat : Int) :: Value.int .u8 (d8.toNat : Int) :: Value.int .u8 (d9.toNat : Int) :: Value.int .u8 (d10.toNat : Int) :: Value.int .u8 (d11.toNat : Int) :: Value.int .u8 (d12.toNat : Int) :: Value.int .u8 (d13.toNat : Int) :: Value.int .u8 (d14.toNat : Int) :: Value.int .u8 (d15.toNat : Int) :: Value.int .u8 (d16.toNat : Int) :: Value.int .u8 (d17.toNat : Int) :: Value.int .u8 (d18.toNat : Int) :: Value.int .u8 (d19.toNat : Int) :: Value.int .u8 (d20.toNat : Int) :: Value.int .u8 (d21.toNat : Int) :: Value.int .u8 (d22.toNat : Int) :: Value.int .u8 (d23.toNat : Int) :: Value.int .u8 (d24.toNat : Int) :: Value.int .u8 (d25.toNat : Int) :: Value.int .u8 (d26.toNat : Int) :: Value.int .u8 (d27.toNat : Int) :: Value.int .u8 (d28.toNat : Int) :: Value.int .u8 (d29.toNat : Int) :: Value.int .u8 (d30.toNat : Int) :: Value.int .u8 (d31.toNat : Int) :: [.int .u32 psz,.int .u32 pbi,τ.2.2.1,.int .i64 pca],51⟩,⟨c5,[τ.2.2.2.2,.bool (decide (f.length < k + 44 + 12 * τ.1))],66⟩,⟨c4,[.int .u32 (num f 8 4),.int .i64 (num f 12 1),pv],28⟩,⟨c2,[.int .u32 0,.int .i64 0,.slice none 0 0],28⟩])
   (fun τ => [(2,.pointer (some ⟨c2,0,none⟩)),(4,.pointer (some ⟨c4,0,none⟩)),(5,.pointer (some ⟨c5,0,none⟩)),(7,.pointer (some ⟨c7,0,none⟩)),(35,.int .i64 N),(36,.int .i64 i),(62,.int .i64 K),(63,.int .i64 τ.1)])
   (fun τ => Hp τ.2.1 [⟨c7,Value.int .u8 (d0.toNat : Int) :: Value.int .u8 (d1.toNat : Int) :: Value.int .u8 (d2.toNat : Int) :: Value.int .u8 (d3.toNat : Int) :: Value.int .u8 (d4.toNat : Int) :: Value.int .u8 (d5.toNat : Int) :: Value.int .u8 (d6.toNat : Int) :: Value.int .u8 (d7.toNat : Int) :: Value.int .u8 (d8.toNat : Int) :: Value.int .u8 (d9.toNat : Int) :: Value.int .u8 (d10.toNat : Int) :: Value.int .u8 (d11.toNat : Int) :: Value.int .u8 (d12.toNat : Int) :: Value.int .u8 (d13.toNat : Int) :: Value.int .u8 (d14.toNat : Int) :: Value.int .u8 (d15.toNat : Int) :: Value.int .u8 (d16.toNat : Int) :: Value.int .u8 (d17.toNat : Int) :: Value.int .u8 (d18.toNat : Int) :: Value.int .u8 (d19.toNat : Int) :: Value.int .u8 (d20.toNat : Int) :: Value.int .u8 (d21.toNat : Int) :: Value.int .u8 (d22.toNat : Int) :: Value.int .u8 (d23.toNat : Int) :: Value.int .u8 (d24.toNat : Int) :: Value.int .u8 (d25.toNat : Int) :: Value.int .u8 (d26.toNat : Int) :: Value.int .u8 (d27.toNat : Int) :: Value.int .u8 (d28.toNat : Int) :: Value.int .u8 (d29.toNat : Int) :: Value.int .u8 (d30.toNat : Int) :: Value.int .u8 (d31.toNat : Int) :: [.int .u32 psz,.int .u32 pbi,τ.2.2.1,.int .i64 pca],51⟩,⟨c5,[τ.2.2.2.2,.bool (decide (f.length < k + 44 + 12 * τ.1))],66⟩,⟨c4,[.int .u32 (num f 8 4),.int .i64 (num f 12 1),pv],28⟩,⟨c2,[.int .u32 0,.int .i64 0,.slice none 0 0],28⟩])
   (fun τ => K - τ.1) (0,wb,.slice none 0 0,[],u6) ⟨Nat.zero_le _,hub,World.ownsRow_nil _ _ _ _,rfl,fun x hx => (by cases hx),by cases decG f K (k + 44) <;> simp,hu6,hob1⟩ (by repeat constructor) (fun _ h => h) ?_
  clear hub hob1 hu6 wb u6 m42 hk0
  rintro ⟨j,w1,gv,gs,vd⟩ ⟨hjn,hu1,hown1,hgl,hgs,hdg,hvd,hob1⟩
  simp only at hjn hu1 hown1 hgl hgs hdg hvd hob1 ⊢
  have hus1 := hu1.size
  have huw : Upd (fun k => w.heap.size ≤ k) w w1 := hu.comp hu1 fun j _ hs => hs.elim id fun y => by omega
  have hbw1 (wq : World) (H : List Blk) (hq : Hp w1 H wq) (hH : ∀ x ∈ H,w.heap.size ≤ x.b) : Bs wq (.slice a f.length cap) f := hv.upd (huw.comp hq.upd fun j _ hs => hs.elim id fun y => Classical.byContradiction fun hlt => y (Off.of fun x hx e => by have := hH x hx;omega)) fun j _ hj _ hno => by omega
  have l7 : c7 < w1.heap.size := hob1.lt (.head _)
  by_cases hjl : j < K
  ·repeat' first | refine Wl.move rfl rfl ?_ | refine Wl.lss rfl rfl rfl ?_ | apply Wl.nil | apply St.seq | apply St.block | apply St.region | apply St.skip | apply Gt.next | (apply St.condP;exact rfl;all_goals (intros;try (exfalso;omega)))
   apply Wl.callC
   exact rfl
   (focus repeat constructor)
   intro wq hq
   refine (u32_pos c5 (.slice a f.length cap) _ f (k + 44 + 12 * j) wq (hq.own.at (.tail _ (.head _))) (hbw1 _ _ hq (by simp;omega)) hvd).mono ?_
   rintro e wr ⟨u1,rfl,hp,hu1'⟩
   refine ⟨_,_,rfl,hq.callSet (by repeat constructor) hp,?_⟩
   clear hp hq wq wr
   repeat' first | refine Wl.move rfl rfl ?_
   apply Wl.callC
   exact rfl
   (focus repeat constructor)
   intro wq hq
   refine (u32_pos c5 (.slice a f.length cap) _ f (k + 44 + 12 * j + 4) wq (hq.own.at (.tail _ (.head _))) (hbw1 _ _ hq (by simp;omega)) hu1').mono ?_
   rintro e wr ⟨u2,rfl,hp,hu2'⟩
   refine ⟨_,_,rfl,hq.callSet (by repeat constructor) hp,?_⟩
   clear hp hq wq wr
   repeat' first | refine Wl.move rfl rfl ?_ | (apply Wl.storeA;exact rfl;exact rfl;exact rfl;exact rfl;(focus repeat constructor);(repeat (first | apply LPut.s | apply LPut.z | apply LOver.nil | apply LOver.cons))) | (apply Wl.buildS;exact rfl;(repeat (first | exact Parts.nil | apply Parts.cons rfl));(repeat (first | apply Fills.nil | (apply Fills.one;exact rfl;exact rfl;(repeat (first | apply LSet.z | apply LSet.s))) | (apply Fills.agg;exact rfl;exact rfl;(repeat (first | apply LPut.s | apply LPut.z | apply LOver.nil | apply LOver.cons)))))) | (apply Wl.alloc;exact rfl;intro c hc ho) | apply Wl.nil | apply St.seq | apply St.region | apply Gt.next
   generalize c = c9 at *
   have hc9 : w1.heap.size ≤ c9 := hc
   apply Wl.callC
   exact rfl
   (focus repeat constructor)
   intro wq hq
   refine (u32_pos c5 (.slice a f.length cap) _ f (k + 44 + 12 * j + 4 + 4) wq (hq.own.at (.tail _ (.tail _ (.head _)))) (hbw1 _ _ hq (by simp;omega)) hu2').mono ?_
   rintro e wr ⟨u3,rfl,hp,hu3'⟩
   refine ⟨_,_,rfl,hq.callSet (by repeat constructor) hp,?_⟩
   clear hp hq wq wr
   have g0 := num4 f (k + 44 + 12 * j)
   have g4 := num4 f (k + 44 + 12 * j + 4)
   have g8 := num4 f (k + 44 + 12 * j + 4 + 4)
   repeat' first | (apply Gt.outCT;exact rfl;infer_instance;exact rfl;exact rfl;(focus repeat constructor);(focus repeat constructor);intro w' hp) | refine Wl.move rfl rfl ?_ | refine Wl.assign rfl rfl ?_ | refine Wl.fieldAddrZ rfl rfl ?_ | (apply Wl.loadH;exact rfl;exact rfl;(focus repeat constructor);exact rfl) | refine Wl.gtr rfl rfl rfl ?_ | (refine Wl.convI64 rfl rfl ?_ ?_;constructor <;> omega) | (apply Wl.store;exact rfl;exact rfl;exact rfl;(focus repeat constructor);(repeat (first | apply LSet.z | apply LSet.s))) | (apply Wl.storeA;exact rfl;exact rfl;exact rfl;exact rfl;(focus repeat constructor);(repeat (first | apply LPut.s | apply LPut.z | apply LOver.nil | apply LOver.cons))) | (apply Wl.loadAH;exact rfl;exact rfl;(focus repeat constructor);(focus repeat constructor)) | (apply Wl.buildS;exact rfl;(repeat (first | exact Parts.nil | apply Parts.cons rfl));(repeat (first | apply Fills.nil | (apply Fills.one;exact rfl;exact rfl;(repeat (first | apply LSet.z | apply LSet.s))) | (apply Fills.agg;exact rfl;exact rfl;(repeat (first | apply LPut.s | apply LPut.z | apply LOver.nil | apply LOver.cons)))))) | (apply Wl.lit;exact rfl;(repeat (first | exact Parts.nil | apply Parts.cons rfl));exact rfl;exact rfl;(repeat (first | apply CatP.nil | (apply CatP.one;exact rfl;exact rfl) | (apply CatP.agg;exact rfl) | apply LApp.nil | apply LApp.cons));intro c hc ho) | apply Wl.nil | apply St.seq | apply St.region | apply St.ret | apply St.skip | apply Gt.next | apply Gt.thenRet | apply Gt.inRet | (apply St.condP;exact rfl;all_goals (intros;try (exfalso;omega)))
   ·have hr7 : ¬ num f (k + 44 + 12 * j + 4 + 4) 4 ≤ 7 := by omega
    refine decPost_none ?_ (huw.comp hp.upd fun b _ hs => hs.elim id fun y => Classical.byContradiction fun hlt => y (Off.of fun x hx e => by have : w.heap.size ≤ x.b := (by revert x;simp;omega);omega))
    rw [hdm,hdp,hdP,hdg,show K - j = (K - (j + 1)) + 1 by omega]
    simp only [decG]
    rw [if_neg hr7]
    rfl
   have hr7 : num f (k + 44 + 12 * j + 4 + 4) 4 ≤ 7 := by omega
   apply Wl.appendT
   ·exact rfl
   ·exact rfl
   ·exact rfl
   ·exact hc
   ·exact rfl
   ·exact hown1
   ·exact fun q hq => ⟨fun e => by have := (hown1.lt q hq).2;simp only at e;omega,own_off hown1 hob1 rfl hq⟩
   ·exact rfl
   ·exact rfl
   ·decide
   ·unfold maxLen;omega
   ·omega
   ·exact hus1
   intro v' w4 ho2 u4 _ hoff2
   obtain ⟨_,ab,cb,rfl,_⟩ := Sv.ofOwn ho2
   repeat' first | refine Wl.move rfl rfl ?_ | refine Wl.fieldAddrZ rfl rfl ?_ | (refine Wl.addI rfl rfl rfl ?_ ?_;constructor <;> omega) | (apply Wl.store;exact rfl;exact rfl;exact rfl;(focus repeat constructor);(repeat (first | apply LSet.z | apply LSet.s))) | apply Wl.nil | apply St.region | apply Gt.next | apply Gt.inNormal
   apply Gt.reb (H' := [⟨c7,Value.int .u8 (d0.toNat : Int) :: Value.int .u8 (d1.toNat : Int) :: Value.int .u8 (d2.toNat : Int) :: Value.int .u8 (d3.toNat : Int) :: Value.int .u8 (d4.toNat : Int) :: Value.int .u8 (d5.toNat : Int) :: Value.int .u8 (d6.toNat : Int) :: Value.int .u8 (d7.toNat : Int) :: Value.int .u8 (d8.toNat : Int) :: Value.int .u8 (d9.toNat : Int) :: Value.int .u8 (d10.toNat : Int) :: Value.int .u8 (d11.toNat : Int) :: Value.int .u8 (d12.toNat : Int) :: Value.int .u8 (d13.toNat : Int) :: Value.int .u8 (d14.toNat : Int) :: Value.int .u8 (d15.toNat : Int) :: Value.int .u8 (d16.toNat : Int) :: Value.int .u8 (d17.toNat : Int) :: Value.int .u8 (d18.toNat : Int) :: Value.int .u8 (d19.toNat : Int) :: Value.int .u8 (d20.toNat : Int) :: Value.int .u8 (d21.toNat : Int) :: Value.int .u8 (d22.toNat : Int) :: Value.int .u8 (d23.toNat : Int) :: Value.int .u8 (d24.toNat : Int) :: Value.int .u8 (d25.toNat : Int) :: Value.int .u8 (d26.toNat : Int) :: Value.int .u8 (d27.toNat : Int) :: Value.int .u8 (d28.toNat : Int) :: Value.int .u8 (d29.toNat : Int) :: Value.int .u8 (d30.toNat : Int) :: Value.int .u8 (d31.toNat : Int) :: [.int .u32 psz,.int .u32 pbi,.slice ab (j + 1) cb,.int .i64 pca],51⟩,⟨c5,[u3,.bool (decide (f.length < k + 44 + 12 * (j + 1)))],66⟩,⟨c4,[.int .u32 (num f 8 4),.int .i64 (num f 12 1),pv],28⟩,⟨c2,[.int .u32 0,.int .i64 0,.slice none 0 0],28⟩])
   intro w5 h5
   refine ⟨h5.own.2,h5.apart.2,?_⟩
   have hgo : gAt f (k + 44 + 12 * j) = ⟨num f (k + 44 + 12 * j) 4,num f (k + 44 + 12 * j + 4) 4,num f (k + 44 + 12 * j + 4 + 4) 4⟩ := rfl
   apply Gt.round (j + 1,w5,.slice ab (j + 1) cb,gs ++ [gAt f (k + 44 + 12 * j)],u3)
   rotate_left
   ·simp only;omega
   ·repeat constructor
   ·exact fun _ h => h
   refine ⟨hjl,(hu1.comp u4 (T := fun b => w0.heap.size ≤ b ∨ b = c5 ∨ b = c4 ∨ b = c2) fun b _ hs => hs.elim id fun hs => hs.elim (fun e => .inl (hown1.lt b e).1) fun y => hS (by simp;omega) y).comp h5.upd fun b _ hs => hs.elim id fun y => hS (by simp;omega) y,?_,?_,fun g hg => ?_,?_,hu3',h5.own.2⟩
   ·simp only
    rw [List.flatMap_append,hgo]
    exact ownsRow_upd ho2 h5.upd fun q hq y => y (hoff2 q hq).1
   ·simp [hgl]
   ·rcases List.mem_append.1 hg with hg | hg
    ·exact hgs g hg
    ·rw [List.mem_singleton] at hg
     subst hg
     rw [hgo]
     exact ⟨g0,g4,by simp only;omega,by simp only;omega⟩
   ·simp only
    rw [hdg,show K - j = (K - (j + 1)) + 1 by omega]
    simp only [decG]
    rw [if_pos hr7,Option.map_map]
    congr 1
    funext l
    simp
  ·have hjk : j = K := by omega
   subst hjk
   have hdg' : decG f j (k + 44) = some gs := by rw [hdg];simp [decG]
   clear hdg
   rw [hdg'] at hdP
   simp only at hdP
   have hown' : w1.ownsRow w.heap.size 51 36 pv i (xs.flatMap pyCells) := ownsRow_upd hown hu1 fun q hq hs => by
    have h1 := (hown.lt q hq).2
    have h2 := own_off hown hob rfl hq
    rcases hs with hs | hs | hs | hs
    ·omega
    ·exact h2.1 hs.symm
    ·exact h2.2.1 hs.symm
    ·exact h2.2.2.1 hs.symm
   obtain ⟨_,ag,cg,rfl,_⟩ := Sv.ofOwn hown1
   repeat' first | refine Wl.fieldAddrZ rfl rfl ?_ | (apply Wl.loadH;exact rfl;exact rfl;(focus repeat constructor);exact rfl) | refine Wl.lss rfl rfl rfl ?_ | (apply Wl.loadAH;exact rfl;exact rfl;(focus repeat constructor);(focus repeat constructor)) | (apply Wl.lit;exact rfl;(repeat (first | exact Parts.nil | apply Parts.cons rfl));exact rfl;exact rfl;(repeat (first | apply CatP.nil | (apply CatP.one;exact rfl;exact rfl) | (apply CatP.agg;exact rfl) | apply LApp.nil | apply LApp.cons));intro c hc ho) | apply Wl.nil | apply St.seq | apply St.region | apply St.exit | apply Gt.next | apply Gt.thenExit | apply Gt.inExit | (apply St.condP;exact rfl;all_goals (intros;try (exfalso;omega)))
   apply Wl.appendT
   ·exact rfl
   ·exact rfl
   ·exact rfl
   ·exact hc
   ·exact rfl
   ·exact hown'
   ·exact fun q hq => ⟨fun e => by have := (hown.lt q hq).2;simp only at e;omega,own_off hown' (H := [_,_,_]) hob1.2 rfl hq⟩
   ·exact rfl
   ·exact rfl
   ·decide
   ·unfold maxLen;omega
   ·omega
   ·exact huw.size
   intro v'' w4 ho2 u4 _ hoff2
   obtain ⟨_,ab,cb,rfl,_⟩ := Sv.ofOwn ho2
   repeat' first | refine Wl.move rfl rfl ?_ | refine Wl.fieldAddrZ rfl rfl ?_ | (refine Wl.addI rfl rfl rfl ?_ ?_;constructor <;> omega) | (apply Wl.store;exact rfl;exact rfl;exact rfl;(focus repeat constructor);(repeat (first | apply LSet.z | apply LSet.s))) | apply Wl.nil | apply St.region | apply Gt.next | apply Gt.inNormal
   apply Gt.reb (H' := [⟨c5,[vd,.bool (decide (f.length < k + 44 + 12 * j))],66⟩,⟨c4,[.int .u32 (num f 8 4),.int .i64 (num f 12 1),.slice ab (i + 1) cb],28⟩,⟨c2,[.int .u32 0,.int .i64 0,.slice none 0 0],28⟩])
   intro w5 h5
   refine ⟨h5.own.2,h5.apart.2,?_⟩
   apply Gt.round (i + 1,w5,.slice ab (i + 1) cb,xs ++ [(⟨digAt f k,psz,pbi,gs,pca⟩,.slice ag j cg)],vd,k + 44 + 12 * j)
   rotate_left
   ·simp only;omega
   ·repeat constructor
   ·exact fun _ h => h
   have hmove {x : Value} {n : Nat} {cs : List Value} (hx : w1.ownsRow w.heap.size 61 3 x n cs) : w5.ownsRow w.heap.size 61 3 x n cs :=
    ownsRow_upd (ownsRow_upd hx u4 fun q hq hs => hs.elim (fun e => own_ne2 hx hown' (by decide) hq e) fun y => y (own_off hx hob1 rfl hq)) h5.upd fun q hq y => y (own_off hx hob1 rfl hq)
   refine ⟨hlt,(huw.comp u4 (T := fun b => w.heap.size ≤ b) fun b _ hs => hs.elim id fun hs => hs.elim (fun e => (hown.lt b e).1) fun y => Classical.byContradiction fun hlt => y (Off.of fun x hx e => by have : w.heap.size ≤ x.b := (by revert x;simp;omega);omega)).comp h5.upd fun b _ hs => hs.elim id fun y => Classical.byContradiction fun hlt => y (Off.of fun x hx e => by have : w.heap.size ≤ x.b := (by revert x;simp;omega);omega),?_,?_,fun x hx => ?_,?_,hvd,h5.own.2⟩
   ·have hlit : pyCells (⟨digAt f k,psz,pbi,gs,pca⟩,.slice ag j cg) = Value.int .u8 (d0.toNat : Int) :: Value.int .u8 (d1.toNat : Int) :: Value.int .u8 (d2.toNat : Int) :: Value.int .u8 (d3.toNat : Int) :: Value.int .u8 (d4.toNat : Int) :: Value.int .u8 (d5.toNat : Int) :: Value.int .u8 (d6.toNat : Int) :: Value.int .u8 (d7.toNat : Int) :: Value.int .u8 (d8.toNat : Int) :: Value.int .u8 (d9.toNat : Int) :: Value.int .u8 (d10.toNat : Int) :: Value.int .u8 (d11.toNat : Int) :: Value.int .u8 (d12.toNat : Int) :: Value.int .u8 (d13.toNat : Int) :: Value.int .u8 (d14.toNat : Int) :: Value.int .u8 (d15.toNat : Int) :: Value.int .u8 (d16.toNat : Int) :: Value.int .u8 (d17.toNat : Int) :: Value.int .u8 (d18.toNat : Int) :: Value.int .u8 (d19.toNat : Int) :: Value.int .u8 (d20.toNat : Int) :: Value.int .u8 (d21.toNat : Int) :: Value.int .u8 (d22.toNat : Int) :: Value.int .u8 (d23.toNat : Int) :: Value.int .u8 (d24.toNat : Int) :: Value.int .u8 (d25.toNat : Int) :: Value.int .u8 (d26.toNat : Int) :: Value.int .u8 (d27.toNat : Int) :: Value.int .u8 (d28.toNat : Int) :: Value.int .u8 (d29.toNat : Int) :: Value.int .u8 (d30.toNat : Int) :: Value.int .u8 (d31.toNat : Int) :: [.int .u32 psz,.int .u32 pbi,.slice ag j cg,.int .i64 pca] := by
     unfold pyCells
     simp only
     rw [hdig]
     rfl
    simp only
    rw [List.flatMap_append,List.flatMap_cons,List.flatMap_nil,List.append_nil,hlit]
    exact ownsRow_upd ho2 h5.upd fun q hq y => y (hoff2 q hq).1
   ·simp [hxl]
   ·rcases List.mem_append.1 hx with hx | hx
    ·refine ⟨hmove (ownsRow_upd (hpd x hx).1 hu1 fun q hq hs => ?_),(hpd x hx).2⟩
     have h1 := ((hpd x hx).1.lt q hq).2
     have h2 := own_off (hpd x hx).1 hob rfl hq
     rcases hs with hs | hs | hs | hs
     ·omega
     ·exact h2.1 hs.symm
     ·exact h2.2.1 hs.symm
     ·exact h2.2.2.1 hs.symm
    ·rw [List.mem_singleton] at hx
     subst hx
     refine ⟨?_,digAt_len f k,by simp only;omega,by simp only;omega,by simp only;omega,by simp only;omega,by simp only;omega,hgs⟩
     simp only
     rw [hgl]
     exact hmove (own_base hown1 hus)
   ·simp only
    rw [hdp,hdP,Option.map_map]
    congr 1
    funext r
    simp
 ·have hiN : i = N := by omega
  subst hiN
  have hdm' : decM f = if k = f.length then some ⟨num f 8 4,num f 12 1,xs.map (·.1)⟩ else none := by rw [hdm,hdp];simp [decP]
  clear hdm hdp
  repeat' first | refine Wl.move rfl rfl ?_ | refine Wl.lss rfl rfl rfl ?_ | apply Wl.nil | apply St.seq | apply St.region | apply St.exit | apply Gt.next | apply Gt.thenExit | apply Gt.inExit | (apply St.condP;exact rfl;all_goals (intros;try (exfalso;omega)))
  apply Wl.callQ
  exact rfl
  (focus repeat constructor)
  ·intro wq hq
   exact hq.q (end_any c5 vc (f.drop k) _ wq wq (hq.own.at (.head _)) (hvc wq (hbw wq _ hq (by simp;omega))))
  have hbe : (!decide (f.length < k) && decide (f.drop k = [])) = decide (k = f.length) := by
   rw [Bool.eq_iff_iff]
   simp [List.drop_eq_nil_iff]
   omega
  rw [hbe]
  repeat' first | (apply Gt.outCT;exact rfl;infer_instance;exact rfl;exact rfl;(focus repeat constructor);(focus repeat constructor);intro w' hp) | refine Wl.assign rfl rfl ?_ | refine Wl.not rfl rfl ?_ | (apply Wl.storeA;exact rfl;exact rfl;exact rfl;exact rfl;(focus repeat constructor);(repeat (first | apply LPut.s | apply LPut.z | apply LOver.nil | apply LOver.cons))) | (apply Wl.loadAH;exact rfl;exact rfl;(focus repeat constructor);(focus repeat constructor)) | (apply Wl.buildS;exact rfl;(repeat (first | exact Parts.nil | apply Parts.cons rfl));(repeat (first | apply Fills.nil | (apply Fills.one;exact rfl;exact rfl;(repeat (first | apply LSet.z | apply LSet.s))) | (apply Fills.agg;exact rfl;exact rfl;(repeat (first | apply LPut.s | apply LPut.z | apply LOver.nil | apply LOver.cons)))))) | apply Wl.nil | apply St.seq | apply St.region | apply St.ret | apply St.skip | apply Gt.next | apply Gt.thenRet | (apply St.condB;exact rfl;all_goals intros)
  ·have hk : ¬ k = f.length := by
    have := ‹(!decide (k = f.length)) = true›
    simpa using this
   exact decPost_none (by rw [hdm',if_neg hk]) (hu.comp hp.upd fun j _ hs => hs.elim id fun y => Classical.byContradiction fun hlt => y (Off.of fun x hx e => by have : w.heap.size ≤ x.b := (by revert x;simp;omega);omega))
  have hk : k = f.length := by
   have := ‹(!decide (k = f.length)) = false›
   simpa using this
  rw [if_pos hk] at hdm'
  have hM (wq : World) (H : List Blk) (hq : Hp w0 H wq) (hH : ∀ x ∈ H,w0.heap.size ≤ x.b ∨ x.b = c5 ∨ x.b = c4 ∨ x.b = c2) : MfV wq (.agg #[.int .u32 (num f 8 4),.int .i64 (num f 12 1),pv]) ⟨num f 8 4,num f 12 1,xs.map (·.1)⟩ := by
   have hoff {e sz n : Nat} {v : Value} {cs : List Value} (hr : w0.ownsRow w.heap.size e sz v n cs) (h1 : e ≠ 66) (h2 : e ≠ 28) {q : Nat} (hqq : v.ownBlock = some q) : Off H q := Off.of fun x hx e' => by
    have h3 := (hr.lt q hqq).2
    rcases hH x hx with y | y | y | y
    ·omega
    ·exact own_ne hr (hob.at (.head _)) h1.symm (by rw [hqq,← e',y])
    ·exact own_ne hr (hob.at (.tail _ (.head _))) h2.symm (by rw [hqq,← e',y])
    ·exact own_ne hr (hob.at (.tail _ (.tail _ (.head _)))) h2.symm (by rw [hqq,← e',y])
   refine ⟨pv,xs,rfl,rfl,?_,fun x hx => PyD.v (base := w.heap.size) ⟨ownsRow_upd (hpd x hx).1 hq.upd fun q hqq y => y (hoff (hpd x hx).1 (by decide) (by decide) hqq),(hpd x hx).2⟩,m8,by unfold I64;simp only;omega⟩
   rw [hxl]
   exact Sv.ofOwn (ownsRow_upd hown hq.upd fun q hqq y => y (hoff hown (by decide) (by decide) hqq))
  apply Wl.callC
  exact rfl
  (focus repeat constructor)
  intro w1 h1
  refine (right_any _ _ w1 (hM w1 _ h1 (by simp))).mono ?_
  rintro e w2 ⟨rfl,hup⟩
  refine ⟨_,_,rfl,h1.newer hup,?_⟩
  clear h1 hup
  obtain ⟨_,ap,cp,rfl,_⟩ := Sv.ofOwn hown
  by_cases hr : rightOf ⟨num f 8 4,num f 12 1,xs.map (·.1)⟩ = 0
  ·rw [hr]
   repeat' first | (apply Gt.outCT;exact rfl;infer_instance;exact rfl;exact rfl;(focus repeat constructor);(focus repeat constructor);intro w' hp) | refine Wl.move rfl rfl ?_ | refine Wl.assign rfl rfl ?_ | refine Wl.neq rfl rfl rfl ?_ | (apply Wl.storeA;exact rfl;exact rfl;exact rfl;exact rfl;(focus repeat constructor);(repeat (first | apply LPut.s | apply LPut.z | apply LOver.nil | apply LOver.cons))) | (apply Wl.loadAH;exact rfl;exact rfl;(focus repeat constructor);(focus repeat constructor)) | apply Wl.nil | apply St.seq | apply St.region | (apply St.condF;exact rfl;(with_reducible first | rfl | assumption | decide)) | apply St.ret | apply St.skip | apply Gt.next
   refine ⟨_,by unfold decErr;rw [hdm'];simp only;rw [hr];rfl,by unfold decMan;rw [hdm'];simp only;rw [if_pos hr];exact hM _ _ hp (by simp),hu.comp hp.upd fun j _ hs => hs.elim id fun y => Classical.byContradiction fun hlt => y (Off.of fun x hx e => by have : w.heap.size ≤ x.b := (by revert x;simp;omega);omega)⟩
  ·have hr' : (rightOf ⟨num f 8 4,num f 12 1,xs.map (·.1)⟩ : Int) ≠ 0 := by omega
   repeat' first | (apply Gt.outCT;exact rfl;infer_instance;exact rfl;exact rfl;(focus repeat constructor);(focus repeat constructor);intro w' hp) | refine Wl.move rfl rfl ?_ | refine Wl.assign rfl rfl ?_ | refine Wl.neq rfl rfl rfl ?_ | (apply Wl.storeA;exact rfl;exact rfl;exact rfl;exact rfl;(focus repeat constructor);(repeat (first | apply LPut.s | apply LPut.z | apply LOver.nil | apply LOver.cons))) | (apply Wl.buildS;exact rfl;(repeat (first | exact Parts.nil | apply Parts.cons rfl));(repeat (first | apply Fills.nil | (apply Fills.one;exact rfl;exact rfl;(repeat (first | apply LSet.z | apply LSet.s))) | (apply Fills.agg;exact rfl;exact rfl;(repeat (first | apply LPut.s | apply LPut.z | apply LOver.nil | apply LOver.cons)))))) | apply Wl.nil | apply St.seq | apply St.region | apply St.ret | apply Gt.next | apply Gt.thenRet | (apply St.condP;exact rfl;all_goals (intros;try (exfalso;omega)))
   refine ⟨_,by unfold decErr;rw [hdm'],by unfold decMan;rw [hdm'];simp only;rw [if_neg hr];exact noM_v _,hu.comp hp.upd fun j _ hs => hs.elim id fun y => Classical.byContradiction fun hlt => y (Off.of fun x hx e => by have : w.heap.size ≤ x.b := (by revert x;simp;omega);omega)⟩
end Go.Proofs.YtmjlceimjlabpaaDoor
end
section
namespace Sha
open Go.Pt
def X (m n : Nat) : Nat := (m ^^^ n) % 4294967296
def A (m n : Nat) : Nat := (m &&& n) % 4294967296
def O (m n : Nat) : Nat := (m ||| n) % 4294967296
def P (m n : Nat) : Nat := (m + n) % 4294967296
def rr (r x : Nat) : Nat := O (x * 2 ^ (32 - r) % 4294967296) (x / 2 ^ r)
def sg0 (a : Nat) : Nat := X (X (rr 7 a) (rr 18 a)) (a / 2 ^ 3)
def sg1 (a : Nat) : Nat := X (X (rr 17 a) (rr 19 a)) (a / 2 ^ 10)
def S1 (x : Nat) : Nat := X (X (rr 6 x) (rr 11 x)) (rr 25 x)
def S0 (x : Nat) : Nat := X (X (rr 2 x) (rr 13 x)) (rr 22 x)
def ch (x y z : Nat) : Nat := X z (A x (X y z))
def mj (x y z : Nat) : Nat := O (A x y) (A z (O x y))
def ldw (p : Nat → Nat) : Nat → Nat → Nat
 | 0 => fun _ => 0
 | i + 1 => updN (ldw p i) (i / 4) (O (ldw p i (i / 4) * 2 ^ 8 % 4294967296) (p i))
def sch1 (w : Nat → Nat) (i : Nat) : Nat := P (P (P (w (i - 16)) (w (i - 7))) (sg0 (w (i - 15)))) (sg1 (w (i - 2)))
def sch (f : Nat → Nat) : Nat → Nat → Nat
 | 0 => f
 | i + 1 => updN (sch f i) (16 + i) (sch1 (sch f i) (16 + i))
def tt (v : Nat → Nat) (k w : Nat) : Nat := P (P (P (P (v 7) (S1 (v 4))) (ch (v 4) (v 5) (v 6))) k) w
def uu (v : Nat → Nat) : Nat := P (S0 (v 0)) (mj (v 0) (v 1) (v 2))
def v8 (a b c d e f g h : Nat) : Nat → Nat
 | 0 => a | 1 => b | 2 => c | 3 => d | 4 => e | 5 => f | 6 => g | _ => h
def rnd (v : Nat → Nat) (k w : Nat) : Nat → Nat := v8 (P (tt v k w) (uu v)) (v 0) (v 1) (v 2) (P (v 3) (tt v k w)) (v 4) (v 5) (v 6)
def rnds (K W v : Nat → Nat) : Nat → Nat → Nat
 | 0 => v
 | i + 1 => rnd (rnds K W v i) (K i) (W i)
def KL : List Nat := [
 0x428a2f98,0x71374491,0xb5c0fbcf,0xe9b5dba5,0x3956c25b,0x59f111f1,0x923f82a4,0xab1c5ed5,
 0xd807aa98,0x12835b01,0x243185be,0x550c7dc3,0x72be5d74,0x80deb1fe,0x9bdc06a7,0xc19bf174,
 0xe49b69c1,0xefbe4786,0x0fc19dc6,0x240ca1cc,0x2de92c6f,0x4a7484aa,0x5cb0a9dc,0x76f988da,
 0x983e5152,0xa831c66d,0xb00327c8,0xbf597fc7,0xc6e00bf3,0xd5a79147,0x06ca6351,0x14292967,
 0x27b70a85,0x2e1b2138,0x4d2c6dfc,0x53380d13,0x650a7354,0x766a0abb,0x81c2c92e,0x92722c85,
 0xa2bfe8a1,0xa81a664b,0xc24b8b70,0xc76c51a3,0xd192e819,0xd6990624,0xf40e3585,0x106aa070,
 0x19a4c116,0x1e376c08,0x2748774c,0x34b0bcb5,0x391c0cb3,0x4ed8aa4a,0x5b9cca4f,0x682e6ff3,
 0x748f82ee,0x78a5636f,0x84c87814,0x8cc70208,0x90befffa,0xa4506ceb,0xbef9a3f7,0xc67178f2]
def K (i : Nat) : Nat := KL.getD i 0
def H0 : Nat → Nat := v8 0x6a09e667 0xbb67ae85 0x3c6ef372 0xa54ff53a 0x510e527f 0x9b05688c 0x1f83d9ab 0x5be0cd19
def comp (h p : Nat → Nat) : Nat → Nat := fun j => P (h j) (rnds K (sch (ldw p 64) 48) h 64 j)
structure St where
 h : Nat → Nat
 p : Nat → Nat
 n : Nat
def wr (s : St) (c : Nat) : St :=
 if (s.n + 1) % 64 = 0 then ⟨comp s.h (updN s.p (s.n % 64) c),updN s.p (s.n % 64) c,s.n + 1⟩ else ⟨s.h,updN s.p (s.n % 64) c,s.n + 1⟩
def wrL (s : St) (l : List UInt8) : St := l.foldl (fun s c => wr s c.toNat) s
theorem wr_n (s : St) (c : Nat) : (wr s c).n = s.n + 1 := by unfold wr;split <;> rfl
theorem wrL_n (l : List UInt8) : ∀ s : St,(wrL s l).n = s.n + l.length := by
 induction l with
 | nil => intro s;rfl
 | cons c r ih =>
  intro s
  show (wrL (wr s c.toNat) r).n = _
  rw [ih,wr_n,List.length_cons];omega
theorem wrL_app (s : St) (l m : List UInt8) : wrL s (l ++ m) = wrL (wrL s l) m := by unfold wrL;rw [List.foldl_append]
def zeros (k : Nat) : List UInt8 := List.replicate k 0
def be8 (n : Nat) : List UInt8 := (List.range 8).map fun i => UInt8.ofNat (n / 2 ^ (56 - 8 * i))
def pad (n : Nat) : List UInt8 := 0x80 :: (zeros ((119 - n % 64) % 64) ++ be8 (n * 8))
def outB (h : Nat → Nat) (j : Nat) : Nat := h (j / 4) / 2 ^ (24 - 8 * (j % 4)) % 256
def sum (s : St) : Nat → Nat := outB (wrL s (pad s.n)).h
def ini : St := ⟨H0,fun _ => 0,0⟩
def of (l : List UInt8) : Nat → Nat := sum (wrL ini l)
end Sha
namespace Go.Pt
open Go.RowKit
theorem bits_xorN32 (m n : Nat) : bits .xor .u32 (m : Int) n = ((Sha.X m n : Nat) : Int) := by
 show IntKind.u32.wrap (((BitVec.ofInt 32 m) ^^^ (BitVec.ofInt 32 n)).toNat : Int) = _
 rw [IntWalk.u32_in _ ⟨by omega,by have := ((BitVec.ofInt 32 m) ^^^ (BitVec.ofInt 32 n)).isLt;omega⟩,BitVec.ofInt_natCast,BitVec.ofInt_natCast,BitVec.toNat_xor,BitVec.toNat_ofNat,BitVec.toNat_ofNat]
 unfold Sha.X
 rw [← Nat.xor_mod_two_pow]
theorem bits_xorN64 (m n : Nat) : bits .xor .u64 (m : Int) n = (((m ^^^ n) % 18446744073709551616 : Nat) : Int) := by
 show IntKind.u64.wrap (((BitVec.ofInt 64 m) ^^^ (BitVec.ofInt 64 n)).toNat : Int) = _
 rw [IntWalk.u64_in _ ⟨by omega,by have := ((BitVec.ofInt 64 m) ^^^ (BitVec.ofInt 64 n)).isLt;omega⟩,BitVec.ofInt_natCast,BitVec.ofInt_natCast,BitVec.toNat_xor,BitVec.toNat_ofNat,BitVec.toNat_ofNat]
 rw [← Nat.xor_mod_two_pow]
theorem bits_andN32 (m n : Nat) : bits .and .u32 (m : Int) n = ((Sha.A m n : Nat) : Int) := by
 show IntKind.u32.wrap (((BitVec.ofInt 32 m) &&& (BitVec.ofInt 32 n)).toNat : Int) = _
 rw [IntWalk.u32_in _ ⟨by omega,by have := ((BitVec.ofInt 32 m) &&& (BitVec.ofInt 32 n)).isLt;omega⟩,BitVec.ofInt_natCast,BitVec.ofInt_natCast,BitVec.toNat_and,BitVec.toNat_ofNat,BitVec.toNat_ofNat]
 unfold Sha.A
 rw [← Nat.and_mod_two_pow]
theorem bits_andN64 (m n : Nat) : bits .and .u64 (m : Int) n = (((m &&& n) % 18446744073709551616 : Nat) : Int) := by
 show IntKind.u64.wrap (((BitVec.ofInt 64 m) &&& (BitVec.ofInt 64 n)).toNat : Int) = _
 rw [IntWalk.u64_in _ ⟨by omega,by have := ((BitVec.ofInt 64 m) &&& (BitVec.ofInt 64 n)).isLt;omega⟩,BitVec.ofInt_natCast,BitVec.ofInt_natCast,BitVec.toNat_and,BitVec.toNat_ofNat,BitVec.toNat_ofNat]
 rw [← Nat.and_mod_two_pow]
theorem bits_orN32 (m n : Nat) : bits .or .u32 (m : Int) n = ((Sha.O m n : Nat) : Int) := by
 show IntKind.u32.wrap (((BitVec.ofInt 32 m) ||| (BitVec.ofInt 32 n)).toNat : Int) = _
 rw [IntWalk.u32_in _ ⟨by omega,by have := ((BitVec.ofInt 32 m) ||| (BitVec.ofInt 32 n)).isLt;omega⟩,BitVec.ofInt_natCast,BitVec.ofInt_natCast,BitVec.toNat_or,BitVec.toNat_ofNat,BitVec.toNat_ofNat]
 unfold Sha.O
 rw [← Nat.or_mod_two_pow]
section
variable {P : Program} {md : Md} {N : Nat} {ops : Array Oper} {rest : List Oper} {Γ : Env} {C : World → Prop} {Q : Exit → Act → World → Prop} {d : Nat} {ty : TypeId} {pos : String} {af : Array Edge} {t u : TypeId} {x y : Operand} {m n : Nat}
theorem Wl.xorN32 (hd : Nat.blt d N = true) (hx : ev Γ x = some (.int .u32 (m : Int))) (hy : ev Γ y = some (.int .u32 (n : Int))) (h : Wl rest P md ops N ((d,.int .u32 ((Sha.X m n : Nat) : Int)) :: Γ) C Q) : Wl (⟨some d,.binOp .xor t x y u,ty,pos,af,none⟩ :: rest) P md ops N Γ C Q :=
 Wl.xor hd hx hy (by rw [bits_xorN32];exact h)
theorem Wl.xorN64 (hd : Nat.blt d N = true) (hx : ev Γ x = some (.int .u64 (m : Int))) (hy : ev Γ y = some (.int .u64 (n : Int))) (h : Wl rest P md ops N ((d,.int .u64 (((m ^^^ n) % 18446744073709551616 : Nat) : Int)) :: Γ) C Q) : Wl (⟨some d,.binOp .xor t x y u,ty,pos,af,none⟩ :: rest) P md ops N Γ C Q :=
 Wl.xor hd hx hy (by rw [bits_xorN64];exact h)
theorem Wl.andN32 (hd : Nat.blt d N = true) (hx : ev Γ x = some (.int .u32 (m : Int))) (hy : ev Γ y = some (.int .u32 (n : Int))) (h : Wl rest P md ops N ((d,.int .u32 ((Sha.A m n : Nat) : Int)) :: Γ) C Q) : Wl (⟨some d,.binOp .and t x y u,ty,pos,af,none⟩ :: rest) P md ops N Γ C Q :=
 Wl.and hd hx hy (by rw [bits_andN32];exact h)
theorem Wl.andN64 (hd : Nat.blt d N = true) (hx : ev Γ x = some (.int .u64 (m : Int))) (hy : ev Γ y = some (.int .u64 (n : Int))) (h : Wl rest P md ops N ((d,.int .u64 (((m &&& n) % 18446744073709551616 : Nat) : Int)) :: Γ) C Q) : Wl (⟨some d,.binOp .and t x y u,ty,pos,af,none⟩ :: rest) P md ops N Γ C Q :=
 Wl.and hd hx hy (by rw [bits_andN64];exact h)
theorem Wl.orN32 (hd : Nat.blt d N = true) (hx : ev Γ x = some (.int .u32 (m : Int))) (hy : ev Γ y = some (.int .u32 (n : Int))) (h : Wl rest P md ops N ((d,.int .u32 ((Sha.O m n : Nat) : Int)) :: Γ) C Q) : Wl (⟨some d,.binOp .or t x y u,ty,pos,af,none⟩ :: rest) P md ops N Γ C Q :=
 Wl.or hd hx hy (by rw [bits_orN32];exact h)
theorem Wl.shlP {k' : IntKind} {i : Int} (n : Nat) (hd : Nat.blt d N = true) (hx : ev Γ x = some (.int .u32 (m : Int))) (hy : ev Γ y = some (.int k' i)) (hi : i = (n : Int)) (hn : n ≤ 32) (h : Wl rest P md ops N ((d,.int .u32 ((m * 2 ^ n % 4294967296 : Nat) : Int)) :: Γ) C Q) : Wl (⟨some d,.binOp .shl t x y u,ty,pos,af,none⟩ :: rest) P md ops N Γ C Q :=
 Wl.shlV hd hx (hi ▸ hy) hn h
theorem Wl.shrP {k k' : IntKind} {i : Int} (n : Nat) (hd : Nat.blt d N = true) (hx : ev Γ x = some (.int k (m : Int))) (hy : ev Γ y = some (.int k' i)) (hi : i = (n : Int)) (hn : n ≤ k.bits) (h : Wl rest P md ops N ((d,.int k ((m / 2 ^ n : Nat) : Int)) :: Γ) C Q) : Wl (⟨some d,.binOp .shr t x y u,ty,pos,af,none⟩ :: rest) P md ops N Γ C Q :=
 Wl.shrV hd hx (hi ▸ hy) hn h
theorem Wl.addP (hd : Nat.blt d N = true) (hx : ev Γ x = some (.int .u32 (m : Int))) (hy : ev Γ y = some (.int .u32 (n : Int))) (h : Wl rest P md ops N ((d,.int .u32 ((Sha.P m n : Nat) : Int)) :: Γ) C Q) : Wl (⟨some d,.binOp .add t x y u,ty,pos,af,none⟩ :: rest) P md ops N Γ C Q := Wl.addN32 hd hx hy h
theorem exec_callV2 {f : FuncId} [hE : Ent P f] {a : Act} {w : World} {N : Nat} {Γ : Env} (ha : Fr N a Γ) {x : Operand} (hf : ev Γ x = some (.func (.func f) #[] #[])) {d : Option Nat} {xs : Array Operand} {vs : List Value} {ts : Array TypeId} {ty : TypeId} {pos : String} {af : Array Edge} {g : Option (Nat × Bool)} (hx : Evs Γ xs.toList vs) :
  (execOp a.eval ⟨d,.call { callee := .value x,args := xs,argTypes := ts },ty,pos,af,g⟩).run P w = .ok (.enter f vs.toArray) w := by
 have e : xs.map a.eval = vs.toArray := by
  obtain ⟨l⟩ := xs
  simp only [List.map_toArray]
  exact congrArg _ (hx.map ha)
 simp [execOp,resolve,e,ha.ev hf,Deferred.ofValue,invoke,hE.out]
theorem Wl.callVQ {f : FuncId} {x : Operand} {xs : Array Operand} {vs : List Value} {ts : Array TypeId} {v : Value} (hd : Nat.blt d N = true) (hf : ev Γ x = some (.func (.func f) #[] #[])) (_hE : Ent P f) (hx : Evs Γ xs.toList vs)
  (hq : ∀ w,C w → Calls P f vs.toArray w fun e w' => e = .returned v ∧ C w') (h : Wl rest P .seq ops N ((d,v) :: Γ) C Q) :
  Wl (⟨some d,.call { callee := .value x,args := xs,argTypes := ts },ty,pos,af,none⟩ :: rest) P .seq ops N Γ C Q := Wl.intro fun a w ha hw => by
 refine wpList_plain rfl fun K hK => ?_
 simp only [Oper.wp,exec_callV2 ha hf hx,Oper.upon]
 refine (hq w hw).mono ?_
 rintro e w' ⟨rfl,hC⟩
 exact hK _ _ (h.elim _ _ (ha.put hd v) hC)
theorem Wl.andE {k : IntKind} {a b r : Int} (hd : Nat.blt d N = true) (hx : ev Γ x = some (.int k a)) (hy : ev Γ y = some (.int k b)) (e : bits .and k a b = r) (h : Wl rest P md ops N ((d,.int k r) :: Γ) C Q) : Wl (⟨some d,.binOp .and t x y u,ty,pos,af,none⟩ :: rest) P md ops N Γ C Q :=
 Wl.and hd hx hy (by rw [e];exact h)
theorem Wl.subE {k : IntKind} {a b r : Int} (hd : Nat.blt d N = true) (hx : ev Γ x = some (.int k a)) (hy : ev Γ y = some (.int k b)) (e : k.wrap (a - b) = r) (h : Wl rest P md ops N ((d,.int k r) :: Γ) C Q) : Wl (⟨some d,.binOp .sub t x y u,ty,pos,af,none⟩ :: rest) P md ops N Γ C Q :=
 Wl.sub' hd hx hy (by rw [e];exact h)
theorem Wl.subC {i : Int} (n : Nat) (hd : Nat.blt d N = true) (hx : ev Γ x = some (.int .i64 (m : Int))) (hy : ev Γ y = some (.int .i64 i)) (hi : i = (n : Int)) (hn : n ≤ m) (hm : m < 9223372036854775808) (h : Wl rest P md ops N ((d,.int .i64 ((m - n : Nat) : Int)) :: Γ) C Q) : Wl (⟨some d,.binOp .sub t x y u,ty,pos,af,none⟩ :: rest) P md ops N Γ C Q :=
 Wl.subE hd hx hy (by rw [hi,IntKind.wrap_i64];omega) h
theorem Wl.subR {i : Int} (m : Nat) (hd : Nat.blt d N = true) (hx : ev Γ x = some (.int .i64 i)) (hi : i = (m : Int)) (hy : ev Γ y = some (.int .i64 (n : Int))) (hn : n ≤ m) (hm : m < 9223372036854775808) (h : Wl rest P md ops N ((d,.int .i64 ((m - n : Nat) : Int)) :: Γ) C Q) : Wl (⟨some d,.binOp .sub t x y u,ty,pos,af,none⟩ :: rest) P md ops N Γ C Q :=
 Wl.subE hd hx hy (by rw [hi,IntKind.wrap_i64];omega) h
theorem Wl.indexVS {md : Md} {C : World → Prop} {t e n b1 : TypeId} [ht : TyD P t (.array n e)] [hs : TyS P e 1 b1] [hc : TyC P e] {x i : Operand} {q : IntKind} {j : Nat} {xs : List Value} {v : Value} (hd : Nat.blt d N = true) (hx : ev Γ x = some (.agg xs.toArray)) (hi : ev Γ i = some (.int q (j : Int)))
  (hj : xs[j]? = some v) (hn : j < n) (h : Wl rest P md ops N ((d,v) :: Γ) C Q) : Wl (⟨some d,.index t x i,ty,pos,af,none⟩ :: rest) P md ops N Γ C Q :=
 Wl.val hd (fun a w ha _ => by
  have hj' : xs.toArray[j]? = some v := by simpa using hj
  simp [execOp,ha.ev hx,ha.ev hi,Instr.index,asIntOf,run_underlying ht.out,hn,run_size (P := P) (t := e),part,run_aggC (P := P) (t := e),hj',hj]) h
end
end Go.Pt
end
section
namespace Go.Proofs.YtmjlceimjlabpaaDoor
open Go.RowKit Go.Pt
abbrev numV (n : Nat) : Value := .agg (cellsN .u32 8 (dg W32 n)).toArray
theorem dlt (n i : Nat) : dg W32 n i < 4294967296 := dg_lt (by decide) n i
theorem d8_mod (n : Nat) : cellsN .u32 8 (dg W32 (n % W256)) = cellsN .u32 8 (dg W32 n) := cellsN_congr fun j hj => by rw [W256_eq];exact dg_mod hj
theorem hi8_eq (n : Nat) : hi W32 n 8 = n / W256 := by unfold hi;rw [W256_eq]
theorem hi8_lt {n : Nat} (h : n < W256) : hi W32 n 8 = 0 := hi_top (by rw [← W256_eq];exact h)
set_option maxHeartbeats 1000000 in
theorem limbAdd (a b : Nat) (ha : a < W256) (hb : b < W256) (w : World) :
  Calls Tryd.prog 94 #[numV a,numV b] w fun e w' => e = .returned (.tuple #[numV ((a + b) % W256),.int .u32 ((a + b) / W256 : Nat)]) ∧ Hp w [] w' := by
 refine enter (args := [_,_]) (Γ := [(0,_),(1,_)]) Tryd.func94 Tryd.ntmps94 rfl (of_decide_eq_true rfl) (.cons rfl (.cons rfl .nil)) ?_
 repeat' first | (apply Wl.boxN;exact rfl;exact rfl;intro c hc ho) | (apply Wl.allocN;exact rfl;(first | exact z8 | exact z16 | exact z17 | exact z33 | exact z10);intro c hc ho) | refine Wl.move rfl rfl ?_ | refine Wl.assign rfl rfl ?_ | apply Wl.nil | apply St.seq | apply St.block | apply St.region | apply Gt.next
 rename_i ca hca hoa cb hcb hob
 generalize c = cr at *
 refine St.loop (σ := Nat × Nat) (fun τ => τ.1 ≤ 8 ∧ τ.2 ≤ 1 ∧ hi W32 (a + b) τ.1 = hi W32 a τ.1 + hi W32 b τ.1 + τ.2)
  (fun τ => [(2,.pointer (some ⟨ca,0,none⟩)),(3,.pointer (some ⟨cb,0,none⟩)),(4,.pointer (some ⟨cr,0,none⟩)),(6,.int .u64 τ.2),(8,.int .i64 τ.1)])
  (fun τ => Hp w [⟨cr,cellsN .u32 8 fun _ => 0,69⟩,⟨cb,cellsN .u32 8 (dg W32 b),69⟩,⟨ca,cellsN .u32 8 (fillN (dg W32 a) (dg W32 (a + b)) τ.1),69⟩])
  (fun τ => 8 - τ.1) (0,0) ⟨by simp,by simp,by simp [hi_zero]⟩ (by repeat constructor) (fun _ h => by simpa only [fillN_zero] using h) ?_
 rintro ⟨i,c⟩ ⟨hi8,hc1,hic⟩
 simp only at hi8 hc1 hic ⊢
 have hA := dlt a i
 have hB := dlt b i
 have hf : fillN (dg W32 a) (dg W32 (a + b)) i i = dg W32 a i := fillN_at (Nat.le_refl _)
 by_cases hlt : i < 8
 ·have hF := hA
  rw [← hf] at hF
  obtain ⟨e1,e2⟩ := add_step hic
  repeat' first | (refine Wl.indexA rfl rfl rfl ?_ ?_;omega) | (apply Wl.loadN;exact rfl;exact rfl;(focus repeat constructor);omega) | (apply Wl.storeN;exact rfl;exact rfl;(focus repeat constructor);omega) | (apply Wl.addNU;exact rfl;exact rfl;exact rfl;(first | assumption | omega)) | refine Wl.shr32 rfl rfl rfl ?_ | (apply Wl.convN32 (k := .u64);exact rfl;exact rfl) | refine Wl.move rfl rfl ?_ | refine Wl.assign rfl rfl ?_ | refine Wl.lss rfl rfl rfl ?_ | (refine Wl.addI rfl rfl rfl ?_ ?_;constructor <;> omega) | (refine Wl.convU64 rfl rfl ?_ ?_;constructor <;> omega) | apply Wl.nil | apply Wl.nilQ | apply St.seq | apply St.block | apply St.region | (apply St.draw;exact mixed;(kernel_rfl);exact (fun _ h => Hp.drew h)) | apply St.skip | apply Gt.next | apply Gt.inNormal | (apply St.condP;exact rfl;all_goals (intros;try (exfalso;omega)))
  rw [hf,e1]
  apply Gt.round (i + 1,(c + (dg W32 a i + dg W32 b i)) / 4294967296)
  rotate_left
  ·simp only;omega
  ·repeat constructor
  ·exact fun _ h => by rw [fillN_step] at h;exact h
  ·exact ⟨by simp only;omega,by simp only;omega,e2⟩
 ·have : i = 8 := by omega
  subst this
  have hc : c = (a + b) / W256 := by rw [hi8_lt ha,hi8_lt hb,hi8_eq] at hic;omega
  repeat' first | (apply Wl.loadW;exact rfl;exact rfl;(focus repeat constructor);exact rfl) | (apply Wl.storeW;exact rfl;exact rfl;(focus repeat constructor);exact rfl;(first | exact cellsN_len _ _ _ | exact rfl)) | (apply Wl.convN32 (k := .u64);exact rfl;exact rfl) | refine Wl.move rfl rfl ?_ | refine Wl.assign rfl rfl ?_ | refine Wl.lss rfl rfl rfl ?_ | apply Wl.nil | apply St.seq | apply St.region | (apply St.condF;exact rfl;(with_reducible first | rfl | assumption | decide)) | apply St.ret | apply St.exit | apply Gt.next | apply Gt.thenExit | apply Gt.inExit
  apply Gt.outCT
  ·exact rfl
  ·infer_instance
  ·exact rfl
  ·exact rfl
  ·repeat constructor
  ·exact LSub.whole (cellsN_len _ _ _)
  intro w' hp
  refine ⟨?_,hp.drop (by simp;omega)⟩
  rw [fillN_end,← d8_mod,Nat.mod_eq_of_lt (show c < 4294967296 by omega),hc]
theorem two56 : W32 ^ 8 = W256 := W256_eq.symm
set_option maxHeartbeats 1000000 in
theorem limbSub (a b : Nat) (ha : a < W256) (hb : b < W256) (w : World) :
  Calls Tryd.prog 67 #[numV a,numV b] w fun e w' => e = .returned (.tuple #[numV ((a + W256 - b) % W256),.int .u32 (if a < b then 1 else 0 : Nat)]) ∧ Hp w [] w' := by
 refine enter (args := [_,_]) (Γ := [(0,_),(1,_)]) Tryd.func67 Tryd.ntmps67 rfl (of_decide_eq_true rfl) (.cons rfl (.cons rfl .nil)) ?_
 repeat' first | (apply Wl.boxN;exact rfl;exact rfl;intro c hc ho) | (apply Wl.allocN;exact rfl;(first | exact z8 | exact z16 | exact z17 | exact z33 | exact z10);intro c hc ho) | refine Wl.move rfl rfl ?_ | refine Wl.assign rfl rfl ?_ | apply Wl.nil | apply St.seq | apply St.block | apply St.region | apply Gt.next
 rename_i ca hca hoa cb hcb hob
 generalize c = cr at *
 refine St.loop (σ := Nat × Nat) (fun τ => τ.1 ≤ 8 ∧ τ.2 ≤ 1 ∧ hi W32 (a + W256 - b) τ.1 + hi W32 b τ.1 + τ.2 = hi W32 a τ.1 + W32 ^ (8 - τ.1))
  (fun τ => [(2,.pointer (some ⟨ca,0,none⟩)),(3,.pointer (some ⟨cb,0,none⟩)),(4,.pointer (some ⟨cr,0,none⟩)),(6,.int .u64 τ.2),(8,.int .i64 τ.1)])
  (fun τ => Hp w [⟨cr,cellsN .u32 8 fun _ => 0,69⟩,⟨cb,cellsN .u32 8 (dg W32 b),69⟩,⟨ca,cellsN .u32 8 (fillN (dg W32 a) (dg W32 (a + W256 - b)) τ.1),69⟩])
  (fun τ => 8 - τ.1) (0,0) ⟨by simp,by simp,by simp only [hi_zero,Nat.sub_zero,two56];omega⟩ (by repeat constructor) (fun _ h => by simpa only [fillN_zero] using h) ?_
 rintro ⟨i,c⟩ ⟨hi8,hc1,hic⟩
 simp only at hi8 hc1 hic ⊢
 have hA := dlt a i
 have hB := dlt b i
 have hf : fillN (dg W32 a) (dg W32 (a + W256 - b)) i i = dg W32 a i := fillN_at (Nat.le_refl _)
 by_cases hlt : i < 8
 ·have hF := hA
  rw [← hf] at hF
  obtain ⟨e1,e2,e3⟩ := sub_step hlt hic hc1
  repeat' first | (refine Wl.indexA rfl rfl rfl ?_ ?_;omega) | (apply Wl.loadN;exact rfl;exact rfl;(focus repeat constructor);omega) | (apply Wl.storeN;exact rfl;exact rfl;(focus repeat constructor);omega) | refine Wl.shr63 rfl rfl rfl ?_ | (apply Wl.convN32 (k := .u64);exact rfl;exact rfl) | (refine Wl.subNU rfl rfl rfl ?_ ?_;omega) | refine Wl.move rfl rfl ?_ | refine Wl.assign rfl rfl ?_ | refine Wl.lss rfl rfl rfl ?_ | (refine Wl.addI rfl rfl rfl ?_ ?_;constructor <;> omega) | (refine Wl.convU64 rfl rfl ?_ ?_;constructor <;> omega) | apply Wl.nil | apply Wl.nilQ | apply St.seq | apply St.block | apply St.region | (apply St.draw;exact mixed;(kernel_rfl);exact (fun _ h => Hp.drew h)) | apply St.skip | apply Gt.next | apply Gt.inNormal | (apply St.condP;exact rfl;all_goals (intros;try (exfalso;omega)))
  rw [hf,e1]
  apply Gt.round (i + 1,((dg W32 a i + 18446744073709551616 - dg W32 b i) % 18446744073709551616 + 18446744073709551616 - c) % 18446744073709551616 / 9223372036854775808)
  rotate_left
  ·simp only;omega
  ·repeat constructor
  ·exact fun _ h => by rw [fillN_step] at h;exact h
  ·exact ⟨by simp only;omega,e3,e2⟩
 ·have : i = 8 := by omega
  subst this
  have hc : c = if a < b then 1 else 0 := by
   rw [hi8_lt ha,hi8_lt hb,hi8_eq,Nat.sub_self,Nat.pow_zero] at hic
   unfold W256 at *
   split <;> omega
  repeat' first | (apply Wl.loadW;exact rfl;exact rfl;(focus repeat constructor);exact rfl) | (apply Wl.storeW;exact rfl;exact rfl;(focus repeat constructor);exact rfl;(first | exact cellsN_len _ _ _ | exact rfl)) | (apply Wl.convN32 (k := .u64);exact rfl;exact rfl) | refine Wl.move rfl rfl ?_ | refine Wl.assign rfl rfl ?_ | refine Wl.lss rfl rfl rfl ?_ | apply Wl.nil | apply St.seq | apply St.region | (apply St.condF;exact rfl;(with_reducible first | rfl | assumption | decide)) | apply St.ret | apply St.exit | apply Gt.next | apply Gt.thenExit | apply Gt.inExit
  apply Gt.outCT
  ·exact rfl
  ·infer_instance
  ·exact rfl
  ·exact rfl
  ·repeat constructor
  ·exact LSub.whole (cellsN_len _ _ _)
  intro w' hp
  refine ⟨?_,hp.drop (by simp;omega)⟩
  rw [fillN_end,← d8_mod,Nat.mod_eq_of_lt (show c < 4294967296 by omega),hc]
def cmpN (a b : Nat) : Int := if a < b then -1 else if b < a then 1 else 0
set_option maxHeartbeats 1000000 in
theorem limbCompare (a b : Nat) (ha : a < W256) (hb : b < W256) (w : World) :
  Calls Tryd.prog 65 #[numV a,numV b] w fun e w' => e = .returned (.int .i64 (cmpN a b)) ∧ Hp w [] w' := by
 refine enter (args := [_,_]) (Γ := [(0,_),(1,_)]) Tryd.func65 Tryd.ntmps65 rfl (of_decide_eq_true rfl) (.cons rfl (.cons rfl .nil)) ?_
 repeat' first | (apply Wl.boxN;exact rfl;exact rfl;intro c hc ho) | refine Wl.assign rfl rfl ?_ | apply Wl.nil | apply St.seq | apply St.block | apply St.region | apply Gt.next
 rename_i ca hca hoa
 generalize c = cb at *
 refine St.loop (σ := Nat) (fun τ => τ ≤ 8 ∧ hi W32 a τ = hi W32 b τ)
  (fun τ => [(2,.pointer (some ⟨ca,0,none⟩)),(3,.pointer (some ⟨cb,0,none⟩)),(5,.int .i64 ((τ : Int) - 1))])
  (fun τ => Hp w [⟨cb,cellsN .u32 8 (dg W32 b),69⟩,⟨ca,cellsN .u32 8 (dg W32 a),69⟩])
  (fun τ => τ) 8 ⟨by simp,by rw [hi8_lt ha,hi8_lt hb]⟩ (by repeat constructor) (fun _ h => h) ?_
 rintro i ⟨hi8,hic⟩
 cases i with
 | zero =>
  rw [hi_zero,hi_zero] at hic
  repeat' first | refine Wl.move rfl rfl ?_ | refine Wl.assign rfl rfl ?_ | refine Wl.geq rfl rfl rfl ?_ | apply Wl.nil | apply St.seq | apply St.region | (apply St.condF;exact rfl;(with_reducible first | rfl | assumption | decide)) | apply St.ret | apply St.exit | apply Gt.next | apply Gt.thenExit | apply Gt.inExit | (apply Gt.out1;exact rfl;exact rfl;intro w' hp)
  refine ⟨?_,hp.drop (by simp;omega)⟩
  unfold cmpN
  rw [if_neg (by omega),if_neg (by omega)]
 | succ i =>
  have e : (((i + 1 : Nat) : Int) - 1) = (i : Int) := by omega
  rw [e]
  have ea := hi_eq W32 a i
  have eb := hi_eq W32 b i
  rw [hic] at ea
  repeat' first | (refine Wl.indexA rfl rfl rfl ?_ ?_;omega) | (apply Wl.loadN;exact rfl;exact rfl;(focus repeat constructor);omega) | refine Wl.move rfl rfl ?_ | refine Wl.assign rfl rfl ?_ | refine Wl.lss rfl rfl rfl ?_ | refine Wl.gtr rfl rfl rfl ?_ | refine Wl.geq rfl rfl rfl ?_ | (refine Wl.subI rfl rfl rfl ?_ ?_;constructor <;> omega) | apply Wl.nil | apply Wl.nilQ | apply St.seq | apply St.block | apply St.region | (apply St.draw;exact mixed;(kernel_rfl);exact (fun _ h => Hp.drew h)) | apply St.ret | apply St.skip | apply Gt.next | apply Gt.thenRet | apply Gt.inNormal | apply Gt.inRet | (apply Gt.out1;exact rfl;exact rfl;intro w' hp) | (apply St.condP;exact rfl;all_goals (intros;try (exfalso;omega)))
  ·refine ⟨?_,hp.drop (by simp;omega)⟩
   unfold cmpN
   rw [if_pos (lt_of_hi (B := W32) (i := i) (by omega))]
  ·refine ⟨?_,hp.drop (by simp;omega)⟩
   unfold cmpN
   have : b < a := lt_of_hi (B := W32) (i := i) (by omega)
   rw [if_neg (by omega),if_pos this]
  ·apply Gt.round i
   rotate_left
   ·simp
   ·repeat constructor
   ·exact fun _ h => h
   ·exact ⟨by omega,by omega⟩
set_option maxHeartbeats 1000000 in
theorem limbBit (a i : Nat) (hi' : i < 256) (w : World) :
  Calls Tryd.prog 76 #[numV a,.int .i64 i] w fun e w' => e = .returned (.int .u32 (a / 2 ^ i % 2 : Nat)) ∧ Hp w [] w' := by
 refine enter (args := [_,_]) (Γ := [(0,_),(1,_)]) Tryd.func76 Tryd.ntmps76 rfl (of_decide_eq_true rfl) (.cons rfl (.cons rfl .nil)) ?_
 have hi32 : i / 32 < 8 := by omega
 repeat' first | (refine Wl.indexA rfl rfl rfl ?_ ?_;omega) | (apply Wl.loadN;exact rfl;exact rfl;(focus repeat constructor);omega) | (apply Wl.boxN;exact rfl;exact rfl;intro c hc ho) | (apply Wl.and1;exact rfl;exact rfl;exact rfl;exact rfl;(first | exact wrap2_u32 | exact wrap2_u64 | exact wrap2_i64)) | (apply Wl.quoN (n := 32);exact rfl;exact rfl;exact rfl;(decide);(first | exact IntWalk.u64_in _ (by omega) | exact IntWalk.i64_in _ (by omega))) | (apply Wl.remN (n := 32);exact rfl;exact rfl;exact rfl;(decide)) | (apply Wl.shrV;exact rfl;exact rfl;exact rfl;(first | (show _ ≤ 32;omega) | (show _ ≤ 64;omega))) | refine Wl.move rfl rfl ?_ | refine Wl.assign rfl rfl ?_ | (apply Wl.on;exact rfl;exact rfl;(with_reducible first | rfl | assumption | decide)) | (apply Wl.pickF;exact rfl;exact rfl;(with_reducible first | rfl | assumption | decide);exact rfl) | refine Wl.lss rfl rfl rfl ?_ | refine Wl.gtr rfl rfl rfl ?_ | apply Wl.nil | apply St.seq | apply St.region | apply St.ret | apply St.skip | apply Gt.next | (apply Gt.out1;exact rfl;exact rfl;intro w' hp) | (apply Wl.splitP;exact rfl;exact rfl;all_goals (intros;try (exfalso;omega))) | (apply St.condP;exact rfl;all_goals (intros;try (exfalso;omega)))
 refine ⟨?_,hp.drop (by simp;omega)⟩
 rw [bit_dg]
theorem cell32 (f : Nat → Nat) (hf : ∀ j,f j < 4294967296) : ∀ j,j < 8 → IntKind.u32.min ≤ (f j : Int) ∧ (f j : Int) ≤ IntKind.u32.max := fun j _ => by
 have := hf j
 simp only [IntKind.min,IntKind.max,IntKind.signed,IntKind.bits]
 constructor <;> simp <;> omega
theorem d8_inj {a b : Nat} (ha : a < W256) (hb : b < W256) : decide (a = b) = true ↔ ∀ j,j < 8 → dg W32 a j = dg W32 b j := by
 rw [decide_eq_true_eq]
 exact ⟨fun e _ _ => by rw [e],dg_ext (k := 8) (by rw [← W256_eq];exact ha) (by rw [← W256_eq];exact hb)⟩
end Go.Proofs.YtmjlceimjlabpaaDoor
end
section
namespace Go.Pt
open Go.RowKit
theorem hpNil (w : World) : Hp w [] w := ⟨Upd.refl _ _,trivial,trivial⟩
theorem hpPop {w0 w : World} {x : Blk} {H : List Blk} (h : Hp w0 (x :: H) w) (hx : w0.heap.size ≤ x.b) : Hp w0 H w :=
 ⟨h.upd.mono fun k hk hs ho => hs ⟨fun e => by omega,ho⟩,h.own.2,h.apart.2⟩
def ArrAt (w : World) (b o : Nat) (k : IntKind) (n : Nat) (f : Nat → Nat) : Prop := ∀ j,j < n → w.cell? ⟨b,o + j,none⟩ = some (.int k (f j))
theorem ArrAt.get {w : World} {b o n : Nat} {k : IntKind} {f : Nat → Nat} (h : ArrAt w b o k n f) (j : Nat) (v : Value) (hj : (cellsN k n f)[j]? = some v) : w.cell? ⟨b,o + j,none⟩ = some v := by
 have hl := (List.getElem?_eq_some_iff.1 hj).1
 rw [cellsN_len] at hl
 rw [cellsN_get hl] at hj
 rw [← hj]
 exact h j hl
theorem ArrAt.lt {w : World} {b o n : Nat} {k : IntKind} {f : Nat → Nat} (h : ArrAt w b o k n f) (hn : 0 < n) : b < w.heap.size := World.block_lt_of_cell? w _ (h 0 hn)
theorem ArrAt.upd {S : Nat → Prop} {w w' : World} {b o n : Nat} {k : IntKind} {f : Nat → Nat} (h : ArrAt w b o k n f) (u : Upd S w w') (hs : ¬ S b) : ArrAt w' b o k n f := fun j hj => u.cell (h j hj) hs
theorem ArrAt.hp {w w' : World} {H : List Blk} {b o n : Nat} {k : IntKind} {f : Nat → Nat} (h : ArrAt w b o k n f) (u : Hp w H w') (hs : Off H b) : ArrAt w' b o k n f := h.upd u.upd fun y => y hs
section
variable {P : Program} {md : Md} {N : Nat} {ops : Array Oper} {rest : List Oper} {Γ : Env} {Q : Exit → Act → World → Prop} {d : Nat} {ty : TypeId} {pos : String} {af : Array Edge} {t : TypeId} {x y : Operand}
theorem Wl.loadM {w0 : World} {H : List Blk} {n m : Nat} [TyA P t n] {b o : Nat} {k : IntKind} {f : Nat → Nat} (hd : Nat.blt d N = true) (hx : ev Γ x = some (.pointer (some ⟨b,o,none⟩))) (hm : ArrAt w0 b o k m f) (ho : Off H b) (hn : Nat.beq m n = true)
  (h : Wl rest P md ops N ((d,.agg (cellsN k m f).toArray) :: Γ) (Hp w0 H) Q) : Wl (⟨some d,.load t x,ty,pos,af,none⟩ :: rest) P md ops N Γ (Hp w0 H) Q :=
 Wl.loadAF hd hx ((cellsN_len k m f).trans (Nat.eq_of_beq_eq_true hn)) (fun w hw i v hv => by rw [addLit];exact hw.old (hm.get i v hv) ho) h
theorem Wl.loadME {w0 : World} {H : List Blk} {n : Nat} [TyC P t] {b j : Nat} {k : IntKind} {f : Nat → Nat} (hd : Nat.blt d N = true) (hx : ev Γ x = some (.pointer (some ⟨b,j,none⟩))) (hm : ArrAt w0 b 0 k n f) (ho : Off H b) (hj : j < n)
  (h : Wl rest P md ops N ((d,.int k (f j)) :: Γ) (Hp w0 H) Q) : Wl (⟨some d,.load t x,ty,pos,af,none⟩ :: rest) P md ops N Γ (Hp w0 H) Q :=
 Wl.loadO hd hx (by have := hm j hj;rw [Nat.zero_add] at this;exact this) ho h
end
theorem Gt.outN {P : Program} {N : Nat} {Γ : Env} {w0 : World} {H : List Blk} {fn : Func} {R : Ending → World → Prop} {t ty n c m bt : Nat} {k : IntKind} {f : Nat → Nat} (hr : fn.results = #[.cell t ty]) (hT : TyA P ty n) (ht : look Γ t = some (.pointer (some ⟨c,0,none⟩))) (hm : (⟨c,cellsN k m f,bt⟩ : Blk) ∈ H) (hn : Nat.beq m n = true)
  (h : ∀ w,Hp w0 H w → R (.returned (.agg (cellsN k m f).toArray)) w) : Gt N .ret Γ (Hp w0 H) (bodyPost P fn R) := Gt.outC' hr hT ht hm (LSub.whole ((cellsN_len k m f).trans (Nat.eq_of_beq_eq_true hn))) h
end Go.Pt
namespace Go.Proofs.YtmjlceimjlabpaaDoor
open Go.RowKit Go.Pt
abbrev mp (b : Nat) : Value := .pointer (some ⟨b,0,none⟩)
set_option maxHeartbeats 1000000 in
theorem modFit (b m n over : Nat) (w : World) (hM : ArrAt w b 0 .u32 8 (dg W32 m)) (hm : m < W256) (hn : n < W256) (hov : over ≤ 1) (h2 : n + W256 * over < 2 * m) :
  Calls Tryd.prog 71 #[mp b,numV n,.int .u32 over] w fun e w' => e = .returned (numV ((n + W256 * over) % m)) ∧ Hp w [] w' := by
 have hb := hM.lt (by decide)
 have ho := once h2
 have k1 : 0 < over → (n + W256 * over) % m = (n + W256 - m) % W256 := fun h => by
  have e : over = 1 := by omega
  subst e
  rw [Nat.mul_one] at h2 ho
  rw [Nat.mul_one,ho,if_pos (by omega),Nat.mod_eq_of_lt (show n + W256 - m < W256 by omega)]
 have k2 : over = 0 → ¬ n < m → (n + W256 * over) % m = (n + W256 - m) % W256 := fun h h' => by
  subst h
  rw [Nat.mul_zero,Nat.add_zero] at h2 ho
  rw [Nat.mul_zero,Nat.add_zero,ho,if_pos (by omega),show n + W256 - m = (n - m) + W256 by omega,Nat.add_mod_right,Nat.mod_eq_of_lt (by omega)]
 have k3 : over = 0 → n < m → (n + W256 * over) % m = n := fun h h' => by
  subst h
  rw [Nat.mul_zero,Nat.add_zero,Nat.mod_eq_of_lt h']
 refine enter (args := [_,_,_]) (Γ := [(0,_),(1,_),(2,_)]) Tryd.func71 Tryd.ntmps71 rfl (of_decide_eq_true rfl) (.cons rfl (.cons rfl (.cons rfl .nil))) ?_
 repeat' first | (apply Wl.boxN;exact rfl;exact rfl;intro c hc ho) | (apply Wl.allocN;exact rfl;(first | exact z8 | exact z16 | exact z17 | exact z33 | exact z10);intro c hc ho) | apply Wl.nil | apply St.seq | apply St.region | apply Gt.next
 rename_i ca hca hoa
 generalize c = cr at *
 refine St.tree (Hp w [_,_]) mixed (fun _ h => ⟨Hp.drew h,Hp.drew h⟩) ?_
 repeat' first | (apply Wl.loadM;exact rfl;exact rfl;exact hM;(apply Off.of;simp;omega);exact rfl) | (refine Mt.pure 0 (by decide +kernel) (by exact rfl) (by exact rfl) (by decide +kernel) (by decide +kernel) ?_) | (refine Mt.pure 1 (by decide +kernel) (by exact rfl) (by exact rfl) (by decide +kernel) (by decide +kernel) ?_) | (refine Mt.pure 2 (by decide +kernel) (by exact rfl) (by exact rfl) (by decide +kernel) (by decide +kernel) ?_) | (refine Mt.pure 3 (by decide +kernel) (by exact rfl) (by exact rfl) (by decide +kernel) (by decide +kernel) ?_) | (refine Mt.pure 4 (by decide +kernel) (by exact rfl) (by exact rfl) (by decide +kernel) (by decide +kernel) ?_) | (refine Mt.eff1 (i := 5) (by decide +kernel) (by exact rfl) ?_) | (refine Mt.eff2 (i := 5) (j := 9) (by decide +kernel) (by exact rfl) (by exact rfl) ?_ ?_) | apply Mt.back | (refine Mt.backE (fun _ h => by first | exact h | exact hpPop h (by simp only;omega)) ?_) | (apply Wl.loadW;exact rfl;exact rfl;(focus repeat constructor);exact rfl) | (apply Wl.allocN;exact rfl;(first | exact z8 | exact z16 | exact z17 | exact z33 | exact z10);intro c hc ho) | refine Wl.move rfl rfl ?_ | refine Wl.nilCheck rfl rfl ?_ | refine Wl.fieldAddr0 rfl rfl ?_ | apply Wl.nil | apply Wl.nilM
 all_goals
  apply Wl.callQ
  exact rfl
  (focus repeat constructor)
  ·intro wq hq
   exact hq.q (limbSub n m hn hm wq)
  repeat' first | (apply Gt.outN;exact rfl;infer_instance;exact rfl;(focus repeat constructor);exact rfl;intro w' hp) | (refine Mt.toGt (by decide +kernel) ?_) | (refine Mt.pure 6 (by decide +kernel) (by exact rfl) (by exact rfl) (by decide +kernel) (by decide +kernel) ?_) | (refine Mt.pure 7 (by decide +kernel) (by exact rfl) (by exact rfl) (by decide +kernel) (by decide +kernel) ?_) | (refine Mt.pure 8 (by decide +kernel) (by exact rfl) (by exact rfl) (by decide +kernel) (by decide +kernel) ?_) | (refine Mt.pure 11 (by decide +kernel) (by exact rfl) (by exact rfl) (by decide +kernel) (by decide +kernel) ?_) | (refine Mt.eff1 (i := 9) (by decide +kernel) (by exact rfl) ?_) | (refine Mt.eff1 (i := 10) (by decide +kernel) (by exact rfl) ?_) | apply Mt.back | (refine Mt.backE (fun _ h => by first | exact h | exact hpPop h (by simp only;omega)) ?_) | (apply Wl.loadW;exact rfl;exact rfl;(focus repeat constructor);exact rfl) | (apply Wl.storeW;exact rfl;exact rfl;(focus repeat constructor);exact rfl;(first | exact cellsN_len _ _ _ | exact rfl)) | (apply Wl.allocN;exact rfl;(first | exact z8 | exact z16 | exact z17 | exact z33 | exact z10);intro c hc ho) | refine Wl.move rfl rfl ?_ | refine Wl.assign rfl rfl ?_ | (apply Wl.on;exact rfl;exact rfl;(with_reducible first | rfl | assumption | decide)) | (apply Wl.off;exact rfl;exact rfl;exact rfl;(first | with_reducible rfl | (show _ = false;with_reducible assumption) | (show _ = true;with_reducible assumption) | decide)) | refine Wl.extract rfl rfl rfl ?_ | (apply Wl.pickT;exact rfl;exact rfl;(with_reducible first | rfl | assumption | decide);exact rfl) | (apply Wl.pickF;exact rfl;exact rfl;(with_reducible first | rfl | assumption | decide);exact rfl) | refine Wl.eql rfl rfl rfl ?_ | refine Wl.gtr rfl rfl rfl ?_ | apply Wl.nil | apply Wl.nilM | apply St.seq | apply St.region | (apply St.condT;exact rfl;(with_reducible first | rfl | assumption | decide)) | apply St.ret | apply St.skip | apply Gt.next | apply Gt.thenRet | (apply Wl.splitP;exact rfl;exact rfl;all_goals (intros;try (exfalso;omega))) | (apply St.condP;exact rfl;all_goals (intros;try (exfalso;omega)))
 all_goals
  refine ⟨?_,hp.drop (by simp;omega)⟩
  first
   | rw [k1 (by omega)]
   | rw [k2 (by omega) (by have := ‹((if n < m then 1 else 0 : Nat) : Int) = 0›;split at this <;> omega)]
   | rw [k3 (by omega) (by have := ‹¬((if n < m then 1 else 0 : Nat) : Int) = 0›;split at this <;> omega)]
set_option maxHeartbeats 1000000 in
theorem modAdd (b m x y : Nat) (w : World) (hM : ArrAt w b 0 .u32 8 (dg W32 m)) (hm : m < W256) (hx : x < m) (hy : y < m) :
  Calls Tryd.prog 66 #[mp b,numV x,numV y] w fun e w' => e = .returned (numV ((x + y) % m)) ∧ Hp w [] w' := by
 have hb := hM.lt (by decide)
 refine enter (args := [_,_,_]) (Γ := [(0,_),(1,_),(2,_)]) Tryd.func66 Tryd.ntmps66 rfl (of_decide_eq_true rfl) (.cons rfl (.cons rfl (.cons rfl .nil))) ?_
 repeat' first | (apply Wl.loadW;exact rfl;exact rfl;(focus repeat constructor);exact rfl) | (apply Wl.boxN;exact rfl;exact rfl;intro c hc ho) | (apply Wl.allocN;exact rfl;(first | exact z8 | exact z16 | exact z17 | exact z33 | exact z10);intro c hc ho) | refine Wl.move rfl rfl ?_ | refine Wl.eqlPN rfl rfl rfl ?_ | apply Wl.nil | apply St.seq | apply St.region | (apply St.condF;exact rfl;(with_reducible first | rfl | assumption | decide)) | apply St.skip | apply Gt.next
 apply Wl.callQ
 exact rfl
 (focus repeat constructor)
 ·intro wq hq
  exact hq.q (limbAdd x y (by omega) (by omega) wq)
 repeat' first | refine Wl.extract rfl rfl rfl ?_
 apply Wl.callQ
 exact rfl
 (focus repeat constructor)
 ·intro wq hq
  exact hq.q (modFit b m ((x + y) % W256) ((x + y) / W256) wq (hM.hp hq (by apply Off.of;simp;omega)) hm (Nat.mod_lt _ (by decide)) (by unfold W256 at *;omega) (by rw [Nat.mod_add_div];omega))
 rw [Nat.mod_add_div]
 repeat' first | (apply Gt.outN;exact rfl;infer_instance;exact rfl;(focus repeat constructor);exact rfl;intro w' hp) | (apply Wl.storeW;exact rfl;exact rfl;(focus repeat constructor);exact rfl;(first | exact cellsN_len _ _ _ | exact rfl)) | apply Wl.nil | apply St.ret | apply Gt.next
 exact ⟨rfl,hp.drop (by simp;omega)⟩
end Go.Proofs.YtmjlceimjlabpaaDoor
end
section
namespace Go.Proofs.YtmjlceimjlabpaaDoor
open Go.RowKit Go.Pt
set_option maxHeartbeats 1000000 in
theorem modSub (b m x y : Nat) (w : World) (hM : ArrAt w b 0 .u32 8 (dg W32 m)) (hm : m < W256) (hx : x < m) (hy : y < m) :
  Calls Tryd.prog 93 #[mp b,numV x,numV y] w fun e w' => e = .returned (numV ((x + m - y) % m)) ∧ Hp w [] w' := by
 have hb := hM.lt (by decide)
 refine enter (args := [_,_,_]) (Γ := [(0,_),(1,_),(2,_)]) Tryd.func93 Tryd.ntmps93 rfl (of_decide_eq_true rfl) (.cons rfl (.cons rfl (.cons rfl .nil))) ?_
 repeat' first | (apply Wl.loadW;exact rfl;exact rfl;(focus repeat constructor);exact rfl) | (apply Wl.boxN;exact rfl;exact rfl;intro c hc ho) | (apply Wl.allocN;exact rfl;(first | exact z8 | exact z16 | exact z17 | exact z33 | exact z10);intro c hc ho) | refine Wl.move rfl rfl ?_ | refine Wl.eqlPN rfl rfl rfl ?_ | apply Wl.nil | apply St.seq | apply St.region | (apply St.condF;exact rfl;(with_reducible first | rfl | assumption | decide)) | apply St.skip | apply Gt.next
 apply Wl.callQ
 exact rfl
 (focus repeat constructor)
 ·intro wq hq
  exact hq.q (limbSub x y (by omega) (by omega) wq)
 by_cases hxy : x < y
 ·have e1 : (x + W256 - y) % W256 = x + W256 - y := Nat.mod_eq_of_lt (by omega)
  have e2 : ((x + W256 - y) % W256 + m) % W256 = (x + m - y) % m := by
   rw [e1,show x + W256 - y + m = (x + m - y) + W256 by omega,Nat.add_mod_right,Nat.mod_eq_of_lt (by omega),Nat.mod_eq_of_lt (by omega)]
  rw [if_pos hxy]
  repeat' first | (apply Wl.storeW;exact rfl;exact rfl;(focus repeat constructor);exact rfl;(first | exact cellsN_len _ _ _ | exact rfl)) | (apply Wl.allocN;exact rfl;(first | exact z8 | exact z16 | exact z17 | exact z33 | exact z10);intro c hc ho) | refine Wl.move rfl rfl ?_ | refine Wl.assign rfl rfl ?_ | refine Wl.extract rfl rfl rfl ?_ | refine Wl.gtr rfl rfl rfl ?_ | apply Wl.nil | apply St.seq | apply St.region | (apply St.condT;exact rfl;(with_reducible first | rfl | assumption | decide)) | apply Gt.next
  refine St.tree (Hp w [_,_,_]) mixed (fun _ h => ⟨Hp.drew h,hpPop (Hp.drew h) (by simp only;omega)⟩) ?_
  refine Mt.pure 1 (by decide +kernel) (by exact rfl) (by exact rfl) (by decide +kernel) (by decide +kernel) ?_
  repeat' first | refine Wl.move rfl rfl ?_ | apply Wl.nilM
  apply Mt.back
  refine Mt.pure 2 (by decide +kernel) (by exact rfl) (by exact rfl) (by decide +kernel) (by decide +kernel) ?_
  repeat' first | refine Wl.nilCheck rfl rfl ?_ | apply Wl.nilM
  apply Mt.back
  refine Mt.pure 3 (by decide +kernel) (by exact rfl) (by exact rfl) (by decide +kernel) (by decide +kernel) ?_
  repeat' first | refine Wl.fieldAddr0 rfl rfl ?_ | apply Wl.nilM
  apply Mt.back
  refine Mt.pure 4 (by decide +kernel) (by exact rfl) (by exact rfl) (by decide +kernel) (by decide +kernel) ?_
  repeat' first | (apply Wl.loadM;exact rfl;exact rfl;exact hM;(apply Off.of;simp;omega);exact rfl) | apply Wl.nilM
  apply Mt.back
  refine Mt.eff1 (i := 0) (by decide +kernel) (by exact rfl) ?_
  repeat' first | (apply Wl.loadW;exact rfl;exact rfl;(focus repeat constructor);exact rfl) | apply Wl.nil
  refine Mt.backE (fun _ h => by first | exact h | exact hpPop h (by simp only;omega)) ?_
  refine Mt.eff1 (i := 5) (by decide +kernel) (by exact rfl) ?_
  apply Wl.callQ
  exact rfl
  (focus repeat constructor)
  ·intro wq hq
   exact hq.q (limbAdd ((x + W256 - y) % W256) m (Nat.mod_lt _ (by decide)) hm wq)
  rw [e2]
  repeat' first | apply Wl.nil
  refine Mt.backE (fun _ h => by first | exact h | exact hpPop h (by simp only;omega)) ?_
  refine Mt.pure 6 (by decide +kernel) (by exact rfl) (by exact rfl) (by decide +kernel) (by decide +kernel) ?_
  repeat' first | refine Wl.move rfl rfl ?_ | apply Wl.nilM
  apply Mt.back
  refine Mt.pure 7 (by decide +kernel) (by exact rfl) (by exact rfl) (by decide +kernel) (by decide +kernel) ?_
  repeat' first | refine Wl.extract rfl rfl rfl ?_ | apply Wl.nilM
  apply Mt.back
  refine Mt.pure 8 (by decide +kernel) (by exact rfl) (by exact rfl) (by decide +kernel) (by decide +kernel) ?_
  repeat' first | refine Wl.extract rfl rfl rfl ?_ | apply Wl.nilM
  apply Mt.back
  refine Mt.eff1 (i := 9) (by decide +kernel) (by exact rfl) ?_
  repeat' first | (apply Wl.storeW;exact rfl;exact rfl;(focus repeat constructor);exact rfl;(first | exact cellsN_len _ _ _ | exact rfl)) | apply Wl.nil
  refine Mt.backE (fun _ h => by first | exact h | exact hpPop h (by simp only;omega)) ?_
  refine Mt.toGt (by decide +kernel) ?_
  repeat' first | (apply Gt.outN;exact rfl;infer_instance;exact rfl;(focus repeat constructor);exact rfl;intro w' hp) | (apply Wl.loadW;exact rfl;exact rfl;(focus repeat constructor);exact rfl) | (apply Wl.storeW;exact rfl;exact rfl;(focus repeat constructor);exact rfl;(first | exact cellsN_len _ _ _ | exact rfl)) | apply Wl.nil | apply St.seq | apply St.region | apply St.ret | apply Gt.next
  exact ⟨rfl,hp.drop (by simp;omega)⟩
 ·have e1 : (x + W256 - y) % W256 = (x + m - y) % m := by
   rw [show x + W256 - y = (x - y) + W256 by omega,Nat.add_mod_right,Nat.mod_eq_of_lt (by omega),show x + m - y = (x - y) + m by omega,Nat.add_mod_right,Nat.mod_eq_of_lt (by omega)]
  rw [if_neg hxy,e1]
  repeat' first | (apply Gt.outN;exact rfl;infer_instance;exact rfl;(focus repeat constructor);exact rfl;intro w' hp) | (apply Wl.loadW;exact rfl;exact rfl;(focus repeat constructor);exact rfl) | (apply Wl.storeW;exact rfl;exact rfl;(focus repeat constructor);exact rfl;(first | exact cellsN_len _ _ _ | exact rfl)) | (apply Wl.allocN;exact rfl;(first | exact z8 | exact z16 | exact z17 | exact z33 | exact z10);intro c hc ho) | refine Wl.move rfl rfl ?_ | refine Wl.assign rfl rfl ?_ | refine Wl.extract rfl rfl rfl ?_ | refine Wl.gtr rfl rfl rfl ?_ | apply Wl.nil | apply St.seq | apply St.region | (apply St.condF;exact rfl;(with_reducible first | rfl | assumption | decide)) | apply St.ret | apply St.skip | apply Gt.next
  exact ⟨rfl,hp.drop (by simp;omega)⟩
end Go.Proofs.YtmjlceimjlabpaaDoor
end
section
namespace Go.Pt
open Go.RowKit
theorem hpHead {w0 w : World} {x : Blk} {H : List Blk} (h : Hp w0 (x :: H) w) (hH : ∀ y ∈ H,w0.heap.size ≤ y.b) : Hp w0 [x] w :=
 ⟨h.upd.mono fun k hk hs ho => hs ⟨ho.1,Off.of fun y hy e => by have := hH y hy;omega⟩,⟨h.own.1,trivial⟩,⟨trivial,trivial⟩⟩
section
variable {P : Program} {md : Md} {N : Nat} {ops : Array Oper} {rest : List Oper} {Γ : Env} {C : World → Prop} {Q : Exit → Act → World → Prop} {d : Nat} {ty : TypeId} {pos : String} {af : Array Edge} {t : TypeId} {x y : Operand}
theorem Wl.predI {t u : TypeId} {n : Nat} (hd : Nat.blt d N = true) (hx : ev Γ x = some (.int .i64 ((n + 1 : Nat) : Int))) (hy : ev Γ y = some (.int .i64 1)) (hb : n < 9223372036854775807) (h : Wl rest P md ops N ((d,.int .i64 (n : Int)) :: Γ) C Q) : Wl (⟨some d,.binOp .sub t x y u,ty,pos,af,none⟩ :: rest) P md ops N Γ C Q :=
 Wl.subI hd hx hy (by omega) (by rw [show ((n + 1 : Nat) : Int) - 1 = (n : Int) by omega];exact h)
theorem Wl.sliceToArr {n e : Nat} [ht : TyD P t (.array n e)] {a : Addr} {l c : Nat} (hd : Nat.blt d N = true) (hx : ev Γ x = some (.slice (some a) l c)) (hn : n ≤ l) (h : Wl rest P md ops N ((d,.pointer (some a)) :: Γ) C Q) : Wl (⟨some d,.sliceToArrayPointer t x,ty,pos,af,none⟩ :: rest) P md ops N Γ C Q :=
 Wl.val hd (fun a' w ha _ => by simp [execOp,ha.ev hx,Instr.arrayAt,run_underlying ht.out,show ¬ l < n by omega]) h
theorem Wl.sliceArrF {e sz by_ n : Nat} [ht : TyD P t (.array n e)] [TyS P e sz by_] {b o h' : Nat} {z : Operand} {k : IntKind} (hd : Nat.blt d N = true) (hx : ev Γ x = some (.pointer (some ⟨b,o,none⟩))) (hz : ev Γ z = some (.int k (h' : Int))) (h2 : h' ≤ n) (hn : n ≠ 0)
  (h : Wl rest P md ops N ((d,.slice (some ⟨b,o,none⟩) h' n) :: Γ) C Q) : Wl (⟨some d,.slice t x none (some z) none,ty,pos,af,none⟩ :: rest) P md ops N Γ C Q :=
 Wl.val hd (fun a w ha _ => by
  have e2 : ∀ c,(Instr.sliceBound (.int k (h' : Int)) n c).run P w = .ok h' w := fun c => by
   simp only [Instr.sliceBound,asIntOf,pure_bind]
   rw [if_pos (by omega)]
   simp
  simp [execOp,ha.ev hx,ha.ev hz,Instr.sliceAt,run_underlying ht.out,Instr.sureAddr,Instr.sliceBounds,e2,run_size (P := P) (t := e),Addr.add,hn]) h
theorem cellsN_take {k : IntKind} {n m : Nat} {f : Nat → Nat} (h : n ≤ m) : LSub (cellsN k m f) 0 n (cellsN k n f) := by
 have key : ∀ (l : List Value) n,n ≤ l.length → LSub l 0 n (l.take n) := by
  intro l
  induction l with
  | nil => intro n hn;have : n = 0 := by simpa using hn
           subst this;exact .z
  | cons x r ih =>
   intro n hn
   cases n with
   | zero => exact .z
   | succ n => exact .t (ih n (by simpa using hn))
 have e : (cellsN k m f).take n = cellsN k n f := by
  unfold cellsN
  rw [← List.map_take,List.take_range,Nat.min_eq_left h]
 rw [← e]
 exact key _ _ (by rw [cellsN_len];exact h)
theorem Wl.loadT {w0 : World} {H : List Blk} {n m bt : Nat} [TyA P t n] {c : Nat} {k : IntKind} {f : Nat → Nat} (hd : Nat.blt d N = true) (hx : ev Γ x = some (.pointer (some ⟨c,0,none⟩))) (hm : (⟨c,cellsN k m f,bt⟩ : Blk) ∈ H) (hn : n ≤ m)
  (h : Wl rest P md ops N ((d,.agg (cellsN k n f).toArray) :: Γ) (Hp w0 H) Q) : Wl (⟨some d,.load t x,ty,pos,af,none⟩ :: rest) P md ops N Γ (Hp w0 H) Q :=
 Wl.loadAH hd hx hm (cellsN_take hn) h
end
end Go.Pt
namespace Go.Proofs.YtmjlceimjlabpaaDoor
open Go.RowKit Go.Pt
def t9 (T u : Nat) : Nat → Nat := fun j => if j < 9 then dg W32 T j else u
theorem t9_lo {T u j : Nat} (h : j < 9) : t9 T u j = dg W32 T j := if_pos h
theorem hi_div (B n i : Nat) : hi B (n / B) i = hi B n (i + 1) := by unfold hi;rw [Nat.div_div_eq_div_mul,← Nat.pow_succ']
set_option maxHeartbeats 4000000 in
theorem modTimes (b m neg x y : Nat) (w : World) (hM : ArrAt w b 0 .u32 8 (dg W32 m)) (hN : w.cell? ⟨b,8,none⟩ = some (.int .u32 neg)) (hneg : (m * neg + 1) % 4294967296 = 0) (hm : m < W256) (hodd : m % 2 = 1) (hx : x < W256) (hy : y < m) :
  Calls Tryd.prog 37 #[mp b,numV x,numV y] w fun e w' => e = .returned (numV (x * y * rinv m % m)) ∧ Hp w [] w' := by
 have hb := hM.lt (by decide)
 refine enter (args := [_,_,_]) (Γ := [(0,_),(1,_),(2,_)]) Tryd.func37 Tryd.ntmps37 rfl (of_decide_eq_true rfl) (.cons rfl (.cons rfl (.cons rfl .nil))) ?_
 repeat' first | (apply Wl.boxN;exact rfl;exact rfl;intro c hc ho) | (apply Wl.allocN;exact rfl;(first | exact z8 | exact z16 | exact z17 | exact z33 | exact z10);intro c hc ho) | refine Wl.move rfl rfl ?_ | refine Wl.eqlPN rfl rfl rfl ?_ | apply Wl.nil | apply St.seq | apply St.block | apply St.region | (apply St.condF;exact rfl;(with_reducible first | rfl | assumption | decide)) | apply St.skip | apply Gt.next
 rename_i ca hca hoa cb hcb hob cr hcr hor
 generalize c = ct at *
 refine St.loop (σ := Nat × Nat × Nat) (fun τ => τ.1 ≤ 8 ∧ τ.2.1 < 2 * m ∧ τ.2.1 * W32 ^ τ.1 % m = (x % W32 ^ τ.1) * y % m)
  (fun τ => [(0,mp b),(4,mp ca),(5,mp cb),(6,mp cr),(7,mp ct),(16,.int .i64 τ.1)])
  (fun τ => Hp w [⟨ct,cellsN .u32 10 (t9 τ.2.1 τ.2.2),127⟩,⟨cr,cellsN .u32 8 fun _ => 0,69⟩,⟨cb,cellsN .u32 8 (dg W32 y),69⟩,⟨ca,cellsN .u32 8 (dg W32 x),69⟩])
  (fun τ => 8 - τ.1) (0,0,0) ⟨by simp,by simp;omega,by simp [Nat.mod_one]⟩ (by repeat constructor) (fun _ h => by
   have e : cellsN .u32 10 (t9 0 0) = cellsN .u32 10 (fun _ => 0) := cellsN_congr fun j _ => by unfold t9 dg hi;split <;> simp
   show Hp w [⟨ct,cellsN .u32 10 (t9 0 0),_⟩,_,_,_] _
   rw [e];exact h) ?_
 rintro ⟨i,T,u⟩ ⟨hi8,hT,hTm⟩
 simp only at hi8 hT hTm ⊢
 by_cases hlt : i < 8
 ·have hxi := dlt x i
  repeat' first | refine Wl.move rfl rfl ?_ | refine Wl.assign rfl rfl ?_ | refine Wl.lss rfl rfl rfl ?_ | apply Wl.nil | apply St.seq | apply St.block | apply St.region | apply St.skip | apply Gt.next | (apply St.condP;exact rfl;all_goals (intros;try (exfalso;omega)))
  refine St.loop (σ := Nat × Nat) (fun τ => τ.1 ≤ 8 ∧ τ.2 < W32 ∧ hi W32 (T + dg W32 x i * y) τ.1 = hi W32 T τ.1 + dg W32 x i * hi W32 y τ.1 + τ.2)
   (fun τ => [(0,mp b),(4,mp ca),(5,mp cb),(6,mp cr),(7,mp ct),(8,.int .i64 i),(9,.int .u64 τ.2),(16,.int .i64 i),(19,.int .i64 τ.1)])
   (fun τ => Hp w [⟨ct,cellsN .u32 10 (fillN (t9 T u) (dg W32 (T + dg W32 x i * y)) τ.1),127⟩,⟨cr,cellsN .u32 8 fun _ => 0,69⟩,⟨cb,cellsN .u32 8 (dg W32 y),69⟩,⟨ca,cellsN .u32 8 (dg W32 x),69⟩])
   (fun τ => 8 - τ.1) (0,0) ⟨by simp,by decide,by simp [hi_zero]⟩ (by repeat constructor) (fun _ h => by simpa only [fillN_zero] using h) ?_
  rintro ⟨k,c⟩ ⟨hk8,hc32,hk⟩
  simp only at hk8 hc32 hk ⊢
  by_cases hkl : k < 8
  ·have hyk := dlt y k
   have hTk := dlt T k
   have hf : fillN (t9 T u) (dg W32 (T + dg W32 x i * y)) k k = dg W32 T k := (fillN_at (Nat.le_refl _)).trans (t9_lo (by omega))
   obtain ⟨p1,p2,p3,p4⟩ := mul_step hxi hc32 hk
   rw [← hf] at p1 hTk
   have q1 : dg W32 x i * dg W32 y k + fillN (t9 T u) (dg W32 (T + dg W32 x i * y)) k k < 18446744073709551616 := by omega
   have q2 : dg W32 x i * dg W32 y k < 18446744073709551616 := by omega
   repeat' first | (refine Wl.indexA rfl rfl rfl ?_ ?_;omega) | (apply Wl.loadN;exact rfl;exact rfl;(focus repeat constructor);omega) | (apply Wl.storeN;exact rfl;exact rfl;(focus repeat constructor);omega) | (apply Wl.addNU;exact rfl;exact rfl;exact rfl;(first | assumption | omega)) | (apply Wl.mulNU;exact rfl;exact rfl;exact rfl;(first | assumption | omega)) | refine Wl.shr32 rfl rfl rfl ?_ | (apply Wl.convN32 (k := .u64);exact rfl;exact rfl) | refine Wl.move rfl rfl ?_ | refine Wl.assign rfl rfl ?_ | refine Wl.lss rfl rfl rfl ?_ | (refine Wl.addI rfl rfl rfl ?_ ?_;constructor <;> omega) | (refine Wl.convU64 rfl rfl ?_ ?_;constructor <;> omega) | apply Wl.nil | apply Wl.nilQ | apply St.seq | apply St.block | apply St.region | (apply St.draw;exact mixed;(kernel_rfl);exact (fun _ h => Hp.drew h)) | apply St.skip | apply Gt.next | apply Gt.inNormal | (apply St.condP;exact rfl;all_goals (intros;try (exfalso;omega)))
   rw [hf,p2]
   apply Gt.round (k + 1,(c + (dg W32 x i * dg W32 y k + dg W32 T k)) / 4294967296)
   rotate_left
   ·simp only;omega
   ·repeat constructor
   ·exact fun _ h => by rw [fillN_step] at h;exact h
   ·exact ⟨by simp only;omega,p4,p3⟩
  have hke : k = 8 := by omega
  subst hke
  obtain ⟨ms1,ms2,ms3⟩ := mont_step hneg hy hT hTm
  generalize hSe : T + dg W32 x i * y = S at *
  have hT8 : hi W32 T 8 < 2 := by rw [hi8_eq];exact Nat.div_lt_of_lt_mul (by omega)
  have hd8 : dg W32 T 8 = hi W32 T 8 := Nat.mod_eq_of_lt (Nat.lt_of_lt_of_le hT8 (by decide))
  have hS8 : c + dg W32 T 8 = hi W32 S 8 := by rw [hk,hi8_lt (show y < W256 by omega),Nat.mul_zero,hd8];omega
  have hf8 : fillN (t9 T u) (dg W32 S) 8 8 = dg W32 T 8 := (fillN_at (Nat.le_refl _)).trans (t9_lo (by omega))
  have hF8 := dlt T 8
  rw [← hf8] at hF8
  have hc32' : c < 4294967296 := hc32
  have hS9 : hi W32 S 9 = dg W32 S 9 := by
   have h9 : hi W32 S 9 = hi W32 S 8 / 4294967296 := hi_succ _ _ _
   exact (Nat.mod_eq_of_lt (by unfold W32 at *;omega)).symm
  repeat' first | (apply Wl.indexA (j := 8);exact rfl;exact rfl;exact rfl;(decide)) | (apply Wl.indexA (j := 9);exact rfl;exact rfl;exact rfl;(decide)) | (apply Wl.loadN;exact rfl;exact rfl;(focus repeat constructor);omega) | (apply Wl.storeN;exact rfl;exact rfl;(focus repeat constructor);omega) | (apply Wl.addNU;exact rfl;exact rfl;exact rfl;(first | assumption | omega)) | refine Wl.shr32 rfl rfl rfl ?_ | (apply Wl.convN32 (k := .u64);exact rfl;exact rfl) | refine Wl.move rfl rfl ?_ | refine Wl.assign rfl rfl ?_ | refine Wl.lss rfl rfl rfl ?_ | (refine Wl.convU64 rfl rfl ?_ ?_;constructor <;> omega) | apply Wl.nil | apply St.seq | apply St.region | (apply St.condF;exact rfl;(with_reducible first | rfl | assumption | decide)) | apply St.exit | apply Gt.next | apply Gt.thenExit | apply Gt.inExit
  have ec : cellsN .u32 10 (updN (updN (fillN (t9 T u) (dg W32 S) 8) 8 ((c + fillN (t9 T u) (dg W32 S) 8 8) % 4294967296)) 9 ((c + fillN (t9 T u) (dg W32 S) 8 8) / 4294967296 % 4294967296)) = cellsN .u32 10 (dg W32 S) := by
   rw [hf8,hS8]
   refine cellsN_congr fun j hj => ?_
   unfold updN
   split
   ·rename_i e;subst e;show _ = hi W32 S (8 + 1) % W32;rw [hi_succ W32 S 8]
   ·split
    ·rename_i e;subst e;rfl
    ·exact fillN_lo (by omega)
  refine St.cls (C' := Hp w [⟨ct,cellsN .u32 10 (dg W32 S),127⟩,⟨cr,cellsN .u32 8 fun _ => 0,69⟩,⟨cb,cellsN .u32 8 (dg W32 y),69⟩,⟨ca,cellsN .u32 8 (dg W32 x),69⟩]) (fun _ h => by rw [ec] at h;exact h) ?_
  clear ec hf8 hF8 hk hc32 hc32'
  have hS0 : dg W32 S 0 = S % 4294967296 := by unfold dg;rw [hi_zero]
  rw [← hS0] at ms1 ms2 ms3
  generalize hQ : dg W32 S 0 * neg % 4294967296 = q at *
  have hq32 : q < 4294967296 := by rw [← hQ];exact Nat.mod_lt _ (by decide)
  have hm0 := dlt m 0
  have hs0 := dlt S 0
  obtain ⟨p1,p2,p3,p4⟩ := mul_step (t := S) (x := q) (y := m) (c := 0) (i := 0) hq32 (by decide) (by simp [hi_zero])
  simp only [Nat.zero_add] at p1 p2 p3 p4
  have q2 : q * dg W32 m 0 < 18446744073709551616 := by omega
  apply St.draw
  ·exact mixed
  ·kernel_rfl
  ·exact fun _ h => Hp.drew h
  repeat' first | (apply Wl.indexA (j := 0);exact rfl;exact rfl;exact rfl;(decide)) | (apply Wl.loadO;exact rfl;exact rfl;exact hN;(apply Off.of;simp;omega)) | (apply Wl.loadN;exact rfl;exact rfl;(focus repeat constructor);omega) | refine Wl.mulN32 rfl rfl rfl ?_ | refine Wl.move rfl rfl ?_ | refine Wl.assign rfl rfl ?_ | refine Wl.nilCheck rfl rfl ?_ | refine Wl.fieldAddrZ rfl rfl ?_ | apply Wl.nilQ | apply St.seq | apply Gt.next
  rw [hQ]
  apply St.draw
  ·exact mixed
  ·kernel_rfl
  ·exact fun _ h => Hp.drew h
  repeat' first | (apply Wl.indexA (j := 0);exact rfl;exact rfl;exact rfl;(decide)) | (apply Wl.loadME;exact rfl;exact rfl;exact hM;(apply Off.of;simp;omega);(decide)) | (apply Wl.loadN;exact rfl;exact rfl;(focus repeat constructor);omega) | (apply Wl.addNU;exact rfl;exact rfl;exact rfl;(first | assumption | omega)) | (apply Wl.mulNU;exact rfl;exact rfl;exact rfl;(first | assumption | omega)) | refine Wl.shr32 rfl rfl rfl ?_ | refine Wl.move rfl rfl ?_ | refine Wl.assign rfl rfl ?_ | refine Wl.nilCheck rfl rfl ?_ | refine Wl.fieldAddr0 rfl rfl ?_ | (refine Wl.convU64 rfl rfl ?_ ?_;constructor <;> omega) | apply Wl.nil | apply Wl.nilQ | apply St.seq | apply St.block | apply St.region | apply Gt.next
  generalize hS2 : S + q * m = S2 at *
  have hR (j : Nat) : hi W32 (S2 / 4294967296) j = hi W32 S2 (j + 1) := hi_div W32 S2 j
  refine St.loop (σ := Nat × Nat) (fun τ => τ.1 ≤ 7 ∧ τ.2 < W32 ∧ hi W32 S2 (τ.1 + 1) = hi W32 S (τ.1 + 1) + q * hi W32 m (τ.1 + 1) + τ.2)
   (fun τ => [(0,mp b),(4,mp ca),(5,mp cb),(6,mp cr),(7,mp ct),(8,.int .i64 i),(9,.int .u64 τ.2),(11,.int .u32 q),(12,.int .i64 (τ.1 + 1 : Nat)),(16,.int .i64 i)])
   (fun τ => Hp w [⟨ct,cellsN .u32 10 (fillN (dg W32 S) (dg W32 (S2 / 4294967296)) τ.1),127⟩,⟨cr,cellsN .u32 8 fun _ => 0,69⟩,⟨cb,cellsN .u32 8 (dg W32 y),69⟩,⟨ca,cellsN .u32 8 (dg W32 x),69⟩])
   (fun τ => 7 - τ.1) (0,(q * dg W32 m 0 + dg W32 S 0) / 4294967296) ⟨by simp,p4,p3⟩ (by repeat constructor) (fun _ h => by simpa only [fillN_zero] using h) ?_
  clear p1 p2 p3 p4 q2
  rintro ⟨k,c⟩ ⟨hk7,hc32,hk⟩
  simp only at hk7 hc32 hk ⊢
  by_cases hkl : k < 7
  ·have hmk := dlt m (k + 1)
   have hSk := dlt S (k + 1)
   have hf : fillN (dg W32 S) (dg W32 (S2 / 4294967296)) k (k + 1) = dg W32 S (k + 1) := fillN_at (by omega)
   rw [← hS2] at hk
   obtain ⟨p1,p2,p3,p4⟩ := mul_step hq32 hc32 hk
   rw [hS2] at p2 p3
   have p2' : (c + (q * dg W32 m (k + 1) + dg W32 S (k + 1))) % 4294967296 = dg W32 (S2 / 4294967296) k := by rw [p2];unfold dg;rw [hR]
   rw [← hf] at p1 hSk
   have q1 : q * dg W32 m (k + 1) + fillN (dg W32 S) (dg W32 (S2 / 4294967296)) k (k + 1) < 18446744073709551616 := by omega
   have q2 : q * dg W32 m (k + 1) < 18446744073709551616 := by omega
   repeat' first | (refine Wl.predI rfl rfl rfl ?_ ?_;omega) | (apply Wl.loadME;exact rfl;exact rfl;exact hM;(apply Off.of;simp;omega);omega) | (refine Wl.indexA rfl rfl rfl ?_ ?_;omega) | (apply Wl.loadN;exact rfl;exact rfl;(focus repeat constructor);omega) | (apply Wl.storeN;exact rfl;exact rfl;(focus repeat constructor);omega) | (apply Wl.addNU;exact rfl;exact rfl;exact rfl;(first | assumption | omega)) | (apply Wl.mulNU;exact rfl;exact rfl;exact rfl;(first | assumption | omega)) | refine Wl.shr32 rfl rfl rfl ?_ | (apply Wl.convN32 (k := .u64);exact rfl;exact rfl) | refine Wl.move rfl rfl ?_ | refine Wl.assign rfl rfl ?_ | refine Wl.nilCheck rfl rfl ?_ | refine Wl.fieldAddr0 rfl rfl ?_ | refine Wl.lss rfl rfl rfl ?_ | (refine Wl.addI rfl rfl rfl ?_ ?_;constructor <;> omega) | (refine Wl.convU64 rfl rfl ?_ ?_;constructor <;> omega) | apply Wl.nil | apply Wl.nilQ | apply St.seq | apply St.block | apply St.region | (apply St.draw;exact mixed;(kernel_rfl);exact (fun _ h => Hp.drew h)) | apply St.skip | apply Gt.next | apply Gt.inNormal | (apply St.condP;exact rfl;all_goals (intros;try (exfalso;omega)))
   rw [hf,p2']
   apply Gt.round (k + 1,(c + (q * dg W32 m (k + 1) + dg W32 S (k + 1))) / 4294967296)
   rotate_left
   ·simp only;omega
   ·repeat constructor
   ·exact fun _ h => by rw [fillN_step] at h;exact h
   ·exact ⟨by simp only;omega,p4,p3⟩
  ·have hke : k = 7 := by omega
   subst hke
   have hc32' : c < 4294967296 := hc32
   have f8 : fillN (dg W32 S) (dg W32 (S2 / 4294967296)) 7 8 = dg W32 S 8 := fillN_at (by omega)
   have f9 : fillN (dg W32 S) (dg W32 (S2 / 4294967296)) 7 9 = dg W32 S 9 := fillN_at (by omega)
   have h8 := dlt S 8
   have h9 := dlt S 9
   have h8' := h8
   have h9' := h9
   rw [← f8] at h8'
   rw [← f9] at h9'
   repeat' first | (apply Wl.indexA (j := 7);exact rfl;exact rfl;exact rfl;(decide)) | (apply Wl.indexA (j := 8);exact rfl;exact rfl;exact rfl;(decide)) | (apply Wl.indexA (j := 9);exact rfl;exact rfl;exact rfl;(decide)) | (apply Wl.loadN;exact rfl;exact rfl;(focus repeat constructor);omega) | (apply Wl.storeN;exact rfl;exact rfl;(focus repeat constructor);omega) | (apply Wl.addNU;exact rfl;exact rfl;exact rfl;(first | assumption | omega)) | refine Wl.shr32 rfl rfl rfl ?_ | (apply Wl.convN32 (k := .u64);exact rfl;exact rfl) | refine Wl.addN32 rfl rfl rfl ?_ | refine Wl.move rfl rfl ?_ | refine Wl.assign rfl rfl ?_ | refine Wl.lss rfl rfl rfl ?_ | (refine Wl.addI rfl rfl rfl ?_ ?_;constructor <;> omega) | (refine Wl.convU64 rfl rfl ?_ ?_;constructor <;> omega) | apply Wl.nil | apply St.seq | apply St.region | (apply St.condF;exact rfl;(with_reducible first | rfl | assumption | decide)) | apply St.exit | apply Gt.next | apply Gt.thenExit | apply Gt.inNormal | apply Gt.inExit
   have hR8 : hi W32 (S2 / 4294967296) 8 < 2 := by rw [hi8_eq];exact Nat.div_lt_of_lt_mul (by omega)
   have hs := hi_eq W32 S 8
   rw [hS9] at hs
   have hs : hi W32 S 8 = 4294967296 * dg W32 S 9 + dg W32 S 8 := hs
   have hk' : hi W32 S2 8 = c + dg W32 S 8 + 4294967296 * dg W32 S 9 := by
    rw [hk,hs,hi8_lt hm,Nat.mul_zero]
    omega
   have hR7 : dg W32 (S2 / 4294967296) 7 = (c + dg W32 S 8) % 4294967296 := by
    show hi W32 (S2 / 4294967296) 7 % 4294967296 = _
    rw [hR,hk'];omega
   have hR8' : hi W32 (S2 / 4294967296) 8 = (c + dg W32 S 8) / 4294967296 + dg W32 S 9 := by
    rw [hR,hi_succ W32 S2 8,hk']
    show (c + dg W32 S 8 + 4294967296 * dg W32 S 9) / 4294967296 = _
    omega
   have hR8d : dg W32 (S2 / 4294967296) 8 = (dg W32 S 9 + (c + dg W32 S 8) / 4294967296 % 4294967296) % 4294967296 := by
    show hi W32 (S2 / 4294967296) 8 % 4294967296 = _
    rw [hR8'] at hR8 ⊢
    omega
   have ec : cellsN .u32 10 (updN (updN (fillN (dg W32 S) (dg W32 (S2 / 4294967296)) 7) 7 ((c + dg W32 S 8) % 4294967296)) 8 ((dg W32 S 9 + (c + dg W32 S 8) / 4294967296 % 4294967296) % 4294967296)) = cellsN .u32 10 (t9 (S2 / 4294967296) (dg W32 S 9)) := by
    refine cellsN_congr fun j hj => ?_
    unfold updN t9
    by_cases e8 : j = 8
    ·subst e8;simp [hR8d]
    ·by_cases e7 : j = 7
     ·subst e7;simp [hR7]
     ·rw [if_neg e8,if_neg e7]
      by_cases e9 : j < 9
      ·rw [if_pos e9];exact fillN_lo (by omega)
      ·have : j = 9 := by omega
       subst this
       rw [if_neg e9];exact f9
   rw [f8,f9]
   apply Gt.round (i + 1,S2 / 4294967296,dg W32 S 9)
   rotate_left
   ·simp only;omega
   ·repeat constructor
   ·exact fun _ h => by rw [ec] at h;exact h
   ·exact ⟨by simp only;omega,ms2,ms3⟩
 ·have : i = 8 := by omega
  subst this
  have e8 : cellsN .u32 8 (t9 T u) = cellsN .u32 8 (dg W32 (T % W256)) := by rw [d8_mod];exact cellsN_congr fun j hj => t9_lo (by omega)
  have hT8 : hi W32 T 8 < 2 := by rw [hi8_eq];exact Nat.div_lt_of_lt_mul (by omega)
  have e9 : t9 T u 8 = T / W256 := by rw [t9_lo (by decide),← hi8_eq];exact Nat.mod_eq_of_lt (Nat.lt_of_lt_of_le hT8 (by decide))
  have hfin : T % m = x * y * rinv m % m := unW hodd (by
   rw [two56,Nat.mod_eq_of_lt hx] at hTm
   exact hTm)
  repeat' first | refine Wl.lss rfl rfl rfl ?_ | apply Wl.nil | apply St.seq | apply St.region | (apply St.condF;exact rfl;(with_reducible first | rfl | assumption | decide)) | apply St.exit | apply Gt.next | apply Gt.thenExit | apply Gt.inExit
  refine St.tree (Hp w [_]) mixed (fun _ h => ⟨Hp.drew h,hpHead (Hp.drew h) (by simp;omega)⟩) ?_
  refine Mt.pure 0 (by decide +kernel) (by exact rfl) (by exact rfl) (by decide +kernel) (by decide +kernel) ?_
  repeat' first | refine Wl.move rfl rfl ?_ | apply Wl.nilM
  apply Mt.back
  refine Mt.pure 1 (by decide +kernel) (by exact rfl) (by exact rfl) (by decide +kernel) (by decide +kernel) ?_
  repeat' first | (apply Wl.sliceArrF (h' := 8);exact rfl;exact rfl;exact rfl;(decide);(decide)) | apply Wl.nilM
  apply Mt.back
  refine Mt.pure 2 (by decide +kernel) (by exact rfl) (by exact rfl) (by decide +kernel) (by decide +kernel) ?_
  repeat' first | (apply Wl.sliceToArr;exact rfl;exact rfl;(decide)) | apply Wl.nilM
  apply Mt.back
  refine Mt.pure 3 (by decide +kernel) (by exact rfl) (by exact rfl) (by decide +kernel) (by decide +kernel) ?_
  repeat' first | (apply Wl.loadT;exact rfl;exact rfl;(focus repeat constructor);(decide)) | apply Wl.nilM
  apply Mt.back
  refine Mt.pure 4 (by decide +kernel) (by exact rfl) (by exact rfl) (by decide +kernel) (by decide +kernel) ?_
  repeat' first | (apply Wl.indexA (j := 8);exact rfl;exact rfl;exact rfl;(decide)) | apply Wl.nilM
  apply Mt.back
  refine Mt.pure 5 (by decide +kernel) (by exact rfl) (by exact rfl) (by decide +kernel) (by decide +kernel) ?_
  repeat' first | (apply Wl.loadN;exact rfl;exact rfl;(focus repeat constructor);omega) | apply Wl.nilM
  apply Mt.back
  rw [e8,e9]
  refine Mt.eff1 (i := 6) (by decide +kernel) (by exact rfl) ?_
  apply Wl.callQ
  exact rfl
  (focus repeat constructor)
  ·intro wq hq
   exact hq.q (modFit b m (T % W256) (T / W256) wq (hM.hp hq (by apply Off.of;simp;omega)) hm (Nat.mod_lt _ (by decide)) (by rw [← hi8_eq];omega) (by rw [Nat.mod_add_div];exact hT))
  rw [Nat.mod_add_div,hfin]
  repeat' first | apply Wl.nil
  refine Mt.backE (fun _ h => hpHead h (by simp;omega)) ?_
  refine Mt.eff1 (i := 7) (by decide +kernel) (by exact rfl) ?_
  repeat' first | (apply Wl.storeW;exact rfl;exact rfl;(focus repeat constructor);exact rfl;(first | exact cellsN_len _ _ _ | exact rfl)) | apply Wl.nil
  refine Mt.backE (fun _ h => hpHead h (by simp;omega)) ?_
  refine Mt.toGt (by decide +kernel) ?_
  repeat' first | (apply Gt.outN;exact rfl;infer_instance;exact rfl;(focus repeat constructor);exact rfl;intro w' hp) | apply St.ret | apply Gt.next
  exact ⟨rfl,hp.drop (by simp;omega)⟩
end Go.Proofs.YtmjlceimjlabpaaDoor
end
section
namespace Go.Proofs.YtmjlceimjlabpaaDoor
open Go.RowKit Go.Pt
structure ModV (w : World) (b m : Nat) : Prop where
 neg : ∃ neg : Nat,w.cell? ⟨b,8,none⟩ = some (.int .u32 neg) ∧ (m * neg + 1) % 4294967296 = 0
 mod : ArrAt w b 0 .u32 8 (dg W32 m)
 one : ArrAt w b 9 .u32 8 (dg W32 (W256 % m))
 two : ArrAt w b 17 .u32 8 (dg W32 (W256 * W256 % m))
 lt : m < W256
 odd : m % 2 = 1
 gt : 1 < m
theorem ModV.upd {S : Nat → Prop} {w w' : World} {b m : Nat} (h : ModV w b m) (u : Upd S w w') (hs : ¬ S b) : ModV w' b m := by
 obtain ⟨⟨neg,h1,h2⟩,h3,h4,h5,h6,h7,h8⟩ := h
 exact ⟨⟨neg,u.cell h1 hs,h2⟩,h3.upd u hs,h4.upd u hs,h5.upd u hs,h6,h7,h8⟩
theorem ModV.hp {w w' : World} {H : List Blk} {b m : Nat} (h : ModV w b m) (u : Hp w H w') (hs : Off H b) : ModV w' b m := h.upd u.upd fun y => y hs
theorem ModV.blk {w : World} {b m : Nat} (h : ModV w b m) : b < w.heap.size := h.mod.lt (by decide)
theorem modTimes' {b m x y : Nat} {w : World} (h : ModV w b m) (hx : x < W256) (hy : y < m) :
  Calls Tryd.prog 37 #[mp b,numV x,numV y] w fun e w' => e = .returned (numV (x * y * rinv m % m)) ∧ Hp w [] w' := by
 obtain ⟨⟨neg,h1,h2⟩,h3,_,_,h6,h7,_⟩ := h
 exact modTimes b m neg x y w h3 h1 h2 h6 h7 hx hy
theorem z0 : cellsN .u32 8 (fun _ => 0) = cellsN .u32 8 (dg W32 0) := cellsN_congr fun j _ => by unfold dg hi;simp
set_option maxHeartbeats 1000000 in
theorem modLow (b m a : Nat) (w : World) (hM : ArrAt w b 0 .u32 8 (dg W32 m)) (hm : m < W256) (h1 : 1 < m) (ha : a < W256) :
  Calls Tryd.prog 70 #[mp b,numV a] w fun e w' => e = .returned (numV (a % m)) ∧ Hp w [] w' := by
 have hb := hM.lt (by decide)
 refine enter (args := [_,_]) (Γ := [(0,_),(1,_)]) Tryd.func70 Tryd.ntmps70 rfl (of_decide_eq_true rfl) (.cons rfl (.cons rfl .nil)) ?_
 repeat' first | (apply Wl.loadM;exact rfl;exact rfl;exact hM;(apply Off.of;simp;omega);exact rfl) | (apply Wl.loadW;exact rfl;exact rfl;(focus repeat constructor);exact rfl) | (apply Wl.boxN;exact rfl;exact rfl;intro c hc ho) | (apply Wl.allocN;exact rfl;(first | exact z8 | exact z16 | exact z17 | exact z33 | exact z10);intro c hc ho) | refine Wl.move rfl rfl ?_ | refine Wl.nilCheck rfl rfl ?_ | refine Wl.fieldAddr0 rfl rfl ?_ | apply Wl.nil | apply St.seq | apply St.region | (apply St.draw;exact mixed;(kernel_rfl);exact (fun _ h => Hp.drew h)) | apply Gt.next
 apply Wl.callQQ
 exact rfl
 (focus repeat constructor)
 ·intro wq hq
  exact hq.q (limbCompare a m ha hm wq)
 by_cases hlt : a < m
 ·have e : cmpN a m = -1 := if_pos hlt
  rw [e]
  repeat' first | (apply Gt.outN;exact rfl;infer_instance;exact rfl;(focus repeat constructor);exact rfl;intro w' hp) | (apply Wl.loadW;exact rfl;exact rfl;(focus repeat constructor);exact rfl) | (apply Wl.storeW;exact rfl;exact rfl;(focus repeat constructor);exact rfl;(first | exact cellsN_len _ _ _ | exact rfl)) | refine Wl.lss rfl rfl rfl ?_ | apply Wl.nil | apply Wl.nilQ | apply St.seq | apply St.region | (apply St.condT;exact rfl;(with_reducible first | rfl | assumption | decide)) | apply St.ret | apply Gt.next | apply Gt.thenRet
  refine ⟨?_,hp.drop (by simp;omega)⟩
  rw [Nat.mod_eq_of_lt hlt]
 have e : ¬ cmpN a m < 0 := by unfold cmpN;rw [if_neg hlt];split <;> decide
 repeat' first | (apply Wl.allocN;exact rfl;(first | exact z8 | exact z16 | exact z17 | exact z33 | exact z10);intro c hc ho) | refine Wl.assign rfl rfl ?_ | refine Wl.lss rfl rfl rfl ?_ | apply Wl.nil | apply Wl.nilQ | apply St.seq | apply St.block | apply St.region | apply St.skip | apply Gt.next | (apply St.condP;exact rfl;all_goals (intros;try (exfalso;omega)))
 rename_i ca hca hoa cr hcr hor _ _
 generalize c = cx at *
 have e256 : a / 2 ^ 256 % m = 0 := by
  rw [Nat.div_eq_of_lt (Nat.lt_of_lt_of_eq ha (by decide)),Nat.zero_mod]
 refine St.loop (σ := Nat) (fun n => n ≤ 256)
  (fun n => [(0,mp b),(3,mp ca),(4,mp cr),(5,mp cx),(6,.int .i64 ((n : Int) - 1))])
  (fun n => Hp w [⟨cx,cellsN .u32 8 (dg W32 (a / 2 ^ n % m)),69⟩,⟨cr,cellsN .u32 8 fun _ => 0,69⟩,⟨ca,cellsN .u32 8 (dg W32 a),69⟩])
  (fun n => n) 256 (Nat.le_refl _) (by repeat constructor) (fun _ h => by
   show Hp w [⟨cx,cellsN .u32 8 (dg W32 (a / 2 ^ 256 % m)),_⟩,_,_] _
   rw [e256,← z0];exact h) ?_
 intro n hn
 cases n with
 | zero =>
  rw [Nat.pow_zero,Nat.div_one]
  repeat' first | (apply Gt.outN;exact rfl;infer_instance;exact rfl;(focus repeat constructor);exact rfl;intro w' hp) | (apply Wl.loadW;exact rfl;exact rfl;(focus repeat constructor);exact rfl) | (apply Wl.storeW;exact rfl;exact rfl;(focus repeat constructor);exact rfl;(first | exact cellsN_len _ _ _ | exact rfl)) | refine Wl.move rfl rfl ?_ | refine Wl.geq rfl rfl rfl ?_ | apply Wl.nil | apply St.seq | apply St.region | (apply St.condF;exact rfl;(with_reducible first | rfl | assumption | decide)) | apply St.ret | apply St.exit | apply Gt.next | apply Gt.thenExit | apply Gt.inExit
  exact ⟨rfl,hp.drop (by simp;omega)⟩
 | succ i =>
  have ei : (((i + 1 : Nat) : Int) - 1) = (i : Int) := by omega
  rw [ei]
  have hr := Nat.mod_lt (a / 2 ^ (i + 1)) (show 0 < m by omega)
  have hh := horner a m i
  generalize hre : a / 2 ^ (i + 1) % m = r at *
  repeat' first | (apply Wl.loadW;exact rfl;exact rfl;(focus repeat constructor);exact rfl) | refine Wl.move rfl rfl ?_ | refine Wl.geq rfl rfl rfl ?_ | apply Wl.nil | apply St.seq | apply St.block | apply St.region | apply St.skip | apply Gt.next | (apply St.condP;exact rfl;all_goals (intros;try (exfalso;omega)))
  apply Wl.callQ
  exact rfl
  (focus repeat constructor)
  ·intro wq hq
   exact hq.q (modAdd b m r r wq (hM.hp hq (by apply Off.of;simp;omega)) hm hr hr)
  repeat' first | (apply Wl.loadW;exact rfl;exact rfl;(focus repeat constructor);exact rfl) | (apply Wl.storeW;exact rfl;exact rfl;(focus repeat constructor);exact rfl;(first | exact cellsN_len _ _ _ | exact rfl)) | refine Wl.move rfl rfl ?_ | apply Wl.nil | apply St.seq | apply St.region | apply Gt.next
  apply Wl.callQ
  exact rfl
  (focus repeat constructor)
  ·intro wq hq
   exact hq.q (limbBit a i (by omega) wq)
  have hb2 := Nat.mod_lt (a / 2 ^ i) (show 0 < 2 by decide)
  by_cases hbit : a / 2 ^ i % 2 = 1
  ·rw [hbit]
   repeat' first | (apply Wl.loadW;exact rfl;exact rfl;(focus repeat constructor);exact rfl) | (apply Wl.buildN;exact rfl;(repeat (first | exact Parts.nil | apply Parts.cons rfl));(repeat (first | apply Fills.nil | (apply Fills.one;exact rfl;exact rfl;(repeat (first | apply LSet.z | apply LSet.s))) | (apply Fills.agg;exact rfl;exact rfl;(repeat (first | apply LPut.s | apply LPut.z | apply LOver.nil | apply LOver.cons)))));(first | exact one8 | exact zero8 | exact two8)) | refine Wl.move rfl rfl ?_ | refine Wl.eql rfl rfl rfl ?_ | apply Wl.nil | apply St.region | (apply St.condT;exact rfl;(with_reducible first | rfl | assumption | decide)) | apply Gt.next
   apply Wl.callQ
   exact rfl
   (focus repeat constructor)
   ·intro wq hq
    exact hq.q (modAdd b m ((r + r) % m) 1 wq (hM.hp hq (by apply Off.of;simp;omega)) hm (Nat.mod_lt _ (by omega)) h1)
   have e2 : ((r + r) % m + 1) % m = a / 2 ^ i % m := by rw [← hh,hbit,Nat.mod_add_mod,Nat.two_mul]
   rw [e2]
   repeat' first | (apply Wl.storeW;exact rfl;exact rfl;(focus repeat constructor);exact rfl;(first | exact cellsN_len _ _ _ | exact rfl)) | refine Wl.move rfl rfl ?_ | refine Wl.assign rfl rfl ?_ | (refine Wl.subI rfl rfl rfl ?_ ?_;constructor <;> omega) | apply Wl.nil | apply St.region | apply Gt.next | apply Gt.inNormal
   apply Gt.round i
   rotate_left
   ·simp
   ·repeat constructor
   ·exact fun _ h => h
   ·omega
  ·have hbit0 : a / 2 ^ i % 2 = 0 := by omega
   have e2 : (r + r) % m = a / 2 ^ i % m := by rw [← hh,hbit0,Nat.add_zero,Nat.two_mul]
   rw [hbit0,e2]
   repeat' first | refine Wl.move rfl rfl ?_ | refine Wl.assign rfl rfl ?_ | refine Wl.eql rfl rfl rfl ?_ | (refine Wl.subI rfl rfl rfl ?_ ?_;constructor <;> omega) | apply Wl.nil | apply St.region | (apply St.condF;exact rfl;(with_reducible first | rfl | assumption | decide)) | apply St.skip | apply Gt.next | apply Gt.inNormal
   apply Gt.round i
   rotate_left
   ·simp
   ·repeat constructor
   ·exact fun _ h => h
   ·omega
end Go.Proofs.YtmjlceimjlabpaaDoor
end
section
namespace Go.Proofs.YtmjlceimjlabpaaDoor
open Go.RowKit Go.Pt
theorem in_eq {m a : Nat} (ho : m % 2 = 1) : (a % m) * (W256 * W256 % m) * rinv m % m = a * W256 % m := by
 have e : (a % m) * (W256 * W256 % m) * rinv m % m = a * W256 * W256 * rinv m % m := by
  rw [Nat.mul_assoc a]
  simp only [Nat.mul_mod,Nat.mod_mod]
 rw [e];exact inW ho
set_option maxHeartbeats 1000000 in
theorem modIn (b m a : Nat) (w : World) (h : ModV w b m) (ha : a < W256) :
  Calls Tryd.prog 35 #[mp b,numV a] w fun e w' => e = .returned (numV (a * W256 % m)) ∧ Hp w [] w' := by
 have hb := h.blk
 refine enter (args := [_,_]) (Γ := [(0,_),(1,_)]) Tryd.func35 Tryd.ntmps35 rfl (of_decide_eq_true rfl) (.cons rfl (.cons rfl .nil)) ?_
 repeat' first | (apply Wl.boxN;exact rfl;exact rfl;intro c hc ho) | (apply Wl.allocN;exact rfl;(first | exact z8 | exact z16 | exact z17 | exact z33 | exact z10);intro c hc ho) | refine Wl.move rfl rfl ?_ | refine Wl.eqlPN rfl rfl rfl ?_ | apply Wl.nil | apply St.seq | apply St.region | (apply St.condF;exact rfl;(with_reducible first | rfl | assumption | decide)) | apply St.skip | apply Gt.next
 refine St.tree (Hp w [_]) mixed (fun _ h => ⟨Hp.drew h,hpPop (Hp.drew h) (by simp only;omega)⟩) ?_
 have h2 := h.two
 refine Mt.pure 0 (by decide +kernel) (by exact rfl) (by exact rfl) (by decide +kernel) (by decide +kernel) ?_
 repeat' first | refine Wl.move rfl rfl ?_ | apply Wl.nilM
 apply Mt.back
 refine Mt.pure 1 (by decide +kernel) (by exact rfl) (by exact rfl) (by decide +kernel) (by decide +kernel) ?_
 repeat' first | refine Wl.move rfl rfl ?_ | apply Wl.nilM
 apply Mt.back
 refine Mt.pure 2 (by decide +kernel) (by exact rfl) (by exact rfl) (by decide +kernel) (by decide +kernel) ?_
 repeat' first | (apply Wl.loadW;exact rfl;exact rfl;(focus repeat constructor);exact rfl) | apply Wl.nilM
 apply Mt.back
 refine Mt.pure 4 (by decide +kernel) (by exact rfl) (by exact rfl) (by decide +kernel) (by decide +kernel) ?_
 repeat' first | refine Wl.move rfl rfl ?_ | apply Wl.nilM
 apply Mt.back
 refine Mt.pure 5 (by decide +kernel) (by exact rfl) (by exact rfl) (by decide +kernel) (by decide +kernel) ?_
 repeat' first | refine Wl.nilCheck rfl rfl ?_ | apply Wl.nilM
 apply Mt.back
 refine Mt.pure 6 (by decide +kernel) (by exact rfl) (by exact rfl) (by decide +kernel) (by decide +kernel) ?_
 repeat' first | refine Wl.fieldAddrZ rfl rfl ?_ | apply Wl.nilM
 apply Mt.back
 refine Mt.pure 7 (by decide +kernel) (by exact rfl) (by exact rfl) (by decide +kernel) (by decide +kernel) ?_
 repeat' first | (apply Wl.loadM;exact rfl;exact rfl;exact h2;(apply Off.of;simp;omega);exact rfl) | apply Wl.nilM
 apply Mt.back
 refine Mt.eff1 (i := 3) (by decide +kernel) (by exact rfl) ?_
 apply Wl.callQ
 exact rfl
 (focus repeat constructor)
 ·intro wq hq
  exact hq.q (modLow b m a wq (h.mod.hp hq (by apply Off.of;simp;omega)) h.lt h.gt ha)
 repeat' first | apply Wl.nil
 refine Mt.backE (fun _ h => by first | exact h | exact hpPop h (by simp only;omega)) ?_
 refine Mt.eff1 (i := 8) (by decide +kernel) (by exact rfl) ?_
 have hm0 : 0 < m := by have := h.gt;omega
 apply Wl.callQ
 exact rfl
 (focus repeat constructor)
 ·intro wq hq
  exact hq.q (modTimes' (h.hp hq (by apply Off.of;simp;omega)) (Nat.lt_trans (Nat.mod_lt a hm0) h.lt) (Nat.mod_lt (W256 * W256) hm0))
 rw [in_eq h.odd]
 repeat' first | apply Wl.nil
 refine Mt.backE (fun _ h => by first | exact h | exact hpPop h (by simp only;omega)) ?_
 refine Mt.eff1 (i := 9) (by decide +kernel) (by exact rfl) ?_
 repeat' first | (apply Wl.storeW;exact rfl;exact rfl;(focus repeat constructor);exact rfl;(first | exact cellsN_len _ _ _ | exact rfl)) | apply Wl.nil
 refine Mt.backE (fun _ h => by first | exact h | exact hpPop h (by simp only;omega)) ?_
 refine Mt.toGt (by decide +kernel) ?_
 repeat' first | (apply Gt.outN;exact rfl;infer_instance;exact rfl;(focus repeat constructor);exact rfl;intro w' hp) | apply St.ret | apply Gt.next
 exact ⟨rfl,hp.drop (by simp;omega)⟩
set_option maxHeartbeats 1000000 in
theorem modOut (b m a : Nat) (w : World) (h : ModV w b m) (ha : a < W256) :
  Calls Tryd.prog 36 #[mp b,numV a] w fun e w' => e = .returned (numV (a * rinv m % m)) ∧ Hp w [] w' := by
 have hb := h.blk
 refine enter (args := [_,_]) (Γ := [(0,_),(1,_)]) Tryd.func36 Tryd.ntmps36 rfl (of_decide_eq_true rfl) (.cons rfl (.cons rfl .nil)) ?_
 repeat' first | (apply Wl.loadW;exact rfl;exact rfl;(focus repeat constructor);exact rfl) | (apply Wl.boxN;exact rfl;exact rfl;intro c hc ho) | (apply Wl.buildN;exact rfl;(repeat (first | exact Parts.nil | apply Parts.cons rfl));(repeat (first | apply Fills.nil | (apply Fills.one;exact rfl;exact rfl;(repeat (first | apply LSet.z | apply LSet.s))) | (apply Fills.agg;exact rfl;exact rfl;(repeat (first | apply LPut.s | apply LPut.z | apply LOver.nil | apply LOver.cons)))));(first | exact one8 | exact zero8 | exact two8)) | (apply Wl.allocN;exact rfl;(first | exact z8 | exact z16 | exact z17 | exact z33 | exact z10);intro c hc ho) | refine Wl.move rfl rfl ?_ | apply Wl.nil | apply St.seq | apply St.region | apply Gt.next
 apply Wl.callQ
 exact rfl
 (focus repeat constructor)
 ·intro wq hq
  exact hq.q (modTimes' (h.hp hq (by apply Off.of;simp;omega)) ha h.gt)
 rw [Nat.mul_one]
 repeat' first | (apply Gt.outN;exact rfl;infer_instance;exact rfl;(focus repeat constructor);exact rfl;intro w' hp) | (apply Wl.storeW;exact rfl;exact rfl;(focus repeat constructor);exact rfl;(first | exact cellsN_len _ _ _ | exact rfl)) | apply Wl.nil | apply St.ret | apply Gt.next
 exact ⟨rfl,hp.drop (by simp;omega)⟩
set_option maxHeartbeats 1000000 in
theorem modOne (b m : Nat) (w : World) (h : ModV w b m) :
  Calls Tryd.prog 74 #[mp b] w fun e w' => e = .returned (numV (W256 % m)) ∧ Hp w [] w' := by
 have hb := h.blk
 refine enter (args := [_]) (Γ := [(0,_)]) Tryd.func74 Tryd.ntmps74 rfl (of_decide_eq_true rfl) (.cons rfl .nil) ?_
 have h1 := h.one
 repeat' first | (apply Wl.loadM;exact rfl;exact rfl;exact h1;(apply Off.of;simp;omega);exact rfl) | (apply Gt.outN;exact rfl;infer_instance;exact rfl;(focus repeat constructor);exact rfl;intro w' hp) | (apply Wl.storeW;exact rfl;exact rfl;(focus repeat constructor);exact rfl;(first | exact cellsN_len _ _ _ | exact rfl)) | (apply Wl.allocN;exact rfl;(first | exact z8 | exact z16 | exact z17 | exact z33 | exact z10);intro c hc ho) | refine Wl.move rfl rfl ?_ | refine Wl.nilCheck rfl rfl ?_ | refine Wl.fieldAddrZ rfl rfl ?_ | refine Wl.eqlPN rfl rfl rfl ?_ | apply Wl.nil | apply St.seq | apply St.region | (apply St.condF;exact rfl;(with_reducible first | rfl | assumption | decide)) | apply St.ret | apply St.skip | apply Gt.next
 exact ⟨rfl,hp.drop (by simp;omega)⟩
set_option maxHeartbeats 1000000 in
theorem modModulus (b m : Nat) (w : World) (h : ModV w b m) :
  Calls Tryd.prog 68 #[mp b] w fun e w' => e = .returned (numV m) ∧ Hp w [] w' := by
 have hb := h.blk
 refine enter (args := [_]) (Γ := [(0,_)]) Tryd.func68 Tryd.ntmps68 rfl (of_decide_eq_true rfl) (.cons rfl .nil) ?_
 have h1 := h.mod
 repeat' first | (apply Wl.loadM;exact rfl;exact rfl;exact h1;(apply Off.of;simp;omega);exact rfl) | (apply Gt.outN;exact rfl;infer_instance;exact rfl;(focus repeat constructor);exact rfl;intro w' hp) | (apply Wl.storeW;exact rfl;exact rfl;(focus repeat constructor);exact rfl;(first | exact cellsN_len _ _ _ | exact rfl)) | (apply Wl.allocN;exact rfl;(first | exact z8 | exact z16 | exact z17 | exact z33 | exact z10);intro c hc ho) | refine Wl.move rfl rfl ?_ | refine Wl.nilCheck rfl rfl ?_ | refine Wl.fieldAddr0 rfl rfl ?_ | refine Wl.eqlPN rfl rfl rfl ?_ | apply Wl.nil | apply St.seq | apply St.region | (apply St.condF;exact rfl;(with_reducible first | rfl | assumption | decide)) | apply St.ret | apply St.skip | apply Gt.next
 exact ⟨rfl,hp.drop (by simp;omega)⟩
set_option maxHeartbeats 1000000 in
theorem modReduce (b m a : Nat) (w : World) (h : ModV w b m) (ha : a < W256) :
  Calls Tryd.prog 41 #[mp b,numV a] w fun e w' => e = .returned (numV (a % m)) ∧ Hp w [] w' := by
 have hb := h.blk
 refine enter (args := [_,_]) (Γ := [(0,_),(1,_)]) Tryd.func41 Tryd.ntmps41 rfl (of_decide_eq_true rfl) (.cons rfl (.cons rfl .nil)) ?_
 repeat' first | (apply Wl.loadW;exact rfl;exact rfl;(focus repeat constructor);exact rfl) | (apply Wl.boxN;exact rfl;exact rfl;intro c hc ho) | (apply Wl.allocN;exact rfl;(first | exact z8 | exact z16 | exact z17 | exact z33 | exact z10);intro c hc ho) | refine Wl.move rfl rfl ?_ | refine Wl.eqlPN rfl rfl rfl ?_ | apply Wl.nil | apply St.seq | apply St.region | (apply St.condF;exact rfl;(with_reducible first | rfl | assumption | decide)) | apply St.skip | apply Gt.next
 apply Wl.callQ
 exact rfl
 (focus repeat constructor)
 ·intro wq hq
  exact hq.q (modLow b m a wq (h.mod.hp hq (by apply Off.of;simp;omega)) h.lt h.gt ha)
 repeat' first | (apply Gt.outN;exact rfl;infer_instance;exact rfl;(focus repeat constructor);exact rfl;intro w' hp) | (apply Wl.storeW;exact rfl;exact rfl;(focus repeat constructor);exact rfl;(first | exact cellsN_len _ _ _ | exact rfl)) | apply Wl.nil | apply St.ret | apply Gt.next
 exact ⟨rfl,hp.drop (by simp;omega)⟩
def pw (m a k : Nat) : Nat := (a * rinv m) ^ k * W256 % m
theorem pw_zero (m a : Nat) : pw m a 0 = W256 % m := by simp [pw]
theorem pw_dbl {m a k : Nat} (ho : m % 2 = 1) : pw m a k * pw m a k * rinv m % m = pw m a (2 * k) := by
 unfold pw
 have e : (a * rinv m) ^ k * W256 % m * ((a * rinv m) ^ k * W256 % m) * rinv m % m = (a * rinv m) ^ (2 * k) * W256 * W256 * rinv m % m := by
  have : (a * rinv m) ^ (2 * k) * W256 * W256 * rinv m = ((a * rinv m) ^ k * W256) * ((a * rinv m) ^ k * W256) * rinv m := by
   rw [Nat.two_mul,Nat.pow_add]
   simp only [Nat.mul_assoc,Nat.mul_left_comm,Nat.mul_comm]
  rw [this]
  simp only [Nat.mul_mod,Nat.mod_mod]
 rw [e];exact inW ho
theorem pw_one {m a k : Nat} : pw m a k * a * rinv m % m = pw m a (k + 1) := by
 unfold pw
 have : (a * rinv m) ^ (k + 1) * W256 = (a * rinv m) ^ k * W256 * a * rinv m := by
  rw [Nat.pow_succ]
  simp only [Nat.mul_assoc,Nat.mul_left_comm,Nat.mul_comm]
 rw [this]
 simp only [Nat.mul_mod,Nat.mod_mod]
set_option maxHeartbeats 1000000 in
theorem modPow (b m a n : Nat) (w : World) (h : ModV w b m) (ha : a < m) (hn : n < W256) :
  Calls Tryd.prog 69 #[mp b,numV a,numV n] w fun e w' => e = .returned (numV (pw m a n)) ∧ Hp w [] w' := by
 have hb := h.blk
 refine enter (args := [_,_,_]) (Γ := [(0,_),(1,_),(2,_)]) Tryd.func69 Tryd.ntmps69 rfl (of_decide_eq_true rfl) (.cons rfl (.cons rfl (.cons rfl .nil))) ?_
 have hm0 : 0 < m := by have := h.gt;omega
 have hlt := h.lt
 repeat' first | (apply Wl.boxN;exact rfl;exact rfl;intro c hc ho) | (apply Wl.allocN;exact rfl;(first | exact z8 | exact z16 | exact z17 | exact z33 | exact z10);intro c hc ho) | refine Wl.move rfl rfl ?_ | apply Wl.nil | apply St.seq | apply St.region | apply Gt.next
 apply Wl.callQ
 exact rfl
 (focus repeat constructor)
 ·intro wq hq
  exact hq.q (modOne b m wq (h.hp hq (by apply Off.of;simp;omega)))
 repeat' first | (apply Wl.storeW;exact rfl;exact rfl;(focus repeat constructor);exact rfl;(first | exact cellsN_len _ _ _ | exact rfl)) | (apply Wl.allocN;exact rfl;(first | exact z8 | exact z16 | exact z17 | exact z33 | exact z10);intro c hc ho) | refine Wl.assign rfl rfl ?_ | apply Wl.nil | apply St.seq | apply St.block | apply St.region | apply Gt.next
 rename_i ca hca hoa cb hcb hob cr hcr hor
 generalize c = cx at *
 have e256 : n / 2 ^ 256 = 0 := Nat.div_eq_of_lt (Nat.lt_of_lt_of_eq hn (by decide))
 refine St.loop (σ := Nat) (fun k => k ≤ 256)
  (fun k => [(0,mp b),(4,mp ca),(5,mp cb),(6,mp cr),(7,mp cx),(8,.int .i64 ((k : Int) - 1))])
  (fun k => Hp w [⟨cx,cellsN .u32 8 (dg W32 (pw m a (n / 2 ^ k))),69⟩,⟨cr,cellsN .u32 8 fun _ => 0,69⟩,⟨cb,cellsN .u32 8 (dg W32 n),69⟩,⟨ca,cellsN .u32 8 (dg W32 a),69⟩])
  (fun k => k) 256 (Nat.le_refl _) (by repeat constructor) (fun _ h => by
   show Hp w [⟨cx,cellsN .u32 8 (dg W32 (pw m a (n / 2 ^ 256))),_⟩,_,_,_] _
   rw [e256,pw_zero];exact h) ?_
 intro k hk
 cases k with
 | zero =>
  rw [Nat.pow_zero,Nat.div_one]
  repeat' first | (apply Gt.outN;exact rfl;infer_instance;exact rfl;(focus repeat constructor);exact rfl;intro w' hp) | (apply Wl.loadW;exact rfl;exact rfl;(focus repeat constructor);exact rfl) | (apply Wl.storeW;exact rfl;exact rfl;(focus repeat constructor);exact rfl;(first | exact cellsN_len _ _ _ | exact rfl)) | refine Wl.move rfl rfl ?_ | refine Wl.geq rfl rfl rfl ?_ | apply Wl.nil | apply St.seq | apply St.region | (apply St.condF;exact rfl;(with_reducible first | rfl | assumption | decide)) | apply St.ret | apply St.exit | apply Gt.next | apply Gt.thenExit | apply Gt.inExit
  exact ⟨rfl,hp.drop (by simp;omega)⟩
 | succ i =>
  have ei : (((i + 1 : Nat) : Int) - 1) = (i : Int) := by omega
  rw [ei]
  have hr (k : Nat) : pw m a k < m := Nat.mod_lt _ hm0
  have hst := bit_step n i
  generalize hre : n / 2 ^ (i + 1) = q at *
  repeat' first | (apply Wl.loadW;exact rfl;exact rfl;(focus repeat constructor);exact rfl) | refine Wl.move rfl rfl ?_ | refine Wl.geq rfl rfl rfl ?_ | apply Wl.nil | apply St.seq | apply St.block | apply St.region | apply St.skip | apply Gt.next | (apply St.condP;exact rfl;all_goals (intros;try (exfalso;omega)))
  apply Wl.callQ
  exact rfl
  (focus repeat constructor)
  ·intro wq hq
   exact hq.q (modTimes' (h.hp hq (by apply Off.of;simp;omega)) (Nat.lt_trans (hr q) hlt) (hr q))
  rw [pw_dbl h.odd]
  repeat' first | (apply Wl.loadW;exact rfl;exact rfl;(focus repeat constructor);exact rfl) | (apply Wl.storeW;exact rfl;exact rfl;(focus repeat constructor);exact rfl;(first | exact cellsN_len _ _ _ | exact rfl)) | refine Wl.move rfl rfl ?_ | apply Wl.nil | apply St.seq | apply St.region | apply Gt.next
  apply Wl.callQ
  exact rfl
  (focus repeat constructor)
  ·intro wq hq
   exact hq.q (limbBit n i (by omega) wq)
  have hb2 := Nat.mod_lt (n / 2 ^ i) (show 0 < 2 by decide)
  by_cases hbit : n / 2 ^ i % 2 = 1
  ·rw [hbit] at hst
   rw [hbit]
   repeat' first | (apply Wl.loadW;exact rfl;exact rfl;(focus repeat constructor);exact rfl) | refine Wl.move rfl rfl ?_ | refine Wl.eql rfl rfl rfl ?_ | apply Wl.nil | apply St.region | (apply St.condT;exact rfl;(with_reducible first | rfl | assumption | decide)) | apply Gt.next
   apply Wl.callQ
   exact rfl
   (focus repeat constructor)
   ·intro wq hq
    exact hq.q (modTimes' (h.hp hq (by apply Off.of;simp;omega)) (Nat.lt_trans (hr (2 * q)) hlt) ha)
   rw [pw_one,← hst]
   repeat' first | (apply Wl.storeW;exact rfl;exact rfl;(focus repeat constructor);exact rfl;(first | exact cellsN_len _ _ _ | exact rfl)) | refine Wl.move rfl rfl ?_ | refine Wl.assign rfl rfl ?_ | (refine Wl.subI rfl rfl rfl ?_ ?_;constructor <;> omega) | apply Wl.nil | apply St.region | apply Gt.next | apply Gt.inNormal
   apply Gt.round i
   rotate_left
   ·simp
   ·repeat constructor
   ·exact fun _ h => h
   ·omega
  ·have hbit0 : n / 2 ^ i % 2 = 0 := by omega
   rw [hbit0,Nat.add_zero] at hst
   rw [hbit0,← hst]
   repeat' first | refine Wl.move rfl rfl ?_ | refine Wl.assign rfl rfl ?_ | refine Wl.eql rfl rfl rfl ?_ | (refine Wl.subI rfl rfl rfl ?_ ?_;constructor <;> omega) | apply Wl.nil | apply St.region | (apply St.condF;exact rfl;(with_reducible first | rfl | assumption | decide)) | apply St.skip | apply Gt.next | apply Gt.inNormal
   apply Gt.round i
   rotate_left
   ·simp
   ·repeat constructor
   ·exact fun _ h => h
   ·omega
end Go.Proofs.YtmjlceimjlabpaaDoor
end
section
namespace Go.Pt
theorem LOver.app {l xs r : List Value} (h : l.length = xs.length) : LOver (l ++ r) xs (xs ++ r) := by
 induction xs generalizing l with
 | nil => cases l with
  | nil => exact .nil
  | cons _ _ => simp at h
 | cons x s ih => cases l with
  | nil => simp at h
  | cons y t => exact .cons (ih (by simpa using h))
theorem LPut.app {p l xs r : List Value} {n : Nat} (hn : p.length = n) (h : l.length = xs.length) : LPut (p ++ (l ++ r)) n xs (p ++ (xs ++ r)) := by
 subst hn
 induction p with
 | nil => exact .z (LOver.app h)
 | cons x s ih => exact .s ih
theorem LSet.app {p r : List Value} {x v : Value} {n : Nat} (hn : p.length = n) : LSet (p ++ x :: r) n v (p ++ v :: r) := by
 subst hn
 induction p with
 | nil => exact .z
 | cons y s ih => exact .s ih
end Go.Pt
namespace Go.Proofs.YtmjlceimjlabpaaDoor
open Go.RowKit Go.Pt
def modC (m neg : Nat) (f g : Nat → Nat) : List Value := cellsN .u32 8 (dg W32 m) ++ (.int .u32 neg :: (cellsN .u32 8 f ++ cellsN .u32 8 g))
theorem modC_neg (m n n' : Nat) (f g : Nat → Nat) : LSet (modC m n f g) 8 (.int .u32 n') (modC m n' f g) := LSet.app (cellsN_len _ _ _)
theorem modC_one (m n : Nat) (f g f' : Nat → Nat) : LPut (modC m n f g) 9 (cellsN .u32 8 f') (modC m n f' g) := by
 have := LPut.app (p := cellsN .u32 8 (dg W32 m) ++ [.int .u32 n]) (l := cellsN .u32 8 f) (xs := cellsN .u32 8 f') (r := cellsN .u32 8 g) (n := 9) (by simp [cellsN_len]) (by simp [cellsN_len])
 simpa [modC] using this
theorem modC_two (m n : Nat) (f g g' : Nat → Nat) : LPut (modC m n f g) 17 (cellsN .u32 8 g') (modC m n f g') := by
 have := LPut.app (p := cellsN .u32 8 (dg W32 m) ++ (.int .u32 n :: cellsN .u32 8 f)) (l := cellsN .u32 8 g) (xs := cellsN .u32 8 g') (r := []) (n := 17) (by simp [cellsN_len]) (by simp [cellsN_len])
 simpa [modC] using this
theorem modC_put (m : Nat) : LPut [Value.int .u32 0,.int .u32 0,.int .u32 0,.int .u32 0,.int .u32 0,.int .u32 0,.int .u32 0,.int .u32 0,.int .u32 0,.int .u32 0,.int .u32 0,.int .u32 0,.int .u32 0,.int .u32 0,.int .u32 0,.int .u32 0,.int .u32 0,.int .u32 0,.int .u32 0,.int .u32 0,.int .u32 0,.int .u32 0,.int .u32 0,.int .u32 0,.int .u32 0] 0 (cellsN .u32 8 (dg W32 m)) (modC m 0 (dg W32 0) (dg W32 0)) := by
 have h := LPut.app (p := []) (l := [Value.int .u32 0,.int .u32 0,.int .u32 0,.int .u32 0,.int .u32 0,.int .u32 0,.int .u32 0,.int .u32 0]) (xs := cellsN .u32 8 (dg W32 m)) (r := Value.int .u32 0 :: ([Value.int .u32 0,.int .u32 0,.int .u32 0,.int .u32 0,.int .u32 0,.int .u32 0,.int .u32 0,.int .u32 0] ++ [Value.int .u32 0,.int .u32 0,.int .u32 0,.int .u32 0,.int .u32 0,.int .u32 0,.int .u32 0,.int .u32 0])) (n := 0) rfl (by rw [cellsN_len];rfl)
 unfold modC
 rw [zero8] at h
 rw [← zero8] at h ⊢
 exact h
theorem modC_get {m n : Nat} {f g : Nat → Nat} {j : Nat} (h : j < 8) : (modC m n f g)[j]? = some (.int .u32 (dg W32 m j)) ∧ (modC m n f g)[8]? = some (.int .u32 n) ∧ (modC m n f g)[9 + j]? = some (.int .u32 (f j)) ∧ (modC m n f g)[17 + j]? = some (.int .u32 (g j)) := by
 unfold modC
 refine ⟨?_,?_,?_,?_⟩
 ·rw [List.getElem?_append_left (by rw [cellsN_len];exact h)];exact cellsN_get h
 ·rw [List.getElem?_append_right (by rw [cellsN_len];decide),cellsN_len];rfl
 ·rw [List.getElem?_append_right (by rw [cellsN_len];omega),cellsN_len,show 9 + j - 8 = j + 1 by omega,List.getElem?_cons_succ,List.getElem?_append_left (by rw [cellsN_len];exact h)];exact cellsN_get h
 ·rw [List.getElem?_append_right (by rw [cellsN_len];omega),cellsN_len,show 17 + j - 8 = (8 + j) + 1 by omega,List.getElem?_cons_succ,List.getElem?_append_right (by rw [cellsN_len];omega),cellsN_len,show 8 + j - 8 = j by omega];exact cellsN_get h
theorem sq_pow {n k : Nat} (h : n + n = k) : 2 ^ n * 2 ^ n = 2 ^ k := by subst h;rw [← Nat.pow_add]
def pw2 (m i : Nat) : Nat := 2 ^ i % m
theorem pw2_dbl (m n k : Nat) (h : n + n = k) : pw2 m k = 2 ^ n * 2 ^ n % m := by rw [sq_pow h,pw2]
def D2 (k : Nat) : Nat := 2 ^ 2 ^ k
theorem D2_succ (k : Nat) : D2 (k + 1) = D2 k * D2 k := by unfold D2;rw [Nat.pow_succ,Nat.mul_two,Nat.pow_add]
theorem D2_dvd {k : Nat} (h : k < 5) : D2 k * D2 k ∣ 4294967296 := by
 have : k = 0 ∨ k = 1 ∨ k = 2 ∨ k = 3 ∨ k = 4 := by omega
 rcases this with rfl | rfl | rfl | rfl | rfl <;> decide
theorem dg0_mod (m : Nat) : dg W32 m 0 = m % 4294967296 := by unfold dg;rw [hi_zero]
def NewPost (m : Nat) (w : World) (e : Ending) (w' : World) : Prop :=
 (m % 2 = 1 ∧ m ≠ 1 ∧ ∃ b,e = .returned (.tuple #[mp b,.int .i64 0]) ∧ w.heap.size ≤ b ∧ ModV w' b m ∧ Hp w [] w') ∨ (¬ (m % 2 = 1 ∧ m ≠ 1) ∧ e = .returned (.tuple #[.pointer none,.int .i64 1]) ∧ Hp w [] w')
set_option maxHeartbeats 2000000 in
theorem modNew (m : Nat) (hm : m < W256) (w : World) : Calls Tryd.prog 32 #[numV m] w (NewPost m w) := by
 refine enter (args := [_]) (Γ := [(0,_)]) Tryd.func32 Tryd.ntmps32 rfl (of_decide_eq_true rfl) (.cons rfl .nil) ?_
 have hd0 : dg W32 m 0 % 2 = m % 2 := by rw [dg0_mod];omega
 have h0l := dlt m 0
 by_cases hodd : m % 2 = 1
 ·by_cases h1 : m = 1
  ·repeat' first | (apply Wl.indexA (j := 0);exact rfl;exact rfl;exact rfl;(decide)) | (apply Wl.eqlA (b := decide (m = 1));exact rfl;exact rfl;exact rfl;kernel_rfl;kernel_rfl;kernel_rfl;kernel_rfl;exact cell32 _ (dlt _);exact cell32 _ (dlt _);exact d8_inj hm (by decide)) | (apply Wl.loadN;exact rfl;exact rfl;(focus repeat constructor);omega) | (apply Wl.loadW;exact rfl;exact rfl;(focus repeat constructor);exact rfl) | (apply Wl.boxN;exact rfl;exact rfl;intro c hc ho) | (apply Wl.buildN;exact rfl;(repeat (first | exact Parts.nil | apply Parts.cons rfl));(repeat (first | apply Fills.nil | (apply Fills.one;exact rfl;exact rfl;(repeat (first | apply LSet.z | apply LSet.s))) | (apply Fills.agg;exact rfl;exact rfl;(repeat (first | apply LPut.s | apply LPut.z | apply LOver.nil | apply LOver.cons)))));(first | exact one8 | exact zero8 | exact two8 | exact one16)) | (apply Wl.and1;exact rfl;exact rfl;exact rfl;exact rfl;(first | exact wrap2_u32 | exact wrap2_u64 | exact wrap2_i64)) | refine Wl.move rfl rfl ?_ | refine Wl.assign rfl rfl ?_ | (apply Wl.on;exact rfl;exact rfl;(with_reducible first | rfl | assumption | decide)) | (apply Wl.pickF;exact rfl;exact rfl;(with_reducible first | rfl | assumption | decide);exact rfl) | refine Wl.eql rfl rfl rfl ?_ | apply Wl.nil | apply St.seq | apply St.region | apply St.ret | apply Gt.next | apply Gt.thenRet | (apply Gt.out2;exact rfl;exact rfl;exact rfl;intro w' hp) | (apply Wl.splitP;exact rfl;exact rfl;all_goals (intros;try (exfalso;omega))) | (apply St.condP;exact rfl;all_goals (intros;try (exfalso;omega)))
   exact .inr ⟨fun h => h.2 h1,rfl,hp.drop (by simp;omega)⟩
  ·repeat' first | (apply Wl.indexA (j := 0);exact rfl;exact rfl;exact rfl;(decide)) | (apply Wl.eqlA (b := decide (m = 1));exact rfl;exact rfl;exact rfl;kernel_rfl;kernel_rfl;kernel_rfl;kernel_rfl;exact cell32 _ (dlt _);exact cell32 _ (dlt _);exact d8_inj hm (by decide)) | (apply Wl.buildS;exact rfl;(repeat (first | exact Parts.nil | apply Parts.cons rfl));exact Fills.agg rfl (by rw [cellsN_len];rfl) (modC_put m) .nil) | (apply Wl.loadN;exact rfl;exact rfl;(focus repeat constructor);omega) | (apply Wl.loadW;exact rfl;exact rfl;(focus repeat constructor);exact rfl) | (apply Wl.boxN;exact rfl;exact rfl;intro c hc ho) | (apply Wl.buildN;exact rfl;(repeat (first | exact Parts.nil | apply Parts.cons rfl));(repeat (first | apply Fills.nil | (apply Fills.one;exact rfl;exact rfl;(repeat (first | apply LSet.z | apply LSet.s))) | (apply Fills.agg;exact rfl;exact rfl;(repeat (first | apply LPut.s | apply LPut.z | apply LOver.nil | apply LOver.cons)))));(first | exact one8 | exact zero8 | exact two8 | exact one16)) | (apply Wl.and1;exact rfl;exact rfl;exact rfl;exact rfl;(first | exact wrap2_u32 | exact wrap2_u64 | exact wrap2_i64)) | refine Wl.move rfl rfl ?_ | refine Wl.assign rfl rfl ?_ | (apply Wl.on;exact rfl;exact rfl;(with_reducible first | rfl | assumption | decide)) | (apply Wl.pickF;exact rfl;exact rfl;(with_reducible first | rfl | assumption | decide);exact rfl) | refine Wl.eql rfl rfl rfl ?_ | (apply Wl.boxA;exact rfl;exact rfl;intro c hc ho) | apply Wl.nil | apply St.seq | apply St.block | apply St.region | apply St.skip | apply Gt.next | (apply Wl.splitP;exact rfl;exact rfl;all_goals (intros;try (exfalso;omega))) | (apply St.condP;exact rfl;all_goals (intros;try (exfalso;omega)))
   rename_i ca hca hoa _ _ _ _
   generalize c = cm at *
   refine St.loop (σ := Nat × Nat) (fun τ => τ.1 ≤ 5 ∧ τ.2 < 4294967296 ∧ ((D2 τ.1 : Nat) : Int) ∣ (dg W32 m 0 : Int) * τ.2 - 1)
    (fun τ => [(1,mp ca),(3,.int .i64 0),(4,mp cm),(5,.int .u32 τ.2),(20,.int .i64 τ.1)])
    (fun τ => Hp w [⟨cm,modC m 0 (dg W32 0) (dg W32 0),124⟩,⟨ca,cellsN .u32 8 (dg W32 m),69⟩])
    (fun τ => 5 - τ.1) (0,1) ⟨by simp,by simp,⟨((dg W32 m 0 / 2 : Nat) : Int),by show (dg W32 m 0 : Int) * ((1 : Nat) : Int) - 1 = ((2 : Nat) : Int) * _;omega⟩⟩ (by repeat constructor) (fun _ h => h) ?_
   rintro ⟨k,x⟩ ⟨hk5,hx32,hk⟩
   simp only at hk5 hx32 hk ⊢
   by_cases hkl : k < 5
   ·have hr := inv_round (D2_dvd hkl) hk
    rw [← D2_succ] at hr
    repeat' first | (apply Wl.indexA (j := 0);exact rfl;exact rfl;exact rfl;(decide)) | (apply Wl.loadN;exact rfl;exact rfl;(focus repeat constructor);omega) | (apply Wl.subN32 (m := 2);exact rfl;exact rfl;exact rfl;omega) | refine Wl.mulN32 rfl rfl rfl ?_ | refine Wl.move rfl rfl ?_ | refine Wl.assign rfl rfl ?_ | refine Wl.lss rfl rfl rfl ?_ | (refine Wl.addI rfl rfl rfl ?_ ?_;constructor <;> omega) | apply Wl.nil | apply St.seq | apply St.block | apply St.region | apply St.skip | apply Gt.next | apply Gt.inNormal | (apply St.condP;exact rfl;all_goals (intros;try (exfalso;omega)))
    apply Gt.round (k + 1,x * ((2 + 4294967296 - dg W32 m 0 * x % 4294967296) % 4294967296) % 4294967296)
    rotate_left
    ·simp only;omega
    ·repeat constructor
    ·exact fun _ h => h
    ·exact ⟨by simp only;omega,Nat.mod_lt _ (by decide),hr⟩
   have hke : k = 5 := by omega
   subst hke
   have hneg := neg_ok (show ((4294967296 : Nat) : Int) ∣ (dg W32 m 0 : Int) * x - 1 from hk)
   have hneg' : (m * ((4294967296 - x % 4294967296) % 4294967296) + 1) % 4294967296 = 0 := by
    rw [dg0_mod] at hneg
    rw [Nat.add_mod,Nat.mod_mul_mod,← Nat.add_mod] at hneg
    exact hneg
   generalize hne : (4294967296 - x % 4294967296) % 4294967296 = neg at *
   repeat' first | (apply Wl.store;exact rfl;exact rfl;exact rfl;(focus repeat constructor);exact modC_neg _ _ _ _ _) | (apply Wl.storeW;exact rfl;exact rfl;(focus repeat constructor);exact rfl;(first | exact cellsN_len _ _ _ | exact rfl)) | (apply Wl.buildN;exact rfl;(repeat (first | exact Parts.nil | apply Parts.cons rfl));(repeat (first | apply Fills.nil | (apply Fills.one;exact rfl;exact rfl;(repeat (first | apply LSet.z | apply LSet.s))) | (apply Fills.agg;exact rfl;exact rfl;(repeat (first | apply LPut.s | apply LPut.z | apply LOver.nil | apply LOver.cons)))));(first | exact one8 | exact zero8 | exact two8 | exact one16)) | (apply Wl.allocN;exact rfl;(first | exact z8 | exact z16 | exact z17 | exact z33 | exact z10);intro c hc ho) | refine Wl.negN32 rfl rfl ?_ | refine Wl.move rfl rfl ?_ | refine Wl.nilCheck rfl rfl ?_ | refine Wl.fieldAddrZ rfl rfl ?_ | refine Wl.lss rfl rfl rfl ?_ | apply Wl.nil | apply St.seq | apply St.block | apply St.region | (apply St.condF;exact rfl;(with_reducible first | rfl | assumption | decide)) | apply St.exit | apply Gt.next | apply Gt.thenExit | apply Gt.inExit
   rw [hne]
   generalize c = cx at *
   have hcx : w.heap.size ≤ cx := hc
   have hm1 : 1 < m := by omega
   refine St.loop (σ := Nat × (Nat → Nat)) (fun τ => τ.1 ≤ 512 ∧ (256 < τ.1 → τ.2 = dg W32 (W256 % m)))
    (fun τ => [(3,.int .i64 0),(4,mp cm),(6,mp cx),(36,.int .i64 τ.1)])
    (fun τ => Hp w [⟨cx,cellsN .u32 8 (dg W32 (pw2 m τ.1)),69⟩,⟨cm,modC m neg τ.2 (dg W32 0),124⟩,⟨ca,cellsN .u32 8 (dg W32 m),69⟩])
    (fun τ => 512 - τ.1) (0,dg W32 0) ⟨by simp,fun h => by simp at h⟩ (by repeat constructor) (fun _ h => by
     show Hp w [⟨cx,cellsN .u32 8 (dg W32 (pw2 m 0)),_⟩,_,_] _
     rw [pw2,Nat.pow_zero,Nat.mod_eq_of_lt hm1]
     exact h) ?_
   rintro ⟨i,f⟩ ⟨hi5,hf⟩
   simp only at hi5 hf ⊢
   have hmod {wq : World} {H : List Blk} {f g : Nat → Nat} (hq : Hp w H wq) (hmem : (⟨cm,modC m neg f g,124⟩ : Blk) ∈ H) : ArrAt wq cm 0 .u32 8 (dg W32 m) := fun j hj => by
    rw [Nat.zero_add]
    exact hq.cell hmem (modC_get hj).1
   have hr : pw2 m i < m := Nat.mod_lt _ (by omega)
   have e2 : (pw2 m i + pw2 m i) % m = pw2 m (i + 1) := by rw [pw2,pw2,Nat.pow_succ,Nat.mul_two,← Nat.add_mod]
   by_cases hil : i < 512
   ·by_cases h256 : i = 256
    ·subst h256
     repeat' first | (apply Wl.storeA;exact rfl;exact rfl;exact cellsN_len _ _ _;exact cellsN_one _ _ _;(focus repeat constructor);exact modC_one _ _ _ _ _) | (apply Wl.loadW;exact rfl;exact rfl;(focus repeat constructor);exact rfl) | refine Wl.move rfl rfl ?_ | refine Wl.assign rfl rfl ?_ | refine Wl.nilCheck rfl rfl ?_ | refine Wl.fieldAddrZ rfl rfl ?_ | refine Wl.eql rfl rfl rfl ?_ | refine Wl.lss rfl rfl rfl ?_ | apply Wl.nil | apply St.seq | apply St.block | apply St.region | (apply St.condT;exact rfl;(with_reducible first | rfl | assumption | decide)) | apply St.skip | apply Gt.next
     apply Wl.callQ
     exact rfl
     (focus repeat constructor)
     ·intro wq hq
      exact hq.q (modAdd cm m (pw2 m 256) (pw2 m 256) wq (hmod hq (.tail _ (.head _))) hm hr hr)
     rw [e2]
     repeat' first | (apply Wl.storeW;exact rfl;exact rfl;(focus repeat constructor);exact rfl;(first | exact cellsN_len _ _ _ | exact rfl)) | refine Wl.move rfl rfl ?_ | (refine Wl.addI rfl rfl rfl ?_ ?_;constructor <;> omega) | apply Wl.nil | apply St.region | apply Gt.next | apply Gt.inNormal
     apply Gt.round (256 + 1,dg W32 (pw2 m 256))
     rotate_left
     ·simp
     ·repeat constructor
     ·exact fun _ h => h
     ·exact ⟨by simp,fun _ => by rw [pw2,show W256 = 2 ^ 256 by decide]⟩
    ·repeat' first | (apply Wl.loadW;exact rfl;exact rfl;(focus repeat constructor);exact rfl) | refine Wl.move rfl rfl ?_ | refine Wl.assign rfl rfl ?_ | refine Wl.eql rfl rfl rfl ?_ | refine Wl.lss rfl rfl rfl ?_ | apply Wl.nil | apply St.seq | apply St.block | apply St.region | apply St.skip | apply Gt.next | (apply St.condP;exact rfl;all_goals (intros;try (exfalso;omega)))
     apply Wl.callQ
     exact rfl
     (focus repeat constructor)
     ·intro wq hq
      exact hq.q (modAdd cm m (pw2 m i) (pw2 m i) wq (hmod hq (.tail _ (.head _))) hm hr hr)
     rw [e2]
     repeat' first | (apply Wl.storeW;exact rfl;exact rfl;(focus repeat constructor);exact rfl;(first | exact cellsN_len _ _ _ | exact rfl)) | refine Wl.move rfl rfl ?_ | (refine Wl.addI rfl rfl rfl ?_ ?_;constructor <;> omega) | apply Wl.nil | apply St.region | apply Gt.next | apply Gt.inNormal
     apply Gt.round (i + 1,f)
     rotate_left
     ·simp only;omega
     ·repeat constructor
     ·exact fun _ h => h
     ·exact ⟨by simp only;omega,fun h => hf (by simp only at h;omega)⟩
   ·have hie : i = 512 := by omega
    subst hie
    have hff := hf (by decide)
    subst hff
    have e512 : pw2 m 512 = W256 * W256 % m := by rw [show W256 = 2 ^ 256 by decide];exact pw2_dbl m 256 512 rfl
    rw [e512]
    repeat' first | (apply Wl.storeA;exact rfl;exact rfl;exact cellsN_len _ _ _;exact cellsN_one _ _ _;(focus repeat constructor);exact modC_two _ _ _ _ _) | (apply Wl.loadW;exact rfl;exact rfl;(focus repeat constructor);exact rfl) | refine Wl.move rfl rfl ?_ | refine Wl.assign rfl rfl ?_ | refine Wl.nilCheck rfl rfl ?_ | refine Wl.fieldAddrZ rfl rfl ?_ | refine Wl.lss rfl rfl rfl ?_ | apply Wl.nil | apply St.seq | apply St.region | (apply St.condF;exact rfl;(with_reducible first | rfl | assumption | decide)) | apply St.ret | apply St.exit | apply Gt.next | apply Gt.thenExit | apply Gt.inExit | (apply Gt.out2;exact rfl;exact rfl;exact rfl;intro w' hp)
    refine .inl ⟨hodd,h1,cm,rfl,by assumption,?_,hp.drop (by simp;omega)⟩
    have hg {j : Nat} (hj : j < 8) := modC_get (m := m) (n := neg) (f := dg W32 (W256 % m)) (g := dg W32 (W256 * W256 % m)) hj
    exact ⟨⟨neg,hp.cell (.tail _ (.head _)) (hg (j := 0) (by decide)).2.1,hneg'⟩,hmod hp (.tail _ (.head _)),fun j hj => hp.cell (.tail _ (.head _)) (hg hj).2.2.1,fun j hj => hp.cell (.tail _ (.head _)) (hg hj).2.2.2,hm,hodd,hm1⟩
 ·repeat' first | (apply Wl.indexA (j := 0);exact rfl;exact rfl;exact rfl;(decide)) | (apply Wl.loadN;exact rfl;exact rfl;(focus repeat constructor);omega) | (apply Wl.boxN;exact rfl;exact rfl;intro c hc ho) | (apply Wl.and1;exact rfl;exact rfl;exact rfl;exact rfl;(first | exact wrap2_u32 | exact wrap2_u64 | exact wrap2_i64)) | refine Wl.move rfl rfl ?_ | refine Wl.assign rfl rfl ?_ | (apply Wl.off;exact rfl;exact rfl;exact rfl;(first | with_reducible rfl | (show _ = false;with_reducible assumption) | (show _ = true;with_reducible assumption) | decide)) | (apply Wl.pickT;exact rfl;exact rfl;(with_reducible first | rfl | assumption | decide);exact rfl) | refine Wl.eql rfl rfl rfl ?_ | apply Wl.nil | apply St.seq | apply St.region | (apply St.condT;exact rfl;(with_reducible first | rfl | assumption | decide)) | apply St.ret | apply Gt.next | apply Gt.thenRet | (apply Gt.out2;exact rfl;exact rfl;exact rfl;intro w' hp) | (apply Wl.splitP;exact rfl;exact rfl;all_goals (intros;try (exfalso;omega)))
  exact .inr ⟨fun h => hodd h.1,rfl,hp.drop (by simp;omega)⟩
end Go.Proofs.YtmjlceimjlabpaaDoor
end
section
namespace Go.Proofs.YtmjlceimjlabpaaDoor
abbrev D16 : Nat := 65536
theorem dlt16 (n i : Nat) : dg D16 n i < 65536 := dg_lt (by decide) n i
theorem W256_eq16 : W256 = D16 ^ 16 := by decide
theorem hi_pair (n q : Nat) : hi D16 n (2 * q) = hi W32 n q := by
 unfold hi
 rw [Nat.pow_mul,show D16 ^ 2 = W32 by decide]
theorem dg_lo (n q : Nat) : dg D16 n (2 * q) = dg W32 n q % 65536 := by
 unfold dg
 rw [hi_pair]
 show hi W32 n q % 65536 = hi W32 n q % 4294967296 % 65536
 omega
theorem dg_hi (n q : Nat) : dg D16 n (2 * q + 1) = dg W32 n q / 65536 := by
 unfold dg
 rw [hi_succ,hi_pair]
 show hi W32 n q / 65536 % 65536 = hi W32 n q % 4294967296 / 65536
 omega
theorem of_step (n i : Nat) : dg W32 n (i / 2) / 2 ^ (16 * (i % 2)) % 65536 = dg D16 n i := by
 rcases Nat.mod_two_eq_zero_or_one i with h | h
 ·have e : i = 2 * (i / 2) := by omega
  rw [h,Nat.mul_zero,Nat.pow_zero,Nat.div_one]
  conv => rhs;rw [e]
  rw [dg_lo]
 ·have e : i = 2 * (i / 2) + 1 := by omega
  rw [h]
  conv => rhs;rw [e]
  rw [dg_hi]
  have := dg_lt (B := W32) (by decide) n (i / 2)
  show dg W32 n (i / 2) / 65536 % 65536 = _
  have h' : dg W32 n (i / 2) < 4294967296 := this
  omega
theorem add16 {a b c i : Nat} (h : hi D16 (a + b) i = hi D16 a i + hi D16 b i + c) :
  (dg D16 a i + dg D16 b i + c) % 65536 = dg D16 (a + b) i ∧ hi D16 (a + b) (i + 1) = hi D16 a (i + 1) + hi D16 b (i + 1) + (dg D16 a i + dg D16 b i + c) / 65536 := by
 rw [hi_succ,hi_succ,hi_succ]
 unfold dg D16 at *
 generalize hi 65536 (a + b) i = S at *
 generalize hi 65536 a i = X at *
 generalize hi 65536 b i = Y at *
 omega
theorem twice16 {a b c i : Nat} (h : hi D16 (2 * a + b) i = 2 * hi D16 a i + c) :
  (2 * dg D16 a i + c) % 65536 = dg D16 (2 * a + b) i ∧ hi D16 (2 * a + b) (i + 1) = 2 * hi D16 a (i + 1) + (2 * dg D16 a i + c) / 65536 := by
 rw [hi_succ,hi_succ]
 unfold dg D16 at *
 generalize hi 65536 (2 * a + b) i = S at *
 generalize hi 65536 a i = X at *
 omega
theorem take16 {T b c i : Nat} (hc : c ≤ 1) (h : hi D16 (T - b) i + hi D16 b i + c = hi D16 T i) :
  dg D16 b i + c ≤ dg D16 T i + 65536 ∧ (dg D16 T i + 65536 - dg D16 b i - c) % 65536 = dg D16 (T - b) i ∧ (dg D16 T i + 65536 - dg D16 b i - c) / 65536 ≤ 1 ∧
  hi D16 (T - b) (i + 1) + hi D16 b (i + 1) + (1 - (dg D16 T i + 65536 - dg D16 b i - c) / 65536) = hi D16 T (i + 1) := by
 rw [hi_succ,hi_succ,hi_succ]
 unfold dg D16 at *
 generalize hi 65536 (T - b) i = S at *
 generalize hi 65536 T i = X at *
 generalize hi 65536 b i = Y at *
 omega
end Go.Proofs.YtmjlceimjlabpaaDoor
end
section
namespace Go.Proofs.YtmjlceimjlabpaaDoor
open Go.RowKit Go.Pt
abbrev num16 (n : Nat) : Value := .agg (cellsN .u64 16 (dg D16 n)).toArray
abbrev num17 (n : Nat) : Value := .agg (cellsN .u64 17 (dg D16 n)).toArray
set_option maxHeartbeats 1000000 in
theorem refOf (n : Nat) (w : World)  :
  Calls Tryd.prog 84 #[numV n] w fun e w' => e = .returned (num16 n) ∧ Hp w [] w' := by
 refine enter (args := [_]) (Γ := [(0,_)]) Tryd.func84 Tryd.ntmps84 rfl (of_decide_eq_true rfl) (.cons rfl .nil) ?_
 repeat' first | (apply Wl.boxN;exact rfl;exact rfl;intro c hc ho) | (apply Wl.allocN;exact rfl;(first | exact z8 | exact z16 | exact z17 | exact z33 | exact z10);intro c hc ho) | refine Wl.assign rfl rfl ?_ | apply Wl.nil | apply St.seq | apply St.block | apply St.region | apply Gt.next
 rename_i ca hca hoa cr hcr hor
 generalize c = cx at *
 refine St.loop (σ := Nat) (fun i => i ≤ 16)
  (fun i => [(1,mp ca),(2,mp cr),(3,mp cx),(4,.int .i64 i)])
  (fun i => Hp w [⟨cx,cellsN .u64 16 (fillN (fun _ => 0) (dg D16 n) i),94⟩,⟨cr,cellsN .u64 16 fun _ => 0,94⟩,⟨ca,cellsN .u32 8 (dg W32 n),68⟩])
  (fun i => 16 - i) 0 (by simp) (by repeat constructor) (fun _ h => by simpa only [fillN_zero] using h) ?_
 intro i hi16
 by_cases hlt : i < 16
 ·have hw := dlt n (i / 2)
  have h2 : i / 2 < 8 := by omega
  have hq : dg W32 n (i / 2) / 2 ^ (16 * (i % 2)) < 18446744073709551616 := Nat.lt_of_le_of_lt (Nat.div_le_self _ _) (by omega)
  repeat' first | (refine Wl.indexA rfl rfl rfl ?_ ?_;omega) | (apply Wl.loadN;exact rfl;exact rfl;(focus repeat constructor);omega) | (apply Wl.storeN;exact rfl;exact rfl;(focus repeat constructor);omega) | (apply Wl.mulNI (m := 16);exact rfl;exact rfl;exact rfl;omega) | (apply Wl.convNU;exact rfl;exact rfl;(with_reducible assumption)) | (apply Wl.quoN (n := 2);exact rfl;exact rfl;exact rfl;(decide);(first | exact IntWalk.u64_in _ (by omega) | exact IntWalk.i64_in _ (by omega))) | (apply Wl.remN (n := 2);exact rfl;exact rfl;exact rfl;(decide)) | (apply Wl.remN (n := 65536);exact rfl;exact rfl;exact rfl;(decide)) | (apply Wl.shrV;exact rfl;exact rfl;exact rfl;(first | (show _ ≤ 32;omega) | (show _ ≤ 64;omega))) | refine Wl.move rfl rfl ?_ | refine Wl.assign rfl rfl ?_ | refine Wl.lss rfl rfl rfl ?_ | (refine Wl.addI rfl rfl rfl ?_ ?_;constructor <;> omega) | apply Wl.nil | apply St.seq | apply St.block | apply St.region | apply St.skip | apply Gt.next | apply Gt.inNormal | (apply St.condP;exact rfl;all_goals (intros;try (exfalso;omega)))
  rw [of_step]
  apply Gt.round (i + 1)
  rotate_left
  ·omega
  ·repeat constructor
  ·exact fun _ h => by rw [fillN_step] at h;exact h
  ·omega
 ·have : i = 16 := by omega
  subst this
  repeat' first | (apply Gt.outN;exact rfl;infer_instance;exact rfl;(focus repeat constructor);exact rfl;intro w' hp) | (apply Wl.loadW;exact rfl;exact rfl;(focus repeat constructor);exact rfl) | (apply Wl.storeW;exact rfl;exact rfl;(focus repeat constructor);exact rfl;(first | exact cellsN_len _ _ _ | exact rfl)) | refine Wl.move rfl rfl ?_ | refine Wl.lss rfl rfl rfl ?_ | apply Wl.nil | apply St.seq | apply St.region | (apply St.condF;exact rfl;(with_reducible first | rfl | assumption | decide)) | apply St.ret | apply St.exit | apply Gt.next | apply Gt.thenExit | apply Gt.inExit
  exact ⟨by rw [fillN_end],hp.drop (by simp;omega)⟩
set_option maxHeartbeats 1000000 in
theorem refLess (T m : Nat) (w : World) (hm : m < W256) (hT : T < D16 ^ 17) :
  Calls Tryd.prog 97 #[num17 T,num16 m] w fun e w' => e = .returned (.bool (decide (T < m))) ∧ Hp w [] w' := by
 refine enter (args := [_,_]) (Γ := [(0,_),(1,_)]) Tryd.func97 Tryd.ntmps97 rfl (of_decide_eq_true rfl) (.cons rfl (.cons rfl .nil)) ?_
 have hm16 : hi D16 m 16 = 0 := hi_top (by rw [← W256_eq16];exact hm)
 have hT17 : hi D16 T 17 = 0 := hi_top hT
 by_cases h16 : dg D16 T 16 = 0
 ·have hT16 : hi D16 T 16 = 0 := by rw [hi_eq,hT17,h16];rfl
  repeat' first | (apply Wl.indexA (j := 16);exact rfl;exact rfl;exact rfl;(decide)) | (apply Wl.loadN;exact rfl;exact rfl;(focus repeat constructor);omega) | (apply Wl.boxN;exact rfl;exact rfl;intro c hc ho) | refine Wl.assign rfl rfl ?_ | refine Wl.gtr rfl rfl rfl ?_ | apply Wl.nil | apply St.seq | apply St.block | apply St.region | apply St.skip | apply Gt.next | (apply St.condP;exact rfl;all_goals (intros;try (exfalso;omega)))
  rename_i ca hca hoa _ _
  generalize c = cb at *
  refine St.loop (σ := Nat) (fun i => i ≤ 16 ∧ hi D16 T i = hi D16 m i)
   (fun i => [(2,mp ca),(3,mp cb),(5,.int .i64 ((i : Int) - 1))])
   (fun i => Hp w [⟨cb,cellsN .u64 16 (dg D16 m),94⟩,⟨ca,cellsN .u64 17 (dg D16 T),154⟩])
   (fun i => i) 16 ⟨Nat.le_refl _,hT16.trans hm16.symm⟩ (by repeat constructor) (fun _ h => h) ?_
  rintro i ⟨hi16,hic⟩
  cases i with
  | zero =>
   rw [hi_zero,hi_zero] at hic
   repeat' first | refine Wl.move rfl rfl ?_ | refine Wl.assign rfl rfl ?_ | refine Wl.geq rfl rfl rfl ?_ | apply Wl.nil | apply St.seq | apply St.region | (apply St.condF;exact rfl;(with_reducible first | rfl | assumption | decide)) | apply St.ret | apply St.exit | apply Gt.next | apply Gt.thenExit | apply Gt.inExit | (apply Gt.out1;exact rfl;exact rfl;intro w' hp)
   exact ⟨by rw [decide_eq_false (show ¬ T < m by omega)],hp.drop (by simp;omega)⟩
  | succ i =>
   have e : (((i + 1 : Nat) : Int) - 1) = (i : Int) := by omega
   rw [e]
   have ea := hi_eq D16 T i
   have eb := hi_eq D16 m i
   rw [hic] at ea
   by_cases hne : dg D16 T i = dg D16 m i
   ·have hne' : ((dg D16 T i : Nat) : Int) = (dg D16 m i : Nat) := by rw [hne]
    repeat' first | (refine Wl.indexA rfl rfl rfl ?_ ?_;omega) | (apply Wl.loadN;exact rfl;exact rfl;(focus repeat constructor);omega) | refine Wl.move rfl rfl ?_ | refine Wl.assign rfl rfl ?_ | (apply Wl.neqIs;exact rfl;exact rfl;exact rfl;(first | with_reducible assumption | with_reducible rfl)) | refine Wl.geq rfl rfl rfl ?_ | (refine Wl.subI rfl rfl rfl ?_ ?_;constructor <;> omega) | apply Wl.nil | apply Wl.nilQ | apply St.seq | apply St.block | apply St.region | (apply St.draw;exact mixed;(kernel_rfl);exact (fun _ h => Hp.drew h)) | (apply St.condF;exact rfl;(with_reducible first | rfl | assumption | decide)) | apply St.skip | apply Gt.next | apply Gt.inNormal | (apply St.condP;exact rfl;all_goals (intros;try (exfalso;omega)))
    apply Gt.round i
    rotate_left
    ·simp
    ·repeat constructor
    ·exact fun _ h => h
    ·exact ⟨by omega,by rw [ea,eb,hne]⟩
   ·repeat' first | (refine Wl.indexA rfl rfl rfl ?_ ?_;omega) | (apply Wl.loadN;exact rfl;exact rfl;(focus repeat constructor);omega) | refine Wl.move rfl rfl ?_ | refine Wl.assign rfl rfl ?_ | refine Wl.neq rfl rfl rfl ?_ | refine Wl.lss rfl rfl rfl ?_ | refine Wl.geq rfl rfl rfl ?_ | apply Wl.nil | apply Wl.nilQ | apply St.seq | apply St.block | apply St.region | (apply St.draw;exact mixed;(kernel_rfl);exact (fun _ h => Hp.drew h)) | apply St.ret | apply St.skip | apply Gt.next | apply Gt.thenRet | apply Gt.inRet | (apply Gt.out1;exact rfl;exact rfl;intro w' hp) | (apply St.condP;exact rfl;all_goals (intros;try (exfalso;omega)))
    refine ⟨?_,hp.drop (by simp;omega)⟩
    congr 2
    rw [decide_eq_decide]
    constructor
    ·exact fun h => lt_of_hi (B := D16) (i := i) (by omega)
    ·intro h
     have h1 : hi D16 T i ≤ hi D16 m i := Nat.div_le_div_right (Nat.le_of_lt h)
     omega
 ·have hn : ¬ T < m := fun h => h16 (by
   have : hi D16 T 16 = 0 := hi_top (by rw [← W256_eq16];omega)
   unfold dg;rw [this];rfl)
  repeat' first | (apply Wl.indexA (j := 16);exact rfl;exact rfl;exact rfl;(decide)) | (apply Wl.loadN;exact rfl;exact rfl;(focus repeat constructor);omega) | (apply Wl.boxN;exact rfl;exact rfl;intro c hc ho) | refine Wl.assign rfl rfl ?_ | refine Wl.gtr rfl rfl rfl ?_ | apply Wl.nil | apply St.seq | apply St.region | apply St.ret | apply Gt.next | apply Gt.thenRet | (apply Gt.out1;exact rfl;exact rfl;intro w' hp) | (apply St.condP;exact rfl;all_goals (intros;try (exfalso;omega)))
  exact ⟨by rw [decide_eq_false hn],hp.drop (by simp;omega)⟩
end Go.Proofs.YtmjlceimjlabpaaDoor
end
section
namespace Go.Proofs.YtmjlceimjlabpaaDoor
open Go.RowKit Go.Pt
theorem hi16_lt {n : Nat} (h : n < W256) : hi D16 n 16 = 0 := hi_top (by rw [← W256_eq16];exact h)
set_option maxHeartbeats 1000000 in
theorem refTake (T b : Nat) (w : World) (hb : b < W256) (hT : T < D16 ^ 17) (hbT : b ≤ T) :
  Calls Tryd.prog 98 #[num17 T,num16 b] w fun e w' => e = .returned (num17 (T - b)) ∧ Hp w [] w' := by
 refine enter (args := [_,_]) (Γ := [(0,_),(1,_)]) Tryd.func98 Tryd.ntmps98 rfl (of_decide_eq_true rfl) (.cons rfl (.cons rfl .nil)) ?_
 repeat' first | (apply Wl.boxN;exact rfl;exact rfl;intro c hc ho) | (apply Wl.allocN;exact rfl;(first | exact z8 | exact z16 | exact z17 | exact z33 | exact z10);intro c hc ho) | refine Wl.assign rfl rfl ?_ | apply Wl.nil | apply St.seq | apply St.block | apply St.region | apply Gt.next
 rename_i ca hca hoa cb hcb hob
 generalize c = cr at *
 refine St.loop (σ := Nat × Nat) (fun τ => τ.1 ≤ 17 ∧ τ.2 ≤ 1 ∧ hi D16 (T - b) τ.1 + hi D16 b τ.1 + τ.2 = hi D16 T τ.1)
  (fun τ => [(2,mp ca),(3,mp cb),(4,mp cr),(5,.int .u64 τ.2),(6,.int .i64 τ.1)])
  (fun τ => Hp w [⟨cr,cellsN .u64 17 fun _ => 0,154⟩,⟨cb,cellsN .u64 16 (dg D16 b),94⟩,⟨ca,cellsN .u64 17 (fillN (dg D16 T) (dg D16 (T - b)) τ.1),154⟩])
  (fun τ => 17 - τ.1) (0,0) ⟨by simp,by simp,by simp only [hi_zero];omega⟩ (by repeat constructor) (fun _ h => by simpa only [fillN_zero] using h) ?_
 rintro ⟨i,c⟩ ⟨hi17,hc1,hic⟩
 simp only at hi17 hc1 hic ⊢
 have hf : fillN (dg D16 T) (dg D16 (T - b)) i i = dg D16 T i := fillN_at (Nat.le_refl _)
 have hA := dlt16 T i
 have hB := dlt16 b i
 obtain ⟨p0,p1,p2,p3⟩ := take16 hc1 hic
 have hnext : (1 + 18446744073709551616 - (dg D16 T i + 65536 - dg D16 b i - c) / 65536) % 18446744073709551616 = 1 - (dg D16 T i + 65536 - dg D16 b i - c) / 65536 := by omega
 have hx : ((dg D16 T i + 65536 + 18446744073709551616 - dg D16 b i) % 18446744073709551616 + 18446744073709551616 - c) % 18446744073709551616 = dg D16 T i + 65536 - dg D16 b i - c := by omega
 by_cases hlt : i < 17
 ·have hF := hA
  rw [← hf] at hF
  by_cases h16 : i < 16
  ·repeat' first | (refine Wl.indexA rfl rfl rfl ?_ ?_;omega) | (apply Wl.loadN;exact rfl;exact rfl;(focus repeat constructor);omega) | (apply Wl.storeN;exact rfl;exact rfl;(focus repeat constructor);omega) | (apply Wl.addNU (n := 65536);exact rfl;exact rfl;exact rfl;omega) | (refine Wl.subNU rfl rfl rfl ?_ ?_;omega) | (apply Wl.quoN (n := 65536);exact rfl;exact rfl;exact rfl;(decide);(first | exact IntWalk.u64_in _ (by omega) | exact IntWalk.i64_in _ (by omega))) | (apply Wl.remN (n := 65536);exact rfl;exact rfl;exact rfl;(decide)) | refine Wl.move rfl rfl ?_ | refine Wl.assign rfl rfl ?_ | refine Wl.lss rfl rfl rfl ?_ | (refine Wl.addI rfl rfl rfl ?_ ?_;constructor <;> omega) | apply Wl.nil | apply St.seq | apply St.block | apply St.region | apply St.skip | apply Gt.next | apply Gt.inNormal | (apply St.condP;exact rfl;all_goals (intros;try (exfalso;omega)))
   rw [hf,hx,p1,hnext]
   apply Gt.round (i + 1,1 - (dg D16 T i + 65536 - dg D16 b i - c) / 65536)
   rotate_left
   ·simp only;omega
   ·repeat constructor
   ·exact fun _ h => by rw [fillN_step] at h;exact h
   ·exact ⟨by simp only;omega,by simp only;omega,p3⟩
  ·have hie : i = 16 := by omega
   have hb0 : dg D16 b i = 0 := by rw [hie];unfold dg;rw [hi16_lt hb];rfl
   rw [hb0] at hx p1 p2 p3 hnext
   rw [Nat.sub_zero] at p1 p2 p3 hnext
   have hx' : ((dg D16 T i + 65536 + 18446744073709551616 - 0) % 18446744073709551616 + 18446744073709551616 - c) % 18446744073709551616 = dg D16 T i + 65536 - c := hx
   repeat' first | (refine Wl.indexA rfl rfl rfl ?_ ?_;omega) | (apply Wl.loadN;exact rfl;exact rfl;(focus repeat constructor);omega) | (apply Wl.storeN;exact rfl;exact rfl;(focus repeat constructor);omega) | (apply Wl.addNU (n := 65536);exact rfl;exact rfl;exact rfl;omega) | (refine Wl.subNU rfl rfl rfl ?_ ?_;omega) | (apply Wl.subNU (n := 0);exact rfl;exact rfl;exact rfl;omega) | (apply Wl.quoN (n := 65536);exact rfl;exact rfl;exact rfl;(decide);(first | exact IntWalk.u64_in _ (by omega) | exact IntWalk.i64_in _ (by omega))) | (apply Wl.remN (n := 65536);exact rfl;exact rfl;exact rfl;(decide)) | refine Wl.move rfl rfl ?_ | refine Wl.assign rfl rfl ?_ | refine Wl.lss rfl rfl rfl ?_ | (refine Wl.addI rfl rfl rfl ?_ ?_;constructor <;> omega) | apply Wl.nil | apply St.seq | apply St.block | apply St.region | apply St.skip | apply Gt.next | apply Gt.inNormal | (apply St.condP;exact rfl;all_goals (intros;try (exfalso;omega)))
   rw [hf,hx',p1,hnext]
   apply Gt.round (i + 1,1 - (dg D16 T i + 65536 - c) / 65536)
   rotate_left
   ·simp only;omega
   ·repeat constructor
   ·exact fun _ h => by rw [fillN_step] at h;exact h
   ·exact ⟨by simp only;omega,by simp only;omega,p3⟩
 ·have hie : i = 17 := by omega
  subst hie
  repeat' first | (apply Gt.outN;exact rfl;infer_instance;exact rfl;(focus repeat constructor);exact rfl;intro w' hp) | (apply Wl.loadW;exact rfl;exact rfl;(focus repeat constructor);exact rfl) | (apply Wl.storeW;exact rfl;exact rfl;(focus repeat constructor);exact rfl;(first | exact cellsN_len _ _ _ | exact rfl)) | refine Wl.move rfl rfl ?_ | refine Wl.lss rfl rfl rfl ?_ | apply Wl.nil | apply St.seq | apply St.region | (apply St.condF;exact rfl;(with_reducible first | rfl | assumption | decide)) | apply St.ret | apply St.exit | apply Gt.next | apply Gt.thenExit | apply Gt.inExit
  exact ⟨by rw [fillN_end],hp.drop (by simp;omega)⟩
set_option maxHeartbeats 1000000 in
theorem refTwice (a m bit : Nat) (w : World) (hm : m < W256) (ha : a < m) (hbit : bit ≤ 1) :
  Calls Tryd.prog 85 #[num16 a,num16 m,.int .u64 bit] w fun e w' => e = .returned (num16 ((2 * a + bit) % m)) ∧ Hp w [] w' := by
 refine enter (args := [_,_,_]) (Γ := [(0,_),(1,_),(2,_)]) Tryd.func85 Tryd.ntmps85 rfl (of_decide_eq_true rfl) (.cons rfl (.cons rfl (.cons rfl .nil))) ?_
 have hT2 : 2 * a + bit < 2 * m := by omega
 have hT : 2 * a + bit < D16 ^ 17 := Nat.lt_of_lt_of_le hT2 (Nat.le_trans (Nat.mul_le_mul_left 2 (Nat.le_of_lt hm)) (by decide))
 have hon := once hT2
 repeat' first | (apply Wl.boxN;exact rfl;exact rfl;intro c hc ho) | (apply Wl.allocN;exact rfl;(first | exact z8 | exact z16 | exact z17 | exact z33 | exact z10);intro c hc ho) | refine Wl.move rfl rfl ?_ | refine Wl.assign rfl rfl ?_ | apply Wl.nil | apply St.seq | apply St.block | apply St.region | apply Gt.next
 rename_i ca hca hoa cb hcb hob cr hcr hor
 generalize c = ct at *
 refine St.loop (σ := Nat × Nat) (fun τ => τ.1 ≤ 16 ∧ τ.2 ≤ 1 ∧ hi D16 (2 * a + bit) τ.1 = 2 * hi D16 a τ.1 + τ.2)
  (fun τ => [(3,mp ca),(4,mp cb),(6,mp cr),(7,mp ct),(8,.int .u64 τ.2),(9,.int .i64 τ.1)])
  (fun τ => Hp w [⟨ct,cellsN .u64 17 (fillN (fun _ => 0) (dg D16 (2 * a + bit)) τ.1),154⟩,⟨cr,cellsN .u64 16 fun _ => 0,94⟩,⟨cb,cellsN .u64 16 (dg D16 m),94⟩,⟨ca,cellsN .u64 16 (dg D16 a),94⟩])
  (fun τ => 16 - τ.1) (0,bit) ⟨by simp,hbit,by simp only [hi_zero]⟩ (by repeat constructor) (fun _ h => by simpa only [fillN_zero] using h) ?_
 rintro ⟨i,c⟩ ⟨hi16,hc1,hic⟩
 simp only at hi16 hc1 hic ⊢
 have hA := dlt16 a i
 by_cases hlt : i < 16
 ·obtain ⟨p1,p2⟩ := twice16 hic
  repeat' first | (refine Wl.indexA rfl rfl rfl ?_ ?_;omega) | (apply Wl.loadN;exact rfl;exact rfl;(focus repeat constructor);omega) | (apply Wl.storeN;exact rfl;exact rfl;(focus repeat constructor);omega) | (apply Wl.addNU;exact rfl;exact rfl;exact rfl;(first | assumption | omega)) | (apply Wl.mulNU (m := 2);exact rfl;exact rfl;exact rfl;omega) | (apply Wl.quoN (n := 65536);exact rfl;exact rfl;exact rfl;(decide);(first | exact IntWalk.u64_in _ (by omega) | exact IntWalk.i64_in _ (by omega))) | (apply Wl.remN (n := 65536);exact rfl;exact rfl;exact rfl;(decide)) | refine Wl.move rfl rfl ?_ | refine Wl.assign rfl rfl ?_ | refine Wl.lss rfl rfl rfl ?_ | (refine Wl.addI rfl rfl rfl ?_ ?_;constructor <;> omega) | apply Wl.nil | apply St.seq | apply St.block | apply St.region | apply St.skip | apply Gt.next | apply Gt.inNormal | (apply St.condP;exact rfl;all_goals (intros;try (exfalso;omega)))
  rw [p1]
  apply Gt.round (i + 1,(2 * dg D16 a i + c) / 65536)
  rotate_left
  ·simp only;omega
  ·repeat constructor
  ·exact fun _ h => by rw [fillN_step] at h;exact h
  ·exact ⟨by simp only;omega,by simp only;omega,p2⟩
 ·have hie : i = 16 := by omega
  subst hie
  have hc : c = dg D16 (2 * a + bit) 16 := by
   rw [hi16_lt (show a < W256 by omega),Nat.mul_zero,Nat.zero_add] at hic
   unfold dg
   rw [hic,Nat.mod_eq_of_lt (by unfold D16;omega)]
  repeat' first | (apply Wl.indexA (j := 16);exact rfl;exact rfl;exact rfl;(decide)) | (apply Wl.storeN;exact rfl;exact rfl;(focus repeat constructor);omega) | (apply Wl.loadW;exact rfl;exact rfl;(focus repeat constructor);exact rfl) | refine Wl.move rfl rfl ?_ | refine Wl.lss rfl rfl rfl ?_ | apply Wl.nil | apply St.seq | apply St.region | (apply St.condF;exact rfl;(with_reducible first | rfl | assumption | decide)) | apply St.exit | apply Gt.next | apply Gt.thenExit | apply Gt.inExit
  subst hc
  rw [fillN_step,fillN_end]
  apply Wl.callQ
  exact rfl
  (focus repeat constructor)
  ·intro wq hq
   exact hq.q (refLess (2 * a + bit) m wq hm hT)
  by_cases hTm : 2 * a + bit < m
  ·have ht : decide (2 * a + bit < m) = true := by simp [hTm]
   rw [ht]
   repeat' first | (apply Wl.sliceArrF (h' := 16);exact rfl;exact rfl;exact rfl;(decide);(decide)) | (apply Wl.sliceToArr;exact rfl;exact rfl;(decide)) | (apply Wl.loadT;exact rfl;exact rfl;(focus repeat constructor);(decide)) | (apply Gt.outN;exact rfl;infer_instance;exact rfl;(focus repeat constructor);exact rfl;intro w' hp) | (apply Wl.storeW;exact rfl;exact rfl;(focus repeat constructor);exact rfl;(first | exact cellsN_len _ _ _ | exact rfl)) | refine Wl.not rfl rfl ?_ | apply Wl.nil | apply St.seq | apply St.region | (apply St.condF;exact rfl;(with_reducible first | rfl | assumption | decide)) | apply St.ret | apply St.skip | apply Gt.next
   refine ⟨?_,hp.drop (by simp;omega)⟩
   rw [hon,if_neg (by omega)]
  ·have ht : decide (2 * a + bit < m) = false := by simp [hTm]
   rw [ht]
   repeat' first | (apply Wl.loadW;exact rfl;exact rfl;(focus repeat constructor);exact rfl) | refine Wl.not rfl rfl ?_ | apply Wl.nil | apply St.region | (apply St.condT;exact rfl;(with_reducible first | rfl | assumption | decide)) | apply Gt.next
   apply Wl.callQ
   exact rfl
   (focus repeat constructor)
   ·intro wq hq
    exact hq.q (refTake (2 * a + bit) m wq hm hT (by omega))
   repeat' first | (apply Wl.sliceArrF (h' := 16);exact rfl;exact rfl;exact rfl;(decide);(decide)) | (apply Wl.sliceToArr;exact rfl;exact rfl;(decide)) | (apply Wl.loadT;exact rfl;exact rfl;(focus repeat constructor);(decide)) | (apply Gt.outN;exact rfl;infer_instance;exact rfl;(focus repeat constructor);exact rfl;intro w' hp) | (apply Wl.storeW;exact rfl;exact rfl;(focus repeat constructor);exact rfl;(first | exact cellsN_len _ _ _ | exact rfl)) | apply Wl.nil | apply St.seq | apply St.region | apply St.ret | apply Gt.next
   refine ⟨?_,hp.drop (by simp;omega)⟩
   rw [hon,if_pos (by omega)]
end Go.Proofs.YtmjlceimjlabpaaDoor
end
section
namespace Go.Proofs.YtmjlceimjlabpaaDoor
open Go.RowKit Go.Pt
set_option maxHeartbeats 2000000 in
theorem refAdd (a b m : Nat) (w : World) (hm : m < W256) (ha : a < m) (hb : b < m) :
  Calls Tryd.prog 83 #[num16 a,num16 b,num16 m] w fun e w' => e = .returned (num16 ((a + b) % m)) ∧ Hp w [] w' := by
 refine enter (args := [_,_,_]) (Γ := [(0,_),(1,_),(2,_)]) Tryd.func83 Tryd.ntmps83 rfl (of_decide_eq_true rfl) (.cons rfl (.cons rfl (.cons rfl .nil))) ?_
 have hT2 : a + b < 2 * m := by omega
 have hT : a + b < D16 ^ 17 := Nat.lt_of_lt_of_le hT2 (Nat.le_trans (Nat.mul_le_mul_left 2 (Nat.le_of_lt hm)) (by decide))
 have hon := once hT2
 repeat' first | (apply Wl.boxN;exact rfl;exact rfl;intro c hc ho) | (apply Wl.allocN;exact rfl;(first | exact z8 | exact z16 | exact z17 | exact z33 | exact z10);intro c hc ho) | refine Wl.assign rfl rfl ?_ | apply Wl.nil | apply St.seq | apply St.block | apply St.region | apply Gt.next
 rename_i ca hca hoa cb hcb hob cm hcm hom cr hcr hor
 generalize c = ct at *
 refine St.loop (σ := Nat × Nat) (fun τ => τ.1 ≤ 16 ∧ τ.2 ≤ 1 ∧ hi D16 (a + b) τ.1 = hi D16 a τ.1 + hi D16 b τ.1 + τ.2)
  (fun τ => [(3,mp ca),(4,mp cb),(5,mp cm),(6,mp cr),(7,mp ct),(8,.int .u64 τ.2),(9,.int .i64 τ.1)])
  (fun τ => Hp w [⟨ct,cellsN .u64 17 (fillN (fun _ => 0) (dg D16 (a + b)) τ.1),154⟩,⟨cr,cellsN .u64 16 fun _ => 0,94⟩,⟨cm,cellsN .u64 16 (dg D16 m),94⟩,⟨cb,cellsN .u64 16 (dg D16 b),94⟩,⟨ca,cellsN .u64 16 (dg D16 a),94⟩])
  (fun τ => 16 - τ.1) (0,0) ⟨by simp,by simp,by simp [hi_zero]⟩ (by repeat constructor) (fun _ h => by simpa only [fillN_zero] using h) ?_
 rintro ⟨i,c⟩ ⟨hi16,hc1,hic⟩
 simp only at hi16 hc1 hic ⊢
 have hA := dlt16 a i
 have hB := dlt16 b i
 by_cases hlt : i < 16
 ·obtain ⟨p1,p2⟩ := add16 hic
  repeat' first | (refine Wl.indexA rfl rfl rfl ?_ ?_;omega) | (apply Wl.loadN;exact rfl;exact rfl;(focus repeat constructor);omega) | (apply Wl.storeN;exact rfl;exact rfl;(focus repeat constructor);omega) | (apply Wl.addNU;exact rfl;exact rfl;exact rfl;(first | assumption | omega)) | (apply Wl.quoN (n := 65536);exact rfl;exact rfl;exact rfl;(decide);(first | exact IntWalk.u64_in _ (by omega) | exact IntWalk.i64_in _ (by omega))) | (apply Wl.remN (n := 65536);exact rfl;exact rfl;exact rfl;(decide)) | refine Wl.move rfl rfl ?_ | refine Wl.assign rfl rfl ?_ | refine Wl.lss rfl rfl rfl ?_ | (refine Wl.addI rfl rfl rfl ?_ ?_;constructor <;> omega) | apply Wl.nil | apply Wl.nilQ | apply St.seq | apply St.block | apply St.region | (apply St.draw;exact mixed;(kernel_rfl);exact (fun _ h => Hp.drew h)) | apply St.skip | apply Gt.next | apply Gt.inNormal | (apply St.condP;exact rfl;all_goals (intros;try (exfalso;omega)))
  rw [p1]
  apply Gt.round (i + 1,(dg D16 a i + dg D16 b i + c) / 65536)
  rotate_left
  ·simp only;omega
  ·repeat constructor
  ·exact fun _ h => by rw [fillN_step] at h;exact h
  ·exact ⟨by simp only;omega,by simp only;omega,p2⟩
 ·have hie : i = 16 := by omega
  subst hie
  have hc : c = dg D16 (a + b) 16 := by
   rw [hi16_lt (show a < W256 by omega),hi16_lt (show b < W256 by omega),Nat.zero_add] at hic
   unfold dg
   rw [hic,Nat.mod_eq_of_lt (by unfold D16;omega)]
   try omega
  repeat' first | (apply Wl.indexA (j := 16);exact rfl;exact rfl;exact rfl;(decide)) | (apply Wl.storeN;exact rfl;exact rfl;(focus repeat constructor);omega) | (apply Wl.loadW;exact rfl;exact rfl;(focus repeat constructor);exact rfl) | refine Wl.move rfl rfl ?_ | refine Wl.lss rfl rfl rfl ?_ | apply Wl.nil | apply St.seq | apply St.region | (apply St.condF;exact rfl;(with_reducible first | rfl | assumption | decide)) | apply St.exit | apply Gt.next | apply Gt.thenExit | apply Gt.inExit
  subst hc
  rw [fillN_step,fillN_end]
  apply Wl.callQ
  exact rfl
  (focus repeat constructor)
  ·intro wq hq
   exact hq.q (refLess (a + b) m wq hm hT)
  by_cases hTm : a + b < m
  ·have ht : decide (a + b < m) = true := by simp [hTm]
   rw [ht]
   repeat' first | (apply Wl.sliceArrF (h' := 16);exact rfl;exact rfl;exact rfl;(decide);(decide)) | (apply Wl.sliceToArr;exact rfl;exact rfl;(decide)) | (apply Wl.loadT;exact rfl;exact rfl;(focus repeat constructor);(decide)) | (apply Gt.outN;exact rfl;infer_instance;exact rfl;(focus repeat constructor);exact rfl;intro w' hp) | (apply Wl.storeW;exact rfl;exact rfl;(focus repeat constructor);exact rfl;(first | exact cellsN_len _ _ _ | exact rfl)) | refine Wl.not rfl rfl ?_ | apply Wl.nil | apply St.seq | apply St.region | (apply St.condF;exact rfl;(with_reducible first | rfl | assumption | decide)) | apply St.ret | apply St.skip | apply Gt.next
   refine ⟨?_,hp.drop (by simp;omega)⟩
   rw [hon,if_neg (by omega)]
  ·have ht : decide (a + b < m) = false := by simp [hTm]
   rw [ht]
   repeat' first | (apply Wl.loadW;exact rfl;exact rfl;(focus repeat constructor);exact rfl) | refine Wl.not rfl rfl ?_ | apply Wl.nil | apply St.region | (apply St.condT;exact rfl;(with_reducible first | rfl | assumption | decide)) | apply Gt.next
   apply Wl.callQ
   exact rfl
   (focus repeat constructor)
   ·intro wq hq
    exact hq.q (refTake (a + b) m wq hm hT (by omega))
   repeat' first | (apply Wl.sliceArrF (h' := 16);exact rfl;exact rfl;exact rfl;(decide);(decide)) | (apply Wl.sliceToArr;exact rfl;exact rfl;(decide)) | (apply Wl.loadT;exact rfl;exact rfl;(focus repeat constructor);(decide)) | (apply Gt.outN;exact rfl;infer_instance;exact rfl;(focus repeat constructor);exact rfl;intro w' hp) | (apply Wl.storeW;exact rfl;exact rfl;(focus repeat constructor);exact rfl;(first | exact cellsN_len _ _ _ | exact rfl)) | apply Wl.nil | apply St.seq | apply St.region | apply St.ret | apply Gt.next
   refine ⟨?_,hp.drop (by simp;omega)⟩
   rw [hon,if_pos (by omega)]
theorem z16' : cellsN .u64 16 (fun _ => 0) = cellsN .u64 16 (dg D16 0) := cellsN_congr fun j _ => by unfold dg hi;simp
set_option maxHeartbeats 2000000 in
theorem refReduce (a m : Nat) (w : World) (ha : a < W256) (hm : m < W256) (h0 : 0 < m) :
  Calls Tryd.prog 51 #[num16 a,num16 m] w fun e w' => e = .returned (num16 (a % m)) ∧ Hp w [] w' := by
 refine enter (args := [_,_]) (Γ := [(0,_),(1,_)]) Tryd.func51 Tryd.ntmps51 rfl (of_decide_eq_true rfl) (.cons rfl (.cons rfl .nil)) ?_
 repeat' first | (apply Wl.boxN;exact rfl;exact rfl;intro c hc ho) | (apply Wl.allocN;exact rfl;(first | exact z8 | exact z16 | exact z17 | exact z33 | exact z10);intro c hc ho) | refine Wl.assign rfl rfl ?_ | apply Wl.nil | apply St.seq | apply St.block | apply St.region | apply Gt.next
 rename_i ca hca hoa cm hcm hom cr hcr hor
 generalize c = cx at *
 have e256 : a / 2 ^ 256 % m = 0 := by
  rw [Nat.div_eq_of_lt (Nat.lt_of_lt_of_eq ha (by decide)),Nat.zero_mod]
 refine St.loop (σ := Nat) (fun n => n ≤ 256)
  (fun n => [(2,mp ca),(3,mp cm),(4,mp cr),(5,mp cx),(6,.int .i64 ((n : Int) - 1))])
  (fun n => Hp w [⟨cx,cellsN .u64 16 (dg D16 (a / 2 ^ n % m)),94⟩,⟨cr,cellsN .u64 16 fun _ => 0,94⟩,⟨cm,cellsN .u64 16 (dg D16 m),94⟩,⟨ca,cellsN .u64 16 (dg D16 a),94⟩])
  (fun n => n) 256 (Nat.le_refl _) (by repeat constructor) (fun _ h => by
   show Hp w [⟨cx,cellsN .u64 16 (dg D16 (a / 2 ^ 256 % m)),_⟩,_,_,_] _
   rw [e256,← z16'];exact h) ?_
 intro n hn
 cases n with
 | zero =>
  rw [Nat.pow_zero,Nat.div_one]
  repeat' first | (apply Gt.outN;exact rfl;infer_instance;exact rfl;(focus repeat constructor);exact rfl;intro w' hp) | (apply Wl.loadW;exact rfl;exact rfl;(focus repeat constructor);exact rfl) | (apply Wl.storeW;exact rfl;exact rfl;(focus repeat constructor);exact rfl;(first | exact cellsN_len _ _ _ | exact rfl)) | refine Wl.move rfl rfl ?_ | refine Wl.geq rfl rfl rfl ?_ | apply Wl.nil | apply St.seq | apply St.region | (apply St.condF;exact rfl;(with_reducible first | rfl | assumption | decide)) | apply St.ret | apply St.exit | apply Gt.next | apply Gt.thenExit | apply Gt.inExit
  exact ⟨rfl,hp.drop (by simp;omega)⟩
 | succ i =>
  have ei : (((i + 1 : Nat) : Int) - 1) = (i : Int) := by omega
  rw [ei]
  have hr := Nat.mod_lt (a / 2 ^ (i + 1)) h0
  have hh := horner a m i
  have hbit := bit_dg16 a i
  have hd := dlt16 a (i / 16)
  have h16 : i / 16 < 16 := by omega
  have hb2 := Nat.mod_lt (a / 2 ^ i) (show 0 < 2 by decide)
  generalize hre : a / 2 ^ (i + 1) % m = r at *
  repeat' first | refine Wl.move rfl rfl ?_ | refine Wl.geq rfl rfl rfl ?_ | apply Wl.nil | apply St.seq | apply St.block | apply St.region | apply St.skip | apply Gt.next | (apply St.condP;exact rfl;all_goals (intros;try (exfalso;omega)))
  refine St.tree (Hp w [_,_,_]) mixed (fun _ h => ⟨Hp.drew h,hpPop (Hp.drew h) (by simp only;omega)⟩) ?_
  refine Mt.pure 1 (by decide +kernel) (by exact rfl) (by exact rfl) (by decide +kernel) (by decide +kernel) ?_
  repeat' first | (apply Wl.loadW;exact rfl;exact rfl;(focus repeat constructor);exact rfl) | apply Wl.nilM
  apply Mt.back
  refine Mt.pure 2 (by decide +kernel) (by exact rfl) (by exact rfl) (by decide +kernel) (by decide +kernel) ?_
  repeat' first | refine Wl.move rfl rfl ?_ | apply Wl.nilM
  apply Mt.back
  refine Mt.pure 3 (by decide +kernel) (by exact rfl) (by exact rfl) (by decide +kernel) (by decide +kernel) ?_
  repeat' first | (apply Wl.quoN (n := 16);exact rfl;exact rfl;exact rfl;(decide);(first | exact IntWalk.u64_in _ (by omega) | exact IntWalk.i64_in _ (by omega))) | apply Wl.nilM
  apply Mt.back
  refine Mt.pure 4 (by decide +kernel) (by exact rfl) (by exact rfl) (by decide +kernel) (by decide +kernel) ?_
  repeat' first | (refine Wl.indexA rfl rfl rfl ?_ ?_;omega) | apply Wl.nilM
  apply Mt.back
  refine Mt.pure 5 (by decide +kernel) (by exact rfl) (by exact rfl) (by decide +kernel) (by decide +kernel) ?_
  repeat' first | (apply Wl.loadN;exact rfl;exact rfl;(focus repeat constructor);omega) | apply Wl.nilM
  apply Mt.back
  refine Mt.pure 6 (by decide +kernel) (by exact rfl) (by exact rfl) (by decide +kernel) (by decide +kernel) ?_
  repeat' first | refine Wl.move rfl rfl ?_ | apply Wl.nilM
  apply Mt.back
  refine Mt.pure 7 (by decide +kernel) (by exact rfl) (by exact rfl) (by decide +kernel) (by decide +kernel) ?_
  repeat' first | (apply Wl.remN (n := 16);exact rfl;exact rfl;exact rfl;(decide)) | apply Wl.nilM
  apply Mt.back
  refine Mt.pure 8 (by decide +kernel) (by exact rfl) (by exact rfl) (by decide +kernel) (by decide +kernel) ?_
  repeat' first | (apply Wl.shrV;exact rfl;exact rfl;exact rfl;(first | (show _ ≤ 32;omega) | (show _ ≤ 64;omega))) | apply Wl.nilM
  apply Mt.back
  refine Mt.pure 9 (by decide +kernel) (by exact rfl) (by exact rfl) (by decide +kernel) (by decide +kernel) ?_
  repeat' first | (apply Wl.remN (n := 2);exact rfl;exact rfl;exact rfl;(decide)) | apply Wl.nilM
  apply Mt.back
  refine Mt.eff1 (i := 0) (by decide +kernel) (by exact rfl) ?_
  repeat' first | (apply Wl.loadW;exact rfl;exact rfl;(focus repeat constructor);exact rfl) | apply Wl.nil
  refine Mt.backE (fun _ h => by first | exact h | exact hpPop h (by simp only;omega)) ?_
  rw [hbit]
  refine Mt.eff1 (i := 10) (by decide +kernel) (by exact rfl) ?_
  apply Wl.callQ
  exact rfl
  (focus repeat constructor)
  ·intro wq hq
   exact hq.q (refTwice r m (a / 2 ^ i % 2) wq hm hr (by omega))
  rw [hh]
  repeat' first | apply Wl.nil
  refine Mt.backE (fun _ h => by first | exact h | exact hpPop h (by simp only;omega)) ?_
  refine Mt.eff1 (i := 11) (by decide +kernel) (by exact rfl) ?_
  repeat' first | (apply Wl.storeW;exact rfl;exact rfl;(focus repeat constructor);exact rfl;(first | exact cellsN_len _ _ _ | exact rfl)) | apply Wl.nil
  refine Mt.backE (fun _ h => by first | exact h | exact hpPop h (by simp only;omega)) ?_
  refine Mt.toGt (by decide +kernel) ?_
  repeat' first | refine Wl.move rfl rfl ?_ | refine Wl.assign rfl rfl ?_ | (refine Wl.subI rfl rfl rfl ?_ ?_;constructor <;> omega) | apply Wl.nil | apply St.region | apply Gt.next | apply Gt.inNormal
  apply Gt.round i
  rotate_left
  ·simp
  ·repeat constructor
  ·exact fun _ h => h
  ·omega
set_option maxHeartbeats 2000000 in
theorem refR (m : Nat) (w : World) (hm : m < W256) (h1 : 1 < m) :
  Calls Tryd.prog 82 #[num16 m] w fun e w' => e = .returned (num16 (W256 % m)) ∧ Hp w [] w' := by
 refine enter (args := [_]) (Γ := [(0,_)]) Tryd.func82 Tryd.ntmps82 rfl (of_decide_eq_true rfl) (.cons rfl .nil) ?_
 repeat' first | (apply Wl.loadW;exact rfl;exact rfl;(focus repeat constructor);exact rfl) | (apply Wl.boxN;exact rfl;exact rfl;intro c hc ho) | (apply Wl.buildN;exact rfl;(repeat (first | exact Parts.nil | apply Parts.cons rfl));(repeat (first | apply Fills.nil | (apply Fills.one;exact rfl;exact rfl;(repeat (first | apply LSet.z | apply LSet.s))) | (apply Fills.agg;exact rfl;exact rfl;(repeat (first | apply LPut.s | apply LPut.z | apply LOver.nil | apply LOver.cons)))));(first | exact one8 | exact zero8 | exact two8 | exact one16)) | (apply Wl.allocN;exact rfl;(first | exact z8 | exact z16 | exact z17 | exact z33 | exact z10);intro c hc ho) | apply Wl.nil | apply St.seq | apply St.region | apply Gt.next
 apply Wl.callQ
 exact rfl
 (focus repeat constructor)
 ·intro wq hq
  exact hq.q (refReduce 1 m wq (by decide) hm (by omega))
 repeat' first | (apply Wl.storeW;exact rfl;exact rfl;(focus repeat constructor);exact rfl;(first | exact cellsN_len _ _ _ | exact rfl)) | (apply Wl.allocN;exact rfl;(first | exact z8 | exact z16 | exact z17 | exact z33 | exact z10);intro c hc ho) | refine Wl.assign rfl rfl ?_ | apply Wl.nil | apply St.seq | apply St.block | apply St.region | apply Gt.next
 rename_i ca hca hoa cr hcr hor
 generalize c = cx at *
 refine St.loop (σ := Nat) (fun i => i ≤ 256)
  (fun i => [(1,mp ca),(2,mp cr),(3,mp cx),(4,.int .i64 i)])
  (fun i => Hp w [⟨cx,cellsN .u64 16 (dg D16 (2 ^ i % m)),94⟩,⟨cr,cellsN .u64 16 fun _ => 0,94⟩,⟨ca,cellsN .u64 16 (dg D16 m),94⟩])
  (fun i => 256 - i) 0 (by simp) (by repeat constructor) (fun _ h => h) ?_
 intro i hi
 have hr : 2 ^ i % m < m := Nat.mod_lt _ (by omega)
 have e2 : (2 * (2 ^ i % m) + 0) % m = 2 ^ (i + 1) % m := by rw [Nat.add_zero,Nat.pow_succ',Nat.mul_mod,Nat.mod_mod,← Nat.mul_mod]
 by_cases hlt : i < 256
 ·repeat' first | (apply Wl.loadW;exact rfl;exact rfl;(focus repeat constructor);exact rfl) | refine Wl.move rfl rfl ?_ | refine Wl.lss rfl rfl rfl ?_ | apply Wl.nil | apply St.seq | apply St.block | apply St.region | apply St.skip | apply Gt.next | (apply St.condP;exact rfl;all_goals (intros;try (exfalso;omega)))
  apply Wl.callQ
  exact rfl
  (focus repeat constructor)
  ·intro wq hq
   exact hq.q (refTwice (2 ^ i % m) m 0 wq hm hr (by decide))
  rw [e2]
  repeat' first | (apply Wl.storeW;exact rfl;exact rfl;(focus repeat constructor);exact rfl;(first | exact cellsN_len _ _ _ | exact rfl)) | refine Wl.move rfl rfl ?_ | refine Wl.assign rfl rfl ?_ | (refine Wl.addI rfl rfl rfl ?_ ?_;constructor <;> omega) | apply Wl.nil | apply St.region | apply Gt.next | apply Gt.inNormal
  apply Gt.round (i + 1)
  rotate_left
  ·omega
  ·repeat constructor
  ·exact fun _ h => h
  ·omega
 ·have hie : i = 256 := by omega
  rw [hie] at *
  repeat' first | (apply Gt.outN;exact rfl;infer_instance;exact rfl;(focus repeat constructor);exact rfl;intro w' hp) | (apply Wl.loadW;exact rfl;exact rfl;(focus repeat constructor);exact rfl) | (apply Wl.storeW;exact rfl;exact rfl;(focus repeat constructor);exact rfl;(first | exact cellsN_len _ _ _ | exact rfl)) | refine Wl.move rfl rfl ?_ | refine Wl.lss rfl rfl rfl ?_ | apply Wl.nil | apply St.seq | apply St.region | (apply St.condF;exact rfl;(with_reducible first | rfl | assumption | decide)) | apply St.ret | apply St.exit | apply Gt.next | apply Gt.thenExit | apply Gt.inExit
  exact ⟨by rw [show W256 = 2 ^ 256 by decide],hp.drop (by simp;omega)⟩
end Go.Proofs.YtmjlceimjlabpaaDoor
end
section
namespace Go.Pt
end Go.Pt
namespace Go.Proofs.YtmjlceimjlabpaaDoor
open Go.RowKit Go.Pt
end Go.Proofs.YtmjlceimjlabpaaDoor
end
section
namespace Go.Proofs.YtmjlceimjlabpaaDoor
open Go.RowKit Go.Pt
end Go.Proofs.YtmjlceimjlabpaaDoor
end
section
namespace Go.Pt
theorem hpRb {w0 w : World} {H : List Blk} (h : Hp w0 H w) : Hp w H w := ⟨Upd.refl _ _,h.own,h.apart⟩
theorem hpNewer {w0 w w' : World} {H : List Blk} (h : Hp w0 H w) (u : Upd (fun k => w.heap.size ≤ k) w w') : Hp w0 H w' :=
 h.step u (fun x hx hle => by have := h.own.lt hx;omega) (fun k hk hle => by have := h.upd.size;omega)
theorem hpOn {w w1 w2 : World} {H : List Blk} (h : Hp w1 H w2) (hu : Upd (fun k => w.heap.size ≤ k) w w1) (hH : ∀ x ∈ H,w.heap.size ≤ x.b) : Upd (fun k => w.heap.size ≤ k) w w2 :=
 hu.comp h.upd fun j _ hs => hs.elim id fun y => Classical.byContradiction fun hlt => y (Off.of fun x hx e => by have := hH x hx;omega)
theorem hpFin {w w1 w' : World} {H : List Blk} (hp : Hp w1 H w') (hu : Upd (fun k => w.heap.size ≤ k) w w1) (hH : ∀ x ∈ H,w.heap.size ≤ x.b) : Hp w [] w' := hpNewer (hpNil w) (hpOn hp hu hH)
end Go.Pt
namespace Go.Proofs.YtmjlceimjlabpaaDoor
open Go.RowKit Go.Pt
theorem outIn {m a : Nat} (h : m % 2 = 1) : a * W256 % m * rinv m % m = a % m := by rw [Nat.mod_mul_mod];exact inW h
end Go.Proofs.YtmjlceimjlabpaaDoor
end
