/-
  manifest.Decode: a manifest out of bytes. Conditions: the bytes are few.
-/
import Derived.Test.YthdojhldiinkcaaMDec0
namespace Go.Proofs.Ythdojhldiinkcaa
open Go.RowKit Go.Pt

def decErr (f : List UInt8) : Nat := match decM f with | none => 3 | some m => rightOf m
def noM : Mf := ⟨0, 0, []⟩
def decMan (f : List UInt8) : Mf := match decM f with | none => noM | some m => if rightOf m = 0 then m else noM
def noV : Value := .agg #[.int .u32 0, .int .i64 0, .slice none 0 0]
theorem noM_v (w : World) : MfV w noV noM := ⟨_, [], rfl, rfl, Sv.nil w 36, fun x hx => (by cases hx), by decide, by unfold I64; decide⟩
def DecPost (f : List UInt8) (w : World) (e : Ending) (w' : World) : Prop := ∃ x, e = .returned (.tuple #[x, .int .i64 (decErr f)]) ∧ MfV w' x (decMan f) ∧ Upd (fun k => w.heap.size ≤ k) w w'
theorem decPost_none {f : List UInt8} {w w' : World} (h : decM f = none) (hu : Upd (fun k => w.heap.size ≤ k) w w') : DecPost f w (.returned (.tuple #[noV, .int .i64 3])) w' :=
  ⟨_, by unfold decErr; rw [h]; rfl, by unfold decMan; rw [h]; exact noM_v w', hu⟩
theorem _root_.Go.Pt.Hp.newer {w0 w w' : World} {H : List Blk} (h : Hp w0 H w) (u : Upd (fun k => w.heap.size ≤ k) w w') : Hp w0 H w' :=
  h.step u (fun x hx hle => by have := h.own.lt hx; omega) (fun k hk hle => by have := h.upd.size; omega)
/-- a slice lies in no block of another type -/
theorem own_ne {w : World} {base e n sz c T : Nat} {cs : Array Value} {fr : Nat × Nat} {v : Value} {xs : List Value} (h : w.ownsRow base e sz v n xs) (hc : w.heap[c]? = some (.cells cs T fr)) (hT : T ≠ e) : v.ownBlock ≠ some c := fun e' => by
  obtain ⟨_, h⟩ := h
  rcases h with ⟨rfl, _⟩ | ⟨g, cap, cur, rfl, _, hh, _⟩
  · cases e'
  · simp only [Value.ownBlock, Option.some.injEq] at e'
    subst e'
    rw [hh] at hc
    simp only [Option.some.injEq, Obj.cells.injEq] at hc
    exact hT hc.2.1.symm
theorem u8_pos (c : Nat) (v0 v : Value) (f : List UInt8) (k : Nat) (w : World) (h : w.heap[c]? = some (.cells #[v, .bool (decide (f.length < k))] 75 (0,0))) (hb : Bs w v0 f) (hv : Left v0 f v k) :
    Calls Try.prog 20 #[.pointer (some ⟨c, 0, none⟩)] w fun e w' => ∃ v', e = .returned (.int .i64 (num f k 1)) ∧ Hp w [⟨c, [v', .bool (decide (f.length < k + 1))], 75⟩] w' ∧ Left v0 f v' (k + 1) := by
  refine (u8_at c v (f.drop k) _ w (cTake_pos f k 1) rfl h (hv w hb)).mono ?_
  rintro e w' ⟨v', rfl, hp, hx⟩
  exact ⟨v', rfl, hp, fun u hu => hx u (hv u hu)⟩
theorem digcopy (f : List UInt8) (k : Nat) (r : List Value) : byteCells (part f k 32) ++ (byteCells (List.replicate 32 0) ++ r).drop (part f k 32).length = byteCells (digAt f k) ++ r := by
  unfold digAt
  by_cases h : k + 32 ≤ f.length
  · rw [if_pos h]
    have : (part f k 32).length = 32 := by unfold part; rw [if_pos h]; simp; omega
    rw [this, List.drop_left' (by rfl)]
  · rw [if_neg h]
    have : part f k 32 = [] := by unfold part; rw [if_neg h]
    rw [this]
    rfl
theorem digAt_len (f : List UInt8) (k : Nat) : (digAt f k).length = 32 := by
  unfold digAt
  by_cases h : k + 32 ≤ f.length
  · rw [if_pos h]; unfold part; rw [if_pos h]; simp; omega
  · rw [if_neg h]; rfl
/-- a payload read: its grants lie in memory of their own -/
def PyD (base : Nat) (w : World) (x : Py × Value) : Prop := w.ownsRow base 99 3 x.2 x.1.grants.length (x.1.grants.flatMap grCells) ∧ PyFit x.1
theorem PyD.v {base : Nat} {w : World} {x : Py × Value} (h : PyD base w x) : PyV w x := by
  obtain ⟨h1, h2, h3, h4, h5, h6, h7, h8⟩ := h
  refine ⟨Sv.ofOwn h1, h2, h3, h4, by unfold I64; omega, fun g hg => ?_, by omega⟩
  obtain ⟨a1, a2, a3, a4⟩ := h8 g hg
  exact ⟨a1, a2, by unfold I64; omega⟩
theorem own_base {w : World} {base base' e sz n : Nat} {v : Value} {xs : List Value} (h : w.ownsRow base e sz v n xs) (hb : base' ≤ base) : w.ownsRow base' e sz v n xs := by
  obtain ⟨h1, h2⟩ := h
  refine ⟨h1, ?_⟩
  rcases h2 with h2 | ⟨g, cap, cur, e1, h3, r⟩
  · exact .inl h2
  · exact .inr ⟨g, cap, cur, e1, Nat.le_trans hb h3, r⟩
theorem own_ne2 {w : World} {base e n sz base' e' n' sz' : Nat} {v v' : Value} {xs xs' : List Value} (h : w.ownsRow base e sz v n xs) (h' : w.ownsRow base' e' sz' v' n' xs') (hT : e ≠ e') {k : Nat} (hk : v.ownBlock = some k) : v'.ownBlock ≠ some k := by
  obtain ⟨_, h⟩ := h
  rcases h with ⟨rfl, _⟩ | ⟨g, cap, cur, rfl, _, hh, _⟩
  · cases hk
  · simp only [Value.ownBlock, Option.some.injEq] at hk
    subst hk
    exact own_ne h' hh hT
theorem own_off {w : World} {base e n sz : Nat} {v : Value} {xs : List Value} (h : w.ownsRow base e sz v n xs) {H : List Blk} (ho : Own w H) (hT : (H.all fun x => !Nat.beq x.t e) = true) {q : Nat} (hq : v.ownBlock = some q) : Off H q :=
  Off.of fun x hx e' => by
    have h1 := List.all_eq_true.1 hT x hx
    refine own_ne h (ho.at hx) (fun e'' => ?_) (e' ▸ hq)
    rw [e''] at h1
    simp at h1
theorem num1 (f : List UInt8) (k : Nat) : num f k 1 < 256 := num_lt f k 1

set_option maxHeartbeats 4000000 in
theorem decode_any (v : Value) (f : List UInt8) (w : World) (hv : Bs w v f) (h3 : f.length ≤ 3000) :
    Calls Try.prog 43 #[v] w (DecPost f w) := by
  obtain ⟨a, cap, rfl, hlc, hm⟩ := hv.shape
  unfold maxLen at hm
  refine enter (args := [_]) (Γ := [(0, _)]) Try.func43 Try.ntmps43 rfl (of_decide_eq_true rfl) (.cons rfl .nil) ?_
  repeat' (first | (apply Wl.move; exact rfl; exact rfl) | (apply Wl.assign; exact rfl; exact rfl) | (apply Wl.alloc; exact rfl; intro c hc ho) | (apply Wl.nil) | (apply St.seq) | (apply St.region) | (apply Gt.next) | (apply Wl.splitP; exact rfl; exact rfl; all_goals (intros; try (exfalso; omega))) | (apply Wl.splitB; exact rfl; exact rfl; all_goals intros) | (apply St.condP; exact rfl; all_goals (intros; try (exfalso; omega))) | (apply St.condB; exact rfl; all_goals intros))
  rename_i c2 hc2 ho2
  generalize c = c4 at *
  have hc4 : w.heap.size ≤ c4 := hc
  apply Wl.callC
  exact rfl
  (repeat (first | exact Evs.nil | apply Evs.cons rfl))
  intro w1 h1
  refine (at_pos _ f w1 (hv.upd h1.upd fun j _ hj _ hno => hno ⟨by simp only; omega, by simp only; omega, trivial⟩)).mono ?_
  rintro e w2 ⟨c5, rfl, hc, h2⟩
  refine ⟨_, _, rfl, h1.callNew h2 hc, ?_⟩
  have hc5 : w.heap.size ≤ c5 := by have := h1.upd.size; omega
  have n45 : c4 < c5 := by have := h1.own.lt (.head _); simp only at this; omega
  have n25 : c2 < c5 := by have := h1.own.lt (.tail _ (.head _)); simp only at this; omega
  clear h1 h2 hc
  have hbw (wq : World) (H : List Blk) (hq : Hp w H wq) (hH : ∀ x ∈ H, w.heap.size ≤ x.b) : Bs wq (.slice a f.length cap) f := hv.upd hq.upd fun j _ hj _ hno => hno (Off.of fun x hx e => by have := hH x hx; omega)
  have hv0 := left0 (.slice a f.length cap) f
  repeat' (first | (apply Wl.move; exact rfl; exact rfl) | (apply Wl.assign; exact rfl; exact rfl) | (apply Wl.nil) | (apply St.seq) | (apply St.region) | (apply Gt.next) | (apply Wl.splitP; exact rfl; exact rfl; all_goals (intros; try (exfalso; omega))) | (apply Wl.splitB; exact rfl; exact rfl; all_goals intros) | (apply St.condP; exact rfl; all_goals (intros; try (exfalso; omega))) | (apply St.condB; exact rfl; all_goals intros))
  apply Wl.callC
  exact rfl
  (repeat (first | exact Evs.nil | apply Evs.cons rfl))
  intro wq hq
  refine (take_pos c5 (.slice a f.length cap) _ f 0 8 wq (hq.own.at (.head _)) (hbw _ _ hq (by simp; omega)) hv0).mono ?_
  rintro e wr ⟨x1, v1, rfl, hp, hv1, hx1⟩
  refine ⟨_, _, rfl, hq.callSet (by (repeat (first | apply HSet.here | apply HSet.there))) hp, ?_⟩
  clear hp hq wq wr
  apply Wl.convBS
  · exact rfl
  · exact rfl
  · exact fun u hu => hx1 u (hbw u _ hu (by simp; omega))
  apply Wl.neqSB (q := manMark)
  · exact rfl
  · exact rfl
  · exact rfl
  repeat' (first | (apply Gt.outCT; exact rfl; infer_instance; exact rfl; exact rfl; (repeat (first | exact List.Mem.head _ | apply List.Mem.tail)); (repeat (first | apply LSub.z | apply LSub.t | apply LSub.s)); intro w' hp) | (apply Wl.move; exact rfl; exact rfl) | (apply Wl.assign; exact rfl; exact rfl) | (apply Wl.storeA; exact rfl; exact rfl; exact rfl; exact rfl; (repeat (first | apply HSet.here | apply HSet.there)); (repeat (first | apply LPut.s | apply LPut.z | apply LOver.nil | apply LOver.cons))) | (apply Wl.buildS; exact rfl; (repeat (first | exact Parts.nil | apply Parts.cons rfl)); (repeat (first | apply Fills.nil | (apply Fills.one; exact rfl; exact rfl; (repeat (first | apply LSet.z | apply LSet.s))) | (apply Fills.agg; exact rfl; exact rfl; (repeat (first | apply LPut.s | apply LPut.z | apply LOver.nil | apply LOver.cons)))))) | (apply Wl.nil) | (apply St.seq) | (apply St.region) | (apply St.ret) | (apply St.skip) | (apply Gt.next) | (apply Gt.thenRet) | (apply Wl.splitP; exact rfl; exact rfl; all_goals (intros; try (exfalso; omega))) | (apply Wl.splitB; exact rfl; exact rfl; all_goals intros) | (apply St.condP; exact rfl; all_goals (intros; try (exfalso; omega))) | (apply St.condB; exact rfl; all_goals intros))
  · refine decPost_none ?_ ((hp.drop (by simp; omega)).upd.mono fun _ _ y => (y trivial).elim)
    unfold decM
    rw [if_neg fun h => ‹part f 0 8 ≠ manMark› h.1]
  have hid : part f 0 8 = manMark := by
    have := ‹¬ part f 0 8 ≠ manMark›
    exact Classical.not_not.1 this
  apply Wl.callC
  exact rfl
  (repeat (first | exact Evs.nil | apply Evs.cons rfl))
  intro wq hq
  refine (u32_pos c5 (.slice a f.length cap) _ f 8 wq (hq.own.at (.head _)) (hbw _ _ hq (by simp; omega)) hv1).mono ?_
  rintro e wr ⟨v2, rfl, hp, hv2⟩
  refine ⟨_, _, rfl, hq.callSet (by (repeat (first | apply HSet.here | apply HSet.there))) hp, ?_⟩
  clear hp hq wq wr
  repeat' (first | (apply Wl.move; exact rfl; exact rfl) | (apply Wl.fieldAddr0; exact rfl; exact rfl) | (apply Wl.store; exact rfl; exact rfl; exact rfl; (repeat (first | apply HSet.here | apply HSet.there)); (repeat (first | apply LSet.z | apply LSet.s))) | (apply Wl.nil) | (apply St.seq) | (apply St.region) | (apply Gt.next) | (apply Wl.splitP; exact rfl; exact rfl; all_goals (intros; try (exfalso; omega))) | (apply Wl.splitB; exact rfl; exact rfl; all_goals intros) | (apply St.condP; exact rfl; all_goals (intros; try (exfalso; omega))) | (apply St.condB; exact rfl; all_goals intros))
  apply Wl.callC
  exact rfl
  (repeat (first | exact Evs.nil | apply Evs.cons rfl))
  intro wq hq
  refine (u8_pos c5 (.slice a f.length cap) _ f 12 wq (hq.own.at (.head _)) (hbw _ _ hq (by simp; omega)) hv2).mono ?_
  rintro e wr ⟨v3, rfl, hp, hv3⟩
  refine ⟨_, _, rfl, hq.callSet (by (repeat (first | apply HSet.here | apply HSet.there))) hp, ?_⟩
  clear hp hq wq wr
  repeat' (first | (apply Wl.move; exact rfl; exact rfl) | (apply Wl.fieldAddrZ; exact rfl; exact rfl) | (apply Wl.store; exact rfl; exact rfl; exact rfl; (repeat (first | apply HSet.here | apply HSet.there)); (repeat (first | apply LSet.z | apply LSet.s))) | (apply Wl.nil) | (apply St.seq) | (apply St.region) | (apply Gt.next) | (apply Wl.splitP; exact rfl; exact rfl; all_goals (intros; try (exfalso; omega))) | (apply Wl.splitB; exact rfl; exact rfl; all_goals intros) | (apply St.condP; exact rfl; all_goals (intros; try (exfalso; omega))) | (apply St.condB; exact rfl; all_goals intros))
  apply Wl.callC
  exact rfl
  (repeat (first | exact Evs.nil | apply Evs.cons rfl))
  intro wq hq
  refine (u8_pos c5 (.slice a f.length cap) _ f 13 wq (hq.own.at (.head _)) (hbw _ _ hq (by simp; omega)) hv3).mono ?_
  rintro e wr ⟨v4, rfl, hp, hv4⟩
  refine ⟨_, _, rfl, hq.callSet (by (repeat (first | apply HSet.here | apply HSet.there))) hp, ?_⟩
  clear hp hq wq wr
  repeat' (first | (apply Wl.move; exact rfl; exact rfl) | (apply Wl.assign; exact rfl; exact rfl) | (apply Wl.nil) | (apply St.seq) | (apply St.region) | (apply Gt.next) | (apply Wl.splitP; exact rfl; exact rfl; all_goals (intros; try (exfalso; omega))) | (apply Wl.splitB; exact rfl; exact rfl; all_goals intros) | (apply St.condP; exact rfl; all_goals (intros; try (exfalso; omega))) | (apply St.condB; exact rfl; all_goals intros))
  apply Wl.callC
  exact rfl
  (repeat (first | exact Evs.nil | apply Evs.cons rfl))
  intro wq hq
  refine (u16_pos c5 (.slice a f.length cap) _ f 14 wq (hq.own.at (.head _)) (hbw _ _ hq (by simp; omega)) hv4).mono ?_
  rintro e wr ⟨v5, rfl, hp, hv5⟩
  refine ⟨_, _, rfl, hq.callSet (by (repeat (first | apply HSet.here | apply HSet.there))) hp, ?_⟩
  clear hp hq wq wr
  have m13 := num1 f 13
  have m12 := num1 f 12
  have m8 := num4 f 8
  have m14 := num2 f 14
  repeat' (first | (apply Gt.outCT; exact rfl; infer_instance; exact rfl; exact rfl; (repeat (first | exact List.Mem.head _ | apply List.Mem.tail)); (repeat (first | apply LSub.z | apply LSub.t | apply LSub.s)); intro w' hp) | (apply Wl.move; exact rfl; exact rfl) | (apply Wl.assign; exact rfl; exact rfl) | (apply Wl.on; exact rfl; exact rfl; (first | with_reducible rfl | with_reducible assumption | decide)) | (apply Wl.off; exact rfl; exact rfl; exact rfl; (first | with_reducible rfl | (show _ = false; with_reducible assumption) | (show _ = true; with_reducible assumption) | decide)) | (apply Wl.pickT; exact rfl; exact rfl; (first | with_reducible rfl | with_reducible assumption | decide); exact rfl) | (apply Wl.pickF; exact rfl; exact rfl; (first | with_reducible rfl | with_reducible assumption | decide); exact rfl) | (apply Wl.neq; exact rfl; exact rfl; exact rfl) | (apply Wl.gtr; exact rfl; exact rfl; exact rfl) | (apply Wl.storeA; exact rfl; exact rfl; exact rfl; exact rfl; (repeat (first | apply HSet.here | apply HSet.there)); (repeat (first | apply LPut.s | apply LPut.z | apply LOver.nil | apply LOver.cons))) | (apply Wl.buildS; exact rfl; (repeat (first | exact Parts.nil | apply Parts.cons rfl)); (repeat (first | apply Fills.nil | (apply Fills.one; exact rfl; exact rfl; (repeat (first | apply LSet.z | apply LSet.s))) | (apply Fills.agg; exact rfl; exact rfl; (repeat (first | apply LPut.s | apply LPut.z | apply LOver.nil | apply LOver.cons)))))) | (apply Wl.nil) | (apply St.seq) | (apply St.block) | (apply St.region) | (apply St.condT; exact rfl; (first | with_reducible rfl | with_reducible assumption | decide)) | (apply St.ret) | (apply St.skip) | (apply Gt.next) | (apply Gt.thenRet) | (apply Wl.splitP; exact rfl; exact rfl; all_goals (intros; try (exfalso; omega))) | (apply Wl.splitB; exact rfl; exact rfl; all_goals intros) | (apply St.condP; exact rfl; all_goals (intros; try (exfalso; omega))) | (apply St.condB; exact rfl; all_goals intros))
  · refine decPost_none ?_ ((hp.drop (by simp; omega)).upd.mono fun _ _ y => (y trivial).elim)
    unfold decM
    rw [if_neg fun h => by omega]
  · refine decPost_none ?_ ((hp.drop (by simp; omega)).upd.mono fun _ _ y => (y trivial).elim)
    unfold decM
    rw [if_neg fun h => by omega]
  have hdm : decM f = match decP f (num f 13 1) 16 with | none => none | some r => if r.2 = f.length then some ⟨num f 8 4, num f 12 1, r.1⟩ else none := by
    unfold decM
    rw [if_pos ⟨hid, by omega, by omega⟩]
    rfl
  generalize hN : num f 13 1 = N at *
  refine St.reb (H' := [⟨c5, [v5, .bool (decide (f.length < 16))], 75⟩, ⟨c4, [.int .u32 (num f 8 4), .int .i64 (num f 12 1), .slice none 0 0], 64⟩, ⟨c2, [.int .u32 0, .int .i64 0, .slice none 0 0], 64⟩]) ?_
  intro wa hwa
  refine ⟨hwa.own, hwa.apart, ?_⟩
  have hua : Upd (fun k => w.heap.size ≤ k) w wa := (hwa.drop (by simp; omega)).upd.mono fun _ _ y => (y trivial).elim
  have howa := hwa.own
  clear hwa hbw hv1 hv2 hv3 hv4 hx1 hid hv0
  refine St.loop (σ := Nat × World × Value × List (Py × Value) × Value × Nat)
    (fun τ => τ.1 ≤ N ∧ Upd (fun k => w.heap.size ≤ k) w τ.2.1 ∧ τ.2.1.ownsRow w.heap.size 97 36 τ.2.2.1 τ.1 (τ.2.2.2.1.flatMap pyCells) ∧ τ.2.2.2.1.length = τ.1 ∧ (∀ x ∈ τ.2.2.2.1, PyD w.heap.size τ.2.1 x) ∧
      decP f N 16 = (decP f (N - τ.1) τ.2.2.2.2.2).map (fun r => (τ.2.2.2.1.map (·.1) ++ r.1, r.2)) ∧ Left (.slice a f.length cap) f τ.2.2.2.2.1 τ.2.2.2.2.2 ∧
      Own τ.2.1 [⟨c5, [τ.2.2.2.2.1, .bool (decide (f.length < τ.2.2.2.2.2))], 75⟩, ⟨c4, [.int .u32 (num f 8 4), .int .i64 (num f 12 1), τ.2.2.1], 64⟩, ⟨c2, [.int .u32 0, .int .i64 0, .slice none 0 0], 64⟩])
    (fun τ => [(2, .pointer (some ⟨c2, 0, none⟩)), (4, .pointer (some ⟨c4, 0, none⟩)), (5, .pointer (some ⟨c5, 0, none⟩)), (35, .int .i64 N), (36, .int .i64 τ.1)])
    (fun τ => Hp τ.2.1 [⟨c5, [τ.2.2.2.2.1, .bool (decide (f.length < τ.2.2.2.2.2))], 75⟩, ⟨c4, [.int .u32 (num f 8 4), .int .i64 (num f 12 1), τ.2.2.1], 64⟩, ⟨c2, [.int .u32 0, .int .i64 0, .slice none 0 0], 64⟩])
    (fun τ => N - τ.1) (0, wa, .slice none 0 0, [], v5, 16) ⟨Nat.zero_le _, hua, World.ownsRow_nil _ _ _ _, rfl, fun x hx => (by cases hx), by cases decP f N 16 <;> simp, hv5, howa⟩ (by (repeat (first | exact Sub.nil | apply Sub.cons rfl))) (fun _ h => h) ?_
  clear hua howa hv5 wa
  rintro ⟨i, w0, pv, xs, vc, k⟩ ⟨hin, hu, hown, hxl, hpd, hdp, hvc, hob⟩
  simp only at hin hu hown hxl hpd hdp hvc hob ⊢
  have hus := hu.size
  have hbw (wq : World) (H : List Blk) (hq : Hp w0 H wq) (hH : ∀ x ∈ H, w.heap.size ≤ x.b) : Bs wq (.slice a f.length cap) f := hv.upd (hu.comp hq.upd fun j _ hs => hs.elim id fun y => Classical.byContradiction fun hlt => y (Off.of fun x hx e => by have := hH x hx; omega)) fun j _ hj _ hno => by omega
  have l5 : c5 < w0.heap.size := hob.lt (.head _)
  have l4 : c4 < w0.heap.size := hob.lt (.tail _ (.head _))
  have l2 : c2 < w0.heap.size := hob.lt (.tail _ (.tail _ (.head _)))
  by_cases hlt : i < N
  · obtain ⟨d0, d1, d2, d3, d4, d5, d6, d7, d8, d9, d10, d11, d12, d13, d14, d15, d16, d17, d18, d19, d20, d21, d22, d23, d24, d25, d26, d27, d28, d29, d30, d31, hdig⟩ := list32 (digAt f k) (digAt_len f k)
    repeat' (first | (apply Wl.lss; exact rfl; exact rfl; exact rfl) | (apply Wl.nil) | (apply St.region) | (apply St.skip) | (apply Gt.next) | (apply St.seqK (k := 13); exact rfl) | (apply St.seqC) | (apply Wl.splitP; exact rfl; exact rfl; all_goals (intros; try (exfalso; omega))) | (apply Wl.splitB; exact rfl; exact rfl; all_goals intros) | (apply St.condP; exact rfl; all_goals (intros; try (exfalso; omega))) | (apply St.condB; exact rfl; all_goals intros))
    apply St.seq
    apply St.block
    repeat' (first | (apply Wl.alloc; exact rfl; intro c hc ho) | (apply Wl.nil) | (apply St.region) | (apply Gt.next) | (apply St.seqK (k := 13); exact rfl) | (apply Wl.splitP; exact rfl; exact rfl; all_goals (intros; try (exfalso; omega))) | (apply Wl.splitB; exact rfl; exact rfl; all_goals intros) | (apply St.condP; exact rfl; all_goals (intros; try (exfalso; omega))) | (apply St.condB; exact rfl; all_goals intros))
    generalize c = c7 at *
    have hc7 : w0.heap.size ≤ c7 := hc
    apply St.seq
    refine St.tree (fun _ => True) mixed (fun _ h => ⟨Hp.drew h, trivial⟩) ?_
    refine Mt.pure 0 (by kernel_rfl) (by exact rfl) (by exact rfl) (by kernel_rfl) (by kernel_rfl) ?_
    repeat' (first | (apply Wl.fieldAddr0; exact rfl; exact rfl) | (apply Wl.nilM) | (apply Wl.splitP; exact rfl; exact rfl; all_goals (intros; try (exfalso; omega))) | (apply Wl.splitB; exact rfl; exact rfl; all_goals intros) | (apply St.condP; exact rfl; all_goals (intros; try (exfalso; omega))) | (apply St.condB; exact rfl; all_goals intros))
    apply Mt.back
    refine Mt.pure 1 (by kernel_rfl) (by exact rfl) (by exact rfl) (by kernel_rfl) (by kernel_rfl) ?_
    repeat' (first | (apply Wl.sliceArr; exact rfl; exact rfl; decide) | (apply Wl.nilM) | (apply Wl.splitP; exact rfl; exact rfl; all_goals (intros; try (exfalso; omega))) | (apply Wl.splitB; exact rfl; exact rfl; all_goals intros) | (apply St.condP; exact rfl; all_goals (intros; try (exfalso; omega))) | (apply St.condB; exact rfl; all_goals intros))
    apply Mt.back
    refine Mt.pure 2 (by kernel_rfl) (by exact rfl) (by exact rfl) (by kernel_rfl) (by kernel_rfl) ?_
    repeat' (first | (apply Wl.move; exact rfl; exact rfl) | (apply Wl.nilM) | (apply Wl.splitP; exact rfl; exact rfl; all_goals (intros; try (exfalso; omega))) | (apply Wl.splitB; exact rfl; exact rfl; all_goals intros) | (apply St.condP; exact rfl; all_goals (intros; try (exfalso; omega))) | (apply St.condB; exact rfl; all_goals intros))
    apply Mt.back
    refine Mt.eff1 (i := 3) (by decide +kernel) (by exact rfl) ?_
    apply Wl.callC
    exact rfl
    (repeat (first | exact Evs.nil | apply Evs.cons rfl))
    intro wq hq
    refine (take_pos c5 (.slice a f.length cap) vc f k 32 wq (hq.own.at (.tail _ (.head _))) (hbw _ _ hq (by simp; omega)) hvc).mono ?_
    rintro e wr ⟨x2, u1, rfl, hp, hu1, hx2⟩
    refine ⟨_, _, rfl, hq.callSet (by (repeat (first | apply HSet.here | apply HSet.there))) hp, ?_⟩
    clear hp hq wq wr
    repeat' (first | (apply Wl.nil) | (apply Wl.splitP; exact rfl; exact rfl; all_goals (intros; try (exfalso; omega))) | (apply Wl.splitB; exact rfl; exact rfl; all_goals intros) | (apply St.condP; exact rfl; all_goals (intros; try (exfalso; omega))) | (apply St.condB; exact rfl; all_goals intros))
    refine Mt.backE (fun _ _ => trivial) ?_
    refine Mt.eff1 (i := 4) (by decide +kernel) (by exact rfl) ?_
    apply Wl.copyB (l := part f k 32) (cs' := Value.int .u8 (d0.toNat : Int) :: Value.int .u8 (d1.toNat : Int) :: Value.int .u8 (d2.toNat : Int) :: Value.int .u8 (d3.toNat : Int) :: Value.int .u8 (d4.toNat : Int) :: Value.int .u8 (d5.toNat : Int) :: Value.int .u8 (d6.toNat : Int) :: Value.int .u8 (d7.toNat : Int) :: Value.int .u8 (d8.toNat : Int) :: Value.int .u8 (d9.toNat : Int) :: Value.int .u8 (d10.toNat : Int) :: Value.int .u8 (d11.toNat : Int) :: Value.int .u8 (d12.toNat : Int) :: Value.int .u8 (d13.toNat : Int) :: Value.int .u8 (d14.toNat : Int) :: Value.int .u8 (d15.toNat : Int) :: Value.int .u8 (d16.toNat : Int) :: Value.int .u8 (d17.toNat : Int) :: Value.int .u8 (d18.toNat : Int) :: Value.int .u8 (d19.toNat : Int) :: Value.int .u8 (d20.toNat : Int) :: Value.int .u8 (d21.toNat : Int) :: Value.int .u8 (d22.toNat : Int) :: Value.int .u8 (d23.toNat : Int) :: Value.int .u8 (d24.toNat : Int) :: Value.int .u8 (d25.toNat : Int) :: Value.int .u8 (d26.toNat : Int) :: Value.int .u8 (d27.toNat : Int) :: Value.int .u8 (d28.toNat : Int) :: Value.int .u8 (d29.toNat : Int) :: Value.int .u8 (d30.toNat : Int) :: Value.int .u8 (d31.toNat : Int) :: [.int .u32 0, .int .u32 0, .slice none 0 0, .int .i64 0])
    · exact rfl
    · exact rfl
    · exact rfl
    · (repeat (first | apply HSet.here | apply HSet.there))
    · exact (digcopy f k _).trans (by rw [hdig]; rfl)
    · exact part_len f k 32
    · exact Nat.le_of_ble_eq_true rfl
    · exact fun u hq => hx2 u (hbw u _ hq (by simp; omega))
    repeat' (first | (apply Wl.nil) | (apply Wl.splitP; exact rfl; exact rfl; all_goals (intros; try (exfalso; omega))) | (apply Wl.splitB; exact rfl; exact rfl; all_goals intros) | (apply St.condP; exact rfl; all_goals (intros; try (exfalso; omega))) | (apply St.condB; exact rfl; all_goals intros))
    refine Mt.backE (fun _ _ => trivial) ?_
    refine Mt.toGt (by decide +kernel) ?_
    repeat' (first | (apply Wl.move; exact rfl; exact rfl) | (apply St.seq) | (apply St.region) | (apply Gt.next) | (apply Wl.splitP; exact rfl; exact rfl; all_goals (intros; try (exfalso; omega))) | (apply Wl.splitB; exact rfl; exact rfl; all_goals intros) | (apply St.condP; exact rfl; all_goals (intros; try (exfalso; omega))) | (apply St.condB; exact rfl; all_goals intros))
    apply Wl.callC
    exact rfl
    (repeat (first | exact Evs.nil | apply Evs.cons rfl))
    intro wq hq
    refine (u32_pos c5 (.slice a f.length cap) _ f (k + 32) wq (hq.own.at (.tail _ (.head _))) (hbw _ _ hq (by simp; omega)) hu1).mono ?_
    rintro e wr ⟨u2, rfl, hp, hu2⟩
    refine ⟨_, _, rfl, hq.callSet (by (repeat (first | apply HSet.here | apply HSet.there))) hp, ?_⟩
    clear hp hq wq wr
    repeat' (first | (apply Wl.move; exact rfl; exact rfl) | (apply Wl.splitP; exact rfl; exact rfl; all_goals (intros; try (exfalso; omega))) | (apply Wl.splitB; exact rfl; exact rfl; all_goals intros) | (apply St.condP; exact rfl; all_goals (intros; try (exfalso; omega))) | (apply St.condB; exact rfl; all_goals intros))
    apply Wl.callC
    exact rfl
    (repeat (first | exact Evs.nil | apply Evs.cons rfl))
    intro wq hq
    refine (u32_pos c5 (.slice a f.length cap) _ f (k + 32 + 4) wq (hq.own.at (.tail _ (.head _))) (hbw _ _ hq (by simp; omega)) hu2).mono ?_
    rintro e wr ⟨u3, rfl, hp, hu3⟩
    refine ⟨_, _, rfl, hq.callSet (by (repeat (first | apply HSet.here | apply HSet.there))) hp, ?_⟩
    clear hp hq wq wr
    repeat' (first | (apply Wl.move; exact rfl; exact rfl) | (apply Wl.fieldAddrZ; exact rfl; exact rfl) | (apply Wl.store; exact rfl; exact rfl; exact rfl; (repeat (first | apply HSet.here | apply HSet.there)); (repeat (first | apply LSet.z | apply LSet.s))) | (apply Wl.nil) | (apply St.seq) | (apply St.region) | (apply Gt.next) | (apply Wl.splitP; exact rfl; exact rfl; all_goals (intros; try (exfalso; omega))) | (apply Wl.splitB; exact rfl; exact rfl; all_goals intros) | (apply St.condP; exact rfl; all_goals (intros; try (exfalso; omega))) | (apply St.condB; exact rfl; all_goals intros))
    apply Wl.callC
    exact rfl
    (repeat (first | exact Evs.nil | apply Evs.cons rfl))
    intro wq hq
    refine (u8_pos c5 (.slice a f.length cap) _ f (k + 32 + 4 + 4) wq (hq.own.at (.tail _ (.head _))) (hbw _ _ hq (by simp; omega)) hu3).mono ?_
    rintro e wr ⟨u4, rfl, hp, hu4⟩
    refine ⟨_, _, rfl, hq.callSet (by (repeat (first | apply HSet.here | apply HSet.there))) hp, ?_⟩
    clear hp hq wq wr
    repeat' (first | (apply Wl.move; exact rfl; exact rfl) | (apply Wl.fieldAddrZ; exact rfl; exact rfl) | (apply Wl.store; exact rfl; exact rfl; exact rfl; (repeat (first | apply HSet.here | apply HSet.there)); (repeat (first | apply LSet.z | apply LSet.s))) | (apply Wl.nil) | (apply St.seq) | (apply St.region) | (apply Gt.next) | (apply Wl.splitP; exact rfl; exact rfl; all_goals (intros; try (exfalso; omega))) | (apply Wl.splitB; exact rfl; exact rfl; all_goals intros) | (apply St.condP; exact rfl; all_goals (intros; try (exfalso; omega))) | (apply St.condB; exact rfl; all_goals intros))
    apply Wl.callC
    exact rfl
    (repeat (first | exact Evs.nil | apply Evs.cons rfl))
    intro wq hq
    refine (u8_pos c5 (.slice a f.length cap) _ f (k + 32 + 4 + 4 + 1) wq (hq.own.at (.tail _ (.head _))) (hbw _ _ hq (by simp; omega)) hu4).mono ?_
    rintro e wr ⟨u5, rfl, hp, hu5⟩
    refine ⟨_, _, rfl, hq.callSet (by (repeat (first | apply HSet.here | apply HSet.there))) hp, ?_⟩
    clear hp hq wq wr
    repeat' (first | (apply Wl.move; exact rfl; exact rfl) | (apply Wl.assign; exact rfl; exact rfl) | (apply Wl.nil) | (apply St.seq) | (apply St.region) | (apply Gt.next) | (apply Wl.splitP; exact rfl; exact rfl; all_goals (intros; try (exfalso; omega))) | (apply Wl.splitB; exact rfl; exact rfl; all_goals intros) | (apply St.condP; exact rfl; all_goals (intros; try (exfalso; omega))) | (apply St.condB; exact rfl; all_goals intros))
    apply Wl.callC
    exact rfl
    (repeat (first | exact Evs.nil | apply Evs.cons rfl))
    intro wq hq
    refine (u16_pos c5 (.slice a f.length cap) _ f (k + 32 + 4 + 4 + 1 + 1) wq (hq.own.at (.tail _ (.head _))) (hbw _ _ hq (by simp; omega)) hu5).mono ?_
    rintro e wr ⟨u6, rfl, hp, hu6⟩
    refine ⟨_, _, rfl, hq.callSet (by (repeat (first | apply HSet.here | apply HSet.there))) hp, ?_⟩
    clear hp hq wq wr
    have m32 := num4 f (k + 32)
    have m36 := num4 f (k + 32 + 4)
    have m40 := num1 f (k + 32 + 4 + 4)
    have m41 := num1 f (k + 32 + 4 + 4 + 1)
    have m42 := num2 f (k + 32 + 4 + 4 + 1 + 1)
    have hno (hn : decP f (N - i) k = none) (H : List Blk) (w' : World) (hp : Hp w0 H w') (hH : ∀ x ∈ H, w.heap.size ≤ x.b) : DecPost f w (.returned (.tuple #[noV, .int .i64 3])) w' := by
      refine decPost_none (by rw [hdm, hdp, hn]; rfl) (hu.comp hp.upd fun j _ hs => hs.elim id fun y => Classical.byContradiction fun hlt => y (Off.of fun x hx e => by have := hH x hx; omega))
    repeat' (first | (apply Gt.outCT; exact rfl; infer_instance; exact rfl; exact rfl; (repeat (first | exact List.Mem.head _ | apply List.Mem.tail)); (repeat (first | apply LSub.z | apply LSub.t | apply LSub.s)); intro w' hp) | (apply Wl.move; exact rfl; exact rfl) | (apply Wl.assign; exact rfl; exact rfl) | (apply Wl.on; exact rfl; exact rfl; (first | with_reducible rfl | with_reducible assumption | decide)) | (apply Wl.off; exact rfl; exact rfl; exact rfl; (first | with_reducible rfl | (show _ = false; with_reducible assumption) | (show _ = true; with_reducible assumption) | decide)) | (apply Wl.pickT; exact rfl; exact rfl; (first | with_reducible rfl | with_reducible assumption | decide); exact rfl) | (apply Wl.pickF; exact rfl; exact rfl; (first | with_reducible rfl | with_reducible assumption | decide); exact rfl) | (apply Wl.neq; exact rfl; exact rfl; exact rfl) | (apply Wl.gtr; exact rfl; exact rfl; exact rfl) | (apply Wl.storeA; exact rfl; exact rfl; exact rfl; exact rfl; (repeat (first | apply HSet.here | apply HSet.there)); (repeat (first | apply LPut.s | apply LPut.z | apply LOver.nil | apply LOver.cons))) | (apply Wl.buildS; exact rfl; (repeat (first | exact Parts.nil | apply Parts.cons rfl)); (repeat (first | apply Fills.nil | (apply Fills.one; exact rfl; exact rfl; (repeat (first | apply LSet.z | apply LSet.s))) | (apply Fills.agg; exact rfl; exact rfl; (repeat (first | apply LPut.s | apply LPut.z | apply LOver.nil | apply LOver.cons)))))) | (apply Wl.nil) | (apply St.seq) | (apply St.block) | (apply St.region) | (apply St.condT; exact rfl; (first | with_reducible rfl | with_reducible assumption | decide)) | (apply St.ret) | (apply St.skip) | (apply Gt.next) | (apply Gt.thenRet) | (apply Gt.inRet) | (apply Wl.splitP; exact rfl; exact rfl; all_goals (intros; try (exfalso; omega))) | (apply Wl.splitB; exact rfl; exact rfl; all_goals intros) | (apply St.condP; exact rfl; all_goals (intros; try (exfalso; omega))) | (apply St.condB; exact rfl; all_goals intros))
    · refine hno ?_ _ _ hp (by simp; omega)
      rw [show N - i = (N - i - 1) + 1 by omega]
      simp only [decP]
      rw [if_neg fun h => by
        have h1 : num f (k + 32 + 4 + 4 + 1 + 1) 2 = 0 := h.1
        have h2 : num f (k + 32 + 4 + 4 + 1) 1 ≤ 4 := h.2
        omega]
    · refine hno ?_ _ _ hp (by simp; omega)
      rw [show N - i = (N - i - 1) + 1 by omega]
      simp only [decP]
      rw [if_neg fun h => by
        have h1 : num f (k + 32 + 4 + 4 + 1 + 1) 2 = 0 := h.1
        have h2 : num f (k + 32 + 4 + 4 + 1) 1 ≤ 4 := h.2
        omega]
    have hk0 : num f (k + 42) 2 = 0 := by
      have : num f (k + 32 + 4 + 4 + 1 + 1) 2 = 0 := by omega
      exact this
    have hK4 : num f (k + 32 + 4 + 4 + 1) 1 ≤ 4 := by omega
    have hdP : decP f (N - i) k = match decG f (num f (k + 32 + 4 + 4 + 1) 1) (k + 44) with
        | none => none
        | some gs => (decP f (N - (i + 1)) (k + 44 + 12 * num f (k + 32 + 4 + 4 + 1) 1)).map fun r => (⟨digAt f k, num f (k + 32) 4, num f (k + 32 + 4) 4, gs, num f (k + 32 + 4 + 4) 1⟩ :: r.1, r.2) := by
      rw [show N - i = (N - (i + 1)) + 1 by omega]
      simp only [decP]
      rw [if_pos ⟨hk0, hK4⟩]
      rfl
    generalize hKe : num f (k + 32 + 4 + 4 + 1) 1 = K at *
    generalize num f (k + 32) 4 = psz at *
    generalize num f (k + 32 + 4) 4 = pbi at *
    generalize num f (k + 32 + 4 + 4) 1 = pca at *
    refine St.reb (H' := [⟨c7, Value.int .u8 (d0.toNat : Int) :: Value.int .u8 (d1.toNat : Int) :: Value.int .u8 (d2.toNat : Int) :: Value.int .u8 (d3.toNat : Int) :: Value.int .u8 (d4.toNat : Int) :: Value.int .u8 (d5.toNat : Int) :: Value.int .u8 (d6.toNat : Int) :: Value.int .u8 (d7.toNat : Int) :: Value.int .u8 (d8.toNat : Int) :: Value.int .u8 (d9.toNat : Int) :: Value.int .u8 (d10.toNat : Int) :: Value.int .u8 (d11.toNat : Int) :: Value.int .u8 (d12.toNat : Int) :: Value.int .u8 (d13.toNat : Int) :: Value.int .u8 (d14.toNat : Int) :: Value.int .u8 (d15.toNat : Int) :: Value.int .u8 (d16.toNat : Int) :: Value.int .u8 (d17.toNat : Int) :: Value.int .u8 (d18.toNat : Int) :: Value.int .u8 (d19.toNat : Int) :: Value.int .u8 (d20.toNat : Int) :: Value.int .u8 (d21.toNat : Int) :: Value.int .u8 (d22.toNat : Int) :: Value.int .u8 (d23.toNat : Int) :: Value.int .u8 (d24.toNat : Int) :: Value.int .u8 (d25.toNat : Int) :: Value.int .u8 (d26.toNat : Int) :: Value.int .u8 (d27.toNat : Int) :: Value.int .u8 (d28.toNat : Int) :: Value.int .u8 (d29.toNat : Int) :: Value.int .u8 (d30.toNat : Int) :: Value.int .u8 (d31.toNat : Int) :: [.int .u32 psz, .int .u32 pbi, .slice none 0 0, .int .i64 pca], 97⟩, ⟨c5, [u6, .bool (decide (f.length < k + 44))], 75⟩, ⟨c4, [.int .u32 (num f 8 4), .int .i64 (num f 12 1), pv], 64⟩, ⟨c2, [.int .u32 0, .int .i64 0, .slice none 0 0], 64⟩]) ?_
    intro wb hwb
    refine ⟨hwb.own, hwb.apart, ?_⟩
    have hS {H : List Blk} {b : Nat} (hH : ∀ x ∈ H, w0.heap.size ≤ x.b ∨ x.b = c5 ∨ x.b = c4 ∨ x.b = c2) (y : ¬ Off H b) : w0.heap.size ≤ b ∨ b = c5 ∨ b = c4 ∨ b = c2 :=
      Classical.byContradiction fun hn => y (Off.of fun x hx e => hn (e ▸ hH x hx))
    have hub : Upd (fun b => w0.heap.size ≤ b ∨ b = c5 ∨ b = c4 ∨ b = c2) w0 wb := hwb.upd.mono fun b _ y => hS (by simp; omega) y
    have hob1 := hwb.own
    clear hwb hu1 hu2 hu3 hu4 hu5 hx2 hc
    refine St.loop (σ := Nat × World × Value × List Gr × Value)
      (fun τ => τ.1 ≤ K ∧ Upd (fun b => w0.heap.size ≤ b ∨ b = c5 ∨ b = c4 ∨ b = c2) w0 τ.2.1 ∧ τ.2.1.ownsRow w0.heap.size 99 3 τ.2.2.1 τ.1 (τ.2.2.2.1.flatMap grCells) ∧ τ.2.2.2.1.length = τ.1 ∧ (∀ g ∈ τ.2.2.2.1, GrOk g) ∧
        decG f K (k + 44) = (decG f (K - τ.1) (k + 44 + 12 * τ.1)).map (τ.2.2.2.1 ++ ·) ∧ Left (.slice a f.length cap) f τ.2.2.2.2 (k + 44 + 12 * τ.1) ∧
        Own τ.2.1 [⟨c7, Value.int .u8 (d0.toNat : Int) :: Value.int .u8 (d1.toNat : Int) :: Value.int .u8 (d2.toNat : Int) :: Value.int .u8 (d3.toNat : Int) :: Value.int .u8 (d4.toNat : Int) :: Value.int .u8 (d5.toNat : Int) :: Value.int .u8 (d6.toNat : Int) :: Value.int .u8 (d7.toNat : Int) :: Value.int .u8 (d8.toNat : Int) :: Value.int .u8 (d9.toNat : Int) :: Value.int .u8 (d10.toNat : Int) :: Value.int .u8 (d11.toNat : Int) :: Value.int .u8 (d12.toNat : Int) :: Value.int .u8 (d13.toNat : Int) :: Value.int .u8 (d14.toNat : Int) :: Value.int .u8 (d15.toNat : Int) :: Value.int .u8 (d16.toNat : Int) :: Value.int .u8 (d17.toNat : Int) :: Value.int .u8 (d18.toNat : Int) :: Value.int .u8 (d19.toNat : Int) :: Value.int .u8 (d20.toNat : Int) :: Value.int .u8 (d21.toNat : Int) :: Value.int .u8 (d22.toNat : Int) :: Value.int .u8 (d23.toNat : Int) :: Value.int .u8 (d24.toNat : Int) :: Value.int .u8 (d25.toNat : Int) :: Value.int .u8 (d26.toNat : Int) :: Value.int .u8 (d27.toNat : Int) :: Value.int .u8 (d28.toNat : Int) :: Value.int .u8 (d29.toNat : Int) :: Value.int .u8 (d30.toNat : Int) :: Value.int .u8 (d31.toNat : Int) :: [.int .u32 psz, .int .u32 pbi, τ.2.2.1, .int .i64 pca], 97⟩, ⟨c5, [τ.2.2.2.2, .bool (decide (f.length < k + 44 + 12 * τ.1))], 75⟩, ⟨c4, [.int .u32 (num f 8 4), .int .i64 (num f 12 1), pv], 64⟩, ⟨c2, [.int .u32 0, .int .i64 0, .slice none 0 0], 64⟩])
      (fun τ => [(2, .pointer (some ⟨c2, 0, none⟩)), (4, .pointer (some ⟨c4, 0, none⟩)), (5, .pointer (some ⟨c5, 0, none⟩)), (7, .pointer (some ⟨c7, 0, none⟩)), (35, .int .i64 N), (36, .int .i64 i), (62, .int .i64 K), (63, .int .i64 τ.1)])
      (fun τ => Hp τ.2.1 [⟨c7, Value.int .u8 (d0.toNat : Int) :: Value.int .u8 (d1.toNat : Int) :: Value.int .u8 (d2.toNat : Int) :: Value.int .u8 (d3.toNat : Int) :: Value.int .u8 (d4.toNat : Int) :: Value.int .u8 (d5.toNat : Int) :: Value.int .u8 (d6.toNat : Int) :: Value.int .u8 (d7.toNat : Int) :: Value.int .u8 (d8.toNat : Int) :: Value.int .u8 (d9.toNat : Int) :: Value.int .u8 (d10.toNat : Int) :: Value.int .u8 (d11.toNat : Int) :: Value.int .u8 (d12.toNat : Int) :: Value.int .u8 (d13.toNat : Int) :: Value.int .u8 (d14.toNat : Int) :: Value.int .u8 (d15.toNat : Int) :: Value.int .u8 (d16.toNat : Int) :: Value.int .u8 (d17.toNat : Int) :: Value.int .u8 (d18.toNat : Int) :: Value.int .u8 (d19.toNat : Int) :: Value.int .u8 (d20.toNat : Int) :: Value.int .u8 (d21.toNat : Int) :: Value.int .u8 (d22.toNat : Int) :: Value.int .u8 (d23.toNat : Int) :: Value.int .u8 (d24.toNat : Int) :: Value.int .u8 (d25.toNat : Int) :: Value.int .u8 (d26.toNat : Int) :: Value.int .u8 (d27.toNat : Int) :: Value.int .u8 (d28.toNat : Int) :: Value.int .u8 (d29.toNat : Int) :: Value.int .u8 (d30.toNat : Int) :: Value.int .u8 (d31.toNat : Int) :: [.int .u32 psz, .int .u32 pbi, τ.2.2.1, .int .i64 pca], 97⟩, ⟨c5, [τ.2.2.2.2, .bool (decide (f.length < k + 44 + 12 * τ.1))], 75⟩, ⟨c4, [.int .u32 (num f 8 4), .int .i64 (num f 12 1), pv], 64⟩, ⟨c2, [.int .u32 0, .int .i64 0, .slice none 0 0], 64⟩])
      (fun τ => K - τ.1) (0, wb, .slice none 0 0, [], u6) ⟨Nat.zero_le _, hub, World.ownsRow_nil _ _ _ _, rfl, fun x hx => (by cases hx), by cases decG f K (k + 44) <;> simp, hu6, hob1⟩ (by (repeat (first | exact Sub.nil | apply Sub.cons rfl))) (fun _ h => h) ?_
    clear hub hob1 hu6 wb u6 m42 hk0
    rintro ⟨j, w1, gv, gs, vd⟩ ⟨hjn, hu1, hown1, hgl, hgs, hdg, hvd, hob1⟩
    simp only at hjn hu1 hown1 hgl hgs hdg hvd hob1 ⊢
    have hus1 := hu1.size
    have huw : Upd (fun k => w.heap.size ≤ k) w w1 := hu.comp hu1 fun j _ hs => hs.elim id fun y => by omega
    have hbw1 (wq : World) (H : List Blk) (hq : Hp w1 H wq) (hH : ∀ x ∈ H, w.heap.size ≤ x.b) : Bs wq (.slice a f.length cap) f := hv.upd (huw.comp hq.upd fun j _ hs => hs.elim id fun y => Classical.byContradiction fun hlt => y (Off.of fun x hx e => by have := hH x hx; omega)) fun j _ hj _ hno => by omega
    have l7 : c7 < w1.heap.size := hob1.lt (.head _)
    by_cases hjl : j < K
    · repeat' (first | (apply Wl.move; exact rfl; exact rfl) | (apply Wl.lss; exact rfl; exact rfl; exact rfl) | (apply Wl.nil) | (apply St.seq) | (apply St.block) | (apply St.region) | (apply St.skip) | (apply Gt.next) | (apply Wl.splitP; exact rfl; exact rfl; all_goals (intros; try (exfalso; omega))) | (apply Wl.splitB; exact rfl; exact rfl; all_goals intros) | (apply St.condP; exact rfl; all_goals (intros; try (exfalso; omega))) | (apply St.condB; exact rfl; all_goals intros))
      apply Wl.callC
      exact rfl
      (repeat (first | exact Evs.nil | apply Evs.cons rfl))
      intro wq hq
      refine (u32_pos c5 (.slice a f.length cap) _ f (k + 44 + 12 * j) wq (hq.own.at (.tail _ (.head _))) (hbw1 _ _ hq (by simp; omega)) hvd).mono ?_
      rintro e wr ⟨u1, rfl, hp, hu1'⟩
      refine ⟨_, _, rfl, hq.callSet (by (repeat (first | apply HSet.here | apply HSet.there))) hp, ?_⟩
      clear hp hq wq wr
      repeat' (first | (apply Wl.move; exact rfl; exact rfl) | (apply Wl.splitP; exact rfl; exact rfl; all_goals (intros; try (exfalso; omega))) | (apply Wl.splitB; exact rfl; exact rfl; all_goals intros) | (apply St.condP; exact rfl; all_goals (intros; try (exfalso; omega))) | (apply St.condB; exact rfl; all_goals intros))
      apply Wl.callC
      exact rfl
      (repeat (first | exact Evs.nil | apply Evs.cons rfl))
      intro wq hq
      refine (u32_pos c5 (.slice a f.length cap) _ f (k + 44 + 12 * j + 4) wq (hq.own.at (.tail _ (.head _))) (hbw1 _ _ hq (by simp; omega)) hu1').mono ?_
      rintro e wr ⟨u2, rfl, hp, hu2'⟩
      refine ⟨_, _, rfl, hq.callSet (by (repeat (first | apply HSet.here | apply HSet.there))) hp, ?_⟩
      clear hp hq wq wr
      repeat' (first | (apply Wl.move; exact rfl; exact rfl) | (apply Wl.storeA; exact rfl; exact rfl; exact rfl; exact rfl; (repeat (first | apply HSet.here | apply HSet.there)); (repeat (first | apply LPut.s | apply LPut.z | apply LOver.nil | apply LOver.cons))) | (apply Wl.buildS; exact rfl; (repeat (first | exact Parts.nil | apply Parts.cons rfl)); (repeat (first | apply Fills.nil | (apply Fills.one; exact rfl; exact rfl; (repeat (first | apply LSet.z | apply LSet.s))) | (apply Fills.agg; exact rfl; exact rfl; (repeat (first | apply LPut.s | apply LPut.z | apply LOver.nil | apply LOver.cons)))))) | (apply Wl.alloc; exact rfl; intro c hc ho) | (apply Wl.nil) | (apply St.seq) | (apply St.region) | (apply Gt.next) | (apply Wl.splitP; exact rfl; exact rfl; all_goals (intros; try (exfalso; omega))) | (apply Wl.splitB; exact rfl; exact rfl; all_goals intros) | (apply St.condP; exact rfl; all_goals (intros; try (exfalso; omega))) | (apply St.condB; exact rfl; all_goals intros))
      generalize c = c9 at *
      have hc9 : w1.heap.size ≤ c9 := hc
      apply Wl.callC
      exact rfl
      (repeat (first | exact Evs.nil | apply Evs.cons rfl))
      intro wq hq
      refine (u32_pos c5 (.slice a f.length cap) _ f (k + 44 + 12 * j + 4 + 4) wq (hq.own.at (.tail _ (.tail _ (.head _)))) (hbw1 _ _ hq (by simp; omega)) hu2').mono ?_
      rintro e wr ⟨u3, rfl, hp, hu3'⟩
      refine ⟨_, _, rfl, hq.callSet (by (repeat (first | apply HSet.here | apply HSet.there))) hp, ?_⟩
      clear hp hq wq wr
      have g0 := num4 f (k + 44 + 12 * j)
      have g4 := num4 f (k + 44 + 12 * j + 4)
      have g8 := num4 f (k + 44 + 12 * j + 4 + 4)
      repeat' (first | (apply Gt.outCT; exact rfl; infer_instance; exact rfl; exact rfl; (repeat (first | exact List.Mem.head _ | apply List.Mem.tail)); (repeat (first | apply LSub.z | apply LSub.t | apply LSub.s)); intro w' hp) | (apply Wl.move; exact rfl; exact rfl) | (apply Wl.assign; exact rfl; exact rfl) | (apply Wl.fieldAddrZ; exact rfl; exact rfl) | (apply Wl.loadH; exact rfl; exact rfl; (repeat (first | exact List.Mem.head _ | apply List.Mem.tail)); exact rfl) | (apply Wl.gtr; exact rfl; exact rfl; exact rfl) | (apply Wl.convI64; exact rfl; exact rfl; (constructor <;> omega)) | (apply Wl.store; exact rfl; exact rfl; exact rfl; (repeat (first | apply HSet.here | apply HSet.there)); (repeat (first | apply LSet.z | apply LSet.s))) | (apply Wl.storeA; exact rfl; exact rfl; exact rfl; exact rfl; (repeat (first | apply HSet.here | apply HSet.there)); (repeat (first | apply LPut.s | apply LPut.z | apply LOver.nil | apply LOver.cons))) | (apply Wl.loadAH; exact rfl; exact rfl; (repeat (first | exact List.Mem.head _ | apply List.Mem.tail)); (repeat (first | apply LSub.z | apply LSub.t | apply LSub.s))) | (apply Wl.buildS; exact rfl; (repeat (first | exact Parts.nil | apply Parts.cons rfl)); (repeat (first | apply Fills.nil | (apply Fills.one; exact rfl; exact rfl; (repeat (first | apply LSet.z | apply LSet.s))) | (apply Fills.agg; exact rfl; exact rfl; (repeat (first | apply LPut.s | apply LPut.z | apply LOver.nil | apply LOver.cons)))))) | (apply Wl.lit; exact rfl; (repeat (first | exact Parts.nil | apply Parts.cons rfl)); exact rfl; exact rfl; (repeat (first | apply CatP.nil | (apply CatP.one; exact rfl; exact rfl) | (apply CatP.agg; exact rfl) | apply LApp.nil | apply LApp.cons)); intro c hc ho) | (apply Wl.nil) | (apply St.seq) | (apply St.region) | (apply St.ret) | (apply St.skip) | (apply Gt.next) | (apply Gt.thenRet) | (apply Gt.inRet) | (apply Wl.splitP; exact rfl; exact rfl; all_goals (intros; try (exfalso; omega))) | (apply Wl.splitB; exact rfl; exact rfl; all_goals intros) | (apply St.condP; exact rfl; all_goals (intros; try (exfalso; omega))) | (apply St.condB; exact rfl; all_goals intros))
      · have hr7 : ¬ num f (k + 44 + 12 * j + 4 + 4) 4 ≤ 7 := by omega
        refine decPost_none ?_ (huw.comp hp.upd fun b _ hs => hs.elim id fun y => Classical.byContradiction fun hlt => y (Off.of fun x hx e => by have : w.heap.size ≤ x.b := (by revert x; simp; omega); omega))
        rw [hdm, hdp, hdP, hdg, show K - j = (K - (j + 1)) + 1 by omega]
        simp only [decG]
        rw [if_neg hr7]
        rfl
      have hr7 : num f (k + 44 + 12 * j + 4 + 4) 4 ≤ 7 := by omega
      apply Wl.appendT
      · exact rfl
      · exact rfl
      · exact rfl
      · exact hc
      · exact rfl
      · exact hown1
      · exact fun q hq => ⟨fun e => by have := (hown1.lt q hq).2; simp only at e; omega, own_off hown1 hob1 rfl hq⟩
      · exact rfl
      · exact rfl
      · decide
      · unfold maxLen; omega
      · omega
      · exact hus1
      intro v' w4 ho2 u4 _ hoff2
      obtain ⟨_, ab, cb, rfl, _⟩ := Sv.ofOwn ho2
      repeat' (first | (apply Wl.move; exact rfl; exact rfl) | (apply Wl.fieldAddrZ; exact rfl; exact rfl) | (apply Wl.addI; exact rfl; exact rfl; exact rfl; (constructor <;> omega)) | (apply Wl.store; exact rfl; exact rfl; exact rfl; (repeat (first | apply HSet.here | apply HSet.there)); (repeat (first | apply LSet.z | apply LSet.s))) | (apply Wl.nil) | (apply St.region) | (apply Gt.next) | (apply Gt.inNormal) | (apply Wl.splitP; exact rfl; exact rfl; all_goals (intros; try (exfalso; omega))) | (apply Wl.splitB; exact rfl; exact rfl; all_goals intros) | (apply St.condP; exact rfl; all_goals (intros; try (exfalso; omega))) | (apply St.condB; exact rfl; all_goals intros))
      apply Gt.reb (H' := [⟨c7, Value.int .u8 (d0.toNat : Int) :: Value.int .u8 (d1.toNat : Int) :: Value.int .u8 (d2.toNat : Int) :: Value.int .u8 (d3.toNat : Int) :: Value.int .u8 (d4.toNat : Int) :: Value.int .u8 (d5.toNat : Int) :: Value.int .u8 (d6.toNat : Int) :: Value.int .u8 (d7.toNat : Int) :: Value.int .u8 (d8.toNat : Int) :: Value.int .u8 (d9.toNat : Int) :: Value.int .u8 (d10.toNat : Int) :: Value.int .u8 (d11.toNat : Int) :: Value.int .u8 (d12.toNat : Int) :: Value.int .u8 (d13.toNat : Int) :: Value.int .u8 (d14.toNat : Int) :: Value.int .u8 (d15.toNat : Int) :: Value.int .u8 (d16.toNat : Int) :: Value.int .u8 (d17.toNat : Int) :: Value.int .u8 (d18.toNat : Int) :: Value.int .u8 (d19.toNat : Int) :: Value.int .u8 (d20.toNat : Int) :: Value.int .u8 (d21.toNat : Int) :: Value.int .u8 (d22.toNat : Int) :: Value.int .u8 (d23.toNat : Int) :: Value.int .u8 (d24.toNat : Int) :: Value.int .u8 (d25.toNat : Int) :: Value.int .u8 (d26.toNat : Int) :: Value.int .u8 (d27.toNat : Int) :: Value.int .u8 (d28.toNat : Int) :: Value.int .u8 (d29.toNat : Int) :: Value.int .u8 (d30.toNat : Int) :: Value.int .u8 (d31.toNat : Int) :: [.int .u32 psz, .int .u32 pbi, .slice ab (j + 1) cb, .int .i64 pca], 97⟩, ⟨c5, [u3, .bool (decide (f.length < k + 44 + 12 * (j + 1)))], 75⟩, ⟨c4, [.int .u32 (num f 8 4), .int .i64 (num f 12 1), pv], 64⟩, ⟨c2, [.int .u32 0, .int .i64 0, .slice none 0 0], 64⟩])
      intro w5 h5
      refine ⟨h5.own.2, h5.apart.2, ?_⟩
      have hgo : gAt f (k + 44 + 12 * j) = ⟨num f (k + 44 + 12 * j) 4, num f (k + 44 + 12 * j + 4) 4, num f (k + 44 + 12 * j + 4 + 4) 4⟩ := rfl
      apply Gt.round (j + 1, w5, .slice ab (j + 1) cb, gs ++ [gAt f (k + 44 + 12 * j)], u3)
      rotate_left
      · simp only; omega
      · (repeat (first | exact Sub.nil | apply Sub.cons rfl))
      · exact fun _ h => h
      refine ⟨hjl, (hu1.comp u4 (T := fun b => w0.heap.size ≤ b ∨ b = c5 ∨ b = c4 ∨ b = c2) fun b _ hs => hs.elim id fun hs => hs.elim (fun e => .inl (hown1.lt b e).1) fun y => hS (by simp; omega) y).comp h5.upd fun b _ hs => hs.elim id fun y => hS (by simp; omega) y, ?_, ?_, fun g hg => ?_, ?_, hu3', h5.own.2⟩
      · simp only
        rw [List.flatMap_append, hgo]
        exact ownsRow_upd ho2 h5.upd fun q hq y => y (hoff2 q hq).1
      · simp [hgl]
      · rcases List.mem_append.1 hg with hg | hg
        · exact hgs g hg
        · rw [List.mem_singleton] at hg
          subst hg
          rw [hgo]
          exact ⟨g0, g4, by simp only; omega, by simp only; omega⟩
      · simp only
        rw [hdg, show K - j = (K - (j + 1)) + 1 by omega]
        simp only [decG]
        rw [if_pos hr7, Option.map_map]
        congr 1
        funext l
        simp
    · have hjk : j = K := by omega
      subst hjk
      have hdg' : decG f j (k + 44) = some gs := by rw [hdg]; simp [decG]
      clear hdg
      rw [hdg'] at hdP
      simp only at hdP
      have hown' : w1.ownsRow w.heap.size 97 36 pv i (xs.flatMap pyCells) := ownsRow_upd hown hu1 fun q hq hs => by
        have h1 := (hown.lt q hq).2
        have h2 := own_off hown hob rfl hq
        rcases hs with hs | hs | hs | hs
        · omega
        · exact h2.1 hs.symm
        · exact h2.2.1 hs.symm
        · exact h2.2.2.1 hs.symm
      obtain ⟨_, ag, cg, rfl, _⟩ := Sv.ofOwn hown1
      repeat' (first | (apply Wl.fieldAddrZ; exact rfl; exact rfl) | (apply Wl.loadH; exact rfl; exact rfl; (repeat (first | exact List.Mem.head _ | apply List.Mem.tail)); exact rfl) | (apply Wl.lss; exact rfl; exact rfl; exact rfl) | (apply Wl.loadAH; exact rfl; exact rfl; (repeat (first | exact List.Mem.head _ | apply List.Mem.tail)); (repeat (first | apply LSub.z | apply LSub.t | apply LSub.s))) | (apply Wl.lit; exact rfl; (repeat (first | exact Parts.nil | apply Parts.cons rfl)); exact rfl; exact rfl; (repeat (first | apply CatP.nil | (apply CatP.one; exact rfl; exact rfl) | (apply CatP.agg; exact rfl) | apply LApp.nil | apply LApp.cons)); intro c hc ho) | (apply Wl.nil) | (apply St.seq) | (apply St.region) | (apply St.exit) | (apply Gt.next) | (apply Gt.thenExit) | (apply Gt.inExit) | (apply Wl.splitP; exact rfl; exact rfl; all_goals (intros; try (exfalso; omega))) | (apply Wl.splitB; exact rfl; exact rfl; all_goals intros) | (apply St.condP; exact rfl; all_goals (intros; try (exfalso; omega))) | (apply St.condB; exact rfl; all_goals intros))
      apply Wl.appendT
      · exact rfl
      · exact rfl
      · exact rfl
      · exact hc
      · exact rfl
      · exact hown'
      · exact fun q hq => ⟨fun e => by have := (hown.lt q hq).2; simp only at e; omega, own_off hown' (H := [_, _, _]) hob1.2 rfl hq⟩
      · exact rfl
      · exact rfl
      · decide
      · unfold maxLen; omega
      · omega
      · exact huw.size
      intro v'' w4 ho2 u4 _ hoff2
      obtain ⟨_, ab, cb, rfl, _⟩ := Sv.ofOwn ho2
      repeat' (first | (apply Wl.move; exact rfl; exact rfl) | (apply Wl.fieldAddrZ; exact rfl; exact rfl) | (apply Wl.addI; exact rfl; exact rfl; exact rfl; (constructor <;> omega)) | (apply Wl.store; exact rfl; exact rfl; exact rfl; (repeat (first | apply HSet.here | apply HSet.there)); (repeat (first | apply LSet.z | apply LSet.s))) | (apply Wl.nil) | (apply St.region) | (apply Gt.next) | (apply Gt.inNormal) | (apply Wl.splitP; exact rfl; exact rfl; all_goals (intros; try (exfalso; omega))) | (apply Wl.splitB; exact rfl; exact rfl; all_goals intros) | (apply St.condP; exact rfl; all_goals (intros; try (exfalso; omega))) | (apply St.condB; exact rfl; all_goals intros))
      apply Gt.reb (H' := [⟨c5, [vd, .bool (decide (f.length < k + 44 + 12 * j))], 75⟩, ⟨c4, [.int .u32 (num f 8 4), .int .i64 (num f 12 1), .slice ab (i + 1) cb], 64⟩, ⟨c2, [.int .u32 0, .int .i64 0, .slice none 0 0], 64⟩])
      intro w5 h5
      refine ⟨h5.own.2, h5.apart.2, ?_⟩
      apply Gt.round (i + 1, w5, .slice ab (i + 1) cb, xs ++ [(⟨digAt f k, psz, pbi, gs, pca⟩, .slice ag j cg)], vd, k + 44 + 12 * j)
      rotate_left
      · simp only; omega
      · (repeat (first | exact Sub.nil | apply Sub.cons rfl))
      · exact fun _ h => h
      have hmove {x : Value} {n : Nat} {cs : List Value} (hx : w1.ownsRow w.heap.size 99 3 x n cs) : w5.ownsRow w.heap.size 99 3 x n cs :=
        ownsRow_upd (ownsRow_upd hx u4 fun q hq hs => hs.elim (fun e => own_ne2 hx hown' (by decide) hq e) fun y => y (own_off hx hob1 rfl hq)) h5.upd fun q hq y => y (own_off hx hob1 rfl hq)
      refine ⟨hlt, (huw.comp u4 (T := fun b => w.heap.size ≤ b) fun b _ hs => hs.elim id fun hs => hs.elim (fun e => (hown.lt b e).1) fun y => Classical.byContradiction fun hlt => y (Off.of fun x hx e => by have : w.heap.size ≤ x.b := (by revert x; simp; omega); omega)).comp h5.upd fun b _ hs => hs.elim id fun y => Classical.byContradiction fun hlt => y (Off.of fun x hx e => by have : w.heap.size ≤ x.b := (by revert x; simp; omega); omega), ?_, ?_, fun x hx => ?_, ?_, hvd, h5.own.2⟩
      · have hlit : pyCells (⟨digAt f k, psz, pbi, gs, pca⟩, .slice ag j cg) = Value.int .u8 (d0.toNat : Int) :: Value.int .u8 (d1.toNat : Int) :: Value.int .u8 (d2.toNat : Int) :: Value.int .u8 (d3.toNat : Int) :: Value.int .u8 (d4.toNat : Int) :: Value.int .u8 (d5.toNat : Int) :: Value.int .u8 (d6.toNat : Int) :: Value.int .u8 (d7.toNat : Int) :: Value.int .u8 (d8.toNat : Int) :: Value.int .u8 (d9.toNat : Int) :: Value.int .u8 (d10.toNat : Int) :: Value.int .u8 (d11.toNat : Int) :: Value.int .u8 (d12.toNat : Int) :: Value.int .u8 (d13.toNat : Int) :: Value.int .u8 (d14.toNat : Int) :: Value.int .u8 (d15.toNat : Int) :: Value.int .u8 (d16.toNat : Int) :: Value.int .u8 (d17.toNat : Int) :: Value.int .u8 (d18.toNat : Int) :: Value.int .u8 (d19.toNat : Int) :: Value.int .u8 (d20.toNat : Int) :: Value.int .u8 (d21.toNat : Int) :: Value.int .u8 (d22.toNat : Int) :: Value.int .u8 (d23.toNat : Int) :: Value.int .u8 (d24.toNat : Int) :: Value.int .u8 (d25.toNat : Int) :: Value.int .u8 (d26.toNat : Int) :: Value.int .u8 (d27.toNat : Int) :: Value.int .u8 (d28.toNat : Int) :: Value.int .u8 (d29.toNat : Int) :: Value.int .u8 (d30.toNat : Int) :: Value.int .u8 (d31.toNat : Int) :: [.int .u32 psz, .int .u32 pbi, .slice ag j cg, .int .i64 pca] := by
          unfold pyCells
          simp only
          rw [hdig]
          rfl
        simp only
        rw [List.flatMap_append, List.flatMap_cons, List.flatMap_nil, List.append_nil, hlit]
        exact ownsRow_upd ho2 h5.upd fun q hq y => y (hoff2 q hq).1
      · simp [hxl]
      · rcases List.mem_append.1 hx with hx | hx
        · refine ⟨hmove (ownsRow_upd (hpd x hx).1 hu1 fun q hq hs => ?_), (hpd x hx).2⟩
          have h1 := ((hpd x hx).1.lt q hq).2
          have h2 := own_off (hpd x hx).1 hob rfl hq
          rcases hs with hs | hs | hs | hs
          · omega
          · exact h2.1 hs.symm
          · exact h2.2.1 hs.symm
          · exact h2.2.2.1 hs.symm
        · rw [List.mem_singleton] at hx
          subst hx
          refine ⟨?_, digAt_len f k, by simp only; omega, by simp only; omega, by simp only; omega, by simp only; omega, by simp only; omega, hgs⟩
          simp only
          rw [hgl]
          exact hmove (own_base hown1 hus)
      · simp only
        rw [hdp, hdP, Option.map_map]
        congr 1
        funext r
        simp
  · have hiN : i = N := by omega
    subst hiN
    have hdm' : decM f = if k = f.length then some ⟨num f 8 4, num f 12 1, xs.map (·.1)⟩ else none := by rw [hdm, hdp]; simp [decP]
    clear hdm hdp
    repeat' (first | (apply Wl.move; exact rfl; exact rfl) | (apply Wl.lss; exact rfl; exact rfl; exact rfl) | (apply Wl.nil) | (apply St.seq) | (apply St.region) | (apply St.exit) | (apply Gt.next) | (apply Gt.thenExit) | (apply Gt.inExit) | (apply Wl.splitP; exact rfl; exact rfl; all_goals (intros; try (exfalso; omega))) | (apply Wl.splitB; exact rfl; exact rfl; all_goals intros) | (apply St.condP; exact rfl; all_goals (intros; try (exfalso; omega))) | (apply St.condB; exact rfl; all_goals intros))
    apply Wl.callQ
    exact rfl
    (repeat (first | exact Evs.nil | apply Evs.cons rfl))
    · intro wq hq
      refine (end_any c5 vc (f.drop k) _ wq wq (hq.own.at (.head _)) (hvc wq (hbw wq _ hq (by simp; omega)))).mono ?_
      rintro e wr ⟨rfl, hr⟩
      exact ⟨rfl, hq.keep hr⟩
    have hbe : (!decide (f.length < k) && decide (f.drop k = [])) = decide (k = f.length) := by
      rw [Bool.eq_iff_iff]
      simp [List.drop_eq_nil_iff]
      omega
    rw [hbe]
    repeat' (first | (apply Gt.outCT; exact rfl; infer_instance; exact rfl; exact rfl; (repeat (first | exact List.Mem.head _ | apply List.Mem.tail)); (repeat (first | apply LSub.z | apply LSub.t | apply LSub.s)); intro w' hp) | (apply Wl.assign; exact rfl; exact rfl) | (apply Wl.not; exact rfl; exact rfl) | (apply Wl.storeA; exact rfl; exact rfl; exact rfl; exact rfl; (repeat (first | apply HSet.here | apply HSet.there)); (repeat (first | apply LPut.s | apply LPut.z | apply LOver.nil | apply LOver.cons))) | (apply Wl.loadAH; exact rfl; exact rfl; (repeat (first | exact List.Mem.head _ | apply List.Mem.tail)); (repeat (first | apply LSub.z | apply LSub.t | apply LSub.s))) | (apply Wl.buildS; exact rfl; (repeat (first | exact Parts.nil | apply Parts.cons rfl)); (repeat (first | apply Fills.nil | (apply Fills.one; exact rfl; exact rfl; (repeat (first | apply LSet.z | apply LSet.s))) | (apply Fills.agg; exact rfl; exact rfl; (repeat (first | apply LPut.s | apply LPut.z | apply LOver.nil | apply LOver.cons)))))) | (apply Wl.nil) | (apply St.seq) | (apply St.region) | (apply St.ret) | (apply St.skip) | (apply Gt.next) | (apply Gt.thenRet) | (apply Wl.splitP; exact rfl; exact rfl; all_goals (intros; try (exfalso; omega))) | (apply Wl.splitB; exact rfl; exact rfl; all_goals intros) | (apply St.condP; exact rfl; all_goals (intros; try (exfalso; omega))) | (apply St.condB; exact rfl; all_goals intros))
    · have hk : ¬ k = f.length := by
        have := ‹(!decide (k = f.length)) = true›
        simpa using this
      exact decPost_none (by rw [hdm', if_neg hk]) (hu.comp hp.upd fun j _ hs => hs.elim id fun y => Classical.byContradiction fun hlt => y (Off.of fun x hx e => by have : w.heap.size ≤ x.b := (by revert x; simp; omega); omega))
    have hk : k = f.length := by
      have := ‹(!decide (k = f.length)) = false›
      simpa using this
    rw [if_pos hk] at hdm'
    have hM (wq : World) (H : List Blk) (hq : Hp w0 H wq) (hH : ∀ x ∈ H, w0.heap.size ≤ x.b ∨ x.b = c5 ∨ x.b = c4 ∨ x.b = c2) : MfV wq (.agg #[.int .u32 (num f 8 4), .int .i64 (num f 12 1), pv]) ⟨num f 8 4, num f 12 1, xs.map (·.1)⟩ := by
      have hoff {e sz n : Nat} {v : Value} {cs : List Value} (hr : w0.ownsRow w.heap.size e sz v n cs) (h1 : e ≠ 75) (h2 : e ≠ 64) {q : Nat} (hqq : v.ownBlock = some q) : Off H q := Off.of fun x hx e' => by
        have h3 := (hr.lt q hqq).2
        rcases hH x hx with y | y | y | y
        · omega
        · exact own_ne hr (hob.at (.head _)) h1.symm (by rw [hqq, ← e', y])
        · exact own_ne hr (hob.at (.tail _ (.head _))) h2.symm (by rw [hqq, ← e', y])
        · exact own_ne hr (hob.at (.tail _ (.tail _ (.head _)))) h2.symm (by rw [hqq, ← e', y])
      refine ⟨pv, xs, rfl, rfl, ?_, fun x hx => PyD.v (base := w.heap.size) ⟨ownsRow_upd (hpd x hx).1 hq.upd fun q hqq y => y (hoff (hpd x hx).1 (by decide) (by decide) hqq), (hpd x hx).2⟩, m8, by unfold I64; simp only; omega⟩
      rw [hxl]
      exact Sv.ofOwn (ownsRow_upd hown hq.upd fun q hqq y => y (hoff hown (by decide) (by decide) hqq))
    apply Wl.callC
    exact rfl
    (repeat (first | exact Evs.nil | apply Evs.cons rfl))
    intro w1 h1
    refine (right_any _ _ w1 (hM w1 _ h1 (by simp))).mono ?_
    rintro e w2 ⟨rfl, hup⟩
    refine ⟨_, _, rfl, h1.newer hup, ?_⟩
    clear h1 hup
    obtain ⟨_, ap, cp, rfl, _⟩ := Sv.ofOwn hown
    by_cases hr : rightOf ⟨num f 8 4, num f 12 1, xs.map (·.1)⟩ = 0
    · rw [hr]
      repeat' (first | (apply Gt.outCT; exact rfl; infer_instance; exact rfl; exact rfl; (repeat (first | exact List.Mem.head _ | apply List.Mem.tail)); (repeat (first | apply LSub.z | apply LSub.t | apply LSub.s)); intro w' hp) | (apply Wl.move; exact rfl; exact rfl) | (apply Wl.assign; exact rfl; exact rfl) | (apply Wl.neq; exact rfl; exact rfl; exact rfl) | (apply Wl.storeA; exact rfl; exact rfl; exact rfl; exact rfl; (repeat (first | apply HSet.here | apply HSet.there)); (repeat (first | apply LPut.s | apply LPut.z | apply LOver.nil | apply LOver.cons))) | (apply Wl.loadAH; exact rfl; exact rfl; (repeat (first | exact List.Mem.head _ | apply List.Mem.tail)); (repeat (first | apply LSub.z | apply LSub.t | apply LSub.s))) | (apply Wl.nil) | (apply St.seq) | (apply St.region) | (apply St.condF; exact rfl; (first | with_reducible rfl | with_reducible assumption | decide)) | (apply St.ret) | (apply St.skip) | (apply Gt.next) | (apply Wl.splitP; exact rfl; exact rfl; all_goals (intros; try (exfalso; omega))) | (apply Wl.splitB; exact rfl; exact rfl; all_goals intros) | (apply St.condP; exact rfl; all_goals (intros; try (exfalso; omega))) | (apply St.condB; exact rfl; all_goals intros))
      refine ⟨_, by unfold decErr; rw [hdm']; simp only; rw [hr]; rfl, by unfold decMan; rw [hdm']; simp only; rw [if_pos hr]; exact hM _ _ hp (by simp), hu.comp hp.upd fun j _ hs => hs.elim id fun y => Classical.byContradiction fun hlt => y (Off.of fun x hx e => by have : w.heap.size ≤ x.b := (by revert x; simp; omega); omega)⟩
    · have hr' : (rightOf ⟨num f 8 4, num f 12 1, xs.map (·.1)⟩ : Int) ≠ 0 := by omega
      repeat' (first | (apply Gt.outCT; exact rfl; infer_instance; exact rfl; exact rfl; (repeat (first | exact List.Mem.head _ | apply List.Mem.tail)); (repeat (first | apply LSub.z | apply LSub.t | apply LSub.s)); intro w' hp) | (apply Wl.move; exact rfl; exact rfl) | (apply Wl.assign; exact rfl; exact rfl) | (apply Wl.neq; exact rfl; exact rfl; exact rfl) | (apply Wl.storeA; exact rfl; exact rfl; exact rfl; exact rfl; (repeat (first | apply HSet.here | apply HSet.there)); (repeat (first | apply LPut.s | apply LPut.z | apply LOver.nil | apply LOver.cons))) | (apply Wl.buildS; exact rfl; (repeat (first | exact Parts.nil | apply Parts.cons rfl)); (repeat (first | apply Fills.nil | (apply Fills.one; exact rfl; exact rfl; (repeat (first | apply LSet.z | apply LSet.s))) | (apply Fills.agg; exact rfl; exact rfl; (repeat (first | apply LPut.s | apply LPut.z | apply LOver.nil | apply LOver.cons)))))) | (apply Wl.nil) | (apply St.seq) | (apply St.region) | (apply St.ret) | (apply Gt.next) | (apply Gt.thenRet) | (apply Wl.splitP; exact rfl; exact rfl; all_goals (intros; try (exfalso; omega))) | (apply Wl.splitB; exact rfl; exact rfl; all_goals intros) | (apply St.condP; exact rfl; all_goals (intros; try (exfalso; omega))) | (apply St.condB; exact rfl; all_goals intros))
      refine ⟨_, by unfold decErr; rw [hdm'], by unfold decMan; rw [hdm']; simp only; rw [if_neg hr]; exact noM_v _, hu.comp hp.upd fun j _ hs => hs.elim id fun y => Classical.byContradiction fun hlt => y (Off.of fun x hx e => by have : w.heap.size ≤ x.b := (by revert x; simp; omega); omega)⟩
end Go.Proofs.Ythdojhldiinkcaa
