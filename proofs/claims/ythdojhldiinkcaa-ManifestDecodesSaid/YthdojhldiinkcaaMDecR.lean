/-
  porticoref07.Decode: the same law as manifest.Decode. Conditions: the bytes are few.
-/
import Derived.Test.YthdojhldiinkcaaMDec
import Derived.Test.YthdojhldiinkcaaRightR
namespace Go.Proofs.Ythdojhldiinkcaa
open Go.RowKit Go.Pt

set_option maxHeartbeats 4000000 in
theorem rdecode_any (v : Value) (f : List UInt8) (w : World) (hv : Bs w v f) (h3 : f.length ≤ 3000) :
    Calls Try.prog 45 #[v] w (DecPost f w) := by
  obtain ⟨a, cap, rfl, hlc, hm⟩ := hv.shape
  unfold maxLen at hm
  refine enter (args := [_]) (Γ := [(0, _)]) Try.func45 Try.ntmps45 rfl (of_decide_eq_true rfl) (.cons rfl .nil) ?_
  repeat' (first | (apply Wl.move; exact rfl; exact rfl) | (apply Wl.assign; exact rfl; exact rfl) | (apply Wl.buildS; exact rfl; (repeat (first | exact Parts.nil | apply Parts.cons rfl)); (repeat (first | apply Fills.nil | (apply Fills.one; exact rfl; exact rfl; (repeat (first | apply LSet.z | apply LSet.s))) | (apply Fills.agg; exact rfl; exact rfl; (repeat (first | apply LPut.s | apply LPut.z | apply LOver.nil | apply LOver.cons)))))) | (apply Wl.boxA; exact rfl; exact rfl; intro c hc ho) | (apply Wl.alloc; exact rfl; intro c hc ho) | (apply Wl.nil) | (apply St.seq) | (apply St.region) | (apply Gt.next) | (apply Wl.splitP; exact rfl; exact rfl; all_goals (intros; try (exfalso; omega))) | (apply Wl.splitB; exact rfl; exact rfl; all_goals intros) | (apply St.condP; exact rfl; all_goals (intros; try (exfalso; omega))) | (apply St.condB; exact rfl; all_goals intros))
  rename_i c2 hc2 ho2
  generalize c = c5 at *
  have hc5 : w.heap.size ≤ c5 := hc
  have hbw (wq : World) (H : List Blk) (hq : Hp w H wq) (hH : ∀ x ∈ H, w.heap.size ≤ x.b) : Bs wq (.slice a f.length cap) f := hv.upd hq.upd fun j _ hj _ hno => hno (Off.of fun x hx e => by have := hH x hx; omega)
  have hr0 : RefAt f 0 0 := ⟨Nat.zero_le _, fun _ => rfl⟩
  apply Wl.callC
  exact rfl
  (repeat (first | exact Evs.nil | apply Evs.cons rfl))
  intro wq hq
  refine (rtake_pos c5 (.slice a f.length cap) f 0 0 8 wq (hq.own.at (.head _)) (hbw _ _ hq (by simp; omega)) hr0).mono ?_
  rintro e wr ⟨x1, p1, rfl, hp, hp1, hx1⟩
  refine ⟨_, _, rfl, hq.callSet (by (repeat (first | apply HSet.here | apply HSet.there))) hp, ?_⟩
  clear hp hq wq wr
  apply Wl.convBS
  · exact rfl
  · exact rfl
  · exact fun u hu => hx1 u (hbw u _ hu (by simp; omega))
  repeat' (first | (apply Wl.move; exact rfl; exact rfl) | (apply Wl.assign; exact rfl; exact rfl) | (apply Wl.nil) | (apply St.seq) | (apply St.region) | (apply Gt.next) | (apply Wl.splitP; exact rfl; exact rfl; all_goals (intros; try (exfalso; omega))) | (apply Wl.splitB; exact rfl; exact rfl; all_goals intros) | (apply St.condP; exact rfl; all_goals (intros; try (exfalso; omega))) | (apply St.condB; exact rfl; all_goals intros))
  have m13 := num1 f 13
  have m12 := num1 f 12
  have m8 := num4 f 8
  have m14 := num2 f 14
  apply Wl.callC
  exact rfl
  (repeat (first | exact Evs.nil | apply Evs.cons rfl))
  intro wq hq
  refine (rnum_pos c5 (.slice a f.length cap) f 8 p1 4 (by decide) wq (hq.own.at (.head _)) (hbw _ _ hq (by simp; omega)) hp1).mono ?_
  rintro e wr ⟨p2, rfl, hp, hp2⟩
  refine ⟨_, _, rfl, hq.callSet (by (repeat (first | apply HSet.here | apply HSet.there))) hp, ?_⟩
  clear hp hq wq wr
  repeat' (first | (apply Wl.move; exact rfl; exact rfl) | (apply Wl.convU32; exact rfl; exact rfl; (constructor <;> omega)) | (apply Wl.storeA; exact rfl; exact rfl; exact rfl; exact rfl; (repeat (first | apply HSet.here | apply HSet.there)); (repeat (first | apply LPut.s | apply LPut.z | apply LOver.nil | apply LOver.cons))) | (apply Wl.buildS; exact rfl; (repeat (first | exact Parts.nil | apply Parts.cons rfl)); (repeat (first | apply Fills.nil | (apply Fills.one; exact rfl; exact rfl; (repeat (first | apply LSet.z | apply LSet.s))) | (apply Fills.agg; exact rfl; exact rfl; (repeat (first | apply LPut.s | apply LPut.z | apply LOver.nil | apply LOver.cons)))))) | (apply Wl.alloc; exact rfl; intro c hc ho) | (apply Wl.nil) | (apply St.seq) | (apply St.region) | (apply Gt.next) | (apply Wl.splitP; exact rfl; exact rfl; all_goals (intros; try (exfalso; omega))) | (apply Wl.splitB; exact rfl; exact rfl; all_goals intros) | (apply St.condP; exact rfl; all_goals (intros; try (exfalso; omega))) | (apply St.condB; exact rfl; all_goals intros))
  generalize c = c4 at *
  have hc4 : w.heap.size ≤ c4 := hc
  apply Wl.callC
  exact rfl
  (repeat (first | exact Evs.nil | apply Evs.cons rfl))
  intro wq hq
  refine (rnum_pos c5 (.slice a f.length cap) f 12 p2 1 (by decide) wq (hq.own.at (.tail _ (.head _))) (hbw _ _ hq (by simp; omega)) hp2).mono ?_
  rintro e wr ⟨p3, rfl, hp, hp3⟩
  refine ⟨_, _, rfl, hq.callSet (by (repeat (first | apply HSet.here | apply HSet.there))) hp, ?_⟩
  clear hp hq wq wr
  repeat' (first | (apply Wl.move; exact rfl; exact rfl) | (apply Wl.fieldAddrZ; exact rfl; exact rfl) | (apply Wl.store; exact rfl; exact rfl; exact rfl; (repeat (first | apply HSet.here | apply HSet.there)); (repeat (first | apply LSet.z | apply LSet.s))) | (apply Wl.nil) | (apply St.seq) | (apply St.region) | (apply Gt.next) | (apply Wl.splitP; exact rfl; exact rfl; all_goals (intros; try (exfalso; omega))) | (apply Wl.splitB; exact rfl; exact rfl; all_goals intros) | (apply St.condP; exact rfl; all_goals (intros; try (exfalso; omega))) | (apply St.condB; exact rfl; all_goals intros))
  apply Wl.callC
  exact rfl
  (repeat (first | exact Evs.nil | apply Evs.cons rfl))
  intro wq hq
  refine (rnum_pos c5 (.slice a f.length cap) f 13 p3 1 (by decide) wq (hq.own.at (.tail _ (.head _))) (hbw _ _ hq (by simp; omega)) hp3).mono ?_
  rintro e wr ⟨p4, rfl, hp, hp4⟩
  refine ⟨_, _, rfl, hq.callSet (by (repeat (first | apply HSet.here | apply HSet.there))) hp, ?_⟩
  clear hp hq wq wr
  repeat' (first | (apply Wl.assign; exact rfl; exact rfl) | (apply Wl.nil) | (apply Gt.next) | (apply Wl.splitP; exact rfl; exact rfl; all_goals (intros; try (exfalso; omega))) | (apply Wl.splitB; exact rfl; exact rfl; all_goals intros) | (apply St.condP; exact rfl; all_goals (intros; try (exfalso; omega))) | (apply St.condB; exact rfl; all_goals intros))
  refine St.cut (σ := Bool × Nat × Nat) (fun τ => (τ.1 = true → RefAt f 16 τ.2.1 ∧ τ.2.2 = 16 ∧ part f 0 8 = manMark ∧ num f 14 2 = 0 ∧ num f 13 1 ≤ 4) ∧ (τ.1 = false → decM f = none))
    (fun τ => [(2, .pointer (some ⟨c2, 0, none⟩)), (4, .pointer (some ⟨c5, 0, none⟩)), (6, .pointer (some ⟨c4, 0, none⟩)), (7, .int .i64 (num f 13 1)), (8, .bool τ.1)])
    (fun τ => Hp w [⟨c4, [.int .u32 (num f 8 4), .int .i64 (num f 12 1), .slice none 0 0], 64⟩, ⟨c5, [.slice a f.length cap, .int .i64 τ.2.1, .bool (decide (f.length < τ.2.2))], 34⟩, ⟨c2, [.int .u32 0, .int .i64 0, .slice none 0 0], 64⟩]) ?_ ?_
  · repeat' (first | (apply Wl.move; exact rfl; exact rfl) | (apply Wl.assign; exact rfl; exact rfl) | (apply Wl.on; exact rfl; exact rfl; (first | with_reducible rfl | with_reducible assumption | decide)) | (apply Wl.off; exact rfl; exact rfl; exact rfl; (first | with_reducible rfl | (show _ = false; with_reducible assumption) | (show _ = true; with_reducible assumption) | decide)) | (apply Wl.pickF; exact rfl; exact rfl; (first | with_reducible rfl | with_reducible assumption | decide); exact rfl) | (apply Wl.eqlSB; exact rfl; exact rfl; exact rfl) | (apply Wl.nil) | (apply St.region) | (apply Wl.splitP; exact rfl; exact rfl; all_goals (intros; try (exfalso; omega))) | (apply Wl.splitB; exact rfl; exact rfl; all_goals intros) | (apply St.condP; exact rfl; all_goals (intros; try (exfalso; omega))) | (apply St.condB; exact rfl; all_goals intros))
    · skip
      apply Wl.callC
      exact rfl
      (repeat (first | exact Evs.nil | apply Evs.cons rfl))
      intro wq hq
      refine (rnum_pos c5 (.slice a f.length cap) f 14 p4 2 (by decide) wq (hq.own.at (.tail _ (.head _))) (hbw _ _ hq (by simp; omega)) hp4).mono ?_
      rintro e wr ⟨p5, rfl, hp, hp5⟩
      refine ⟨_, _, rfl, hq.callSet (by (repeat (first | apply HSet.here | apply HSet.there))) hp, ?_⟩
      clear hp hq wq wr
      repeat' (first | (apply Wl.move; exact rfl; exact rfl) | (apply Wl.assign; exact rfl; exact rfl) | (apply Wl.on; exact rfl; exact rfl; (first | with_reducible rfl | with_reducible assumption | decide)) | (apply Wl.off; exact rfl; exact rfl; exact rfl; (first | with_reducible rfl | (show _ = false; with_reducible assumption) | (show _ = true; with_reducible assumption) | decide)) | (apply Wl.pickT; exact rfl; exact rfl; (first | with_reducible rfl | with_reducible assumption | decide); exact rfl) | (apply Wl.pickF; exact rfl; exact rfl; (first | with_reducible rfl | with_reducible assumption | decide); exact rfl) | (apply Wl.eql; exact rfl; exact rfl; exact rfl) | (apply Wl.leq; exact rfl; exact rfl; exact rfl) | (apply Wl.nil) | (apply Wl.splitP; exact rfl; exact rfl; all_goals (intros; try (exfalso; omega))) | (apply Wl.splitB; exact rfl; exact rfl; all_goals intros) | (apply St.condP; exact rfl; all_goals (intros; try (exfalso; omega))) | (apply St.condB; exact rfl; all_goals intros))
      · apply Gt.meet (decide ((num f 13 1 : Int) ≤ 4), p5, 16)
        · have h14 : num f 14 2 = 0 := by have := ‹((num f 14 2 : Nat) : Int) = 0›; omega
          refine ⟨fun h => ⟨hp5, rfl, of_decide_eq_true ‹decide (part f 0 8 = [80, 79, 82, 84, 73, 67, 79, 49]) = true›, h14, by have := of_decide_eq_true h; omega⟩, fun h => ?_⟩
          unfold decM
          rw [if_neg fun h' => by have := of_decide_eq_false h; omega]
        · (repeat (first | exact Sub.nil | apply Sub.cons rfl))
        · exact fun _ h => h
      · apply Gt.meet (false, p5, 16)
        · refine ⟨fun h => (by cases h), fun _ => ?_⟩
          unfold decM
          rw [if_neg fun h' => by have := ‹¬((num f 14 2 : Nat) : Int) = 0›; omega]
        · (repeat (first | exact Sub.nil | apply Sub.cons rfl))
        · exact fun _ h => h
    · apply Gt.meet (false, p4, 14)
      · exact ⟨fun h => (by cases h), fun _ => by unfold decM; rw [if_neg fun h => of_decide_eq_false ‹decide (part f 0 8 = [80, 79, 82, 84, 73, 67, 79, 49]) = false› h.1]⟩
      · (repeat (first | exact Sub.nil | apply Sub.cons rfl))
      · exact fun _ h => h
  rintro ⟨ok, p, k0⟩ ⟨hok, hno⟩
  simp only at hok hno ⊢
  have hdm : ok = true → decM f = match decP f (num f 13 1) 16 with | none => none | some r => if r.2 = f.length then some ⟨num f 8 4, num f 12 1, r.1⟩ else none := fun e => by
    obtain ⟨_, _, h1, h2, h3⟩ := hok e
    unfold decM
    rw [if_pos ⟨h1, h2, h3⟩]
    rfl
  generalize hN : num f 13 1 = N at *
  refine St.reb (H' := [⟨c4, [.int .u32 (num f 8 4), .int .i64 (num f 12 1), .slice none 0 0], 64⟩, ⟨c5, [.slice a f.length cap, .int .i64 p, .bool (decide (f.length < k0))], 34⟩, ⟨c2, [.int .u32 0, .int .i64 0, .slice none 0 0], 64⟩]) ?_
  intro wa hwa
  refine ⟨hwa.own, hwa.apart, ?_⟩
  have hua : Upd (fun k => w.heap.size ≤ k) w wa := (hwa.drop (by simp; omega)).upd.mono fun _ _ y => (y trivial).elim
  have howa := hwa.own
  clear hwa hbw hp1 hp2 hp3 hp4 hx1 hr0
  repeat' (first | (apply Wl.assign; exact rfl; exact rfl) | (apply Wl.nil) | (apply St.seq) | (apply St.block) | (apply St.region) | (apply Gt.next) | (apply Wl.splitP; exact rfl; exact rfl; all_goals (intros; try (exfalso; omega))) | (apply Wl.splitB; exact rfl; exact rfl; all_goals intros) | (apply St.condP; exact rfl; all_goals (intros; try (exfalso; omega))) | (apply St.condB; exact rfl; all_goals intros))
  refine St.loop (σ := Nat × World × Value × List (Py × Value) × Nat × Nat × Bool)
    (fun τ => τ.1 ≤ N ∧ Upd (fun k => w.heap.size ≤ k) w τ.2.1 ∧ (τ.2.2.2.2.2.2 = false → decM f = none) ∧
      (τ.2.2.2.2.2.2 = true → τ.2.1.ownsRow w.heap.size 97 36 τ.2.2.1 τ.1 (τ.2.2.2.1.flatMap pyCells) ∧ τ.2.2.2.1.length = τ.1 ∧ (∀ x ∈ τ.2.2.2.1, PyD w.heap.size τ.2.1 x) ∧
        decM f = (match decP f N 16 with | none => none | some r => if r.2 = f.length then some ⟨num f 8 4, num f 12 1, r.1⟩ else none) ∧
        decP f N 16 = (decP f (N - τ.1) τ.2.2.2.2.2.1).map (fun r => (τ.2.2.2.1.map (·.1) ++ r.1, r.2)) ∧ RefAt f τ.2.2.2.2.2.1 τ.2.2.2.2.1) ∧
      Own τ.2.1 [⟨c4, [.int .u32 (num f 8 4), .int .i64 (num f 12 1), τ.2.2.1], 64⟩, ⟨c5, [.slice a f.length cap, .int .i64 τ.2.2.2.2.1, .bool (decide (f.length < τ.2.2.2.2.2.1))], 34⟩, ⟨c2, [.int .u32 0, .int .i64 0, .slice none 0 0], 64⟩])
    (fun τ => [(2, .pointer (some ⟨c2, 0, none⟩)), (4, .pointer (some ⟨c5, 0, none⟩)), (6, .pointer (some ⟨c4, 0, none⟩)), (7, .int .i64 N), (8, .bool τ.2.2.2.2.2.2), (9, .int .i64 τ.1)])
    (fun τ => Hp τ.2.1 [⟨c4, [.int .u32 (num f 8 4), .int .i64 (num f 12 1), τ.2.2.1], 64⟩, ⟨c5, [.slice a f.length cap, .int .i64 τ.2.2.2.2.1, .bool (decide (f.length < τ.2.2.2.2.2.1))], 34⟩, ⟨c2, [.int .u32 0, .int .i64 0, .slice none 0 0], 64⟩])
    (fun τ => N - τ.1) (0, wa, .slice none 0 0, [], p, k0, ok) ⟨Nat.zero_le _, hua, hno, fun e => ⟨World.ownsRow_nil _ _ _ _, rfl, fun x hx => (by cases hx), hdm e, by rw [(hok e).2.1]; cases decP f N 16 <;> simp, by rw [(hok e).2.1]; exact (hok e).1⟩, howa⟩ (by (repeat (first | exact Sub.nil | apply Sub.cons rfl))) (fun _ h => h) ?_
  clear hua howa hok hno hdm wa ok p k0
  rintro ⟨i, w0, pv, xs, p, k, ok⟩ ⟨hin, hu, hno, hok, hob⟩
  simp only at hin hu hno hok hob ⊢
  have hus := hu.size
  have hbw (wq : World) (H : List Blk) (hq : Hp w0 H wq) (hH : ∀ x ∈ H, w.heap.size ≤ x.b) : Bs wq (.slice a f.length cap) f := hv.upd (hu.comp hq.upd fun j _ hs => hs.elim id fun y => Classical.byContradiction fun hlt => y (Off.of fun x hx e => by have := hH x hx; omega)) fun j _ hj _ hno => by omega
  have l4 : c4 < w0.heap.size := hob.lt (.head _)
  have l5 : c5 < w0.heap.size := hob.lt (.tail _ (.head _))
  have l2 : c2 < w0.heap.size := hob.lt (.tail _ (.tail _ (.head _)))
  cases ok
  · have hdn := hno rfl
    repeat' (first | (apply Gt.outCT; exact rfl; infer_instance; exact rfl; exact rfl; (repeat (first | exact List.Mem.head _ | apply List.Mem.tail)); (repeat (first | apply LSub.z | apply LSub.t | apply LSub.s)); intro w' hp) | (apply Wl.move; exact rfl; exact rfl) | (apply Wl.assign; exact rfl; exact rfl) | (apply Wl.on; exact rfl; exact rfl; (first | with_reducible rfl | with_reducible assumption | decide)) | (apply Wl.off; exact rfl; exact rfl; exact rfl; (first | with_reducible rfl | (show _ = false; with_reducible assumption) | (show _ = true; with_reducible assumption) | decide)) | (apply Wl.pickT; exact rfl; exact rfl; (first | with_reducible rfl | with_reducible assumption | decide); exact rfl) | (apply Wl.pickF; exact rfl; exact rfl; (first | with_reducible rfl | with_reducible assumption | decide); exact rfl) | (apply Wl.not; exact rfl; exact rfl) | (apply Wl.lss; exact rfl; exact rfl; exact rfl) | (apply Wl.storeA; exact rfl; exact rfl; exact rfl; exact rfl; (repeat (first | apply HSet.here | apply HSet.there)); (repeat (first | apply LPut.s | apply LPut.z | apply LOver.nil | apply LOver.cons))) | (apply Wl.buildS; exact rfl; (repeat (first | exact Parts.nil | apply Parts.cons rfl)); (repeat (first | apply Fills.nil | (apply Fills.one; exact rfl; exact rfl; (repeat (first | apply LSet.z | apply LSet.s))) | (apply Fills.agg; exact rfl; exact rfl; (repeat (first | apply LPut.s | apply LPut.z | apply LOver.nil | apply LOver.cons)))))) | (apply Wl.nil) | (apply St.seq) | (apply St.region) | (apply St.condT; exact rfl; (first | with_reducible rfl | with_reducible assumption | decide)) | (apply St.condF; exact rfl; (first | with_reducible rfl | with_reducible assumption | decide)) | (apply St.ret) | (apply St.exit) | (apply Gt.next) | (apply Gt.thenRet) | (apply Gt.thenExit) | (apply Gt.inExit) | (apply Wl.splitP; exact rfl; exact rfl; all_goals (intros; try (exfalso; omega))) | (apply Wl.splitB; exact rfl; exact rfl; all_goals intros) | (apply St.condP; exact rfl; all_goals (intros; try (exfalso; omega))) | (apply St.condB; exact rfl; all_goals intros))
    all_goals exact decPost_none hdn (hu.comp hp.upd fun j _ hs => hs.elim id fun y => Classical.byContradiction fun hlt => y (Off.of fun x hx e => by have : w.heap.size ≤ x.b := (by revert x; simp; omega); omega))
  obtain ⟨hown, hxl, hpd, hdm, hdp, hpr⟩ := hok rfl
  clear hok hno
  by_cases hlt : i < N
  · obtain ⟨d0, d1, d2, d3, d4, d5, d6, d7, d8, d9, d10, d11, d12, d13, d14, d15, d16, d17, d18, d19, d20, d21, d22, d23, d24, d25, d26, d27, d28, d29, d30, d31, hdig⟩ := list32 (digAt f k) (digAt_len f k)
    repeat' (first | (apply Wl.move; exact rfl; exact rfl) | (apply Wl.on; exact rfl; exact rfl; (first | with_reducible rfl | with_reducible assumption | decide)) | (apply Wl.pickT; exact rfl; exact rfl; (first | with_reducible rfl | with_reducible assumption | decide); exact rfl) | (apply Wl.lss; exact rfl; exact rfl; exact rfl) | (apply Wl.nil) | (apply St.region) | (apply St.condT; exact rfl; (first | with_reducible rfl | with_reducible assumption | decide)) | (apply St.skip) | (apply Gt.next) | (apply St.seqK (k := 11); exact rfl) | (apply St.seqKS (k := 11); exact rfl) | (apply Wl.splitP; exact rfl; exact rfl; all_goals (intros; try (exfalso; omega))) | (apply Wl.splitB; exact rfl; exact rfl; all_goals intros) | (apply St.condP; exact rfl; all_goals (intros; try (exfalso; omega))) | (apply St.condB; exact rfl; all_goals intros))
    apply St.seq
    apply St.block
    repeat' (first | (apply Wl.alloc; exact rfl; intro c hc ho) | (apply Wl.nil) | (apply St.region) | (apply Gt.next) | (apply St.seqK (k := 11); exact rfl) | (apply Wl.splitP; exact rfl; exact rfl; all_goals (intros; try (exfalso; omega))) | (apply Wl.splitB; exact rfl; exact rfl; all_goals intros) | (apply St.condP; exact rfl; all_goals (intros; try (exfalso; omega))) | (apply St.condB; exact rfl; all_goals intros))
    generalize c = c7 at *
    have hc7 : w0.heap.size ≤ c7 := hc
    apply St.seq
    refine St.tree (fun _ => True) mixed (fun _ h => ⟨Hp.drew h, trivial⟩) ?_
    refine Mt.pure 0 (by kernel_rfl) (by exact rfl) (by exact rfl) (by kernel_rfl) (by kernel_rfl) ?_
    repeat' (first | (apply Wl.fieldAddr0; exact rfl; exact rfl) | (apply Wl.nilM) | (apply Wl.splitP; exact rfl; exact rfl; all_goals (intros; try (exfalso; omega))) | (apply Wl.splitB; exact rfl; exact rfl; all_goals intros) | (apply St.condP; exact rfl; all_goals (intros; try (exfalso; omega))) | (apply St.condB; exact rfl; all_goals intros))
    apply Mt.back
    refine Mt.pure 1 (by kernel_rfl) (by exact rfl) (by exact rfl) (by kernel_rfl) (by kernel_rfl) ?_
    repeat' (first | (apply Wl.sliceArr; exact rfl; exact rfl; decide) | (apply Wl.nilM) | (apply Wl.splitP; exact rfl; exact rfl; all_goals (intros; try (exfalso; omega))) | (apply Wl.splitB; exact rfl; exact rfl; all_goals intros) | (apply St.condP; exact rfl; all_goals (intros; try (exfalso; omega))) | (apply St.condB; exact rfl; all_goals intros))
    apply Mt.back
    refine Mt.pure 2 (by kernel_rfl) (by exact rfl) (by exact rfl) (by kernel_rfl) (by kernel_rfl) ?_
    repeat' (first | (apply Wl.move; exact rfl; exact rfl) | (apply Wl.nilM) | (apply Wl.splitP; exact rfl; exact rfl; all_goals (intros; try (exfalso; omega))) | (apply Wl.splitB; exact rfl; exact rfl; all_goals intros) | (apply St.condP; exact rfl; all_goals (intros; try (exfalso; omega))) | (apply St.condB; exact rfl; all_goals intros))
    apply Mt.back
    refine Mt.eff1 (i := 3) (by decide +kernel) (by exact rfl) ?_
    apply Wl.callC
    exact rfl
    (repeat (first | exact Evs.nil | apply Evs.cons rfl))
    intro wq hq
    refine (rtake_pos c5 (.slice a f.length cap) f k p 32 wq (hq.own.at (.tail _ (.tail _ (.head _)))) (hbw _ _ hq (by simp; omega)) hpr).mono ?_
    rintro e wr ⟨x2, p1, rfl, hp, hp1, hx2⟩
    refine ⟨_, _, rfl, hq.callSet (by (repeat (first | apply HSet.here | apply HSet.there))) hp, ?_⟩
    clear hp hq wq wr
    repeat' (first | (apply Wl.nil) | (apply Wl.splitP; exact rfl; exact rfl; all_goals (intros; try (exfalso; omega))) | (apply Wl.splitB; exact rfl; exact rfl; all_goals intros) | (apply St.condP; exact rfl; all_goals (intros; try (exfalso; omega))) | (apply St.condB; exact rfl; all_goals intros))
    refine Mt.backE (fun _ _ => trivial) ?_
    refine Mt.eff1 (i := 4) (by decide +kernel) (by exact rfl) ?_
    apply Wl.copyB (l := part f k 32) (cs' := Value.int .u8 (d0.toNat : Int) :: Value.int .u8 (d1.toNat : Int) :: Value.int .u8 (d2.toNat : Int) :: Value.int .u8 (d3.toNat : Int) :: Value.int .u8 (d4.toNat : Int) :: Value.int .u8 (d5.toNat : Int) :: Value.int .u8 (d6.toNat : Int) :: Value.int .u8 (d7.toNat : Int) :: Value.int .u8 (d8.toNat : Int) :: Value.int .u8 (d9.toNat : Int) :: Value.int .u8 (d10.toNat : Int) :: Value.int .u8 (d11.toNat : Int) :: Value.int .u8 (d12.toNat : Int) :: Value.int .u8 (d13.toNat : Int) :: Value.int .u8 (d14.toNat : Int) :: Value.int .u8 (d15.toNat : Int) :: Value.int .u8 (d16.toNat : Int) :: Value.int .u8 (d17.toNat : Int) :: Value.int .u8 (d18.toNat : Int) :: Value.int .u8 (d19.toNat : Int) :: Value.int .u8 (d20.toNat : Int) :: Value.int .u8 (d21.toNat : Int) :: Value.int .u8 (d22.toNat : Int) :: Value.int .u8 (d23.toNat : Int) :: Value.int .u8 (d24.toNat : Int) :: Value.int .u8 (d25.toNat : Int) :: Value.int .u8 (d26.toNat : Int) :: Value.int .u8 (d27.toNat : Int) :: Value.int .u8 (d28.toNat : Int) :: Value.int .u8 (d29.toNat : Int) :: Value.int .u8 (d30.toNat : Int) :: Value.int .u8 (d31.toNat : Int) :: [.int .u32 0, .int .u32 0, .slice none 0 0, .int .i64 0])
    · exact rfl
    · exact rfl
    · exact rfl
    · (repeat (first | apply HSet.here | apply HSet.there))
    · exact (digcopy f k _).trans (by rw [hdig]; rfl)
    · exact part_len f k 32
    · exact Nat.le_of_ble_eq_true rfl
    · exact fun u hq => hx2 u (hbw u _ hq (by simp; omega))
    repeat' (first | (apply Wl.nil) | (apply Wl.splitP; exact rfl; exact rfl; all_goals (intros; try (exfalso; omega))) | (apply Wl.splitB; exact rfl; exact rfl; all_goals intros) | (apply St.condP; exact rfl; all_goals (intros; try (exfalso; omega))) | (apply St.condB; exact rfl; all_goals intros))
    refine Mt.backE (fun _ _ => trivial) ?_
    refine Mt.toGt (by decide +kernel) ?_
    have m32 := num4 f (k + 32)
    have m36 := num4 f (k + 32 + 4)
    have m40 := num1 f (k + 32 + 4 + 4)
    have m41 := num1 f (k + 32 + 4 + 4 + 1)
    have m42 := num2 f (k + 32 + 4 + 4 + 1 + 1)
    repeat' (first | (apply Wl.move; exact rfl; exact rfl) | (apply St.seq) | (apply St.region) | (apply Gt.next) | (apply Wl.splitP; exact rfl; exact rfl; all_goals (intros; try (exfalso; omega))) | (apply Wl.splitB; exact rfl; exact rfl; all_goals intros) | (apply St.condP; exact rfl; all_goals (intros; try (exfalso; omega))) | (apply St.condB; exact rfl; all_goals intros))
    apply Wl.callC
    exact rfl
    (repeat (first | exact Evs.nil | apply Evs.cons rfl))
    intro wq hq
    refine (rnum_pos c5 (.slice a f.length cap) f (k + 32) p1 4 (by decide) wq (hq.own.at (.tail _ (.tail _ (.head _)))) (hbw _ _ hq (by simp; omega)) hp1).mono ?_
    rintro e wr ⟨p2, rfl, hp, hp2⟩
    refine ⟨_, _, rfl, hq.callSet (by (repeat (first | apply HSet.here | apply HSet.there))) hp, ?_⟩
    clear hp hq wq wr
    repeat' (first | (apply Wl.move; exact rfl; exact rfl) | (apply Wl.fieldAddrZ; exact rfl; exact rfl) | (apply Wl.convU32; exact rfl; exact rfl; (constructor <;> omega)) | (apply Wl.store; exact rfl; exact rfl; exact rfl; (repeat (first | apply HSet.here | apply HSet.there)); (repeat (first | apply LSet.z | apply LSet.s))) | (apply Wl.nil) | (apply St.seq) | (apply St.region) | (apply Gt.next) | (apply Wl.splitP; exact rfl; exact rfl; all_goals (intros; try (exfalso; omega))) | (apply Wl.splitB; exact rfl; exact rfl; all_goals intros) | (apply St.condP; exact rfl; all_goals (intros; try (exfalso; omega))) | (apply St.condB; exact rfl; all_goals intros))
    apply Wl.callC
    exact rfl
    (repeat (first | exact Evs.nil | apply Evs.cons rfl))
    intro wq hq
    refine (rnum_pos c5 (.slice a f.length cap) f (k + 32 + 4) p2 4 (by decide) wq (hq.own.at (.tail _ (.tail _ (.head _)))) (hbw _ _ hq (by simp; omega)) hp2).mono ?_
    rintro e wr ⟨p3, rfl, hp, hp3⟩
    refine ⟨_, _, rfl, hq.callSet (by (repeat (first | apply HSet.here | apply HSet.there))) hp, ?_⟩
    clear hp hq wq wr
    repeat' (first | (apply Wl.move; exact rfl; exact rfl) | (apply Wl.fieldAddrZ; exact rfl; exact rfl) | (apply Wl.convU32; exact rfl; exact rfl; (constructor <;> omega)) | (apply Wl.store; exact rfl; exact rfl; exact rfl; (repeat (first | apply HSet.here | apply HSet.there)); (repeat (first | apply LSet.z | apply LSet.s))) | (apply Wl.nil) | (apply St.seq) | (apply St.region) | (apply Gt.next) | (apply Wl.splitP; exact rfl; exact rfl; all_goals (intros; try (exfalso; omega))) | (apply Wl.splitB; exact rfl; exact rfl; all_goals intros) | (apply St.condP; exact rfl; all_goals (intros; try (exfalso; omega))) | (apply St.condB; exact rfl; all_goals intros))
    apply Wl.callC
    exact rfl
    (repeat (first | exact Evs.nil | apply Evs.cons rfl))
    intro wq hq
    refine (rnum_pos c5 (.slice a f.length cap) f (k + 32 + 4 + 4) p3 1 (by decide) wq (hq.own.at (.tail _ (.tail _ (.head _)))) (hbw _ _ hq (by simp; omega)) hp3).mono ?_
    rintro e wr ⟨p4, rfl, hp, hp4⟩
    refine ⟨_, _, rfl, hq.callSet (by (repeat (first | apply HSet.here | apply HSet.there))) hp, ?_⟩
    clear hp hq wq wr
    repeat' (first | (apply Wl.move; exact rfl; exact rfl) | (apply Wl.fieldAddrZ; exact rfl; exact rfl) | (apply Wl.store; exact rfl; exact rfl; exact rfl; (repeat (first | apply HSet.here | apply HSet.there)); (repeat (first | apply LSet.z | apply LSet.s))) | (apply Wl.nil) | (apply St.seq) | (apply St.region) | (apply Gt.next) | (apply Wl.splitP; exact rfl; exact rfl; all_goals (intros; try (exfalso; omega))) | (apply Wl.splitB; exact rfl; exact rfl; all_goals intros) | (apply St.condP; exact rfl; all_goals (intros; try (exfalso; omega))) | (apply St.condB; exact rfl; all_goals intros))
    apply Wl.callC
    exact rfl
    (repeat (first | exact Evs.nil | apply Evs.cons rfl))
    intro wq hq
    refine (rnum_pos c5 (.slice a f.length cap) f (k + 32 + 4 + 4 + 1) p4 1 (by decide) wq (hq.own.at (.tail _ (.tail _ (.head _)))) (hbw _ _ hq (by simp; omega)) hp4).mono ?_
    rintro e wr ⟨p5, rfl, hp, hp5⟩
    refine ⟨_, _, rfl, hq.callSet (by (repeat (first | apply HSet.here | apply HSet.there))) hp, ?_⟩
    clear hp hq wq wr
    repeat' (first | (apply Wl.assign; exact rfl; exact rfl) | (apply Wl.nil) | (apply Gt.next) | (apply Wl.splitP; exact rfl; exact rfl; all_goals (intros; try (exfalso; omega))) | (apply Wl.splitB; exact rfl; exact rfl; all_goals intros) | (apply St.condP; exact rfl; all_goals (intros; try (exfalso; omega))) | (apply St.condB; exact rfl; all_goals intros))
    have hdP0 : num f (k + 32 + 4 + 4 + 1 + 1) 2 = 0 ∧ num f (k + 32 + 4 + 4 + 1) 1 ≤ 4 → decP f (N - i) k = match decG f (num f (k + 32 + 4 + 4 + 1) 1) (k + 44) with
        | none => none
        | some gs => (decP f (N - (i + 1)) (k + 44 + 12 * num f (k + 32 + 4 + 4 + 1) 1)).map fun r => (⟨digAt f k, num f (k + 32) 4, num f (k + 32 + 4) 4, gs, num f (k + 32 + 4 + 4) 1⟩ :: r.1, r.2) := fun h => by
      rw [show N - i = (N - (i + 1)) + 1 by omega]
      simp only [decP]
      rw [if_pos h]
      rfl
    have hdP1 : ¬(num f (k + 32 + 4 + 4 + 1 + 1) 2 = 0 ∧ num f (k + 32 + 4 + 4 + 1) 1 ≤ 4) → decM f = none := fun h => by
      rw [hdm, hdp, show N - i = (N - (i + 1)) + 1 by omega]
      simp only [decP]
      rw [if_neg h]
      rfl
    generalize hKe : num f (k + 32 + 4 + 4 + 1) 1 = K at *
    generalize num f (k + 32) 4 = psz at *
    generalize num f (k + 32 + 4) 4 = pbi at *
    generalize num f (k + 32 + 4 + 4) 1 = pca at *
    generalize hZe : num f (k + 32 + 4 + 4 + 1 + 1) 2 = Z at *
    refine St.cut (σ := Bool × Nat) (fun τ => RefAt f (k + 44) τ.2 ∧ (τ.1 = true → Z = 0 ∧ K ≤ 4) ∧ (τ.1 = false → decM f = none))
      (fun τ => [(2, .pointer (some ⟨c2, 0, none⟩)), (4, .pointer (some ⟨c5, 0, none⟩)), (6, .pointer (some ⟨c4, 0, none⟩)), (7, .int .i64 N), (8, .bool τ.1), (9, .int .i64 i), (10, .pointer (some ⟨c7, 0, none⟩)), (11, .int .i64 K)])
      (fun τ => Hp w0 [⟨c7, Value.int .u8 (d0.toNat : Int) :: Value.int .u8 (d1.toNat : Int) :: Value.int .u8 (d2.toNat : Int) :: Value.int .u8 (d3.toNat : Int) :: Value.int .u8 (d4.toNat : Int) :: Value.int .u8 (d5.toNat : Int) :: Value.int .u8 (d6.toNat : Int) :: Value.int .u8 (d7.toNat : Int) :: Value.int .u8 (d8.toNat : Int) :: Value.int .u8 (d9.toNat : Int) :: Value.int .u8 (d10.toNat : Int) :: Value.int .u8 (d11.toNat : Int) :: Value.int .u8 (d12.toNat : Int) :: Value.int .u8 (d13.toNat : Int) :: Value.int .u8 (d14.toNat : Int) :: Value.int .u8 (d15.toNat : Int) :: Value.int .u8 (d16.toNat : Int) :: Value.int .u8 (d17.toNat : Int) :: Value.int .u8 (d18.toNat : Int) :: Value.int .u8 (d19.toNat : Int) :: Value.int .u8 (d20.toNat : Int) :: Value.int .u8 (d21.toNat : Int) :: Value.int .u8 (d22.toNat : Int) :: Value.int .u8 (d23.toNat : Int) :: Value.int .u8 (d24.toNat : Int) :: Value.int .u8 (d25.toNat : Int) :: Value.int .u8 (d26.toNat : Int) :: Value.int .u8 (d27.toNat : Int) :: Value.int .u8 (d28.toNat : Int) :: Value.int .u8 (d29.toNat : Int) :: Value.int .u8 (d30.toNat : Int) :: Value.int .u8 (d31.toNat : Int) :: [.int .u32 psz, .int .u32 pbi, .slice none 0 0, .int .i64 pca], 97⟩, ⟨c4, [.int .u32 (num f 8 4), .int .i64 (num f 12 1), pv], 64⟩, ⟨c5, [.slice a f.length cap, .int .i64 τ.2, .bool (decide (f.length < k + 44))], 34⟩, ⟨c2, [.int .u32 0, .int .i64 0, .slice none 0 0], 64⟩]) ?_ ?_
    · repeat' (first | (apply Wl.move; exact rfl; exact rfl) | (apply St.region) | (apply Wl.splitP; exact rfl; exact rfl; all_goals (intros; try (exfalso; omega))) | (apply Wl.splitB; exact rfl; exact rfl; all_goals intros) | (apply St.condP; exact rfl; all_goals (intros; try (exfalso; omega))) | (apply St.condB; exact rfl; all_goals intros))
      apply Wl.callC
      exact rfl
      (repeat (first | exact Evs.nil | apply Evs.cons rfl))
      intro wq hq
      refine (rnum_pos c5 (.slice a f.length cap) f (k + 32 + 4 + 4 + 1 + 1) p5 2 (by decide) wq (hq.own.at (.tail _ (.tail _ (.head _)))) (hbw _ _ hq (by simp; omega)) hp5).mono ?_
      rintro e wr ⟨p6, rfl, hp, hp6⟩
      refine ⟨_, _, rfl, hq.callSet (by (repeat (first | apply HSet.here | apply HSet.there))) hp, ?_⟩
      clear hp hq wq wr
      rw [hZe]
      repeat' (first | (apply Wl.move; exact rfl; exact rfl) | (apply Wl.assign; exact rfl; exact rfl) | (apply Wl.on; exact rfl; exact rfl; (first | with_reducible rfl | with_reducible assumption | decide)) | (apply Wl.off; exact rfl; exact rfl; exact rfl; (first | with_reducible rfl | (show _ = false; with_reducible assumption) | (show _ = true; with_reducible assumption) | decide)) | (apply Wl.pickT; exact rfl; exact rfl; (first | with_reducible rfl | with_reducible assumption | decide); exact rfl) | (apply Wl.pickF; exact rfl; exact rfl; (first | with_reducible rfl | with_reducible assumption | decide); exact rfl) | (apply Wl.eql; exact rfl; exact rfl; exact rfl) | (apply Wl.leq; exact rfl; exact rfl; exact rfl) | (apply Wl.nil) | (apply Wl.splitP; exact rfl; exact rfl; all_goals (intros; try (exfalso; omega))) | (apply Wl.splitB; exact rfl; exact rfl; all_goals intros) | (apply St.condP; exact rfl; all_goals (intros; try (exfalso; omega))) | (apply St.condB; exact rfl; all_goals intros))
      · apply Gt.meet (decide ((K : Int) ≤ 4), p6)
        · exact ⟨hp6, fun h => ⟨by omega, by have := of_decide_eq_true h; omega⟩, fun h => hdP1 fun h' => by have := of_decide_eq_false h; omega⟩
        · (repeat (first | exact Sub.nil | apply Sub.cons rfl))
        · exact fun _ h => h
      · apply Gt.meet (false, p6)
        · exact ⟨hp6, fun h => (by cases h), fun _ => hdP1 fun h' => by omega⟩
        · (repeat (first | exact Sub.nil | apply Sub.cons rfl))
        · exact fun _ h => h
    clear hp1 hp2 hp3 hp4 hp5 hx2 hdP1 hZe
    rintro ⟨ok, p0⟩ ⟨hp0, hok, hno⟩
    simp only at hp0 hok hno ⊢
    refine St.reb (H' := [⟨c7, Value.int .u8 (d0.toNat : Int) :: Value.int .u8 (d1.toNat : Int) :: Value.int .u8 (d2.toNat : Int) :: Value.int .u8 (d3.toNat : Int) :: Value.int .u8 (d4.toNat : Int) :: Value.int .u8 (d5.toNat : Int) :: Value.int .u8 (d6.toNat : Int) :: Value.int .u8 (d7.toNat : Int) :: Value.int .u8 (d8.toNat : Int) :: Value.int .u8 (d9.toNat : Int) :: Value.int .u8 (d10.toNat : Int) :: Value.int .u8 (d11.toNat : Int) :: Value.int .u8 (d12.toNat : Int) :: Value.int .u8 (d13.toNat : Int) :: Value.int .u8 (d14.toNat : Int) :: Value.int .u8 (d15.toNat : Int) :: Value.int .u8 (d16.toNat : Int) :: Value.int .u8 (d17.toNat : Int) :: Value.int .u8 (d18.toNat : Int) :: Value.int .u8 (d19.toNat : Int) :: Value.int .u8 (d20.toNat : Int) :: Value.int .u8 (d21.toNat : Int) :: Value.int .u8 (d22.toNat : Int) :: Value.int .u8 (d23.toNat : Int) :: Value.int .u8 (d24.toNat : Int) :: Value.int .u8 (d25.toNat : Int) :: Value.int .u8 (d26.toNat : Int) :: Value.int .u8 (d27.toNat : Int) :: Value.int .u8 (d28.toNat : Int) :: Value.int .u8 (d29.toNat : Int) :: Value.int .u8 (d30.toNat : Int) :: Value.int .u8 (d31.toNat : Int) :: [.int .u32 psz, .int .u32 pbi, .slice none 0 0, .int .i64 pca], 97⟩, ⟨c4, [.int .u32 (num f 8 4), .int .i64 (num f 12 1), pv], 64⟩, ⟨c5, [.slice a f.length cap, .int .i64 p0, .bool (decide (f.length < k + 44))], 34⟩, ⟨c2, [.int .u32 0, .int .i64 0, .slice none 0 0], 64⟩]) ?_
    intro wb hwb
    refine ⟨hwb.own, hwb.apart, ?_⟩
    have hS {H : List Blk} {b : Nat} (hH : ∀ x ∈ H, w0.heap.size ≤ x.b ∨ x.b = c5 ∨ x.b = c4 ∨ x.b = c2) (y : ¬ Off H b) : w0.heap.size ≤ b ∨ b = c5 ∨ b = c4 ∨ b = c2 :=
      Classical.byContradiction fun hn => y (Off.of fun x hx e => hn (e ▸ hH x hx))
    have hub : Upd (fun b => w0.heap.size ≤ b ∨ b = c5 ∨ b = c4 ∨ b = c2) w0 wb := hwb.upd.mono fun b _ y => hS (by simp; omega) y
    have hob1 := hwb.own
    clear hwb hc
    repeat' (first | (apply Wl.assign; exact rfl; exact rfl) | (apply Wl.nil) | (apply St.seq) | (apply St.block) | (apply St.region) | (apply Gt.next) | (apply Wl.splitP; exact rfl; exact rfl; all_goals (intros; try (exfalso; omega))) | (apply Wl.splitB; exact rfl; exact rfl; all_goals intros) | (apply St.condP; exact rfl; all_goals (intros; try (exfalso; omega))) | (apply St.condB; exact rfl; all_goals intros))
    refine St.loop (σ := Nat × World × Value × List Gr × Nat × Bool)
      (fun τ => τ.1 ≤ K ∧ Upd (fun b => w0.heap.size ≤ b ∨ b = c5 ∨ b = c4 ∨ b = c2) w0 τ.2.1 ∧ τ.2.1.ownsRow w0.heap.size 99 3 τ.2.2.1 τ.1 (τ.2.2.2.1.flatMap grCells) ∧ τ.2.2.2.1.length = τ.1 ∧ RefAt f (k + 44 + 12 * τ.1) τ.2.2.2.2.1 ∧
        (τ.2.2.2.2.2 = true → Z = 0 ∧ K ≤ 4 ∧ (∀ g ∈ τ.2.2.2.1, GrOk g) ∧ decG f K (k + 44) = (decG f (K - τ.1) (k + 44 + 12 * τ.1)).map (τ.2.2.2.1 ++ ·)) ∧ (τ.2.2.2.2.2 = false → decM f = none) ∧
        Own τ.2.1 [⟨c7, Value.int .u8 (d0.toNat : Int) :: Value.int .u8 (d1.toNat : Int) :: Value.int .u8 (d2.toNat : Int) :: Value.int .u8 (d3.toNat : Int) :: Value.int .u8 (d4.toNat : Int) :: Value.int .u8 (d5.toNat : Int) :: Value.int .u8 (d6.toNat : Int) :: Value.int .u8 (d7.toNat : Int) :: Value.int .u8 (d8.toNat : Int) :: Value.int .u8 (d9.toNat : Int) :: Value.int .u8 (d10.toNat : Int) :: Value.int .u8 (d11.toNat : Int) :: Value.int .u8 (d12.toNat : Int) :: Value.int .u8 (d13.toNat : Int) :: Value.int .u8 (d14.toNat : Int) :: Value.int .u8 (d15.toNat : Int) :: Value.int .u8 (d16.toNat : Int) :: Value.int .u8 (d17.toNat : Int) :: Value.int .u8 (d18.toNat : Int) :: Value.int .u8 (d19.toNat : Int) :: Value.int .u8 (d20.toNat : Int) :: Value.int .u8 (d21.toNat : Int) :: Value.int .u8 (d22.toNat : Int) :: Value.int .u8 (d23.toNat : Int) :: Value.int .u8 (d24.toNat : Int) :: Value.int .u8 (d25.toNat : Int) :: Value.int .u8 (d26.toNat : Int) :: Value.int .u8 (d27.toNat : Int) :: Value.int .u8 (d28.toNat : Int) :: Value.int .u8 (d29.toNat : Int) :: Value.int .u8 (d30.toNat : Int) :: Value.int .u8 (d31.toNat : Int) :: [.int .u32 psz, .int .u32 pbi, τ.2.2.1, .int .i64 pca], 97⟩, ⟨c4, [.int .u32 (num f 8 4), .int .i64 (num f 12 1), pv], 64⟩, ⟨c5, [.slice a f.length cap, .int .i64 τ.2.2.2.2.1, .bool (decide (f.length < k + 44 + 12 * τ.1))], 34⟩, ⟨c2, [.int .u32 0, .int .i64 0, .slice none 0 0], 64⟩])
      (fun τ => [(2, .pointer (some ⟨c2, 0, none⟩)), (4, .pointer (some ⟨c5, 0, none⟩)), (6, .pointer (some ⟨c4, 0, none⟩)), (7, .int .i64 N), (8, .bool τ.2.2.2.2.2), (9, .int .i64 i), (10, .pointer (some ⟨c7, 0, none⟩)), (11, .int .i64 K), (12, .int .i64 τ.1)])
      (fun τ => Hp τ.2.1 [⟨c7, Value.int .u8 (d0.toNat : Int) :: Value.int .u8 (d1.toNat : Int) :: Value.int .u8 (d2.toNat : Int) :: Value.int .u8 (d3.toNat : Int) :: Value.int .u8 (d4.toNat : Int) :: Value.int .u8 (d5.toNat : Int) :: Value.int .u8 (d6.toNat : Int) :: Value.int .u8 (d7.toNat : Int) :: Value.int .u8 (d8.toNat : Int) :: Value.int .u8 (d9.toNat : Int) :: Value.int .u8 (d10.toNat : Int) :: Value.int .u8 (d11.toNat : Int) :: Value.int .u8 (d12.toNat : Int) :: Value.int .u8 (d13.toNat : Int) :: Value.int .u8 (d14.toNat : Int) :: Value.int .u8 (d15.toNat : Int) :: Value.int .u8 (d16.toNat : Int) :: Value.int .u8 (d17.toNat : Int) :: Value.int .u8 (d18.toNat : Int) :: Value.int .u8 (d19.toNat : Int) :: Value.int .u8 (d20.toNat : Int) :: Value.int .u8 (d21.toNat : Int) :: Value.int .u8 (d22.toNat : Int) :: Value.int .u8 (d23.toNat : Int) :: Value.int .u8 (d24.toNat : Int) :: Value.int .u8 (d25.toNat : Int) :: Value.int .u8 (d26.toNat : Int) :: Value.int .u8 (d27.toNat : Int) :: Value.int .u8 (d28.toNat : Int) :: Value.int .u8 (d29.toNat : Int) :: Value.int .u8 (d30.toNat : Int) :: Value.int .u8 (d31.toNat : Int) :: [.int .u32 psz, .int .u32 pbi, τ.2.2.1, .int .i64 pca], 97⟩, ⟨c4, [.int .u32 (num f 8 4), .int .i64 (num f 12 1), pv], 64⟩, ⟨c5, [.slice a f.length cap, .int .i64 τ.2.2.2.2.1, .bool (decide (f.length < k + 44 + 12 * τ.1))], 34⟩, ⟨c2, [.int .u32 0, .int .i64 0, .slice none 0 0], 64⟩])
      (fun τ => K - τ.1) (0, wb, .slice none 0 0, [], p0, ok) ⟨Nat.zero_le _, hub, World.ownsRow_nil _ _ _ _, rfl, hp0, fun e => ⟨(hok e).1, (hok e).2, fun x hx => (by cases hx), by cases decG f K (k + 44) <;> simp⟩, hno, hob1⟩ (by (repeat (first | exact Sub.nil | apply Sub.cons rfl))) (fun _ h => h) ?_
    clear hub hob1 hp0 hok hno wb ok p0 m42
    rintro ⟨j, w1, gv, gs, p, ok⟩ ⟨hjn, hu1, hown1, hgl, hpr', hok, hno, hob1⟩
    simp only at hjn hu1 hown1 hgl hpr' hok hno hob1 ⊢
    have hus1 := hu1.size
    have huw : Upd (fun k => w.heap.size ≤ k) w w1 := hu.comp hu1 fun j _ hs => hs.elim id fun y => by omega
    have hbw1 (wq : World) (H : List Blk) (hq : Hp w1 H wq) (hH : ∀ x ∈ H, w.heap.size ≤ x.b) : Bs wq (.slice a f.length cap) f := hv.upd (huw.comp hq.upd fun j _ hs => hs.elim id fun y => Classical.byContradiction fun hlt => y (Off.of fun x hx e => by have := hH x hx; omega)) fun j _ hj _ hno => by omega
    have l7 : c7 < w1.heap.size := hob1.lt (.head _)
    have hown' : w1.ownsRow w.heap.size 97 36 pv i (xs.flatMap pyCells) := ownsRow_upd hown hu1 fun q hq hs => by
      have h1 := (hown.lt q hq).2
      have h2 := own_off hown hob rfl hq
      rcases hs with hs | hs | hs | hs
      · omega
      · exact h2.2.1 hs.symm
      · exact h2.1 hs.symm
      · exact h2.2.2.1 hs.symm
    cases ok
    · have hdn := hno rfl
      obtain ⟨_, ag, cg, rfl, _⟩ := Sv.ofOwn hown1
      repeat' (first | (apply Wl.move; exact rfl; exact rfl) | (apply Wl.on; exact rfl; exact rfl; (first | with_reducible rfl | with_reducible assumption | decide)) | (apply Wl.off; exact rfl; exact rfl; exact rfl; (first | with_reducible rfl | (show _ = false; with_reducible assumption) | (show _ = true; with_reducible assumption) | decide)) | (apply Wl.pickT; exact rfl; exact rfl; (first | with_reducible rfl | with_reducible assumption | decide); exact rfl) | (apply Wl.pickF; exact rfl; exact rfl; (first | with_reducible rfl | with_reducible assumption | decide); exact rfl) | (apply Wl.fieldAddrZ; exact rfl; exact rfl) | (apply Wl.loadH; exact rfl; exact rfl; (repeat (first | exact List.Mem.head _ | apply List.Mem.tail)); exact rfl) | (apply Wl.lss; exact rfl; exact rfl; exact rfl) | (apply Wl.loadAH; exact rfl; exact rfl; (repeat (first | exact List.Mem.head _ | apply List.Mem.tail)); (repeat (first | apply LSub.z | apply LSub.t | apply LSub.s))) | (apply Wl.lit; exact rfl; (repeat (first | exact Parts.nil | apply Parts.cons rfl)); exact rfl; exact rfl; (repeat (first | apply CatP.nil | (apply CatP.one; exact rfl; exact rfl) | (apply CatP.agg; exact rfl) | apply LApp.nil | apply LApp.cons)); intro c hc ho) | (apply Wl.nil) | (apply St.seq) | (apply St.region) | (apply St.condF; exact rfl; (first | with_reducible rfl | with_reducible assumption | decide)) | (apply St.exit) | (apply Gt.next) | (apply Gt.thenExit) | (apply Gt.inExit) | (apply Wl.splitP; exact rfl; exact rfl; all_goals (intros; try (exfalso; omega))) | (apply Wl.splitB; exact rfl; exact rfl; all_goals intros) | (apply St.condP; exact rfl; all_goals (intros; try (exfalso; omega))) | (apply St.condB; exact rfl; all_goals intros))
      all_goals
        apply Wl.appendT
        · exact rfl
        · exact rfl
        · exact rfl
        · exact hc
        · exact rfl
        · exact hown'
        · exact fun q hq => ⟨fun e => by have := (hown.lt q hq).2; simp only at e; omega, own_off hown' (H := [_, _, _]) hob1.2 rfl hq⟩
        · exact rfl
        · exact rfl
        · decide
        · unfold maxLen; omega
        · omega
        · exact huw.size
        intro v'' w4 ho2 u4 _ hoff2
        obtain ⟨_, ab, cb, rfl, _⟩ := Sv.ofOwn ho2
        repeat' (first | (apply Wl.move; exact rfl; exact rfl) | (apply Wl.assign; exact rfl; exact rfl) | (apply Wl.fieldAddrZ; exact rfl; exact rfl) | (apply Wl.addI; exact rfl; exact rfl; exact rfl; (constructor <;> omega)) | (apply Wl.store; exact rfl; exact rfl; exact rfl; (repeat (first | apply HSet.here | apply HSet.there)); (repeat (first | apply LSet.z | apply LSet.s))) | (apply Wl.nil) | (apply St.region) | (apply Gt.next) | (apply Gt.inNormal) | (apply Wl.splitP; exact rfl; exact rfl; all_goals (intros; try (exfalso; omega))) | (apply Wl.splitB; exact rfl; exact rfl; all_goals intros) | (apply St.condP; exact rfl; all_goals (intros; try (exfalso; omega))) | (apply St.condB; exact rfl; all_goals intros))
        apply Gt.reb (H' := [⟨c4, [.int .u32 (num f 8 4), .int .i64 (num f 12 1), .slice ab (i + 1) cb], 64⟩, ⟨c5, [.slice a f.length cap, .int .i64 p, .bool (decide (f.length < k + 44 + 12 * j))], 34⟩, ⟨c2, [.int .u32 0, .int .i64 0, .slice none 0 0], 64⟩])
        intro w5 h5
        refine ⟨h5.own.2, h5.apart.2, ?_⟩
        apply Gt.round (i + 1, w5, .slice ab (i + 1) cb, xs ++ [(⟨digAt f k, psz, pbi, gs, pca⟩, .slice ag j cg)], p, k + 44 + 12 * j, false)
        rotate_left
        · simp only; omega
        · (repeat (first | exact Sub.nil | apply Sub.cons rfl))
        · exact fun _ h => h
        have hwu : Upd (fun k => w.heap.size ≤ k) w w5 := (huw.comp u4 (T := fun b => w.heap.size ≤ b) fun b _ hs => hs.elim id fun hs => hs.elim (fun e => (hown.lt b e).1) fun y => Classical.byContradiction fun hlt => y (Off.of fun x hx e => by have : w.heap.size ≤ x.b := (by revert x; simp; omega); omega)).comp h5.upd fun b _ hs => hs.elim id fun y => Classical.byContradiction fun hlt => y (Off.of fun x hx e => by have : w.heap.size ≤ x.b := (by revert x; simp; omega); omega)
        exact ⟨hlt, hwu, fun _ => hdn, fun e => (by cases e), h5.own.2⟩
    obtain ⟨hZ, hK4, hgs, hdg⟩ := hok rfl
    clear hok hno
    by_cases hjl : j < K
    · repeat' (first | (apply Wl.move; exact rfl; exact rfl) | (apply Wl.on; exact rfl; exact rfl; (first | with_reducible rfl | with_reducible assumption | decide)) | (apply Wl.pickT; exact rfl; exact rfl; (first | with_reducible rfl | with_reducible assumption | decide); exact rfl) | (apply Wl.lss; exact rfl; exact rfl; exact rfl) | (apply Wl.nil) | (apply St.seq) | (apply St.block) | (apply St.region) | (apply St.condT; exact rfl; (first | with_reducible rfl | with_reducible assumption | decide)) | (apply St.skip) | (apply Gt.next) | (apply Wl.splitP; exact rfl; exact rfl; all_goals (intros; try (exfalso; omega))) | (apply Wl.splitB; exact rfl; exact rfl; all_goals intros) | (apply St.condP; exact rfl; all_goals (intros; try (exfalso; omega))) | (apply St.condB; exact rfl; all_goals intros))
      have g0 := num4 f (k + 44 + 12 * j)
      have g4 := num4 f (k + 44 + 12 * j + 4)
      have g8 := num4 f (k + 44 + 12 * j + 4 + 4)
      apply Wl.callC
      exact rfl
      (repeat (first | exact Evs.nil | apply Evs.cons rfl))
      intro wq hq
      refine (rnum_pos c5 (.slice a f.length cap) f (k + 44 + 12 * j) p 4 (by decide) wq (hq.own.at (.tail _ (.tail _ (.head _)))) (hbw1 _ _ hq (by simp; omega)) hpr').mono ?_
      rintro e wr ⟨p1, rfl, hp, hp1⟩
      refine ⟨_, _, rfl, hq.callSet (by (repeat (first | apply HSet.here | apply HSet.there))) hp, ?_⟩
      clear hp hq wq wr
      repeat' (first | (apply Wl.move; exact rfl; exact rfl) | (apply Wl.convU32; exact rfl; exact rfl; (constructor <;> omega)) | (apply Wl.storeA; exact rfl; exact rfl; exact rfl; exact rfl; (repeat (first | apply HSet.here | apply HSet.there)); (repeat (first | apply LPut.s | apply LPut.z | apply LOver.nil | apply LOver.cons))) | (apply Wl.buildS; exact rfl; (repeat (first | exact Parts.nil | apply Parts.cons rfl)); (repeat (first | apply Fills.nil | (apply Fills.one; exact rfl; exact rfl; (repeat (first | apply LSet.z | apply LSet.s))) | (apply Fills.agg; exact rfl; exact rfl; (repeat (first | apply LPut.s | apply LPut.z | apply LOver.nil | apply LOver.cons)))))) | (apply Wl.alloc; exact rfl; intro c hc ho) | (apply Wl.nil) | (apply St.seq) | (apply St.region) | (apply Gt.next) | (apply Wl.splitP; exact rfl; exact rfl; all_goals (intros; try (exfalso; omega))) | (apply Wl.splitB; exact rfl; exact rfl; all_goals intros) | (apply St.condP; exact rfl; all_goals (intros; try (exfalso; omega))) | (apply St.condB; exact rfl; all_goals intros))
      generalize c = c9 at *
      have hc9 : w1.heap.size ≤ c9 := hc
      apply Wl.callC
      exact rfl
      (repeat (first | exact Evs.nil | apply Evs.cons rfl))
      intro wq hq
      refine (rnum_pos c5 (.slice a f.length cap) f (k + 44 + 12 * j + 4) p1 4 (by decide) wq (hq.own.at (.tail _ (.tail _ (.tail _ (.head _))))) (hbw1 _ _ hq (by simp; omega)) hp1).mono ?_
      rintro e wr ⟨p2, rfl, hp, hp2⟩
      refine ⟨_, _, rfl, hq.callSet (by (repeat (first | apply HSet.here | apply HSet.there))) hp, ?_⟩
      clear hp hq wq wr
      repeat' (first | (apply Wl.move; exact rfl; exact rfl) | (apply Wl.fieldAddrZ; exact rfl; exact rfl) | (apply Wl.convU32; exact rfl; exact rfl; (constructor <;> omega)) | (apply Wl.store; exact rfl; exact rfl; exact rfl; (repeat (first | apply HSet.here | apply HSet.there)); (repeat (first | apply LSet.z | apply LSet.s))) | (apply Wl.nil) | (apply St.seq) | (apply St.region) | (apply Gt.next) | (apply Wl.splitP; exact rfl; exact rfl; all_goals (intros; try (exfalso; omega))) | (apply Wl.splitB; exact rfl; exact rfl; all_goals intros) | (apply St.condP; exact rfl; all_goals (intros; try (exfalso; omega))) | (apply St.condB; exact rfl; all_goals intros))
      apply Wl.callC
      exact rfl
      (repeat (first | exact Evs.nil | apply Evs.cons rfl))
      intro wq hq
      refine (rnum_pos c5 (.slice a f.length cap) f (k + 44 + 12 * j + 4 + 4) p2 4 (by decide) wq (hq.own.at (.tail _ (.tail _ (.tail _ (.head _))))) (hbw1 _ _ hq (by simp; omega)) hp2).mono ?_
      rintro e wr ⟨p3, rfl, hp, hp3⟩
      refine ⟨_, _, rfl, hq.callSet (by (repeat (first | apply HSet.here | apply HSet.there))) hp, ?_⟩
      clear hp hq wq wr
      repeat' (first | (apply Wl.assign; exact rfl; exact rfl) | (apply Wl.fieldAddrZ; exact rfl; exact rfl) | (apply Wl.loadH; exact rfl; exact rfl; (repeat (first | exact List.Mem.head _ | apply List.Mem.tail)); exact rfl) | (apply Wl.leq; exact rfl; exact rfl; exact rfl) | (apply Wl.store; exact rfl; exact rfl; exact rfl; (repeat (first | apply HSet.here | apply HSet.there)); (repeat (first | apply LSet.z | apply LSet.s))) | (apply Wl.loadAH; exact rfl; exact rfl; (repeat (first | exact List.Mem.head _ | apply List.Mem.tail)); (repeat (first | apply LSub.z | apply LSub.t | apply LSub.s))) | (apply Wl.lit; exact rfl; (repeat (first | exact Parts.nil | apply Parts.cons rfl)); exact rfl; exact rfl; (repeat (first | apply CatP.nil | (apply CatP.one; exact rfl; exact rfl) | (apply CatP.agg; exact rfl) | apply LApp.nil | apply LApp.cons)); intro c hc ho) | (apply Wl.nil) | (apply St.seq) | (apply St.region) | (apply Gt.next) | (apply Wl.splitP; exact rfl; exact rfl; all_goals (intros; try (exfalso; omega))) | (apply Wl.splitB; exact rfl; exact rfl; all_goals intros) | (apply St.condP; exact rfl; all_goals (intros; try (exfalso; omega))) | (apply St.condB; exact rfl; all_goals intros))
      apply Wl.appendT
      · exact rfl
      · exact rfl
      · exact rfl
      · exact hc
      · exact rfl
      · exact hown1
      · exact fun q hq => ⟨fun e => by have := (hown1.lt q hq).2; simp only at e; omega, own_off hown1 hob1 rfl hq⟩
      · exact rfl
      · exact rfl
      · decide
      · unfold maxLen; omega
      · omega
      · exact hus1
      intro v' w4 ho2 u4 _ hoff2
      obtain ⟨_, ab, cb, rfl, _⟩ := Sv.ofOwn ho2
      repeat' (first | (apply Wl.move; exact rfl; exact rfl) | (apply Wl.assign; exact rfl; exact rfl) | (apply Wl.fieldAddrZ; exact rfl; exact rfl) | (apply Wl.addI; exact rfl; exact rfl; exact rfl; (constructor <;> omega)) | (apply Wl.store; exact rfl; exact rfl; exact rfl; (repeat (first | apply HSet.here | apply HSet.there)); (repeat (first | apply LSet.z | apply LSet.s))) | (apply Wl.nil) | (apply St.region) | (apply Gt.next) | (apply Gt.inNormal) | (apply Wl.splitP; exact rfl; exact rfl; all_goals (intros; try (exfalso; omega))) | (apply Wl.splitB; exact rfl; exact rfl; all_goals intros) | (apply St.condP; exact rfl; all_goals (intros; try (exfalso; omega))) | (apply St.condB; exact rfl; all_goals intros))
      apply Gt.reb (H' := [⟨c7, Value.int .u8 (d0.toNat : Int) :: Value.int .u8 (d1.toNat : Int) :: Value.int .u8 (d2.toNat : Int) :: Value.int .u8 (d3.toNat : Int) :: Value.int .u8 (d4.toNat : Int) :: Value.int .u8 (d5.toNat : Int) :: Value.int .u8 (d6.toNat : Int) :: Value.int .u8 (d7.toNat : Int) :: Value.int .u8 (d8.toNat : Int) :: Value.int .u8 (d9.toNat : Int) :: Value.int .u8 (d10.toNat : Int) :: Value.int .u8 (d11.toNat : Int) :: Value.int .u8 (d12.toNat : Int) :: Value.int .u8 (d13.toNat : Int) :: Value.int .u8 (d14.toNat : Int) :: Value.int .u8 (d15.toNat : Int) :: Value.int .u8 (d16.toNat : Int) :: Value.int .u8 (d17.toNat : Int) :: Value.int .u8 (d18.toNat : Int) :: Value.int .u8 (d19.toNat : Int) :: Value.int .u8 (d20.toNat : Int) :: Value.int .u8 (d21.toNat : Int) :: Value.int .u8 (d22.toNat : Int) :: Value.int .u8 (d23.toNat : Int) :: Value.int .u8 (d24.toNat : Int) :: Value.int .u8 (d25.toNat : Int) :: Value.int .u8 (d26.toNat : Int) :: Value.int .u8 (d27.toNat : Int) :: Value.int .u8 (d28.toNat : Int) :: Value.int .u8 (d29.toNat : Int) :: Value.int .u8 (d30.toNat : Int) :: Value.int .u8 (d31.toNat : Int) :: [.int .u32 psz, .int .u32 pbi, .slice ab (j + 1) cb, .int .i64 pca], 97⟩, ⟨c4, [.int .u32 (num f 8 4), .int .i64 (num f 12 1), pv], 64⟩, ⟨c5, [.slice a f.length cap, .int .i64 p3, .bool (decide (f.length < k + 44 + 12 * (j + 1)))], 34⟩, ⟨c2, [.int .u32 0, .int .i64 0, .slice none 0 0], 64⟩])
      intro w5 h5
      refine ⟨h5.own.2, h5.apart.2, ?_⟩
      have hgo : gAt f (k + 44 + 12 * j) = ⟨num f (k + 44 + 12 * j) 4, num f (k + 44 + 12 * j + 4) 4, num f (k + 44 + 12 * j + 4 + 4) 4⟩ := rfl
      apply Gt.round (j + 1, w5, .slice ab (j + 1) cb, gs ++ [gAt f (k + 44 + 12 * j)], p3, decide ((num f (k + 44 + 12 * j + 4 + 4) 4 : Int) ≤ 7))
      rotate_left
      · simp only; omega
      · (repeat (first | exact Sub.nil | apply Sub.cons rfl))
      · exact fun _ h => h
      refine ⟨hjl, (hu1.comp u4 (T := fun b => w0.heap.size ≤ b ∨ b = c5 ∨ b = c4 ∨ b = c2) fun b _ hs => hs.elim id fun hs => hs.elim (fun e => .inl (hown1.lt b e).1) fun y => hS (by simp; omega) y).comp h5.upd fun b _ hs => hs.elim id fun y => hS (by simp; omega) y, ?_, ?_, hp3, fun e => ⟨hZ, hK4, fun g hg => ?_, ?_⟩, fun e => ?_, h5.own.2⟩
      · simp only
        rw [List.flatMap_append, hgo]
        exact ownsRow_upd ho2 h5.upd fun q hq y => y (hoff2 q hq).1
      · simp [hgl]
      · have hr7 := of_decide_eq_true e
        rcases List.mem_append.1 hg with hg | hg
        · exact hgs g hg
        · rw [List.mem_singleton] at hg
          subst hg
          rw [hgo]
          exact ⟨g0, g4, by simp only; omega, by simp only; omega⟩
      · have hr7' := of_decide_eq_true e
        have hr7 : num f (k + 44 + 12 * j + 4 + 4) 4 ≤ 7 := by omega
        simp only
        rw [hdg, show K - j = (K - (j + 1)) + 1 by omega]
        simp only [decG]
        rw [if_pos hr7, Option.map_map]
        congr 1
        funext l
        simp
      · have hr7' := of_decide_eq_false e
        have hr7 : ¬ num f (k + 44 + 12 * j + 4 + 4) 4 ≤ 7 := by omega
        rw [hdm, hdp, hdP0 ⟨hZ, hK4⟩, hdg, show K - j = (K - (j + 1)) + 1 by omega]
        simp only [decG]
        rw [if_neg hr7]
        rfl
    · have hjk : j = K := by omega
      subst hjk
      have hdg' : decG f j (k + 44) = some gs := by rw [hdg]; simp [decG]
      clear hdg
      have hdP := hdP0 ⟨hZ, hK4⟩
      rw [hdg'] at hdP
      simp only at hdP
      obtain ⟨_, ag, cg, rfl, _⟩ := Sv.ofOwn hown1
      repeat' (first | (apply Wl.move; exact rfl; exact rfl) | (apply Wl.off; exact rfl; exact rfl; exact rfl; (first | with_reducible rfl | (show _ = false; with_reducible assumption) | (show _ = true; with_reducible assumption) | decide)) | (apply Wl.pickF; exact rfl; exact rfl; (first | with_reducible rfl | with_reducible assumption | decide); exact rfl) | (apply Wl.fieldAddrZ; exact rfl; exact rfl) | (apply Wl.loadH; exact rfl; exact rfl; (repeat (first | exact List.Mem.head _ | apply List.Mem.tail)); exact rfl) | (apply Wl.lss; exact rfl; exact rfl; exact rfl) | (apply Wl.loadAH; exact rfl; exact rfl; (repeat (first | exact List.Mem.head _ | apply List.Mem.tail)); (repeat (first | apply LSub.z | apply LSub.t | apply LSub.s))) | (apply Wl.lit; exact rfl; (repeat (first | exact Parts.nil | apply Parts.cons rfl)); exact rfl; exact rfl; (repeat (first | apply CatP.nil | (apply CatP.one; exact rfl; exact rfl) | (apply CatP.agg; exact rfl) | apply LApp.nil | apply LApp.cons)); intro c hc ho) | (apply Wl.nil) | (apply St.seq) | (apply St.region) | (apply St.condF; exact rfl; (first | with_reducible rfl | with_reducible assumption | decide)) | (apply St.exit) | (apply Gt.next) | (apply Gt.thenExit) | (apply Gt.inExit) | (apply Wl.splitP; exact rfl; exact rfl; all_goals (intros; try (exfalso; omega))) | (apply Wl.splitB; exact rfl; exact rfl; all_goals intros) | (apply St.condP; exact rfl; all_goals (intros; try (exfalso; omega))) | (apply St.condB; exact rfl; all_goals intros))
      apply Wl.appendT
      · exact rfl
      · exact rfl
      · exact rfl
      · exact hc
      · exact rfl
      · exact hown'
      · exact fun q hq => ⟨fun e => by have := (hown.lt q hq).2; simp only at e; omega, own_off hown' (H := [_, _, _]) hob1.2 rfl hq⟩
      · exact rfl
      · exact rfl
      · decide
      · unfold maxLen; omega
      · omega
      · exact huw.size
      intro v'' w4 ho2 u4 _ hoff2
      obtain ⟨_, ab, cb, rfl, _⟩ := Sv.ofOwn ho2
      repeat' (first | (apply Wl.move; exact rfl; exact rfl) | (apply Wl.assign; exact rfl; exact rfl) | (apply Wl.fieldAddrZ; exact rfl; exact rfl) | (apply Wl.addI; exact rfl; exact rfl; exact rfl; (constructor <;> omega)) | (apply Wl.store; exact rfl; exact rfl; exact rfl; (repeat (first | apply HSet.here | apply HSet.there)); (repeat (first | apply LSet.z | apply LSet.s))) | (apply Wl.nil) | (apply St.region) | (apply Gt.next) | (apply Gt.inNormal) | (apply Wl.splitP; exact rfl; exact rfl; all_goals (intros; try (exfalso; omega))) | (apply Wl.splitB; exact rfl; exact rfl; all_goals intros) | (apply St.condP; exact rfl; all_goals (intros; try (exfalso; omega))) | (apply St.condB; exact rfl; all_goals intros))
      apply Gt.reb (H' := [⟨c4, [.int .u32 (num f 8 4), .int .i64 (num f 12 1), .slice ab (i + 1) cb], 64⟩, ⟨c5, [.slice a f.length cap, .int .i64 p, .bool (decide (f.length < k + 44 + 12 * j))], 34⟩, ⟨c2, [.int .u32 0, .int .i64 0, .slice none 0 0], 64⟩])
      intro w5 h5
      refine ⟨h5.own.2, h5.apart.2, ?_⟩
      apply Gt.round (i + 1, w5, .slice ab (i + 1) cb, xs ++ [(⟨digAt f k, psz, pbi, gs, pca⟩, .slice ag j cg)], p, k + 44 + 12 * j, true)
      rotate_left
      · simp only; omega
      · (repeat (first | exact Sub.nil | apply Sub.cons rfl))
      · exact fun _ h => h
      have hwu : Upd (fun k => w.heap.size ≤ k) w w5 := (huw.comp u4 (T := fun b => w.heap.size ≤ b) fun b _ hs => hs.elim id fun hs => hs.elim (fun e => (hown.lt b e).1) fun y => Classical.byContradiction fun hlt => y (Off.of fun x hx e => by have : w.heap.size ≤ x.b := (by revert x; simp; omega); omega)).comp h5.upd fun b _ hs => hs.elim id fun y => Classical.byContradiction fun hlt => y (Off.of fun x hx e => by have : w.heap.size ≤ x.b := (by revert x; simp; omega); omega)
      have hmove {x : Value} {n : Nat} {cs : List Value} (hx : w1.ownsRow w.heap.size 99 3 x n cs) : w5.ownsRow w.heap.size 99 3 x n cs :=
        ownsRow_upd (ownsRow_upd hx u4 fun q hq hs => hs.elim (fun e => own_ne2 hx hown' (by decide) hq e) fun y => y (own_off hx hob1 rfl hq)) h5.upd fun q hq y => y (own_off hx hob1 rfl hq)
      refine ⟨hlt, hwu, fun e => (by cases e), fun _ => ⟨?_, ?_, fun x hx => ?_, hdm, ?_, hpr'⟩, h5.own.2⟩
      · have hlit : pyCells (⟨digAt f k, psz, pbi, gs, pca⟩, .slice ag j cg) = Value.int .u8 (d0.toNat : Int) :: Value.int .u8 (d1.toNat : Int) :: Value.int .u8 (d2.toNat : Int) :: Value.int .u8 (d3.toNat : Int) :: Value.int .u8 (d4.toNat : Int) :: Value.int .u8 (d5.toNat : Int) :: Value.int .u8 (d6.toNat : Int) :: Value.int .u8 (d7.toNat : Int) :: Value.int .u8 (d8.toNat : Int) :: Value.int .u8 (d9.toNat : Int) :: Value.int .u8 (d10.toNat : Int) :: Value.int .u8 (d11.toNat : Int) :: Value.int .u8 (d12.toNat : Int) :: Value.int .u8 (d13.toNat : Int) :: Value.int .u8 (d14.toNat : Int) :: Value.int .u8 (d15.toNat : Int) :: Value.int .u8 (d16.toNat : Int) :: Value.int .u8 (d17.toNat : Int) :: Value.int .u8 (d18.toNat : Int) :: Value.int .u8 (d19.toNat : Int) :: Value.int .u8 (d20.toNat : Int) :: Value.int .u8 (d21.toNat : Int) :: Value.int .u8 (d22.toNat : Int) :: Value.int .u8 (d23.toNat : Int) :: Value.int .u8 (d24.toNat : Int) :: Value.int .u8 (d25.toNat : Int) :: Value.int .u8 (d26.toNat : Int) :: Value.int .u8 (d27.toNat : Int) :: Value.int .u8 (d28.toNat : Int) :: Value.int .u8 (d29.toNat : Int) :: Value.int .u8 (d30.toNat : Int) :: Value.int .u8 (d31.toNat : Int) :: [.int .u32 psz, .int .u32 pbi, .slice ag j cg, .int .i64 pca] := by
          unfold pyCells
          simp only
          rw [hdig]
          rfl
        simp only
        rw [List.flatMap_append, List.flatMap_cons, List.flatMap_nil, List.append_nil, hlit]
        exact ownsRow_upd ho2 h5.upd fun q hq y => y (hoff2 q hq).1
      · simp [hxl]
      · rcases List.mem_append.1 hx with hx | hx
        · refine ⟨hmove (ownsRow_upd (hpd x hx).1 hu1 fun q hq hs => ?_), (hpd x hx).2⟩
          have h1 := ((hpd x hx).1.lt q hq).2
          have h2 := own_off (hpd x hx).1 hob rfl hq
          rcases hs with hs | hs | hs | hs
          · omega
          · exact h2.2.1 hs.symm
          · exact h2.1 hs.symm
          · exact h2.2.2.1 hs.symm
        · rw [List.mem_singleton] at hx
          subst hx
          refine ⟨?_, digAt_len f k, by simp only; omega, by simp only; omega, by simp only; omega, by simp only; omega, by simp only; omega, hgs⟩
          simp only
          rw [hgl]
          exact hmove (own_base hown1 hus)
      · simp only
        rw [hdp, hdP, Option.map_map]
        congr 1
        funext r
        simp
  · have hiN : i = N := by omega
    subst hiN
    have hdm' : decM f = if k = f.length then some ⟨num f 8 4, num f 12 1, xs.map (·.1)⟩ else none := by rw [hdm, hdp]; simp [decP]
    clear hdm hdp
    repeat' (first | (apply Wl.move; exact rfl; exact rfl) | (apply Wl.on; exact rfl; exact rfl; (first | with_reducible rfl | with_reducible assumption | decide)) | (apply Wl.off; exact rfl; exact rfl; exact rfl; (first | with_reducible rfl | (show _ = false; with_reducible assumption) | (show _ = true; with_reducible assumption) | decide)) | (apply Wl.pickF; exact rfl; exact rfl; (first | with_reducible rfl | with_reducible assumption | decide); exact rfl) | (apply Wl.not; exact rfl; exact rfl) | (apply Wl.lss; exact rfl; exact rfl; exact rfl) | (apply Wl.nil) | (apply St.seq) | (apply St.region) | (apply St.condF; exact rfl; (first | with_reducible rfl | with_reducible assumption | decide)) | (apply St.exit) | (apply Gt.next) | (apply Gt.thenExit) | (apply Gt.inExit) | (apply Wl.splitP; exact rfl; exact rfl; all_goals (intros; try (exfalso; omega))) | (apply Wl.splitB; exact rfl; exact rfl; all_goals intros) | (apply St.condP; exact rfl; all_goals (intros; try (exfalso; omega))) | (apply St.condB; exact rfl; all_goals intros))
    apply Wl.callQ
    exact rfl
    (repeat (first | exact Evs.nil | apply Evs.cons rfl))
    · intro wq hq
      refine (rend_any c5 (.slice a f.length cap) f p _ wq wq (hq.own.at (.tail _ (.head _))) (hbw wq _ hq (by simp; omega))).mono ?_
      rintro e wr ⟨rfl, hr⟩
      exact ⟨rfl, hq.keep hr⟩
    have hbe : (!decide (f.length < k) && decide (p = f.length)) = decide (k = f.length) := by
      obtain ⟨h1, h2⟩ := hpr
      rw [Bool.eq_iff_iff]
      simp
      omega
    rw [hbe]
    repeat' (first | (apply Gt.outCT; exact rfl; infer_instance; exact rfl; exact rfl; (repeat (first | exact List.Mem.head _ | apply List.Mem.tail)); (repeat (first | apply LSub.z | apply LSub.t | apply LSub.s)); intro w' hp) | (apply Wl.assign; exact rfl; exact rfl) | (apply Wl.on; exact rfl; exact rfl; (first | with_reducible rfl | with_reducible assumption | decide)) | (apply Wl.pickF; exact rfl; exact rfl; (first | with_reducible rfl | with_reducible assumption | decide); exact rfl) | (apply Wl.not; exact rfl; exact rfl) | (apply Wl.storeA; exact rfl; exact rfl; exact rfl; exact rfl; (repeat (first | apply HSet.here | apply HSet.there)); (repeat (first | apply LPut.s | apply LPut.z | apply LOver.nil | apply LOver.cons))) | (apply Wl.loadAH; exact rfl; exact rfl; (repeat (first | exact List.Mem.head _ | apply List.Mem.tail)); (repeat (first | apply LSub.z | apply LSub.t | apply LSub.s))) | (apply Wl.buildS; exact rfl; (repeat (first | exact Parts.nil | apply Parts.cons rfl)); (repeat (first | apply Fills.nil | (apply Fills.one; exact rfl; exact rfl; (repeat (first | apply LSet.z | apply LSet.s))) | (apply Fills.agg; exact rfl; exact rfl; (repeat (first | apply LPut.s | apply LPut.z | apply LOver.nil | apply LOver.cons)))))) | (apply Wl.nil) | (apply St.seq) | (apply St.region) | (apply St.ret) | (apply St.skip) | (apply Gt.next) | (apply Gt.thenRet) | (apply Wl.splitP; exact rfl; exact rfl; all_goals (intros; try (exfalso; omega))) | (apply Wl.splitB; exact rfl; exact rfl; all_goals intros) | (apply St.condP; exact rfl; all_goals (intros; try (exfalso; omega))) | (apply St.condB; exact rfl; all_goals intros))
    · have hk : ¬ k = f.length := by
        have := ‹(!decide (k = f.length)) = true›
        simpa using this
      exact decPost_none (by rw [hdm', if_neg hk]) (hu.comp hp.upd fun j _ hs => hs.elim id fun y => Classical.byContradiction fun hlt => y (Off.of fun x hx e => by have : w.heap.size ≤ x.b := (by revert x; simp; omega); omega))
    have hk : k = f.length := by
      have := ‹(!decide (k = f.length)) = false›
      simpa using this
    rw [if_pos hk] at hdm'
    have hM (wq : World) (H : List Blk) (hq : Hp w0 H wq) (hH : ∀ x ∈ H, w0.heap.size ≤ x.b ∨ x.b = c5 ∨ x.b = c4 ∨ x.b = c2) : MfV wq (.agg #[.int .u32 (num f 8 4), .int .i64 (num f 12 1), pv]) ⟨num f 8 4, num f 12 1, xs.map (·.1)⟩ := by
      have hoff {e sz n : Nat} {v : Value} {cs : List Value} (hr : w0.ownsRow w.heap.size e sz v n cs) (h1 : e ≠ 34) (h2 : e ≠ 64) {q : Nat} (hqq : v.ownBlock = some q) : Off H q := Off.of fun x hx e' => by
        have h3 := (hr.lt q hqq).2
        rcases hH x hx with y | y | y | y
        · omega
        · exact own_ne hr (hob.at (.tail _ (.head _))) h1.symm (by rw [hqq, ← e', y])
        · exact own_ne hr (hob.at (.head _)) h2.symm (by rw [hqq, ← e', y])
        · exact own_ne hr (hob.at (.tail _ (.tail _ (.head _)))) h2.symm (by rw [hqq, ← e', y])
      refine ⟨pv, xs, rfl, rfl, ?_, fun x hx => PyD.v (base := w.heap.size) ⟨ownsRow_upd (hpd x hx).1 hq.upd fun q hqq y => y (hoff (hpd x hx).1 (by decide) (by decide) hqq), (hpd x hx).2⟩, m8, by unfold I64; simp only; omega⟩
      rw [hxl]
      exact Sv.ofOwn (ownsRow_upd hown hq.upd fun q hqq y => y (hoff hown (by decide) (by decide) hqq))
    apply Wl.callC
    exact rfl
    (repeat (first | exact Evs.nil | apply Evs.cons rfl))
    intro w1 h1
    refine (rright_any _ _ w1 (hM w1 _ h1 (by simp))).mono ?_
    rintro e w2 ⟨rfl, hup⟩
    refine ⟨_, _, rfl, h1.newer hup, ?_⟩
    clear h1 hup
    obtain ⟨_, ap, cp, rfl, _⟩ := Sv.ofOwn hown
    by_cases hr : rightOf ⟨num f 8 4, num f 12 1, xs.map (·.1)⟩ = 0
    · rw [hr]
      repeat' (first | (apply Gt.outCT; exact rfl; infer_instance; exact rfl; exact rfl; (repeat (first | exact List.Mem.head _ | apply List.Mem.tail)); (repeat (first | apply LSub.z | apply LSub.t | apply LSub.s)); intro w' hp) | (apply Wl.move; exact rfl; exact rfl) | (apply Wl.assign; exact rfl; exact rfl) | (apply Wl.neq; exact rfl; exact rfl; exact rfl) | (apply Wl.storeA; exact rfl; exact rfl; exact rfl; exact rfl; (repeat (first | apply HSet.here | apply HSet.there)); (repeat (first | apply LPut.s | apply LPut.z | apply LOver.nil | apply LOver.cons))) | (apply Wl.loadAH; exact rfl; exact rfl; (repeat (first | exact List.Mem.head _ | apply List.Mem.tail)); (repeat (first | apply LSub.z | apply LSub.t | apply LSub.s))) | (apply Wl.nil) | (apply St.seq) | (apply St.region) | (apply St.condF; exact rfl; (first | with_reducible rfl | with_reducible assumption | decide)) | (apply St.ret) | (apply St.skip) | (apply Gt.next) | (apply Wl.splitP; exact rfl; exact rfl; all_goals (intros; try (exfalso; omega))) | (apply Wl.splitB; exact rfl; exact rfl; all_goals intros) | (apply St.condP; exact rfl; all_goals (intros; try (exfalso; omega))) | (apply St.condB; exact rfl; all_goals intros))
      refine ⟨_, by unfold decErr; rw [hdm']; simp only; rw [hr]; rfl, by unfold decMan; rw [hdm']; simp only; rw [if_pos hr]; exact hM _ _ hp (by simp), hu.comp hp.upd fun j _ hs => hs.elim id fun y => Classical.byContradiction fun hlt => y (Off.of fun x hx e => by have : w.heap.size ≤ x.b := (by revert x; simp; omega); omega)⟩
    · have hr' : (rightOf ⟨num f 8 4, num f 12 1, xs.map (·.1)⟩ : Int) ≠ 0 := by omega
      repeat' (first | (apply Gt.outCT; exact rfl; infer_instance; exact rfl; exact rfl; (repeat (first | exact List.Mem.head _ | apply List.Mem.tail)); (repeat (first | apply LSub.z | apply LSub.t | apply LSub.s)); intro w' hp) | (apply Wl.move; exact rfl; exact rfl) | (apply Wl.assign; exact rfl; exact rfl) | (apply Wl.neq; exact rfl; exact rfl; exact rfl) | (apply Wl.storeA; exact rfl; exact rfl; exact rfl; exact rfl; (repeat (first | apply HSet.here | apply HSet.there)); (repeat (first | apply LPut.s | apply LPut.z | apply LOver.nil | apply LOver.cons))) | (apply Wl.buildS; exact rfl; (repeat (first | exact Parts.nil | apply Parts.cons rfl)); (repeat (first | apply Fills.nil | (apply Fills.one; exact rfl; exact rfl; (repeat (first | apply LSet.z | apply LSet.s))) | (apply Fills.agg; exact rfl; exact rfl; (repeat (first | apply LPut.s | apply LPut.z | apply LOver.nil | apply LOver.cons)))))) | (apply Wl.nil) | (apply St.seq) | (apply St.region) | (apply St.ret) | (apply Gt.next) | (apply Gt.thenRet) | (apply Wl.splitP; exact rfl; exact rfl; all_goals (intros; try (exfalso; omega))) | (apply Wl.splitB; exact rfl; exact rfl; all_goals intros) | (apply St.condP; exact rfl; all_goals (intros; try (exfalso; omega))) | (apply St.condB; exact rfl; all_goals intros))
      refine ⟨_, by unfold decErr; rw [hdm'], by unfold decMan; rw [hdm']; simp only; rw [if_neg hr]; exact noM_v _, hu.comp hp.upd fun j _ hs => hs.elim id fun y => Classical.byContradiction fun hlt => y (Off.of fun x hx e => by have : w.heap.size ≤ x.b := (by revert x; simp; omega); omega)⟩
end Go.Proofs.Ythdojhldiinkcaa
