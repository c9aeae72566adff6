/-
  Layer 9, the program's helpers: dyn.bytesOf, dyn.table.pair, dyn.tags.
-/
import Derived.Test.YtcjikjadajmefaaDynL
import Derived.Test.YtcjikjadajmefaaMap
namespace Go.Proofs.Ytcjikjadajmefaa
open Go.RowKit Go.Pt

theorem _root_.Go.Pt.Bs.own_lt {w : World} {v : Value} {l : List UInt8} (h : Bs w v l) (hne : l ≠ []) {j : Nat} (hj : v.ownBlock = some j) : j < w.heap.size := by
  obtain ⟨a, cap, rfl, _, _⟩ := h.shape
  obtain ⟨b, off, rfl, hc⟩ := h.cells hne
  have h0 := hc 0 (List.length_pos_iff.2 hne)
  have : b = j := by simpa [Value.ownBlock] using hj
  subst this
  exact World.block_lt_of_cell? w _ h0

set_option maxHeartbeats 1000000 in
theorem bytesOf_any (v : Value) (l : List Sg) (a n : Nat) (ha : a < 4294967296) (hn : n < 4294967296) (w : World) (hs : SegsP w v l) (hl : ∀ s ∈ l, s.bytes.length ≤ s.size ∧ s.addr + s.size ≤ 4294967292) :
    Calls Try.prog 17 #[v, .int .u32 a, .int .u32 n] w fun e w' => ∃ x, e = .returned x ∧ Bs w x ((bytesAt l a n).getD []) ∧ Hp w [] w' := by
  obtain ⟨xs, hxs, ⟨hlen, av, cv, rfl, hc1, hc2, _, hcell⟩, hbx⟩ := hs
  unfold maxLen at hc2
  refine enter (args := [_, _, _]) (Γ := [(0, _), (1, _), (2, _)]) Try.func17 Try.ntmps17 rfl (of_decide_eq_true rfl) (.cons rfl (.cons rfl (.cons rfl .nil))) ?_
  repeat' (first | (apply Wl.move; exact rfl; exact rfl) | (apply Wl.assign; exact rfl; exact rfl) | (apply Wl.len; exact rfl; exact rfl) | (apply Wl.nil) | (apply St.seq) | (apply St.block) | (apply St.region) | (apply Gt.next) | (apply Wl.splitP; exact rfl; exact rfl; all_goals (intros; try (exfalso; omega))) | (apply Wl.splitB; exact rfl; exact rfl; all_goals intros) | (apply St.condP; exact rfl; all_goals (intros; try (exfalso; omega))) | (apply St.condB; exact rfl; all_goals intros))
  refine St.loop (σ := Nat)
    (fun τ => τ ≤ xs.length ∧ (l.take τ).find? (inSg a n) = none)
    (fun τ => [(1, .int .u32 a), (2, .int .u32 n), (9, .slice av xs.length cv), (10, .int .i64 xs.length), (11, .int .i64 τ)])
    (fun _ => Hp w []) (fun τ => xs.length - τ) 0 ⟨Nat.zero_le _, by simp⟩ (by (repeat (first | exact Sub.nil | apply Sub.cons rfl))) (fun _ h => h) ?_
  rintro i ⟨hin, hno⟩
  by_cases hlt : i < xs.length
  · obtain ⟨bh, oh, rfl, hch⟩ := hcell (fun e => by rw [e] at hlen; simp at hlen; omega)
    obtain ⟨x, hx⟩ : ∃ x, xs[i]? = some x := ⟨_, List.getElem?_eq_getElem hlt⟩
    obtain ⟨s, vx⟩ := x
    have hli : l[i]? = some s := by rw [← hxs, List.getElem?_map, hx]; rfl
    have hbx' := hbx _ (List.mem_of_getElem? hx)
    obtain ⟨hs1, hs2⟩ := hl s (List.mem_of_getElem? hli)
    simp only at hbx'
    obtain ⟨ax, cx, rfl, hcx, hmx⟩ := hbx'.shape
    unfold maxLen at hmx
    have htk : l.take (i + 1) = l.take i ++ [s] := by
      rw [List.take_add_one, hli]; rfl
    have hce : ∀ j v, [Value.int .u32 s.addr, .slice ax s.bytes.length cx, .int .u32 s.size, .int .i64 s.rights][j]? = some v → w.cell? ⟨bh, oh + (i : Int).toNat * 4 + j, none⟩ = some v := by
      intro j v hj
      have hj4 : j < 4 := (List.getElem?_eq_some_iff.1 hj).1
      have hj' : (sgP (s, .slice ax s.bytes.length cx))[j]? = some v := hj
      rw [← flat4 (g := sgP) (fun _ => rfl) hx hj4] at hj'
      obtain ⟨h1, h2⟩ := List.getElem?_eq_some_iff.1 hj'
      have := hch _ h1
      rw [h2] at this
      rw [show oh + (i : Int).toNat * 4 + j = oh + (i * 4 + j) by omega]
      exact this
    repeat' (first | (apply Wl.loadAO; exact rfl; exact rfl; exact hce; exact trivial; exact rfl) | (apply Wl.move; exact rfl; exact rfl) | (apply Wl.fieldAddr0; exact rfl; exact rfl) | (apply Wl.fieldAddrZ; exact rfl; exact rfl) | (apply Wl.loadH; exact rfl; exact rfl; (repeat (first | exact List.Mem.head _ | apply List.Mem.tail)); exact rfl) | (apply Wl.lss; exact rfl; exact rfl; exact rfl) | (apply Wl.convU32; exact rfl; exact rfl; (constructor <;> omega)) | (apply Wl.len; exact rfl; exact rfl) | (apply Wl.storeA; exact rfl; exact rfl; exact rfl; exact rfl; (repeat (first | apply HSet.here | apply HSet.there)); (repeat (first | apply LPut.s | apply LPut.z | apply LOver.nil | apply LOver.cons))) | (apply Wl.alloc; exact rfl; intro c hc ho) | (apply Wl.indexAddr; exact rfl; exact rfl; exact rfl; (constructor <;> omega)) | (apply Wl.nil) | (apply St.seq) | (apply St.block) | (apply St.region) | (apply St.skip) | (apply Gt.next) | (apply Wl.splitP; exact rfl; exact rfl; all_goals (intros; try (exfalso; omega))) | (apply Wl.splitB; exact rfl; exact rfl; all_goals intros) | (apply St.condP; exact rfl; all_goals (intros; try (exfalso; omega))) | (apply St.condB; exact rfl; all_goals intros))
    apply Wl.callQ
    exact rfl
    (repeat (first | exact Evs.nil | apply Evs.cons rfl))
    · intro wq hq
      refine (within_any a n s.addr s.bytes.length wq (by unfold U32; omega) (by unfold U32; omega) (by unfold U32; omega) (by unfold U32; omega)).mono ?_
      rintro e wr ⟨rfl, hr⟩
      exact ⟨rfl, hq.keep hr⟩
    repeat' (first | (apply Wl.move; exact rfl; exact rfl) | (apply Wl.fieldAddr0; exact rfl; exact rfl) | (apply Wl.fieldAddrZ; exact rfl; exact rfl) | (apply Wl.loadH; exact rfl; exact rfl; (repeat (first | exact List.Mem.head _ | apply List.Mem.tail)); exact rfl) | (apply Wl.addI; exact rfl; exact rfl; exact rfl; (constructor <;> omega)) | (apply Wl.add; exact rfl; exact rfl; exact rfl) | (apply Wl.sub'; exact rfl; exact rfl; exact rfl) | (apply Wl.nil) | (apply St.seq) | (apply St.region) | (apply St.skip) | (apply Gt.next) | (apply Gt.inNormal) | (apply Wl.splitP; exact rfl; exact rfl; all_goals (intros; try (exfalso; omega))) | (apply Wl.splitB; exact rfl; exact rfl; all_goals intros) | (apply St.condP; exact rfl; all_goals (intros; try (exfalso; omega))) | (apply St.condB; exact rfl; all_goals intros))
    · have hin2 : inB a n s.addr s.bytes.length = true := ‹_›
      have hIn : s.addr ≤ a ∧ a + n ≤ s.addr + s.bytes.length := by
        unfold inB at hin2; simp only [decide_eq_true_eq] at hin2; omega
      have hw1 : IntKind.u32.wrap ((a : Int) - s.addr) = ((a - s.addr : Nat) : Int) := by rw [IntWalk.u32_in _ (by omega)]; omega
      have hw2 : IntKind.u32.wrap (((a - s.addr : Nat) : Int) + n) = ((a - s.addr + n : Nat) : Int) := by rw [IntWalk.u32_in _ (by omega)]; omega
      rw [hw1, hw2]
      repeat' (first | (apply Wl.assign; exact rfl; exact rfl) | (apply Wl.sliceFull; exact rfl; exact rfl; (first | exact BoundIs.no | exact BoundIs.yes rfl (by omega)); (first | exact BoundIs.no | exact BoundIs.yes rfl (by omega)); (first | exact BoundIs.no | exact BoundIs.yes rfl (by omega)); (first | exact fun _ => rfl | exact fun h => nomatch h); (omega); (omega); (omega)) | (apply Wl.nil) | (apply St.ret) | (apply Gt.next) | (apply Gt.thenRet) | (apply Gt.inRet) | (apply Gt.out1; exact rfl; exact rfl; intro w' hp) | (apply Wl.splitP; exact rfl; exact rfl; all_goals (intros; try (exfalso; omega))) | (apply Wl.splitB; exact rfl; exact rfl; all_goals intros) | (apply St.condP; exact rfl; all_goals (intros; try (exfalso; omega))) | (apply St.condB; exact rfl; all_goals intros))
      have hpc := hbx'.sub (lo := a - s.addr) (hi := a - s.addr + n) (mx := a - s.addr + n) (by omega) (by omega) (Nat.le_refl _) (by omega)
      refine ⟨_, rfl, ?_, hp.drop (by simp; omega)⟩
      have hfind : bytesAt l a n = some ((s.bytes.drop (a - s.addr)).take n) := by
        unfold bytesAt
        have h1 : l = (l.take i ++ [s]) ++ l.drop (i + 1) := by rw [← htk, List.take_append_drop]
        rw [h1, List.find?_append, List.find?_append, hno]
        have : inSg a n s = true := by unfold inSg; simpa using hIn
        simp [this]
      rw [hfind]
      simp only [Option.getD_some, Int.toNat_natCast]
      have e : (s.bytes.take (a - s.addr + n)).drop (a - s.addr) = (s.bytes.drop (a - s.addr)).take n := by rw [List.drop_take, Nat.add_sub_cancel_left]
      rw [e] at hpc
      exact hpc
    · have hin2 : inB a n s.addr s.bytes.length = false := ‹_›
      apply Gt.round (i + 1)
      · refine ⟨hlt, ?_⟩
        rw [htk]
        refine bytesAt_snoc_no hno ?_
        unfold inB at hin2; unfold inSg
        simp only [decide_eq_false_iff_not] at hin2 ⊢
        omega
      · omega
      · (repeat (first | exact Sub.nil | apply Sub.cons rfl))
      · exact fun u hu => hu.drop (by first | (simp; omega) | simp)
  · have hin' : i = xs.length := by omega
    subst hin'
    repeat' (first | (apply Wl.assign; exact rfl; exact rfl) | (apply Wl.lss; exact rfl; exact rfl; exact rfl) | (apply Wl.nil) | (apply St.seq) | (apply St.region) | (apply St.ret) | (apply St.exit) | (apply Gt.next) | (apply Gt.thenExit) | (apply Gt.inExit) | (apply Gt.out1; exact rfl; exact rfl; intro w' hp) | (apply Wl.splitP; exact rfl; exact rfl; all_goals (intros; try (exfalso; omega))) | (apply Wl.splitB; exact rfl; exact rfl; all_goals intros) | (apply St.condP; exact rfl; all_goals (intros; try (exfalso; omega))) | (apply St.condB; exact rfl; all_goals intros))
    refine ⟨_, rfl, ?_, hp⟩
    have hl2 : l.take xs.length = l := List.take_of_length_le (by rw [← hxs, List.length_map]; exact Nat.le_refl _)
    rw [hl2] at hno
    unfold bytesAt
    rw [hno]
    exact Bs.nil w

/-- a pair of numbers off the cursor -/
theorem pair_pos (g : Nat) (v0 v : Value) (f : List UInt8) (k : Nat) (w : World) (h : w.heap[g]? = some (.cells #[v, .bool (decide (f.length < k))] 105 (0,0))) (hb : Bs w v0 f) (hv : Left v0 f v k) (hc0 : ∀ j, v0.ownBlock = some j → j < w.heap.size → f ≠ [] → j ≠ g) :
    Calls Try.prog 20 #[.agg #[.pointer (some ⟨g, 0, none⟩)]] w fun e w' => ∃ v', e = .returned (.tuple #[.int .u32 (num f k 4), .int .u32 (num f (k + 4) 4)]) ∧ Hp w [⟨g, [v', .bool (decide (f.length < k + 8))], 105⟩] w' ∧ Left v0 f v' (k + 8) := by
  refine enter (args := [_]) (Γ := [(0, _)]) Try.func20 Try.ntmps20 rfl (of_decide_eq_true rfl) (.cons rfl .nil) ?_
  refine St.cls (C' := Hp w [⟨g, [v, .bool (decide (f.length < k))], 105⟩]) (fun _ h' => Hp.open h' h) ?_
  have hclt := lt_of_block h
  repeat' (first | (apply Wl.assign; exact rfl; exact rfl) | (apply Wl.fieldAddr0; exact rfl; exact rfl) | (apply Wl.loadH; exact rfl; exact rfl; (repeat (first | exact List.Mem.head _ | apply List.Mem.tail)); exact rfl) | (apply Wl.boxA; exact rfl; exact rfl; intro c hc ho) | (apply Wl.nil) | (apply St.seq) | (apply St.region) | (apply Gt.next) | (apply Wl.splitP; exact rfl; exact rfl; all_goals (intros; try (exfalso; omega))) | (apply Wl.splitB; exact rfl; exact rfl; all_goals intros) | (apply St.condP; exact rfl; all_goals (intros; try (exfalso; omega))) | (apply St.condB; exact rfl; all_goals intros))
  have hbw (u : World) (H : List Blk) (hq : Hp w H u) (hH : ∀ j, v0.ownBlock = some j → j < w.heap.size → f ≠ [] → Off H j) : Bs u v0 f := hb.upd hq.upd fun j hj hlt hne hno => hno (hH j hj hlt hne)
  apply Wl.callC
  exact rfl
  (repeat (first | exact Evs.nil | apply Evs.cons rfl))
  intro wq hq
  refine (u32_pos g v0 v f k wq (hq.own.at (.tail _ (.head _))) (hbw _ _ hq fun j hj hlt hne => ⟨fun e => by simp only at e; omega, fun e => hc0 j hj hlt hne e.symm, trivial⟩) hv).mono ?_
  rintro e wr ⟨v1, rfl, hp, hv1⟩
  refine ⟨_, _, rfl, hq.callSet (by (repeat (first | apply HSet.here | apply HSet.there))) hp, ?_⟩
  clear hp hq wq wr
  repeat' (first | (apply Wl.move; exact rfl; exact rfl) | (apply Wl.assign; exact rfl; exact rfl) | (apply Wl.fieldAddr0; exact rfl; exact rfl) | (apply Wl.loadH; exact rfl; exact rfl; (repeat (first | exact List.Mem.head _ | apply List.Mem.tail)); exact rfl) | (apply Wl.nil) | (apply St.seq) | (apply St.region) | (apply Gt.next) | (apply Wl.splitP; exact rfl; exact rfl; all_goals (intros; try (exfalso; omega))) | (apply Wl.splitB; exact rfl; exact rfl; all_goals intros) | (apply St.condP; exact rfl; all_goals (intros; try (exfalso; omega))) | (apply St.condB; exact rfl; all_goals intros))
  apply Wl.callC
  exact rfl
  (repeat (first | exact Evs.nil | apply Evs.cons rfl))
  intro wq hq
  refine (u32_pos g v0 v1 f (k + 4) wq (hq.own.at (.tail _ (.head _))) (hbw _ _ hq fun j hj hlt hne => ⟨fun e => by simp only at e; omega, fun e => hc0 j hj hlt hne e.symm, trivial⟩) hv1).mono ?_
  rintro e wr ⟨v2, rfl, hp, hv2⟩
  refine ⟨_, _, rfl, hq.callSet (by (repeat (first | apply HSet.here | apply HSet.there))) hp, ?_⟩
  clear hp hq wq wr
  repeat' (first | (apply Wl.assign; exact rfl; exact rfl) | (apply Wl.nil) | (apply St.ret) | (apply Gt.next) | (apply Gt.out2; exact rfl; exact rfl; exact rfl; intro w' hp) | (apply Wl.splitP; exact rfl; exact rfl; all_goals (intros; try (exfalso; omega))) | (apply Wl.splitB; exact rfl; exact rfl; all_goals intros) | (apply St.condP; exact rfl; all_goals (intros; try (exfalso; omega))) | (apply St.condB; exact rfl; all_goals intros))
  exact ⟨v2, rfl, ⟨hp.upd.mono fun j hj hs ho => hs ⟨fun e => by simp only at e; omega, ho⟩, hp.own.2, trivial, trivial⟩, hv2⟩

set_option maxHeartbeats 1000000 in
theorem tags_any (v : Value) (b : List UInt8) (w : World) (hv : Bs w v b) (hl : b.length ≤ 1000000) :
    Calls Try.prog 18 #[v] w fun e w' => Upd (fun k => w.heap.size ≤ k) w w' ∧
      ((tagsN b = none ∧ e = .returned (.tuple #[.map none, .int .i64 12])) ∨
       ∃ n blk m, tagsN b = some n ∧ e = .returned (.tuple #[.map (some blk), .int .i64 0]) ∧ w.heap.size ≤ blk ∧ MapU Try.prog 32 32 w' blk m (lk b n)) := by
  refine enter (args := [_]) (Γ := [(0, _)]) Try.func18 Try.ntmps18 rfl (of_decide_eq_true rfl) (.cons rfl .nil) ?_
  repeat' (first | (apply Wl.assign; exact rfl; exact rfl) | (apply Wl.nil) | (apply St.seq) | (apply St.region) | (apply Gt.next) | (apply Wl.splitP; exact rfl; exact rfl; all_goals (intros; try (exfalso; omega))) | (apply Wl.splitB; exact rfl; exact rfl; all_goals intros) | (apply St.condP; exact rfl; all_goals (intros; try (exfalso; omega))) | (apply St.condB; exact rfl; all_goals intros))
  apply Wl.makeMap (k := 32) (e := 32)
  · exact rfl
  intro bm w1 hbm hM u1 _
  have u1w : Upd (fun k => w.heap.size ≤ k) w w1 := u1.mono fun k _ y => (y trivial).elim
  have hv1 : Bs w1 v b := hv.upd u1 fun k _ _ _ y => y trivial
  have hbl := hM.lt
  repeat' (first | (apply Wl.move; exact rfl; exact rfl) | (apply Wl.assign; exact rfl; exact rfl) | (apply Wl.nil) | (apply St.seq) | (apply St.region) | (apply Gt.next) | (apply Wl.splitP; exact rfl; exact rfl; all_goals (intros; try (exfalso; omega))) | (apply Wl.splitB; exact rfl; exact rfl; all_goals intros) | (apply St.condP; exact rfl; all_goals (intros; try (exfalso; omega))) | (apply St.condB; exact rfl; all_goals intros))
  apply Wl.callC
  exact rfl
  (repeat (first | exact Evs.nil | apply Evs.cons rfl))
  intro w2 h2
  refine (at_pos _ b w2 (hv1.upd h2.upd fun _ _ _ _ y => y trivial)).mono ?_
  rintro e w3 ⟨g, rfl, hg, h3⟩
  refine ⟨_, _, rfl, h2.callNew h3 hg, ?_⟩
  have hg1 : w1.heap.size ≤ g := by have := h2.upd.size; omega
  clear h2 h3 hg
  repeat' (first | (apply Wl.storeA; exact rfl; exact rfl; exact rfl; exact rfl; (repeat (first | apply HSet.here | apply HSet.there)); (repeat (first | apply LPut.s | apply LPut.z | apply LOver.nil | apply LOver.cons))) | (apply Wl.buildS; exact rfl; (repeat (first | exact Parts.nil | apply Parts.cons rfl)); (repeat (first | apply Fills.nil | (apply Fills.one; exact rfl; exact rfl; (repeat (first | apply LSet.z | apply LSet.s))) | (apply Fills.agg; exact rfl; exact rfl; (repeat (first | apply LPut.s | apply LPut.z | apply LOver.nil | apply LOver.cons)))))) | (apply Wl.alloc; exact rfl; intro c hc ho) | (apply Wl.nil) | (apply St.block) | (apply Gt.next) | (apply Wl.splitP; exact rfl; exact rfl; all_goals (intros; try (exfalso; omega))) | (apply Wl.splitB; exact rfl; exact rfl; all_goals intros) | (apply St.condP; exact rfl; all_goals (intros; try (exfalso; omega))) | (apply St.condB; exact rfl; all_goals intros))
  have htb : c ≠ bm := by omega
  have htg : g ≠ c := ho.1
  refine St.loop (σ := Nat × World × Value)
    (fun τ => GoodT b τ.1 ∧ MapU Try.prog 32 32 τ.2.1 bm τ.1 (lk b τ.1) ∧ Upd (fun k => w.heap.size ≤ k) w τ.2.1 ∧ Left v b τ.2.2 (8 * τ.1))
    (fun τ => [(4, .map (some bm)), (5, .pointer (some ⟨c, 0, none⟩))])
    (fun τ => Hp τ.2.1 [⟨c, [.pointer (some ⟨g, 0, none⟩)], 81⟩, ⟨g, [τ.2.2, .bool (decide (b.length < 8 * τ.1))], 105⟩])
    (fun τ => b.length + 8 - 8 * τ.1) (0, w1, v) ⟨⟨Nat.zero_le _, fun j hj => by omega, fun j k _ hk => by omega⟩, hM.eq fun _ => rfl, u1w, left0 _ _⟩ (by (repeat (first | exact Sub.nil | apply Sub.cons rfl))) (fun _ h => h) ?_
  rintro ⟨i, w0, vc⟩ ⟨hgood, hM0, hu, hvc⟩
  simp only at hgood hM0 hu hvc ⊢
  have hws := u1w.size
  have hus := hu.size
  have hbw (H : List Blk) (u : World) (hq : Hp w0 H u) (hH : ∀ x ∈ H, w.heap.size ≤ x.b) : Bs u v b := hv.upd (hu.comp hq.upd fun j _ hs => hs.elim id fun y => Classical.byContradiction fun hlt => y (Off.of fun x hx e => by have := hH x hx; omega)) fun j _ hj _ hno => by omega
  have hoff : Off [⟨c, [.pointer (some ⟨g, 0, none⟩)], 81⟩, ⟨g, [vc, .bool (decide (b.length < 8 * i))], 105⟩] bm := ⟨htb, by simp only; omega, trivial⟩
  have ht0 := tg_lt b i
  have hv0 := vl_lt b i
  have hgl := hgood.1
  repeat' (first | (apply Wl.loadAH; exact rfl; exact rfl; (repeat (first | exact List.Mem.head _ | apply List.Mem.tail)); (repeat (first | apply LSub.z | apply LSub.t | apply LSub.s))) | (apply St.seq) | (apply St.block) | (apply St.region) | (apply Wl.splitP; exact rfl; exact rfl; all_goals (intros; try (exfalso; omega))) | (apply Wl.splitB; exact rfl; exact rfl; all_goals intros) | (apply St.condP; exact rfl; all_goals (intros; try (exfalso; omega))) | (apply St.condB; exact rfl; all_goals intros))
  apply Wl.callC
  exact rfl
  (repeat (first | exact Evs.nil | apply Evs.cons rfl))
  intro wq hq
  refine (pair_pos g v vc b (8 * i) wq (hq.own.at (.tail _ (.head _))) (hbw _ _ hq (by simp; omega)) hvc (fun j hj _ hne e => by have := hv.own_lt hne hj; omega)).mono ?_
  rintro e wr ⟨v1, rfl, hp, hv1⟩
  refine ⟨_, _, rfl, hq.callSet (by (repeat (first | apply HSet.here | apply HSet.there))) hp, ?_⟩
  clear hp hq wq wr
  repeat' (first | (apply Wl.move; exact rfl; exact rfl) | (apply Wl.assign; exact rfl; exact rfl) | (apply Wl.extract; exact rfl; exact rfl; exact rfl) | (apply Wl.nil) | (apply St.seq) | (apply St.region) | (apply Gt.next) | (apply Wl.splitP; exact rfl; exact rfl; all_goals (intros; try (exfalso; omega))) | (apply Wl.splitB; exact rfl; exact rfl; all_goals intros) | (apply St.condP; exact rfl; all_goals (intros; try (exfalso; omega))) | (apply St.condB; exact rfl; all_goals intros))
  apply Wl.lookU (hown := hM0)
  · exact rfl
  · exact rfl
  · exact rfl
  · exact ht0
  · exact ⟨htb, by simp only; omega, trivial⟩
  rw [show lk b i (num b (8 * i) 4) = lk b i (tg b i) from rfl]
  repeat' (first | (apply Wl.move; exact rfl; exact rfl) | (apply Wl.assign; exact rfl; exact rfl) | (apply Wl.extract; exact rfl; exact rfl; exact rfl) | (apply Wl.fieldAddr0; exact rfl; exact rfl) | (apply Wl.loadH; exact rfl; exact rfl; (repeat (first | exact List.Mem.head _ | apply List.Mem.tail)); exact rfl) | (apply Wl.nil) | (apply St.seq) | (apply St.block) | (apply St.region) | (apply Gt.next) | (apply Wl.splitP; exact rfl; exact rfl; all_goals (intros; try (exfalso; omega))) | (apply Wl.splitB; exact rfl; exact rfl; all_goals intros) | (apply St.condP; exact rfl; all_goals (intros; try (exfalso; omega))) | (apply St.condB; exact rfl; all_goals intros))
  apply Wl.callQ
  exact rfl
  (repeat (first | exact Evs.nil | apply Evs.cons rfl))
  · intro wq hq
    refine (bad_any g v1 _ wq (hq.own.at (.tail _ (.head _)))).mono ?_
    rintro e wr ⟨rfl, hr⟩
    exact ⟨rfl, hq.keep hr⟩
  have hfin (H : List Blk) (u : World) (hq : Hp w0 H u) (hH : ∀ x ∈ H, w.heap.size ≤ x.b) : Upd (fun k => w.heap.size ≤ k) w u := hu.comp hq.upd fun j _ hs => hs.elim id fun y => Classical.byContradiction fun hlt => y (Off.of fun x hx e => by have := hH x hx; omega)
  repeat' (first | (apply Wl.move; exact rfl; exact rfl) | (apply Wl.assign; exact rfl; exact rfl) | (apply Wl.on; exact rfl; exact rfl; (first | with_reducible rfl | with_reducible assumption | decide)) | (apply Wl.off; exact rfl; exact rfl; exact rfl; (first | with_reducible rfl | (show _ = false; with_reducible assumption) | (show _ = true; with_reducible assumption) | decide)) | (apply Wl.pickT; exact rfl; exact rfl; (first | with_reducible rfl | with_reducible assumption | decide); exact rfl) | (apply Wl.pickF; exact rfl; exact rfl; (first | with_reducible rfl | with_reducible assumption | decide); exact rfl) | (apply Wl.eql; exact rfl; exact rfl; exact rfl) | (apply Wl.nil) | (apply St.seq) | (apply St.region) | (apply St.condT; exact rfl; (first | with_reducible rfl | with_reducible assumption | decide)) | (apply St.ret) | (apply St.skip) | (apply Gt.next) | (apply Gt.thenRet) | (apply Gt.inNormal) | (apply Gt.inRet) | (apply Gt.out2; exact rfl; exact rfl; exact rfl; intro w' hp) | (apply Wl.splitP; exact rfl; exact rfl; all_goals (intros; try (exfalso; omega))) | (apply Wl.splitB; exact rfl; exact rfl; all_goals intros) | (apply St.condP; exact rfl; all_goals (intros; try (exfalso; omega))) | (apply St.condB; exact rfl; all_goals intros))
  · exact ⟨hfin _ _ hp (by simp; omega), .inl ⟨tagsN_none (tags_short hgood (by omega)), rfl⟩⟩
  · exact ⟨hfin _ _ hp (by simp; omega), .inl ⟨tagsN_none (tags_twice hgood fun e => by rename_i h; rw [e] at h; simp at h), rfl⟩⟩
  · refine ⟨hfin _ _ hp (by simp; omega), .inr ⟨i, bm, i, tagsN_some ⟨hgood, by omega, ?_⟩, rfl, hbm, hM0.upd hp.upd fun y => y ⟨htb, by simp only; omega, trivial⟩⟩⟩
    show num b (8 * i) 4 = 0
    omega
  · have hlen : 8 * i + 8 ≤ b.length := by omega
    have hnone : lk b i (tg b i) = none := by
      have h := ‹(lk b i (tg b i)).isSome = false›
      simpa using h
    have h0 : tg b i ≠ 0 := by
      have h := ‹¬ (num b (8 * i) 4 : Int) = 0›
      show num b (8 * i) 4 ≠ 0
      omega
    apply Wl.storeU (hown := hM0)
    · exact rfl
    · exact rfl
    · exact rfl
    · exact ht0
    · exact hv0
    · unfold maxLen; omega
    · exact ⟨htb, by simp only; omega, trivial⟩
    intro w5 hM5 u5
    repeat' (first | (apply Wl.nil) | (apply Gt.inNormal) | (apply Wl.splitP; exact rfl; exact rfl; all_goals (intros; try (exfalso; omega))) | (apply Wl.splitB; exact rfl; exact rfl; all_goals intros) | (apply St.condP; exact rfl; all_goals (intros; try (exfalso; omega))) | (apply St.condB; exact rfl; all_goals intros))
    apply Gt.round (i + 1, w5, v1)
    · refine ⟨good_succ hgood hlen h0 hnone, hM5.eq fun t => lk_put hnone t, hu.comp u5 fun j _ hs => hs.elim id fun hs => hs.elim (fun e => by omega) fun y => Classical.byContradiction fun hlt => y ⟨fun e => by simp only at e; omega, fun e => by simp only at e; omega, trivial⟩, hv1⟩
    · simp only; omega
    · (repeat (first | exact Sub.nil | apply Sub.cons rfl))
    · exact fun _ h => h
end Go.Proofs.Ytcjikjadajmefaa
