/-
  Layer 9, the reference's helpers: at, value, tags.
-/
import Derived.Test.YtcjikjadajmefaaClean
namespace Go.Proofs.Ytcjikjadajmefaa
open Go.RowKit Go.Pt

set_option maxHeartbeats 1000000 in
theorem rat_any (v : Value) (l : List Sg) (a n : Nat) (ha : a < 4294967296) (hn : n < 1099511627776) (w : World) (hs : SegsR w v l) (hl : ∀ s ∈ l, s.bytes.length ≤ s.size ∧ s.addr + s.size ≤ 4294967292) :
    Calls Try.prog 26 #[v, .int .i64 a, .int .i64 n] w fun e w' => ∃ x, e = .returned (.tuple #[x, .bool (bytesAt l a n).isSome]) ∧ Bs w x ((bytesAt l a n).getD []) ∧ Hp w [] w' := by
  obtain ⟨xs, hxs, ⟨hlen, av, cv, rfl, hc1, hc2, _, hcell⟩, hbx⟩ := hs
  unfold maxLen at hc2
  refine enter (args := [_, _, _]) (Γ := [(0, _), (1, _), (2, _)]) Try.func26 Try.ntmps26 rfl (of_decide_eq_true rfl) (.cons rfl (.cons rfl (.cons rfl .nil))) ?_
  repeat' (first | (apply Wl.assign; exact rfl; exact rfl) | (apply Wl.nil) | (apply St.seq) | (apply St.block) | (apply St.region) | (apply Gt.next) | (apply Wl.splitP; exact rfl; exact rfl; all_goals (intros; try (exfalso; omega))) | (apply Wl.splitB; exact rfl; exact rfl; all_goals intros) | (apply St.condP; exact rfl; all_goals (intros; try (exfalso; omega))) | (apply St.condB; exact rfl; all_goals intros))
  refine St.loop (σ := Nat)
    (fun τ => τ ≤ xs.length ∧ (l.take τ).find? (inSg a n) = none)
    (fun τ => [(0, .slice av xs.length cv), (1, .int .i64 a), (2, .int .i64 n), (8, .int .i64 τ)])
    (fun _ => Hp w []) (fun τ => xs.length - τ) 0 ⟨Nat.zero_le _, by simp⟩ (by (repeat (first | exact Sub.nil | apply Sub.cons rfl))) (fun _ h => h) ?_
  rintro i ⟨hin, hno⟩
  by_cases hlt : i < xs.length
  · obtain ⟨bh, oh, rfl, hch⟩ := hcell (fun e => by rw [e] at hlen; simp at hlen; omega)
    obtain ⟨x, hx⟩ : ∃ x, xs[i]? = some x := ⟨_, List.getElem?_eq_getElem hlt⟩
    obtain ⟨s, vx⟩ := x
    have hli : l[i]? = some s := by rw [← hxs, List.getElem?_map, hx]; rfl
    have hbx' := hbx _ (List.mem_of_getElem? hx)
    obtain ⟨hs1, hs2⟩ := hl s (List.mem_of_getElem? hli)
    simp only at hbx'
    obtain ⟨ax, cx, rfl, hcx, hmx⟩ := hbx'.shape
    unfold maxLen at hmx
    have htk : l.take (i + 1) = l.take i ++ [s] := by
      rw [List.take_add_one, hli]; rfl
    have hce : ∀ j v, [Value.int .i64 s.addr, .int .i64 s.size, .int .i64 s.rights, .slice ax s.bytes.length cx][j]? = some v → w.cell? ⟨bh, oh + (i : Int).toNat * 4 + j, none⟩ = some v := by
      intro j v hj
      have hj4 : j < 4 := (List.getElem?_eq_some_iff.1 hj).1
      have hj' : (sgR (s, .slice ax s.bytes.length cx))[j]? = some v := hj
      rw [← flat4 (g := sgR) (fun _ => rfl) hx hj4] at hj'
      obtain ⟨h1, h2⟩ := List.getElem?_eq_some_iff.1 hj'
      have := hch _ h1
      rw [h2] at this
      rw [show oh + (i : Int).toNat * 4 + j = oh + (i * 4 + j) by omega]
      exact this
    have hround : inSg a n s = false → (l.take (i + 1)).find? (inSg a n) = none := fun h => by
      rw [htk]
      exact bytesAt_snoc_no hno h
    repeat' (first | (apply Wl.loadAO; exact rfl; exact rfl; exact hce; exact trivial; exact rfl) | (apply Wl.move; exact rfl; exact rfl) | (apply Wl.assign; exact rfl; exact rfl) | (apply Wl.on; exact rfl; exact rfl; (first | with_reducible rfl | with_reducible assumption | decide)) | (apply Wl.off; exact rfl; exact rfl; exact rfl; (first | with_reducible rfl | (show _ = false; with_reducible assumption) | (show _ = true; with_reducible assumption) | decide)) | (apply Wl.pickT; exact rfl; exact rfl; (first | with_reducible rfl | with_reducible assumption | decide); exact rfl) | (apply Wl.pickF; exact rfl; exact rfl; (first | with_reducible rfl | with_reducible assumption | decide); exact rfl) | (apply Wl.fieldAddr0; exact rfl; exact rfl) | (apply Wl.fieldAddrZ; exact rfl; exact rfl) | (apply Wl.loadH; exact rfl; exact rfl; (repeat (first | exact List.Mem.head _ | apply List.Mem.tail)); exact rfl) | (apply Wl.lss; exact rfl; exact rfl; exact rfl) | (apply Wl.leq; exact rfl; exact rfl; exact rfl) | (apply Wl.geq; exact rfl; exact rfl; exact rfl) | (apply Wl.addI; exact rfl; exact rfl; exact rfl; (constructor <;> omega)) | (apply Wl.subI; exact rfl; exact rfl; exact rfl; (constructor <;> omega)) | (apply Wl.len; exact rfl; exact rfl) | (apply Wl.storeA; exact rfl; exact rfl; exact rfl; exact rfl; (repeat (first | apply HSet.here | apply HSet.there)); (repeat (first | apply LPut.s | apply LPut.z | apply LOver.nil | apply LOver.cons))) | (apply Wl.alloc; exact rfl; intro c hc ho) | (apply Wl.sliceFull; exact rfl; exact rfl; (first | exact BoundIs.no | exact BoundIs.yes rfl (by omega)); (first | exact BoundIs.no | exact BoundIs.yes rfl (by omega)); (first | exact BoundIs.no | exact BoundIs.yes rfl (by omega)); (first | exact fun _ => rfl | exact fun h => nomatch h); (omega); (omega); (omega)) | (apply Wl.indexAddr; exact rfl; exact rfl; exact rfl; (constructor <;> omega)) | (apply Wl.nil) | (apply St.seq) | (apply St.block) | (apply St.region) | (apply St.condF; exact rfl; (first | with_reducible rfl | with_reducible assumption | decide)) | (apply St.ret) | (apply St.skip) | (apply Gt.next) | (apply Gt.thenRet) | (apply Gt.inNormal) | (apply Gt.inRet) | (apply Gt.out2; exact rfl; exact rfl; exact rfl; intro w' hp) | (apply Wl.splitP; exact rfl; exact rfl; all_goals (intros; try (exfalso; omega))) | (apply Wl.splitB; exact rfl; exact rfl; all_goals intros) | (apply St.condP; exact rfl; all_goals (intros; try (exfalso; omega))) | (apply St.condB; exact rfl; all_goals intros))
    · have hIn : s.addr ≤ a ∧ a + n ≤ s.addr + s.bytes.length := by omega
      have hpc := hbx'.sub (lo := a - s.addr) (hi := a - s.addr + n) (mx := cx) (by omega) (by omega) (by omega) (Nat.le_refl _)
      have hfind : bytesAt l a n = some ((s.bytes.drop (a - s.addr)).take n) := by
        unfold bytesAt
        have h1 : l = (l.take i ++ [s]) ++ l.drop (i + 1) := by rw [← htk, List.take_append_drop]
        rw [h1, List.find?_append, List.find?_append, hno]
        have : inSg a n s = true := by unfold inSg; simpa using hIn
        simp [this]
      rw [hfind]
      have e : (s.bytes.take (a - s.addr + n)).drop (a - s.addr) = (s.bytes.drop (a - s.addr)).take n := by rw [List.drop_take, Nat.add_sub_cancel_left]
      rw [e] at hpc
      have t1 : ((a : Int) - s.addr).toNat = a - s.addr := by omega
      have t2 : ((a : Int) - s.addr + n).toNat = a - s.addr + n := by omega
      rw [t1, t2]
      exact ⟨_, rfl, hpc, hp.drop (by simp; omega)⟩
    · apply Gt.round (i + 1)
      · refine ⟨hlt, hround ?_⟩
        unfold inSg
        simp only [decide_eq_false_iff_not]
        omega
      · omega
      · (repeat (first | exact Sub.nil | apply Sub.cons rfl))
      · exact fun u hu => hu.drop (by simp; omega)
    · apply Gt.round (i + 1)
      · refine ⟨hlt, hround ?_⟩
        unfold inSg
        simp only [decide_eq_false_iff_not]
        omega
      · omega
      · (repeat (first | exact Sub.nil | apply Sub.cons rfl))
      · exact fun u hu => hu.drop (by simp; omega)
  · have hin' : i = xs.length := by omega
    subst hin'
    repeat' (first | (apply Wl.move; exact rfl; exact rfl) | (apply Wl.assign; exact rfl; exact rfl) | (apply Wl.lss; exact rfl; exact rfl; exact rfl) | (apply Wl.len; exact rfl; exact rfl) | (apply Wl.nil) | (apply St.seq) | (apply St.region) | (apply St.ret) | (apply St.exit) | (apply Gt.next) | (apply Gt.thenExit) | (apply Gt.inExit) | (apply Gt.out2; exact rfl; exact rfl; exact rfl; intro w' hp) | (apply Wl.splitP; exact rfl; exact rfl; all_goals (intros; try (exfalso; omega))) | (apply Wl.splitB; exact rfl; exact rfl; all_goals intros) | (apply St.condP; exact rfl; all_goals (intros; try (exfalso; omega))) | (apply St.condB; exact rfl; all_goals intros))
    have hl2 : l.take xs.length = l := List.take_of_length_le (by rw [← hxs, List.length_map]; exact Nat.le_refl _)
    rw [hl2] at hno
    unfold bytesAt
    rw [hno]
    exact ⟨_, rfl, Bs.nil w, hp⟩

/-- the tags as the reference keeps them -/
def tagC (b : List UInt8) (n : Nat) : List Value := (List.range n).flatMap fun i => [.int .i64 (tg b i), .int .i64 (vl b i)]
theorem tagC_succ (b : List UInt8) (n : Nat) : tagC b (n + 1) = tagC b n ++ [.int .i64 (tg b n), .int .i64 (vl b n)] := by simp [tagC, List.range_succ]
theorem tagC_len (b : List UInt8) (n : Nat) : (tagC b n).length = n * 2 := by
  induction n with
  | zero => rfl
  | succ n ih => rw [tagC_succ, List.length_append, ih]; simp; omega
theorem tagC_get (b : List UInt8) (n i : Nat) (hi : i < n) : (tagC b n)[i * 2]? = some (.int .i64 (tg b i)) ∧ (tagC b n)[i * 2 + 1]? = some (.int .i64 (vl b i)) := by
  induction n with
  | zero => omega
  | succ n ih =>
    rw [tagC_succ]
    by_cases h : i < n
    · rw [List.getElem?_append_left (by rw [tagC_len]; omega), List.getElem?_append_left (by rw [tagC_len]; omega)]
      exact ih h
    · have : i = n := by omega
      subst this
      rw [List.getElem?_append_right (by rw [tagC_len]; omega), List.getElem?_append_right (by rw [tagC_len]; omega), tagC_len]
      constructor
      · rw [show i * 2 - i * 2 = 0 by omega]; rfl
      · rw [show i * 2 + 1 - i * 2 = 1 by omega]; rfl
set_option maxHeartbeats 1000000 in
theorem rvalue_any (v : Value) (b : List UInt8) (n t : Nat) (w : World) (hs : Sv w 2 n v (tagC b n)) :
    Calls Try.prog 28 #[v, .int .i64 t] w fun e w' => e = .returned (.tuple #[.int .i64 ((lk b n t).getD 0 : Nat), .bool (lk b n t).isSome]) ∧ Hp w [] w' := by
  obtain ⟨hlen, av, cv, rfl, hc1, hc2, _, hcell⟩ := hs
  unfold maxLen at hc2
  refine enter (args := [_, _]) (Γ := [(0, _), (1, _)]) Try.func28 Try.ntmps28 rfl (of_decide_eq_true rfl) (.cons rfl (.cons rfl .nil)) ?_
  repeat' (first | (apply Wl.assign; exact rfl; exact rfl) | (apply Wl.nil) | (apply St.seq) | (apply St.block) | (apply St.region) | (apply Gt.next) | (apply Wl.splitP; exact rfl; exact rfl; all_goals (intros; try (exfalso; omega))) | (apply Wl.splitB; exact rfl; exact rfl; all_goals intros) | (apply St.condP; exact rfl; all_goals (intros; try (exfalso; omega))) | (apply St.condB; exact rfl; all_goals intros))
  refine St.loop (σ := Nat) (fun τ => τ ≤ n ∧ lk b τ t = none) (fun τ => [(0, .slice av n cv), (1, .int .i64 t), (6, .int .i64 τ)]) (fun _ => Hp w []) (fun τ => n - τ) 0 ⟨Nat.zero_le _, rfl⟩ (by (repeat (first | exact Sub.nil | apply Sub.cons rfl))) (fun _ h => h) ?_
  rintro i ⟨hin, hno⟩
  by_cases hlt : i < n
  · obtain ⟨bh, oh, rfl, hch⟩ := hcell (fun e => by have := tagC_len b n; rw [e] at this; simp at this; omega)
    obtain ⟨g1, g2⟩ := tagC_get b n i hlt
    obtain ⟨h1, h2⟩ := List.getElem?_eq_some_iff.1 g1
    obtain ⟨h3, h4⟩ := List.getElem?_eq_some_iff.1 g2
    have c1 : w.cell? ⟨bh, oh + (i : Int).toNat * 2 + (0 : Int).toNat * 1, none⟩ = some (.int .i64 (tg b i)) := by
      have := hch _ h1
      rw [h2] at this
      rw [show oh + (i : Int).toNat * 2 + (0 : Int).toNat * 1 = oh + i * 2 by omega]; exact this
    have c2 : w.cell? ⟨bh, oh + (i : Int).toNat * 2 + (1 : Int).toNat * 1, none⟩ = some (.int .i64 (vl b i)) := by
      have := hch _ h3
      rw [h4] at this
      rw [show oh + (i : Int).toNat * 2 + (1 : Int).toNat * 1 = oh + (i * 2 + 1) by omega]; exact this
    repeat' (first | (apply Wl.move; exact rfl; exact rfl) | (apply Wl.assign; exact rfl; exact rfl) | (apply Wl.loadO; exact rfl; exact rfl; (assumption); (repeat (first | exact trivial | refine ⟨by first | assumption | omega, ?_⟩))) | (apply Wl.eql; exact rfl; exact rfl; exact rfl) | (apply Wl.lss; exact rfl; exact rfl; exact rfl) | (apply Wl.addI; exact rfl; exact rfl; exact rfl; (constructor <;> omega)) | (apply Wl.len; exact rfl; exact rfl) | (apply Wl.indexAddr; exact rfl; exact rfl; exact rfl; (constructor <;> omega)) | (apply Wl.indexArr; exact rfl; exact rfl; exact rfl; (constructor <;> omega)) | (apply Wl.nil) | (apply St.seq) | (apply St.block) | (apply St.region) | (apply St.ret) | (apply St.skip) | (apply Gt.next) | (apply Gt.thenRet) | (apply Gt.inNormal) | (apply Gt.inRet) | (apply Gt.out2; exact rfl; exact rfl; exact rfl; intro w' hp) | (apply Wl.splitP; exact rfl; exact rfl; all_goals (intros; try (exfalso; omega))) | (apply Wl.splitB; exact rfl; exact rfl; all_goals intros) | (apply St.condP; exact rfl; all_goals (intros; try (exfalso; omega))) | (apply St.condB; exact rfl; all_goals intros))
    · have e : lk b n t = some (vl b i) := lk_hit hlt hno (by omega)
      rw [e]
      exact ⟨rfl, hp⟩
    · apply Gt.round (i + 1)
      · refine ⟨hlt, ?_⟩
        show (match lk b i t with | some v => some v | none => if tg b i = t then some (vl b i) else none) = none
        rw [hno]
        exact if_neg (by omega)
      · omega
      · (repeat (first | exact Sub.nil | apply Sub.cons rfl))
      · exact fun _ h => h
  · have hin' : i = n := by omega
    subst hin'
    repeat' (first | (apply Wl.move; exact rfl; exact rfl) | (apply Wl.assign; exact rfl; exact rfl) | (apply Wl.lss; exact rfl; exact rfl; exact rfl) | (apply Wl.len; exact rfl; exact rfl) | (apply Wl.nil) | (apply St.seq) | (apply St.region) | (apply St.ret) | (apply St.exit) | (apply Gt.next) | (apply Gt.thenExit) | (apply Gt.inExit) | (apply Gt.out2; exact rfl; exact rfl; exact rfl; intro w' hp) | (apply Wl.splitP; exact rfl; exact rfl; all_goals (intros; try (exfalso; omega))) | (apply Wl.splitB; exact rfl; exact rfl; all_goals intros) | (apply St.condP; exact rfl; all_goals (intros; try (exfalso; omega))) | (apply St.condB; exact rfl; all_goals intros))
    rw [hno]
    exact ⟨rfl, hp⟩
theorem rvalue_D (v : Value) (b : List UInt8) (n t : Nat) {x : Nat} {z : Bool} (hx : (lk b n t).getD 0 = x) (hz : (lk b n t).isSome = z) (w : World) (hs : Sv w 2 n v (tagC b n)) :
    Calls Try.prog 28 #[v, .int .i64 t] w fun e w' => e = .returned (.tuple #[.int .i64 x, .bool z]) ∧ Hp w [] w' := by
  have := rvalue_any v b n t w hs
  rwa [hx, hz] at this
set_option maxHeartbeats 1000000 in
theorem rtags_any (v : Value) (b : List UInt8) (w : World) (hv : Bs w v b) (hl : b.length ≤ 1000000) :
    Calls Try.prog 27 #[v] w fun e w' => Upd (fun k => w.heap.size ≤ k) w w' ∧
      ((tagsN b = none ∧ e = .returned (.tuple #[.slice none 0 0, .bool false])) ∨
       ∃ n x, tagsN b = some n ∧ e = .returned (.tuple #[x, .bool true]) ∧ w'.ownsRow w.heap.size 109 2 x n (tagC b n)) := by
  obtain ⟨a, cap, rfl, hlc, hm⟩ := hv.shape
  refine enter (args := [_]) (Γ := [(0, _)]) Try.func27 Try.ntmps27 rfl (of_decide_eq_true rfl) (.cons rfl .nil) ?_
  repeat' (first | (apply Wl.move; exact rfl; exact rfl) | (apply Wl.assign; exact rfl; exact rfl) | (apply Wl.buildS; exact rfl; (repeat (first | exact Parts.nil | apply Parts.cons rfl)); (repeat (first | apply Fills.nil | (apply Fills.one; exact rfl; exact rfl; (repeat (first | apply LSet.z | apply LSet.s))) | (apply Fills.agg; exact rfl; exact rfl; (repeat (first | apply LPut.s | apply LPut.z | apply LOver.nil | apply LOver.cons)))))) | (apply Wl.boxA; exact rfl; exact rfl; intro c hc ho) | (apply Wl.nil) | (apply St.seq) | (apply St.block) | (apply St.region) | (apply Gt.next) | (apply Wl.splitP; exact rfl; exact rfl; all_goals (intros; try (exfalso; omega))) | (apply Wl.splitB; exact rfl; exact rfl; all_goals intros) | (apply St.condP; exact rfl; all_goals (intros; try (exfalso; omega))) | (apply St.condB; exact rfl; all_goals intros))
  generalize c = g at *
  refine St.loop (σ := Nat × World × Nat × Value)
    (fun τ => GoodT b τ.1 ∧ Upd (fun k => w.heap.size ≤ k) w τ.2.1 ∧ RefAt b (8 * τ.1) τ.2.2.1 ∧ τ.2.1.ownsRow w.heap.size 109 2 τ.2.2.2 τ.1 (tagC b τ.1) ∧ (∀ k, τ.2.2.2.ownBlock = some k → k ≠ g))
    (fun τ => [(4, τ.2.2.2), (5, .pointer (some ⟨g, 0, none⟩))])
    (fun τ => Hp τ.2.1 [⟨g, [.slice a b.length cap, .int .i64 τ.2.2.1, .bool (decide (b.length < 8 * τ.1))], 98⟩])
    (fun τ => b.length + 8 - 8 * τ.1) (0, w, 0, .slice none 0 0) ⟨⟨Nat.zero_le _, fun j hj => by omega, fun j k _ hk => by omega⟩, Upd.refl _ _, ⟨Nat.zero_le _, fun _ => rfl⟩, World.ownsRow_nil _ _ _ _, fun k hk => (by cases hk)⟩ (by (repeat (first | exact Sub.nil | apply Sub.cons rfl))) (fun _ h => h) ?_
  rintro ⟨i, w0, p, x⟩ ⟨hgood, hu, hr, hown, hxg⟩
  simp only at hgood hu hr hown hxg ⊢
  have hus := hu.size
  have hbw : ∀ {H : List Blk} {u : World}, Hp w0 H u → (∀ x ∈ H, w.heap.size ≤ x.b) → Bs u (.slice a b.length cap) b := fun hq hH => hv.upd (hu.comp hq.upd fun j _ hs => hs.elim id fun y => Classical.byContradiction fun hlt => y (Off.of fun x hx e => by have := hH x hx; omega)) fun j _ hj _ hno => by omega
  have hfin : ∀ {H : List Blk} {u : World}, Hp w0 H u → (∀ x ∈ H, w.heap.size ≤ x.b) → Upd (fun k => w.heap.size ≤ k) w u := fun hq hH => hu.comp hq.upd fun j _ hs => hs.elim id fun y => Classical.byContradiction fun hlt => y (Off.of fun x hx e => by have := hH x hx; omega)
  have ht0 := tg_lt b i
  have hv0 := vl_lt b i
  have hgl := hgood.1
  repeat' (first | (apply Wl.move; exact rfl; exact rfl) | (apply St.seq) | (apply St.block) | (apply St.region) | (apply Wl.splitP; exact rfl; exact rfl; all_goals (intros; try (exfalso; omega))) | (apply Wl.splitB; exact rfl; exact rfl; all_goals intros) | (apply St.condP; exact rfl; all_goals (intros; try (exfalso; omega))) | (apply St.condB; exact rfl; all_goals intros))
  apply Wl.callC
  exact rfl
  (repeat (first | exact Evs.nil | apply Evs.cons rfl))
  intro wq hq
  refine (rnum_pos g _ b (8 * i) p 4 (by decide) wq (hq.own.at (.head _)) (hbw hq (by simp; omega)) hr).mono ?_
  rintro e wr ⟨p1, rfl, hp, hr1⟩
  refine ⟨_, _, rfl, hq.callSet (by (repeat (first | apply HSet.here | apply HSet.there))) hp, ?_⟩
  clear hp hq wq wr
  repeat' (first | (apply Wl.move; exact rfl; exact rfl) | (apply Wl.assign; exact rfl; exact rfl) | (apply Wl.nil) | (apply St.seq) | (apply St.region) | (apply Gt.next) | (apply Wl.splitP; exact rfl; exact rfl; all_goals (intros; try (exfalso; omega))) | (apply Wl.splitB; exact rfl; exact rfl; all_goals intros) | (apply St.condP; exact rfl; all_goals (intros; try (exfalso; omega))) | (apply St.condB; exact rfl; all_goals intros))
  apply Wl.callC
  exact rfl
  (repeat (first | exact Evs.nil | apply Evs.cons rfl))
  intro wq hq
  refine (rnum_pos g _ b (8 * i + 4) p1 4 (by decide) wq (hq.own.at (.head _)) (hbw hq (by simp; omega)) hr1).mono ?_
  rintro e wr ⟨p2, rfl, hp, hr2⟩
  refine ⟨_, _, rfl, hq.callSet (by (repeat (first | apply HSet.here | apply HSet.there))) hp, ?_⟩
  clear hp hq wq wr
  repeat' (first | (apply Wl.move; exact rfl; exact rfl) | (apply Wl.assign; exact rfl; exact rfl) | (apply Wl.nilCheck; exact rfl; exact rfl) | (apply Wl.fieldAddrZ; exact rfl; exact rfl) | (apply Wl.loadH; exact rfl; exact rfl; (repeat (first | exact List.Mem.head _ | apply List.Mem.tail)); exact rfl) | (apply Wl.eql; exact rfl; exact rfl; exact rfl) | (apply Wl.nil) | (apply St.seq) | (apply St.region) | (apply St.ret) | (apply St.skip) | (apply Gt.next) | (apply Gt.thenRet) | (apply Gt.inRet) | (apply Gt.out2; exact rfl; exact rfl; exact rfl; intro w' hp) | (apply Wl.splitP; exact rfl; exact rfl; all_goals (intros; try (exfalso; omega))) | (apply Wl.splitB; exact rfl; exact rfl; all_goals intros) | (apply St.condP; exact rfl; all_goals (intros; try (exfalso; omega))) | (apply St.condB; exact rfl; all_goals intros))
  · exact ⟨hfin hp (by simp; omega), .inl ⟨tagsN_none (tags_short hgood (by omega)), rfl⟩⟩
  · refine ⟨hfin hp (by simp; omega), .inr ⟨i, x, tagsN_some ⟨hgood, by omega, ?_⟩, rfl, ownsRow_upd hown hp.upd fun k hk y => y ⟨(hxg k hk).symm, trivial⟩⟩⟩
    show num b (8 * i) 4 = 0
    omega
  have hlen : 8 * i + 8 ≤ b.length := by omega
  have h0 : tg b i ≠ 0 := by
    have h := ‹¬ (num b (8 * i) 4 : Int) = 0›
    show num b (8 * i) 4 ≠ 0
    omega
  apply Wl.callQ
  exact rfl
  (repeat (first | exact Evs.nil | apply Evs.cons rfl))
  · intro wq hq
    refine (rvalue_D x b i (tg b i) rfl rfl wq ((Sv.ofOwn hown).upd hq.upd fun k hk _ _ y => y ⟨(hxg k hk).symm, trivial⟩)).mono ?_
    rintro e wr ⟨rfl, hr⟩
    exact ⟨rfl, hq.keep hr⟩
  repeat' (first | (apply Wl.move; exact rfl; exact rfl) | (apply Wl.assign; exact rfl; exact rfl) | (apply Wl.extract; exact rfl; exact rfl; exact rfl) | (apply Wl.buildA; exact rfl; (repeat (first | exact Parts.nil | apply Parts.cons rfl)); (repeat (first | apply Fills.nil | (apply Fills.one; exact rfl; exact rfl; (repeat (first | apply LSet.z | apply LSet.s))) | (apply Fills.agg; exact rfl; exact rfl; (repeat (first | apply LPut.s | apply LPut.z | apply LOver.nil | apply LOver.cons)))))) | (apply Wl.lit; exact rfl; (repeat (first | exact Parts.nil | apply Parts.cons rfl)); exact rfl; exact rfl; (repeat (first | apply CatP.nil | (apply CatP.one; exact rfl; exact rfl) | (apply CatP.agg; exact rfl) | apply LApp.nil | apply LApp.cons)); intro c hc ho) | (apply Wl.nil) | (apply St.seq) | (apply St.region) | (apply St.ret) | (apply St.skip) | (apply Gt.next) | (apply Gt.thenRet) | (apply Gt.inRet) | (apply Gt.out2; exact rfl; exact rfl; exact rfl; intro w' hp) | (apply Wl.splitP; exact rfl; exact rfl; all_goals (intros; try (exfalso; omega))) | (apply Wl.splitB; exact rfl; exact rfl; all_goals intros) | (apply St.condP; exact rfl; all_goals (intros; try (exfalso; omega))) | (apply St.condB; exact rfl; all_goals intros))
  · have ht : lk b i (tg b i) ≠ none := fun e => by
      have h := ‹(lk b i (tg b i)).isSome = true›
      rw [e] at h; simp at h
    exact ⟨hfin hp (by simp; omega), .inl ⟨tagsN_none (tags_twice hgood ht), rfl⟩⟩
  have hnone : lk b i (tg b i) = none := by
    have h := ‹(lk b i (tg b i)).isSome = false›
    simpa using h
  apply Wl.appendT
  · exact rfl
  · exact rfl
  · exact rfl
  · exact hc
  · exact rfl
  · exact hown
  · exact fun k hk => ⟨fun e => hxg k hk e.symm, trivial⟩
  · exact rfl
  · exact rfl
  · decide
  · unfold maxLen; omega
  · omega
  · exact hus
  intro v' w4 ho4 u4 _ hoff4
  repeat' (first | (apply Wl.assign; exact rfl; exact rfl) | (apply Wl.nil) | (apply Gt.inNormal) | (apply Wl.splitP; exact rfl; exact rfl; all_goals (intros; try (exfalso; omega))) | (apply Wl.splitB; exact rfl; exact rfl; all_goals intros) | (apply St.condP; exact rfl; all_goals (intros; try (exfalso; omega))) | (apply St.condB; exact rfl; all_goals intros))
  apply Gt.round (i + 1, w4, p2, v')
  · refine ⟨good_succ hgood hlen h0 hnone, hu.comp u4 fun k hk h => h.elim id fun h => h.elim (fun e => (hown.lt k e).1) fun y => Classical.byContradiction fun hn => y ⟨fun e => by simp only at e; omega, trivial⟩, by simp only; rw [show 8 * (i + 1) = 8 * i + 4 + 4 from by omega]; exact hr2, by simp only; rw [tagC_succ]; exact ho4, fun k hk => ?_⟩
    exact fun e => (hoff4 k hk).1.1 e.symm
  · simp only; omega
  · (repeat (first | exact Sub.nil | apply Sub.cons rfl))
  · exact fun _ h => h
end Go.Proofs.Ytcjikjadajmefaa
