/-
  porticoref07.Same: the same manifest? Conditions: the arguments read as manifests.
-/
import Derived.Test.YthdojhldiinkcaaCmp
namespace Go.Proofs.Ythdojhldiinkcaa
open Go.RowKit Go.Pt

theorem Hp.swap2 {w0 w : World} {x y : Blk} {H : List Blk} (h : Hp w0 (x :: y :: H) w) : Hp w0 (y :: x :: H) w :=
  ⟨h.upd.mono fun k _ hn ho => hn ⟨ho.2.1, ho.1, ho.2.2⟩, ⟨h.own.2.1, h.own.1, h.own.2.2⟩, ⟨⟨fun e => h.apart.1.1 e.symm, h.apart.2.1⟩, h.apart.1.2, h.apart.2.2⟩⟩
theorem take_step {α : Type} {p q : List α} {i : Nat} {x y : α} (h : p.take i = q.take i) (hp : p[i]? = some x) (hq : q[i]? = some y) (e : x = y) : p.take (i + 1) = q.take (i + 1) := by
  rw [List.take_add_one, List.take_add_one, h, hp, hq, e]
set_option maxHeartbeats 4000000 in
theorem same_any (m n : Mf) (v v' : Value) (w : World) (hv : MfV w v m) (hv' : MfV w v' n) :
    Calls Try.prog 44 #[v, v'] w fun e w' => ∃ b : Bool, e = .returned (.bool b) ∧ (b = true ↔ m = n) ∧ Upd (fun k => w.heap.size ≤ k) w w' := by
  obtain ⟨pv, xs, rfl, hxs, hsv, hpy, hcnt, hkey⟩ := hv
  obtain ⟨qv, ys, rfl, hys, hsv', hpy', hcnt', hkey'⟩ := hv'
  unfold I64 at hkey hkey'
  have hlen : xs.length = m.pays.length := by rw [← hxs, List.length_map]
  have hlen' : ys.length = n.pays.length := by rw [← hys, List.length_map]
  have hsv0 := hsv
  have hsv0' := hsv'
  obtain ⟨_, ap, cp, rfl, hp1, hp2, _, _⟩ := hsv
  obtain ⟨_, aq, cq, rfl, hq1, hq2, _, _⟩ := hsv'
  unfold maxLen at hp2 hq2
  refine enter (args := [_, _]) (Γ := [(0, _), (1, _)]) Try.func44 Try.ntmps44 rfl (of_decide_eq_true rfl) (.cons rfl (.cons rfl .nil)) ?_
  repeat' (first | (apply Wl.move; exact rfl; exact rfl) | (apply Wl.assign; exact rfl; exact rfl) | (apply Wl.on; exact rfl; exact rfl; (first | with_reducible rfl | with_reducible assumption | decide)) | (apply Wl.off; exact rfl; exact rfl; exact rfl; (first | with_reducible rfl | (show _ = false; with_reducible assumption) | (show _ = true; with_reducible assumption) | decide)) | (apply Wl.pickT; exact rfl; exact rfl; (first | with_reducible rfl | with_reducible assumption | decide); exact rfl) | (apply Wl.pickF; exact rfl; exact rfl; (first | with_reducible rfl | with_reducible assumption | decide); exact rfl) | (apply Wl.fieldAddr0; exact rfl; exact rfl) | (apply Wl.fieldAddrZ; exact rfl; exact rfl) | (apply Wl.loadH; exact rfl; exact rfl; (repeat (first | exact List.Mem.head _ | apply List.Mem.tail)); exact rfl) | (apply Wl.neq; exact rfl; exact rfl; exact rfl) | (apply Wl.len; exact rfl; exact rfl) | (apply Wl.boxA; exact rfl; exact rfl; intro c hc ho) | (apply Wl.nil) | (apply St.region) | (apply St.condT; exact rfl; (first | with_reducible rfl | with_reducible assumption | decide)) | (apply St.ret) | (apply St.skip) | (apply Gt.next) | (apply Gt.thenRet) | (apply Gt.out1; exact rfl; exact rfl; intro w' hp) | (apply St.seqK (k := 3); exact rfl) | (apply St.seqKS (k := 3); exact rfl) | (apply Wl.splitP; exact rfl; exact rfl; all_goals (intros; try (exfalso; omega))) | (apply Wl.splitB; exact rfl; exact rfl; all_goals intros) | (apply St.condP; exact rfl; all_goals (intros; try (exfalso; omega))) | (apply St.condB; exact rfl; all_goals intros))
  all_goals try exact ⟨false, rfl, ⟨fun h => (by cases h), fun h => (by subst h; omega)⟩, (hp.drop (by simp; omega)).upd.mono fun _ _ y => (y trivial).elim⟩
  rename_i c2 hc2 ho2 _ _ _ _ _ _
  have em1 : m.counter = n.counter := by omega
  have em2 : m.key = n.key := by omega
  have em3 : xs.length = ys.length := by omega
  generalize c = c3 at *
  refine St.reb (H' := []) ?_
  intro w1 h1
  refine ⟨trivial, trivial, ?_⟩
  have u01 : Upd (fun k => w.heap.size ≤ k) w w1 := (h1.drop (by simp; omega)).upd.mono fun _ _ y => (y trivial).elim
  have hA : w1.cell? ⟨c2, 2, none⟩ = some (.slice ap xs.length cp) := h1.cell (.tail _ (.head _)) rfl
  have hB : w1.cell? ⟨c3, 2, none⟩ = some (.slice aq ys.length cq) := h1.cell (.head _) rfl
  have hl2 : c2 < w1.heap.size := h1.own.lt (.tail _ (.head _))
  have hl3 : c3 < w1.heap.size := h1.own.lt (.head _)
  clear h1
  repeat' (first | (apply Wl.assign; exact rfl; exact rfl) | (apply Wl.nil) | (apply St.seq) | (apply St.block) | (apply St.region) | (apply Gt.next) | (apply Wl.splitP; exact rfl; exact rfl; all_goals (intros; try (exfalso; omega))) | (apply Wl.splitB; exact rfl; exact rfl; all_goals intros) | (apply St.condP; exact rfl; all_goals (intros; try (exfalso; omega))) | (apply St.condB; exact rfl; all_goals intros))
  refine St.loop (σ := Nat) (fun i => i ≤ xs.length ∧ m.pays.take i = n.pays.take i)
    (fun i => [(2, .pointer (some ⟨c2, 0, none⟩)), (3, .pointer (some ⟨c3, 0, none⟩)), (5, .int .i64 i)])
    (fun _ => Hp w1 []) (fun i => xs.length - i) 0 ⟨Nat.zero_le _, rfl⟩ (by (repeat (first | exact Sub.nil | apply Sub.cons rfl))) (fun _ h => h) ?_
  rintro i ⟨hin, htk⟩
  by_cases hlt : i < xs.length
  · obtain ⟨x, hx⟩ : ∃ x, xs[i]? = some x := ⟨_, List.getElem?_eq_getElem hlt⟩
    obtain ⟨y, hy⟩ : ∃ y, ys[i]? = some y := ⟨_, List.getElem?_eq_getElem (by omega)⟩
    obtain ⟨hsg, hdl, hsz, hbi, hca, hgrs, hgl⟩ := hpy x (List.mem_of_getElem? hx)
    obtain ⟨hsg', hdl', hsz', hbi', hca', hgrs', hgl'⟩ := hpy' y (List.mem_of_getElem? hy)
    have hmx : m.pays[i]? = some x.1 := by rw [← hxs, List.getElem?_map, hx]; rfl
    have hmy : n.pays[i]? = some y.1 := by rw [← hys, List.getElem?_map, hy]; rfl
    have hpyl : ∀ x ∈ xs, (pyCells x).length = 36 := fun x hx => pyCells_len x (hpy x hx).2.1
    have hpyl' : ∀ x ∈ ys, (pyCells x).length = 36 := fun x hx => pyCells_len x (hpy' x hx).2.1
    have hno (hne : x.1 ≠ y.1) (H : List Blk) (w' : World) (hp : Hp w1 H w') (hH : ∀ x ∈ H, w1.heap.size ≤ x.b) : ∃ b : Bool, Ending.returned (.bool false) = .returned (.bool b) ∧ (b = true ↔ m = n) ∧ Upd (fun k => w.heap.size ≤ k) w w' := by
      refine ⟨false, rfl, ⟨fun h => (by cases h), fun h => ?_⟩, u01.comp (hp.drop hH).upd fun _ _ hs => hs.elim id fun y => (y trivial).elim⟩
      subst h
      rw [hmx] at hmy
      exact absurd (Option.some.inj hmy) hne
    obtain ⟨⟨dig, psz, pbi, gs, pca⟩, gv⟩ := x
    obtain ⟨⟨dig', qsz, qbi, hs, qca⟩, gv'⟩ := y
    simp only at hsg hdl hsz hbi hca hgrs hgl hsg' hdl' hsz' hbi' hca' hgrs' hgl' hmx hmy hno
    unfold I64 at hca hca'
    obtain ⟨d0, d1, d2, d3, d4, d5, d6, d7, d8, d9, d10, d11, d12, d13, d14, d15, d16, d17, d18, d19, d20, d21, d22, d23, d24, d25, d26, d27, d28, d29, d30, d31, rfl⟩ := list32 dig hdl
    obtain ⟨e0, e1, e2, e3, e4, e5, e6, e7, e8, e9, e10, e11, e12, e13, e14, e15, e16, e17, e18, e19, e20, e21, e22, e23, e24, e25, e26, e27, e28, e29, e30, e31, rfl⟩ := list32 dig' hdl'
    obtain ⟨bp, op, cp', hap, _, _⟩ := Sv.some_of hsv0 (fun e => by have := flat36 hpyl hx (j := 0) (by decide); rw [e] at this; simp [pyCells, byteCells] at this)
    simp only [Value.slice.injEq, true_and] at hap
    obtain ⟨rfl, rfl⟩ := hap
    obtain ⟨bq, oq, cq', haq, _, _⟩ := Sv.some_of hsv0' (fun e => by have := flat36 hpyl' hy (j := 0) (by decide); rw [e] at this; simp [pyCells, byteCells] at this)
    simp only [Value.slice.injEq, true_and] at haq
    obtain ⟨rfl, rfl⟩ := haq
    have hsg0 := hsg
    have hsg0' := hsg'
    obtain ⟨_, ga, gc, rfl, hg1, hg2, _, _⟩ := hsg
    obtain ⟨_, ha, hc', rfl, hg1', hg2', _, _⟩ := hsg'
    unfold maxLen at hg2 hg2'
    have old {a : Addr} {u : Value} (h : w.cell? a = some u) : w1.cell? a = some u := u01.cell h (by have := World.block_lt_of_cell? w _ h; omega)
    have hcx : ∀ j v, [Value.int .u8 (d0.toNat : Int), .int .u8 (d1.toNat : Int), .int .u8 (d2.toNat : Int), .int .u8 (d3.toNat : Int), .int .u8 (d4.toNat : Int), .int .u8 (d5.toNat : Int), .int .u8 (d6.toNat : Int), .int .u8 (d7.toNat : Int), .int .u8 (d8.toNat : Int), .int .u8 (d9.toNat : Int), .int .u8 (d10.toNat : Int), .int .u8 (d11.toNat : Int), .int .u8 (d12.toNat : Int), .int .u8 (d13.toNat : Int), .int .u8 (d14.toNat : Int), .int .u8 (d15.toNat : Int), .int .u8 (d16.toNat : Int), .int .u8 (d17.toNat : Int), .int .u8 (d18.toNat : Int), .int .u8 (d19.toNat : Int), .int .u8 (d20.toNat : Int), .int .u8 (d21.toNat : Int), .int .u8 (d22.toNat : Int), .int .u8 (d23.toNat : Int), .int .u8 (d24.toNat : Int), .int .u8 (d25.toNat : Int), .int .u8 (d26.toNat : Int), .int .u8 (d27.toNat : Int), .int .u8 (d28.toNat : Int), .int .u8 (d29.toNat : Int), .int .u8 (d30.toNat : Int), .int .u8 (d31.toNat : Int), .int .u32 psz, .int .u32 pbi, .slice ga gs.length gc, .int .i64 pca][j]? = some v → w1.cell? ⟨bp, op + (i : Int).toNat * 36 + j, none⟩ = some v := by
      intro j v hj
      have hj36 : j < 36 := (List.getElem?_eq_some_iff.1 hj).1
      have := flat36 hpyl hx hj36
      rw [show op + (i : Int).toNat * 36 + j = op + (i * 36 + j) by omega]
      exact old (Sv.cellN hsv0 (this.trans hj))
    have hcy : ∀ j v, [Value.int .u8 (e0.toNat : Int), .int .u8 (e1.toNat : Int), .int .u8 (e2.toNat : Int), .int .u8 (e3.toNat : Int), .int .u8 (e4.toNat : Int), .int .u8 (e5.toNat : Int), .int .u8 (e6.toNat : Int), .int .u8 (e7.toNat : Int), .int .u8 (e8.toNat : Int), .int .u8 (e9.toNat : Int), .int .u8 (e10.toNat : Int), .int .u8 (e11.toNat : Int), .int .u8 (e12.toNat : Int), .int .u8 (e13.toNat : Int), .int .u8 (e14.toNat : Int), .int .u8 (e15.toNat : Int), .int .u8 (e16.toNat : Int), .int .u8 (e17.toNat : Int), .int .u8 (e18.toNat : Int), .int .u8 (e19.toNat : Int), .int .u8 (e20.toNat : Int), .int .u8 (e21.toNat : Int), .int .u8 (e22.toNat : Int), .int .u8 (e23.toNat : Int), .int .u8 (e24.toNat : Int), .int .u8 (e25.toNat : Int), .int .u8 (e26.toNat : Int), .int .u8 (e27.toNat : Int), .int .u8 (e28.toNat : Int), .int .u8 (e29.toNat : Int), .int .u8 (e30.toNat : Int), .int .u8 (e31.toNat : Int), .int .u32 qsz, .int .u32 qbi, .slice ha hs.length hc', .int .i64 qca][j]? = some v → w1.cell? ⟨bq, oq + (i : Int).toNat * 36 + j, none⟩ = some v := by
      intro j v hj
      have hj36 : j < 36 := (List.getElem?_eq_some_iff.1 hj).1
      have := flat36 hpyl' hy hj36
      rw [show oq + (i : Int).toNat * 36 + j = oq + (i * 36 + j) by omega]
      exact old (Sv.cellN hsv0' (this.trans hj))
    repeat' (first | (apply Wl.move; exact rfl; exact rfl) | (apply Wl.fieldAddrZ; exact rfl; exact rfl) | (apply Wl.loadO; exact rfl; exact rfl; (assumption); (repeat (first | exact trivial | refine ⟨by first | assumption | omega, ?_⟩))) | (apply Wl.lss; exact rfl; exact rfl; exact rfl) | (apply Wl.len; exact rfl; exact rfl) | (apply Wl.nil) | (apply St.region) | (apply St.skip) | (apply Gt.next) | (apply St.seqK (k := 6); exact rfl) | (apply St.seqKS (k := 6); exact rfl) | (apply Wl.splitP; exact rfl; exact rfl; all_goals (intros; try (exfalso; omega))) | (apply Wl.splitB; exact rfl; exact rfl; all_goals intros) | (apply St.condP; exact rfl; all_goals (intros; try (exfalso; omega))) | (apply St.condB; exact rfl; all_goals intros))
    apply St.seq
    apply St.block
    refine St.cut (σ := Nat × Nat) (fun τ => w1.heap.size ≤ τ.1 ∧ w1.heap.size ≤ τ.2 ∧ τ.1 ≠ τ.2) (fun τ => [(2, .pointer (some ⟨c2, 0, none⟩)), (3, .pointer (some ⟨c3, 0, none⟩)), (5, .int .i64 i), (6, .pointer (some ⟨τ.1, 0, none⟩)), (7, .pointer (some ⟨τ.2, 0, none⟩))])
      (fun τ => Hp w1 [⟨τ.1, [Value.int .u8 (d0.toNat : Int), .int .u8 (d1.toNat : Int), .int .u8 (d2.toNat : Int), .int .u8 (d3.toNat : Int), .int .u8 (d4.toNat : Int), .int .u8 (d5.toNat : Int), .int .u8 (d6.toNat : Int), .int .u8 (d7.toNat : Int), .int .u8 (d8.toNat : Int), .int .u8 (d9.toNat : Int), .int .u8 (d10.toNat : Int), .int .u8 (d11.toNat : Int), .int .u8 (d12.toNat : Int), .int .u8 (d13.toNat : Int), .int .u8 (d14.toNat : Int), .int .u8 (d15.toNat : Int), .int .u8 (d16.toNat : Int), .int .u8 (d17.toNat : Int), .int .u8 (d18.toNat : Int), .int .u8 (d19.toNat : Int), .int .u8 (d20.toNat : Int), .int .u8 (d21.toNat : Int), .int .u8 (d22.toNat : Int), .int .u8 (d23.toNat : Int), .int .u8 (d24.toNat : Int), .int .u8 (d25.toNat : Int), .int .u8 (d26.toNat : Int), .int .u8 (d27.toNat : Int), .int .u8 (d28.toNat : Int), .int .u8 (d29.toNat : Int), .int .u8 (d30.toNat : Int), .int .u8 (d31.toNat : Int), .int .u32 psz, .int .u32 pbi, .slice ga gs.length gc, .int .i64 pca], 97⟩, ⟨τ.2, [Value.int .u8 (e0.toNat : Int), .int .u8 (e1.toNat : Int), .int .u8 (e2.toNat : Int), .int .u8 (e3.toNat : Int), .int .u8 (e4.toNat : Int), .int .u8 (e5.toNat : Int), .int .u8 (e6.toNat : Int), .int .u8 (e7.toNat : Int), .int .u8 (e8.toNat : Int), .int .u8 (e9.toNat : Int), .int .u8 (e10.toNat : Int), .int .u8 (e11.toNat : Int), .int .u8 (e12.toNat : Int), .int .u8 (e13.toNat : Int), .int .u8 (e14.toNat : Int), .int .u8 (e15.toNat : Int), .int .u8 (e16.toNat : Int), .int .u8 (e17.toNat : Int), .int .u8 (e18.toNat : Int), .int .u8 (e19.toNat : Int), .int .u8 (e20.toNat : Int), .int .u8 (e21.toNat : Int), .int .u8 (e22.toNat : Int), .int .u8 (e23.toNat : Int), .int .u8 (e24.toNat : Int), .int .u8 (e25.toNat : Int), .int .u8 (e26.toNat : Int), .int .u8 (e27.toNat : Int), .int .u8 (e28.toNat : Int), .int .u8 (e29.toNat : Int), .int .u8 (e30.toNat : Int), .int .u8 (e31.toNat : Int), .int .u32 qsz, .int .u32 qbi, .slice ha hs.length hc', .int .i64 qca], 97⟩]) ?_ ?_
    · refine St.tree (Hp w1 []) mixed (fun _ h => ⟨Hp.drew h, Hp.drew h⟩) ?_
      refine Mt.pure 0 (by kernel_rfl) (by exact rfl) (by exact rfl) (by kernel_rfl) (by kernel_rfl) ?_
      repeat' (first | (apply Wl.fieldAddrZ; exact rfl; exact rfl) | (apply Wl.nilM) | (apply Wl.splitP; exact rfl; exact rfl; all_goals (intros; try (exfalso; omega))) | (apply Wl.splitB; exact rfl; exact rfl; all_goals intros) | (apply St.condP; exact rfl; all_goals (intros; try (exfalso; omega))) | (apply St.condB; exact rfl; all_goals intros))
      apply Mt.back
      refine Mt.pure 1 (by kernel_rfl) (by exact rfl) (by exact rfl) (by kernel_rfl) (by kernel_rfl) ?_
      repeat' (first | (apply Wl.loadO; exact rfl; exact rfl; (assumption); (repeat (first | exact trivial | refine ⟨by first | assumption | omega, ?_⟩))) | (apply Wl.nilM) | (apply Wl.splitP; exact rfl; exact rfl; all_goals (intros; try (exfalso; omega))) | (apply Wl.splitB; exact rfl; exact rfl; all_goals intros) | (apply St.condP; exact rfl; all_goals (intros; try (exfalso; omega))) | (apply St.condB; exact rfl; all_goals intros))
      apply Mt.back
      refine Mt.pure 2 (by kernel_rfl) (by exact rfl) (by exact rfl) (by kernel_rfl) (by kernel_rfl) ?_
      repeat' (first | (apply Wl.move; exact rfl; exact rfl) | (apply Wl.nilM) | (apply Wl.splitP; exact rfl; exact rfl; all_goals (intros; try (exfalso; omega))) | (apply Wl.splitB; exact rfl; exact rfl; all_goals intros) | (apply St.condP; exact rfl; all_goals (intros; try (exfalso; omega))) | (apply St.condB; exact rfl; all_goals intros))
      apply Mt.back
      refine Mt.pure 3 (by kernel_rfl) (by exact rfl) (by exact rfl) (by kernel_rfl) (by kernel_rfl) ?_
      repeat' (first | (apply Wl.indexAddr; exact rfl; exact rfl; exact rfl; (constructor <;> omega)) | (apply Wl.nilM) | (apply Wl.splitP; exact rfl; exact rfl; all_goals (intros; try (exfalso; omega))) | (apply Wl.splitB; exact rfl; exact rfl; all_goals intros) | (apply St.condP; exact rfl; all_goals (intros; try (exfalso; omega))) | (apply St.condB; exact rfl; all_goals intros))
      apply Mt.back
      refine Mt.pure 4 (by kernel_rfl) (by exact rfl) (by exact rfl) (by kernel_rfl) (by kernel_rfl) ?_
      repeat' (first | (apply Wl.loadAP; exact rfl; exact rfl; exact hcx; exact trivial; exact rfl) | (apply Wl.nilM) | (apply Wl.splitP; exact rfl; exact rfl; all_goals (intros; try (exfalso; omega))) | (apply Wl.splitB; exact rfl; exact rfl; all_goals intros) | (apply St.condP; exact rfl; all_goals (intros; try (exfalso; omega))) | (apply St.condB; exact rfl; all_goals intros))
      apply Mt.back
      refine Mt.pure 5 (by kernel_rfl) (by exact rfl) (by exact rfl) (by kernel_rfl) (by kernel_rfl) ?_
      repeat' (first | (apply Wl.fieldAddrZ; exact rfl; exact rfl) | (apply Wl.nilM) | (apply Wl.splitP; exact rfl; exact rfl; all_goals (intros; try (exfalso; omega))) | (apply Wl.splitB; exact rfl; exact rfl; all_goals intros) | (apply St.condP; exact rfl; all_goals (intros; try (exfalso; omega))) | (apply St.condB; exact rfl; all_goals intros))
      apply Mt.back
      refine Mt.pure 6 (by kernel_rfl) (by exact rfl) (by exact rfl) (by kernel_rfl) (by kernel_rfl) ?_
      repeat' (first | (apply Wl.loadO; exact rfl; exact rfl; (assumption); (repeat (first | exact trivial | refine ⟨by first | assumption | omega, ?_⟩))) | (apply Wl.nilM) | (apply Wl.splitP; exact rfl; exact rfl; all_goals (intros; try (exfalso; omega))) | (apply Wl.splitB; exact rfl; exact rfl; all_goals intros) | (apply St.condP; exact rfl; all_goals (intros; try (exfalso; omega))) | (apply St.condB; exact rfl; all_goals intros))
      apply Mt.back
      refine Mt.pure 7 (by kernel_rfl) (by exact rfl) (by exact rfl) (by kernel_rfl) (by kernel_rfl) ?_
      repeat' (first | (apply Wl.move; exact rfl; exact rfl) | (apply Wl.nilM) | (apply Wl.splitP; exact rfl; exact rfl; all_goals (intros; try (exfalso; omega))) | (apply Wl.splitB; exact rfl; exact rfl; all_goals intros) | (apply St.condP; exact rfl; all_goals (intros; try (exfalso; omega))) | (apply St.condB; exact rfl; all_goals intros))
      apply Mt.back
      refine Mt.pure 8 (by kernel_rfl) (by exact rfl) (by exact rfl) (by kernel_rfl) (by kernel_rfl) ?_
      repeat' (first | (apply Wl.indexAddr; exact rfl; exact rfl; exact rfl; (constructor <;> omega)) | (apply Wl.nilM) | (apply Wl.splitP; exact rfl; exact rfl; all_goals (intros; try (exfalso; omega))) | (apply Wl.splitB; exact rfl; exact rfl; all_goals intros) | (apply St.condP; exact rfl; all_goals (intros; try (exfalso; omega))) | (apply St.condB; exact rfl; all_goals intros))
      apply Mt.back
      refine Mt.pure 9 (by kernel_rfl) (by exact rfl) (by exact rfl) (by kernel_rfl) (by kernel_rfl) ?_
      repeat' (first | (apply Wl.loadAP; exact rfl; exact rfl; exact hcy; exact trivial; exact rfl) | (apply Wl.nilM) | (apply Wl.splitP; exact rfl; exact rfl; all_goals (intros; try (exfalso; omega))) | (apply Wl.splitB; exact rfl; exact rfl; all_goals intros) | (apply St.condP; exact rfl; all_goals (intros; try (exfalso; omega))) | (apply St.condB; exact rfl; all_goals intros))
      apply Mt.back
      repeat' (first | (refine Mt.toGt (by decide +kernel) ?_) | (refine Mt.eff2 (i := 10) (j := 11) (by decide +kernel) (by exact rfl) (by exact rfl) ?_ ?_) | (refine Mt.eff1 (i := 10) (by decide +kernel) (by exact rfl) ?_) | (refine Mt.eff1 (i := 11) (by decide +kernel) (by exact rfl) ?_) | (refine Mt.eff1 (i := 12) (by decide +kernel) (by exact rfl) ?_) | (refine Mt.eff1 (i := 13) (by decide +kernel) (by exact rfl) ?_) | (refine Mt.backE (fun _ h => Hp.drop h (by simp; omega)) ?_) | (apply Wl.storeA; exact rfl; exact rfl; exact rfl; exact rfl; (repeat (first | apply HSet.here | apply HSet.there)); (repeat (first | apply LPut.s | apply LPut.z | apply LOver.nil | apply LOver.cons))) | (apply Wl.alloc; exact rfl; intro c hc ho) | (apply Wl.nil) | (apply Wl.splitP; exact rfl; exact rfl; all_goals (intros; try (exfalso; omega))) | (apply Wl.splitB; exact rfl; exact rfl; all_goals intros) | (apply St.condP; exact rfl; all_goals (intros; try (exfalso; omega))) | (apply St.condB; exact rfl; all_goals intros))
      all_goals rename_i c0 hc0 ho0
      all_goals first
        | (apply Gt.meet (c, c0)
           · exact ⟨hc, hc0, fun e => ho.1 e.symm⟩
           · exact .cons rfl (.cons rfl (.cons rfl (.cons rfl (.cons rfl .nil))))
           · exact fun _ h => h)
        | (apply Gt.meet (c0, c)
           · exact ⟨hc0, hc, ho.1⟩
           · exact .cons rfl (.cons rfl (.cons rfl (.cons rfl (.cons rfl .nil))))
           · exact fun _ h => Hp.swap2 h)
    rintro ⟨c6, c7⟩ ⟨h6, h7, h67⟩
    simp only at h6 h7 h67 ⊢
    repeat' (first | (apply Wl.neqDig (p := [d0, d1, d2, d3, d4, d5, d6, d7, d8, d9, d10, d11, d12, d13, d14, d15, d16, d17, d18, d19, d20, d21, d22, d23, d24, d25, d26, d27, d28, d29, d30, d31]) (q := [e0, e1, e2, e3, e4, e5, e6, e7, e8, e9, e10, e11, e12, e13, e14, e15, e16, e17, e18, e19, e20, e21, e22, e23, e24, e25, e26, e27, e28, e29, e30, e31]); exact rfl; exact rfl; exact rfl; exact rfl; exact rfl) | (apply Wl.move; exact rfl; exact rfl) | (apply Wl.assign; exact rfl; exact rfl) | (apply Wl.on; exact rfl; exact rfl; (first | with_reducible rfl | with_reducible assumption | decide)) | (apply Wl.off; exact rfl; exact rfl; exact rfl; (first | with_reducible rfl | (show _ = false; with_reducible assumption) | (show _ = true; with_reducible assumption) | decide)) | (apply Wl.pickT; exact rfl; exact rfl; (first | with_reducible rfl | with_reducible assumption | decide); exact rfl) | (apply Wl.pickF; exact rfl; exact rfl; (first | with_reducible rfl | with_reducible assumption | decide); exact rfl) | (apply Wl.fieldAddr0; exact rfl; exact rfl) | (apply Wl.fieldAddrZ; exact rfl; exact rfl) | (apply Wl.loadH; exact rfl; exact rfl; (repeat (first | exact List.Mem.head _ | apply List.Mem.tail)); exact rfl) | (apply Wl.neq; exact rfl; exact rfl; exact rfl) | (apply Wl.len; exact rfl; exact rfl) | (apply Wl.loadAH; exact rfl; exact rfl; (repeat (first | exact List.Mem.head _ | apply List.Mem.tail)); (repeat (first | apply LSub.z | apply LSub.t | apply LSub.s))) | (apply Wl.nil) | (apply St.region) | (apply St.condT; exact rfl; (first | with_reducible rfl | with_reducible assumption | decide)) | (apply St.ret) | (apply St.skip) | (apply Gt.next) | (apply Gt.thenRet) | (apply Gt.inRet) | (apply Gt.out1; exact rfl; exact rfl; intro w' hp) | (apply St.seqK (k := 9); exact rfl) | (apply St.seqKS (k := 9); exact rfl) | (apply Wl.splitP; exact rfl; exact rfl; all_goals (intros; try (exfalso; omega))) | (apply Wl.splitB; exact rfl; exact rfl; all_goals intros) | (apply St.condP; exact rfl; all_goals (intros; try (exfalso; omega))) | (apply St.condB; exact rfl; all_goals intros))
    all_goals try (refine hno (fun e => ?_) _ _ hp (by simp; omega); obtain ⟨e1, e2, e3, e4, e5⟩ := Py.mk.inj e; have e6 := congrArg List.length e4; (first | omega | contradiction))
    have hdg : [d0, d1, d2, d3, d4, d5, d6, d7, d8, d9, d10, d11, d12, d13, d14, d15, d16, d17, d18, d19, d20, d21, d22, d23, d24, d25, d26, d27, d28, d29, d30, d31] = [e0, e1, e2, e3, e4, e5, e6, e7, e8, e9, e10, e11, e12, e13, e14, e15, e16, e17, e18, e19, e20, e21, e22, e23, e24, e25, e26, e27, e28, e29, e30, e31] := Decidable.byContradiction fun e => by contradiction
    have hgl : gs.length = hs.length := by omega
    repeat' (first | (apply Wl.assign; exact rfl; exact rfl) | (apply Wl.nil) | (apply St.seq) | (apply St.block) | (apply St.region) | (apply Gt.next) | (apply Wl.splitP; exact rfl; exact rfl; all_goals (intros; try (exfalso; omega))) | (apply Wl.splitB; exact rfl; exact rfl; all_goals intros) | (apply St.condP; exact rfl; all_goals (intros; try (exfalso; omega))) | (apply St.condB; exact rfl; all_goals intros))
    refine St.loop (σ := Nat) (fun k => k ≤ gs.length ∧ gs.take k = hs.take k)
      (fun k => [(2, .pointer (some ⟨c2, 0, none⟩)), (3, .pointer (some ⟨c3, 0, none⟩)), (5, .int .i64 i), (6, .pointer (some ⟨c6, 0, none⟩)), (7, .pointer (some ⟨c7, 0, none⟩)), (8, .int .i64 k)])
      (fun _ => Hp w1 [⟨c6, [Value.int .u8 (d0.toNat : Int), .int .u8 (d1.toNat : Int), .int .u8 (d2.toNat : Int), .int .u8 (d3.toNat : Int), .int .u8 (d4.toNat : Int), .int .u8 (d5.toNat : Int), .int .u8 (d6.toNat : Int), .int .u8 (d7.toNat : Int), .int .u8 (d8.toNat : Int), .int .u8 (d9.toNat : Int), .int .u8 (d10.toNat : Int), .int .u8 (d11.toNat : Int), .int .u8 (d12.toNat : Int), .int .u8 (d13.toNat : Int), .int .u8 (d14.toNat : Int), .int .u8 (d15.toNat : Int), .int .u8 (d16.toNat : Int), .int .u8 (d17.toNat : Int), .int .u8 (d18.toNat : Int), .int .u8 (d19.toNat : Int), .int .u8 (d20.toNat : Int), .int .u8 (d21.toNat : Int), .int .u8 (d22.toNat : Int), .int .u8 (d23.toNat : Int), .int .u8 (d24.toNat : Int), .int .u8 (d25.toNat : Int), .int .u8 (d26.toNat : Int), .int .u8 (d27.toNat : Int), .int .u8 (d28.toNat : Int), .int .u8 (d29.toNat : Int), .int .u8 (d30.toNat : Int), .int .u8 (d31.toNat : Int), .int .u32 psz, .int .u32 pbi, .slice ga gs.length gc, .int .i64 pca], 97⟩, ⟨c7, [Value.int .u8 (e0.toNat : Int), .int .u8 (e1.toNat : Int), .int .u8 (e2.toNat : Int), .int .u8 (e3.toNat : Int), .int .u8 (e4.toNat : Int), .int .u8 (e5.toNat : Int), .int .u8 (e6.toNat : Int), .int .u8 (e7.toNat : Int), .int .u8 (e8.toNat : Int), .int .u8 (e9.toNat : Int), .int .u8 (e10.toNat : Int), .int .u8 (e11.toNat : Int), .int .u8 (e12.toNat : Int), .int .u8 (e13.toNat : Int), .int .u8 (e14.toNat : Int), .int .u8 (e15.toNat : Int), .int .u8 (e16.toNat : Int), .int .u8 (e17.toNat : Int), .int .u8 (e18.toNat : Int), .int .u8 (e19.toNat : Int), .int .u8 (e20.toNat : Int), .int .u8 (e21.toNat : Int), .int .u8 (e22.toNat : Int), .int .u8 (e23.toNat : Int), .int .u8 (e24.toNat : Int), .int .u8 (e25.toNat : Int), .int .u8 (e26.toNat : Int), .int .u8 (e27.toNat : Int), .int .u8 (e28.toNat : Int), .int .u8 (e29.toNat : Int), .int .u8 (e30.toNat : Int), .int .u8 (e31.toNat : Int), .int .u32 qsz, .int .u32 qbi, .slice ha hs.length hc', .int .i64 qca], 97⟩]) (fun k => gs.length - k) 0 ⟨Nat.zero_le _, rfl⟩ (by (repeat (first | exact Sub.nil | apply Sub.cons rfl))) (fun _ h => h) ?_
    rintro k ⟨hkn, hkt⟩
    by_cases hkl : k < gs.length
    · obtain ⟨g, hg⟩ : ∃ g, gs[k]? = some g := ⟨_, List.getElem?_eq_getElem hkl⟩
      obtain ⟨o, ho'⟩ : ∃ o, hs[k]? = some o := ⟨_, List.getElem?_eq_getElem (by omega)⟩
      have hgV := hgrs g (List.mem_of_getElem? hg)
      have hoV := hgrs' o (List.mem_of_getElem? ho')
      obtain ⟨gb, go, gc', hga, _, _⟩ := Sv.some_of hsg0 (fun e => by have := flat3 grCells_len hg (j := 0) (by decide); rw [e] at this; simp [grCells] at this)
      simp only [Value.slice.injEq, true_and] at hga
      obtain ⟨rfl, rfl⟩ := hga
      obtain ⟨hb, ho2', hc2', hha, _, _⟩ := Sv.some_of hsg0' (fun e => by have := flat3 grCells_len ho' (j := 0) (by decide); rw [e] at this; simp [grCells] at this)
      simp only [Value.slice.injEq, true_and] at hha
      obtain ⟨rfl, rfl⟩ := hha
      have hge : ∀ j v, [Value.int .u32 g.start, .int .u32 g.size, .int .i64 g.rights][j]? = some v → w1.cell? ⟨gb, go + (k : Int).toNat * 3 + j, none⟩ = some v := by
        intro j v hj
        have hj3 : j < 3 := (List.getElem?_eq_some_iff.1 hj).1
        rw [show go + (k : Int).toNat * 3 + j = go + (k * 3 + j) by omega]
        exact old (Sv.cellN hsg0 ((flat3 grCells_len hg hj3).trans hj))
      have hoe : ∀ j v, [Value.int .u32 o.start, .int .u32 o.size, .int .i64 o.rights][j]? = some v → w1.cell? ⟨hb, ho2' + (k : Int).toNat * 3 + j, none⟩ = some v := by
        intro j v hj
        have hj3 : j < 3 := (List.getElem?_eq_some_iff.1 hj).1
        rw [show ho2' + (k : Int).toNat * 3 + j = ho2' + (k * 3 + j) by omega]
        exact old (Sv.cellN hsg0' ((flat3 grCells_len ho' hj3).trans hj))
      have hgb : gb < w1.heap.size := World.block_lt_of_cell? w1 _ (hge 0 _ rfl)
      have hhb : hb < w1.heap.size := World.block_lt_of_cell? w1 _ (hoe 0 _ rfl)
      have n1 : c6 ≠ gb := by omega
      have n2 : c7 ≠ gb := by omega
      have n3 : c6 ≠ hb := by omega
      have n4 : c7 ≠ hb := by omega
      repeat' (first | (apply Wl.loadAP; exact rfl; exact rfl; exact hge; exact ⟨n1, n2, trivial⟩; exact rfl) | (apply Wl.loadAP; exact rfl; exact rfl; exact hoe; exact ⟨n3, n4, trivial⟩; exact rfl) | (apply Wl.neqGrant (p := g) (q := o); exact rfl; exact rfl; exact rfl; exact hgV; exact hoV) | (apply Wl.move; exact rfl; exact rfl) | (apply Wl.assign; exact rfl; exact rfl) | (apply Wl.fieldAddrZ; exact rfl; exact rfl) | (apply Wl.loadH; exact rfl; exact rfl; (repeat (first | exact List.Mem.head _ | apply List.Mem.tail)); exact rfl) | (apply Wl.lss; exact rfl; exact rfl; exact rfl) | (apply Wl.addI; exact rfl; exact rfl; exact rfl; (constructor <;> omega)) | (apply Wl.len; exact rfl; exact rfl) | (apply Wl.indexAddr; exact rfl; exact rfl; exact rfl; (constructor <;> omega)) | (apply Wl.nil) | (apply Wl.nilQ) | (apply St.seq) | (apply St.block) | (apply St.region) | (apply St.draw; exact mixed; (kernel_rfl); exact (fun _ h => Hp.drew h)) | (apply St.ret) | (apply St.skip) | (apply Gt.next) | (apply Gt.thenRet) | (apply Gt.inNormal) | (apply Gt.inRet) | (apply Gt.out1; exact rfl; exact rfl; intro w' hp) | (apply Wl.splitP; exact rfl; exact rfl; all_goals (intros; try (exfalso; omega))) | (apply Wl.splitB; exact rfl; exact rfl; all_goals intros) | (apply St.condP; exact rfl; all_goals (intros; try (exfalso; omega))) | (apply St.condB; exact rfl; all_goals intros))
      · refine hno (fun e => ?_) _ _ hp (by simp; omega)
        obtain ⟨e1, e2, e3, e4, e5⟩ := Py.mk.inj e
        subst e4
        rw [hg] at ho'
        simp only [Option.some.injEq] at ho'
        subst ho'
        rename_i hh _
        exact absurd ⟨rfl, rfl, rfl⟩ hh
      · apply Gt.round (k + 1)
        · refine ⟨hkl, take_step hkt hg ho' ?_⟩
          rename_i hh _
          have hh' := Decidable.not_not.1 hh
          cases g
          cases o
          simp only at hh'
          rw [hh'.1, hh'.2.1, hh'.2.2]
        · omega
        · (repeat (first | exact Sub.nil | apply Sub.cons rfl))
        · exact fun _ h => h
    · have hk' : k = gs.length := by omega
      have hgh : gs = hs := by
        rw [hk', List.take_length, hgl, List.take_length] at hkt
        exact hkt
      repeat' (first | (apply Wl.move; exact rfl; exact rfl) | (apply Wl.assign; exact rfl; exact rfl) | (apply Wl.fieldAddrZ; exact rfl; exact rfl) | (apply Wl.loadH; exact rfl; exact rfl; (repeat (first | exact List.Mem.head _ | apply List.Mem.tail)); exact rfl) | (apply Wl.lss; exact rfl; exact rfl; exact rfl) | (apply Wl.addI; exact rfl; exact rfl; exact rfl; (constructor <;> omega)) | (apply Wl.len; exact rfl; exact rfl) | (apply Wl.nil) | (apply St.seq) | (apply St.region) | (apply St.exit) | (apply Gt.next) | (apply Gt.thenExit) | (apply Gt.inNormal) | (apply Gt.inExit) | (apply Wl.splitP; exact rfl; exact rfl; all_goals (intros; try (exfalso; omega))) | (apply Wl.splitB; exact rfl; exact rfl; all_goals intros) | (apply St.condP; exact rfl; all_goals (intros; try (exfalso; omega))) | (apply St.condB; exact rfl; all_goals intros))
      apply Gt.round (i + 1)
      · refine ⟨hlt, take_step htk hmx hmy ?_⟩
        rw [hdg, hgh, show psz = qsz by omega, show pbi = qbi by omega, show pca = qca by omega]
      · omega
      · (repeat (first | exact Sub.nil | apply Sub.cons rfl))
      · exact fun u hu => Hp.drop hu (by simp; omega)
  · have hin' : i = xs.length := by omega
    have hpe : m.pays = n.pays := by
      rw [hin', hlen, List.take_length, ← hlen, em3, hlen', List.take_length] at htk
      exact htk
    repeat' (first | (apply Wl.move; exact rfl; exact rfl) | (apply Wl.assign; exact rfl; exact rfl) | (apply Wl.fieldAddrZ; exact rfl; exact rfl) | (apply Wl.loadO; exact rfl; exact rfl; (assumption); (repeat (first | exact trivial | refine ⟨by first | assumption | omega, ?_⟩))) | (apply Wl.lss; exact rfl; exact rfl; exact rfl) | (apply Wl.len; exact rfl; exact rfl) | (apply Wl.nil) | (apply St.seq) | (apply St.region) | (apply St.ret) | (apply St.exit) | (apply Gt.next) | (apply Gt.thenExit) | (apply Gt.inExit) | (apply Gt.out1; exact rfl; exact rfl; intro w' hp) | (apply Wl.splitP; exact rfl; exact rfl; all_goals (intros; try (exfalso; omega))) | (apply Wl.splitB; exact rfl; exact rfl; all_goals intros) | (apply St.condP; exact rfl; all_goals (intros; try (exfalso; omega))) | (apply St.condB; exact rfl; all_goals intros))
    refine ⟨true, rfl, ⟨fun _ => ?_, fun _ => rfl⟩, u01.comp hp.upd fun _ _ hs => hs.elim id fun y => (y trivial).elim⟩
    cases m
    cases n
    simp only at em1 em2 hpe
    rw [em1, em2, hpe]
end Go.Proofs.Ythdojhldiinkcaa
