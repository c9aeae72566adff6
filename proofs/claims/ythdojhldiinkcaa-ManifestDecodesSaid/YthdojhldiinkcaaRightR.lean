/-
  porticoref07.Right: which manifests may be. Conditions: the argument reads as a manifest.
-/
import Derived.Test.YthdojhldiinkcaaRight
namespace Go.Proofs.Ythdojhldiinkcaa
open Go.RowKit Go.Pt

set_option maxHeartbeats 1000000 in
theorem rright_any (v : Value) (m : Mf) (w : World) (hv : MfV w v m) :
    Calls Try.prog 40 #[v] w fun e w' => e = .returned (.int .i64 (rightOf m)) ∧ Upd (fun k => w.heap.size ≤ k) w w' := by
  obtain ⟨pv, xs, rfl, hxs, hsv, hpy, hcnt, hkey⟩ := hv
  unfold I64 at hkey
  have hlen : xs.length = m.pays.length := by rw [← hxs, List.length_map]
  have hsv0 := hsv
  obtain ⟨_, ap, cp, rfl, hp1, hp2, _, _⟩ := hsv
  unfold maxLen at hp2
  refine enter (args := [_]) (Γ := [(0, _)]) Try.func40 Try.ntmps40 rfl (of_decide_eq_true rfl) (.cons rfl .nil) ?_
  repeat' (first | (apply Wl.move; exact rfl; exact rfl) | (apply Wl.assign; exact rfl; exact rfl) | (apply Wl.on; exact rfl; exact rfl; (first | with_reducible rfl | with_reducible assumption | decide)) | (apply Wl.off; exact rfl; exact rfl; exact rfl; (first | with_reducible rfl | (show _ = false; with_reducible assumption) | (show _ = true; with_reducible assumption) | decide)) | (apply Wl.pickT; exact rfl; exact rfl; (first | with_reducible rfl | with_reducible assumption | decide); exact rfl) | (apply Wl.pickF; exact rfl; exact rfl; (first | with_reducible rfl | with_reducible assumption | decide); exact rfl) | (apply Wl.fieldAddrZ; exact rfl; exact rfl) | (apply Wl.loadH; exact rfl; exact rfl; (repeat (first | exact List.Mem.head _ | apply List.Mem.tail)); exact rfl) | (apply Wl.eql; exact rfl; exact rfl; exact rfl) | (apply Wl.lss; exact rfl; exact rfl; exact rfl) | (apply Wl.gtr; exact rfl; exact rfl; exact rfl) | (apply Wl.len; exact rfl; exact rfl) | (apply Wl.boxA; exact rfl; exact rfl; intro c hc ho) | (apply Wl.nil) | (apply St.seq) | (apply St.block) | (apply St.region) | (apply St.condT; exact rfl; (first | with_reducible rfl | with_reducible assumption | decide)) | (apply St.ret) | (apply St.skip) | (apply Gt.next) | (apply Gt.thenRet) | (apply Gt.out1; exact rfl; exact rfl; intro w' hp) | (apply Wl.splitP; exact rfl; exact rfl; all_goals (intros; try (exfalso; omega))) | (apply Wl.splitB; exact rfl; exact rfl; all_goals intros) | (apply St.condP; exact rfl; all_goals (intros; try (exfalso; omega))) | (apply St.condB; exact rfl; all_goals intros))
  all_goals try exact ⟨by rw [show rightOf m = 3 from by unfold rightOf; rw [if_neg (by omega)]]; rfl, (hp.drop (by simp; omega)).upd.mono fun _ _ y => (y trivial).elim⟩
  have hmain : rightOf m = paysR [] m.pays := by unfold rightOf; rw [if_pos (by omega)]
  generalize c = bm at *
  apply St.reb (H' := [])
  intro wI hI
  refine ⟨trivial, trivial, ?_⟩
  have hbmI : wI.cell? ⟨bm, 2, none⟩ = some (.slice ap xs.length cp) := hI.cell (.head _) rfl
  have eI : Ext w wI := (hI.drop (by simp; omega)).ext
  have hbmlt : bm < wI.heap.size := hI.own.lt (.head _)
  have hbmw : w.heap.size ≤ bm := hc
  clear hI
  refine St.loop (σ := Nat × World × Value × List Gr)
    (fun τ => τ.1 ≤ xs.length ∧ Upd (fun k => w.heap.size ≤ k) w τ.2.1 ∧ τ.2.1.ownsRow w.heap.size 99 3 τ.2.2.1 τ.2.2.2.length (τ.2.2.2.flatMap grCells) ∧ rightOf m = paysR τ.2.2.2 (m.pays.drop τ.1) ∧ τ.2.2.2.length ≤ 4 * τ.1 ∧ (∀ g ∈ τ.2.2.2, GrV g) ∧ τ.2.1.cell? ⟨bm, 2, none⟩ = some (.slice ap xs.length cp) ∧ bm < τ.2.1.heap.size ∧ τ.2.2.1.ownBlock ≠ some bm)
    (fun τ => [(1, .pointer (some ⟨bm, 0, none⟩)), (3, τ.2.2.1), (4, .int .i64 τ.1)])
    (fun τ => Hp τ.2.1 [])
    (fun τ => xs.length - τ.1) (0, wI, .slice none 0 0, []) ⟨Nat.zero_le _, eI.mono fun _ _ y => y.elim, World.ownsRow_nil _ _ _ _, hmain, Nat.zero_le _, (fun g hg => by cases hg), hbmI, hbmlt, fun e => (by cases e)⟩ (by (repeat (first | exact Sub.nil | apply Sub.cons rfl))) (fun _ h => h) ?_
  clear hbmI eI hbmlt wI
  rintro ⟨i, w0, va, all⟩ ⟨hin, hu, hown, hri, hal, hgv, hbm, hbl, hbv⟩
  simp only at hin hu hown hri hal hgv hbm hbl hbv ⊢
  by_cases hlt : i < xs.length
  · obtain ⟨x, hx⟩ : ∃ x, xs[i]? = some x := ⟨_, List.getElem?_eq_getElem hlt⟩
    obtain ⟨hsg, hdl, hsz, hbi, hca, hgrs, _⟩ := hpy x (List.mem_of_getElem? hx)
    have hdrop : m.pays.drop i = x.1 :: m.pays.drop (i + 1) := by
      have h1 : m.pays[i]? = some x.1 := by rw [← hxs, List.getElem?_map, hx]; rfl
      obtain ⟨h2, h3⟩ := List.getElem?_eq_some_iff.1 h1
      rw [List.drop_eq_getElem_cons h2, h3]
    have hpyl : ∀ x ∈ xs, (pyCells x).length = 36 := fun x hx => pyCells_len x (hpy x hx).2.1
    obtain ⟨⟨dig, psz, pbi, gs, pca⟩, gv⟩ := x
    simp only at hsg hdl hsz hbi hca hgrs hdrop
    unfold I64 at hca
    obtain ⟨d0, d1, d2, d3, d4, d5, d6, d7, d8, d9, d10, d11, d12, d13, d14, d15, d16, d17, d18, d19, d20, d21, d22, d23, d24, d25, d26, d27, d28, d29, d30, d31, rfl⟩ := list32 dig hdl
    obtain ⟨bp, op, cp', hap, _, _⟩ := Sv.some_of hsv0 (fun e => by have := flat36 hpyl hx (j := 0) (by decide); rw [e] at this; simp [pyCells, byteCells] at this)
    simp only [Value.slice.injEq, true_and] at hap
    obtain ⟨rfl, rfl⟩ := hap
    have hsg0 := hsg
    obtain ⟨_, ga, gc, rfl, hg1, hg2, _, _⟩ := hsg
    have hce : ∀ j v, [Value.int .u8 (d0.toNat : Int), .int .u8 (d1.toNat : Int), .int .u8 (d2.toNat : Int), .int .u8 (d3.toNat : Int), .int .u8 (d4.toNat : Int), .int .u8 (d5.toNat : Int), .int .u8 (d6.toNat : Int), .int .u8 (d7.toNat : Int), .int .u8 (d8.toNat : Int), .int .u8 (d9.toNat : Int), .int .u8 (d10.toNat : Int), .int .u8 (d11.toNat : Int), .int .u8 (d12.toNat : Int), .int .u8 (d13.toNat : Int), .int .u8 (d14.toNat : Int), .int .u8 (d15.toNat : Int), .int .u8 (d16.toNat : Int), .int .u8 (d17.toNat : Int), .int .u8 (d18.toNat : Int), .int .u8 (d19.toNat : Int), .int .u8 (d20.toNat : Int), .int .u8 (d21.toNat : Int), .int .u8 (d22.toNat : Int), .int .u8 (d23.toNat : Int), .int .u8 (d24.toNat : Int), .int .u8 (d25.toNat : Int), .int .u8 (d26.toNat : Int), .int .u8 (d27.toNat : Int), .int .u8 (d28.toNat : Int), .int .u8 (d29.toNat : Int), .int .u8 (d30.toNat : Int), .int .u8 (d31.toNat : Int), .int .u32 psz, .int .u32 pbi, .slice ga gs.length gc, .int .i64 pca][j]? = some v → w0.cell? ⟨bp, op + (i : Int).toNat * 36 + j, none⟩ = some v := by
      intro j v hj
      have hj36 : j < 36 := (List.getElem?_eq_some_iff.1 hj).1
      have := flat36 hpyl hx hj36
      rw [show op + (i : Int).toNat * 36 + j = op + (i * 36 + j) by omega]
      have hc := Sv.cellN hsv0 (this.trans hj)
      exact hu.cell hc (by have := World.block_lt_of_cell? w _ hc; simp only at this ⊢; omega)
    have t1 : (pbi : Int).tmod 4 = ((pbi % 4 : Nat) : Int) := rfl
    repeat' (first | (apply Wl.loadAP; exact rfl; exact rfl; exact hce; exact trivial; exact rfl) | (apply Wl.move; exact rfl; exact rfl) | (apply Wl.assign; exact rfl; exact rfl) | (apply Wl.on; exact rfl; exact rfl; (first | with_reducible rfl | with_reducible assumption | decide)) | (apply Wl.off; exact rfl; exact rfl; exact rfl; (first | with_reducible rfl | (show _ = false; with_reducible assumption) | (show _ = true; with_reducible assumption) | decide)) | (apply Wl.pickT; exact rfl; exact rfl; (first | with_reducible rfl | with_reducible assumption | decide); exact rfl) | (apply Wl.pickF; exact rfl; exact rfl; (first | with_reducible rfl | with_reducible assumption | decide); exact rfl) | (apply Wl.fieldAddrZ; exact rfl; exact rfl) | (apply Wl.loadH; exact rfl; exact rfl; (repeat (first | exact List.Mem.head _ | apply List.Mem.tail)); exact rfl) | (apply Wl.loadO; exact rfl; exact rfl; (assumption); (repeat (first | exact trivial | refine ⟨by first | assumption | omega, ?_⟩))) | (apply Wl.eql; exact rfl; exact rfl; exact rfl) | (apply Wl.neq; exact rfl; exact rfl; exact rfl) | (apply Wl.lss; exact rfl; exact rfl; exact rfl) | (apply Wl.gtr; exact rfl; exact rfl; exact rfl) | (apply Wl.rem; exact rfl; exact rfl; exact rfl; (first | decide | omega)) | (apply Wl.len; exact rfl; exact rfl) | (apply Wl.storeA; exact rfl; exact rfl; exact rfl; exact rfl; (repeat (first | apply HSet.here | apply HSet.there)); (repeat (first | apply LPut.s | apply LPut.z | apply LOver.nil | apply LOver.cons))) | (apply Wl.alloc; exact rfl; intro c hc ho) | (apply Wl.indexAddr; exact rfl; exact rfl; exact rfl; (constructor <;> omega)) | (apply Wl.nil) | (apply St.seq) | (apply St.block) | (apply St.region) | (apply St.condT; exact rfl; (first | with_reducible rfl | with_reducible assumption | decide)) | (apply St.ret) | (apply St.skip) | (apply Gt.next) | (apply Gt.thenRet) | (apply Gt.inRet) | (apply Gt.out1; exact rfl; exact rfl; intro w' hp) | (apply Wl.splitP; exact rfl; exact rfl; all_goals (intros; try (exfalso; omega))) | (apply Wl.splitB; exact rfl; exact rfl; all_goals intros) | (apply St.condP; exact rfl; all_goals (intros; try (exfalso; omega))) | (apply St.condB; exact rfl; all_goals intros))
    all_goals try exact ⟨by rw [hri, hdrop]; simp only [paysR]; rw [if_neg (by unfold payB; simp only [decide_eq_true_eq]; omega)]; rfl, hu.comp (hp.drop (by simp; omega)).upd fun _ _ hs => hs.elim id fun y => (y trivial).elim⟩
    generalize c = c5 at *
    have hcw5 : w0.heap.size ≤ c5 := hc
    have hpay : payB (⟨[d0, d1, d2, d3, d4, d5, d6, d7, d8, d9, d10, d11, d12, d13, d14, d15, d16, d17, d18, d19, d20, d21, d22, d23, d24, d25, d26, d27, d28, d29, d30, d31], psz, pbi, gs, pca⟩ : Py) = true := by unfold payB; simp only [decide_eq_true_eq]; omega
    have hri' : rightOf m = if (grantsR all none gs).1 = 0 then paysR (grantsR all none gs).2 (m.pays.drop (i + 1)) else (grantsR all none gs).1 := by
      rw [hri, hdrop]; simp only [paysR]; rw [if_pos hpay]
    have hriE : ∀ e, (grantsR all none gs).1 = e → e ≠ 0 → rightOf m = e := fun e h1 h2 => by rw [hri', if_neg (by rw [h1]; exact h2), h1]
    have hriO : ∀ a', grantsR all none gs = (0, a') → rightOf m = paysR a' (m.pays.drop (i + 1)) := fun a' h1 => by rw [hri', if_pos (by rw [h1]), h1]
    clear hri'
    have hglen : gs.length ≤ 4 := by omega
    have hvs : ∀ k, va.ownBlock = some k → w.heap.size ≤ k ∧ k < w0.heap.size := fun k hk => hown.lt k hk
    apply St.reb (H' := [])
    intro w1 h1
    refine ⟨trivial, trivial, ?_⟩
    have hc5 : w1.cell? ⟨c5, 34, none⟩ = some (.slice ga gs.length gc) := h1.cell (.head _) rfl
    have u01 : Ext w0 w1 := (h1.drop (by simp; omega)).ext
    have hc1 : c5 < w1.heap.size := h1.own.lt (.head _)
    refine St.loop (σ := Nat × World × Value × List Gr)
      (fun τ => τ.1 ≤ gs.length ∧ Upd (fun k => w.heap.size ≤ k) w τ.2.1 ∧ τ.2.1.ownsRow w.heap.size 99 3 τ.2.2.1 τ.2.2.2.length (τ.2.2.2.flatMap grCells) ∧ grantsR all none gs = grantsR τ.2.2.2 (prevOf gs τ.1) (gs.drop τ.1) ∧
        τ.2.2.2.length = all.length + τ.1 ∧ (∀ g ∈ τ.2.2.2, GrV g) ∧ τ.2.1.cell? ⟨c5, 34, none⟩ = some (.slice ga gs.length gc) ∧ c5 < τ.2.1.heap.size ∧ τ.2.2.1.ownBlock ≠ some c5 ∧ τ.2.1.cell? ⟨bm, 2, none⟩ = some (.slice (some ⟨bp, op, none⟩) xs.length cp) ∧ bm < τ.2.1.heap.size ∧ τ.2.2.1.ownBlock ≠ some bm)
      (fun τ => [(1, .pointer (some ⟨bm, 0, none⟩)), (3, τ.2.2.1), (4, .int .i64 i), (5, .pointer (some ⟨c5, 0, none⟩)), (6, .int .i64 τ.1)])
      (fun τ => Hp τ.2.1 [])
      (fun τ => gs.length - τ.1) (0, w1, va, all) ⟨Nat.zero_le _, hu.comp u01 fun _ _ hs => hs.elim id False.elim, ownsRow_upd hown u01 fun _ _ y => y, by simp [prevOf], rfl, hgv, hc5, hc1, (fun e => by have := (hvs c5 e).2; omega), u01.cell hbm id, Nat.lt_of_lt_of_le hbl u01.size, hbv⟩ (by (repeat (first | exact Sub.nil | apply Sub.cons rfl))) (fun _ h => h) ?_
    clear hc5 u01 hc1 h1 w1
    rintro ⟨k, w1, vb, all'⟩ ⟨hkn, hu1, hown1, hgr, hal', hgv', hc5, hc1, hvc, hbm1, hbl1, hbv1⟩
    simp only at hkn hu1 hown1 hgr hal' hgv' hc5 hc1 hvc hbm1 hbl1 hbv1 ⊢
    by_cases hkl : k < gs.length
    · obtain ⟨g, hg⟩ : ∃ g, gs[k]? = some g := ⟨_, List.getElem?_eq_getElem hkl⟩
      have hgd : gs.drop k = g :: gs.drop (k + 1) := by
        obtain ⟨h2, h3⟩ := List.getElem?_eq_some_iff.1 hg
        rw [List.drop_eq_getElem_cons h2, h3]
      have hgV := hgrs g (List.mem_of_getElem? hg)
      have hg32 := hgV.1
      have hgs32 := hgV.2.1
      obtain ⟨gb, go, gc', hga, _, _⟩ := Sv.some_of hsg0 (fun e => by have := flat3 grCells_len hg (j := 0) (by decide); rw [e] at this; simp [grCells] at this)
      simp only [Value.slice.injEq, true_and] at hga
      obtain ⟨rfl, rfl⟩ := hga
      have hcell : ∀ n j v q, gs[n]? = some q → (grCells q)[j]? = some v → j < 3 → w1.cell? ⟨gb, go + (n * 3 + j), none⟩ = some v := by
        intro n j v q hq hj hj3
        have hc := Sv.cellN hsg0 ((flat3 grCells_len hq hj3).trans hj)
        exact hu1.cell hc (by have := World.block_lt_of_cell? w _ hc; simp only at this ⊢; omega)
      have hge : ∀ j v, [Value.int .u32 g.start, .int .u32 g.size, .int .i64 g.rights][j]? = some v → w1.cell? ⟨gb, go + (k : Int).toNat * 3 + j, none⟩ = some v := by
        intro j v hj
        have hj3 : j < 3 := (List.getElem?_eq_some_iff.1 hj).1
        rw [show go + (k : Int).toNat * 3 + j = go + (k * 3 + j) by omega]
        exact hcell k j v g hg hj hj3
      have hgb : gb < w1.heap.size := World.block_lt_of_cell? w1 _ (hge 0 _ rfl)
      obtain ⟨_, ab, cb, rfl, hb1, hb2, _, _⟩ := Sv.ofOwn hown1
      repeat' (first | (apply Wl.move; exact rfl; exact rfl) | (apply Wl.fieldAddrZ; exact rfl; exact rfl) | (apply Wl.loadO; exact rfl; exact rfl; (assumption); (repeat (first | exact trivial | refine ⟨by first | assumption | omega, ?_⟩))) | (apply Wl.lss; exact rfl; exact rfl; exact rfl) | (apply Wl.len; exact rfl; exact rfl) | (apply Wl.nil) | (apply St.region) | (apply St.skip) | (apply Gt.next) | (apply St.seqK (k := 14); exact rfl) | (apply St.seqKS (k := 14); exact rfl) | (apply Wl.splitP; exact rfl; exact rfl; all_goals (intros; try (exfalso; omega))) | (apply Wl.splitB; exact rfl; exact rfl; all_goals intros) | (apply St.condP; exact rfl; all_goals (intros; try (exfalso; omega))) | (apply St.condB; exact rfl; all_goals intros))
      apply St.seq
      repeat' (first | (apply Wl.loadAP; exact rfl; exact rfl; exact hge; exact trivial; exact rfl) | (apply Wl.move; exact rfl; exact rfl) | (apply Wl.fieldAddrZ; exact rfl; exact rfl) | (apply Wl.loadO; exact rfl; exact rfl; (assumption); (repeat (first | exact trivial | refine ⟨by first | assumption | omega, ?_⟩))) | (apply Wl.storeA; exact rfl; exact rfl; exact rfl; exact rfl; (repeat (first | apply HSet.here | apply HSet.there)); (repeat (first | apply LPut.s | apply LPut.z | apply LOver.nil | apply LOver.cons))) | (apply Wl.alloc; exact rfl; intro c hc ho) | (apply Wl.indexAddr; exact rfl; exact rfl; exact rfl; (constructor <;> omega)) | (apply Wl.nil) | (apply St.block) | (apply St.region) | (apply Gt.next) | (apply St.seqK (k := 14); exact rfl) | (apply Wl.splitP; exact rfl; exact rfl; all_goals (intros; try (exfalso; omega))) | (apply Wl.splitB; exact rfl; exact rfl; all_goals intros) | (apply St.condP; exact rfl; all_goals (intros; try (exfalso; omega))) | (apply St.condB; exact rfl; all_goals intros))
      generalize c = c7 at *
      have hcw7 : w1.heap.size ≤ c7 := hc
      refine St.cut (σ := Unit) (fun _ => fineB g = true ∧ notUp (prevOf gs k) g = false) (fun _ => [(1, .pointer (some ⟨bm, 0, none⟩)), (3, .slice ab all'.length cb), (4, .int .i64 i), (5, .pointer (some ⟨c5, 0, none⟩)), (6, .int .i64 k), (7, .pointer (some ⟨c7, 0, none⟩))])
        (fun _ => Hp w1 [⟨c7, grCells g, 99⟩]) ?_ ?_
      · apply St.seq
        apply St.draw
        · exact mixed
        · kernel_rfl
        · exact fun _ h => Hp.drew h
        have hten (h : (!fineB g || notUp (prevOf gs k) g) = true) (H : List Blk) (w' : World) (hp : Hp w1 H w') (hH : ∀ x ∈ H, w1.heap.size ≤ x.b) : Ending.returned (.int .i64 10) = Ending.returned (.int .i64 (rightOf m)) ∧ Upd (fun k => w.heap.size ≤ k) w w' := by
          refine ⟨?_, hu1.comp (hp.drop hH).upd fun _ _ hs => hs.elim id fun y => (y trivial).elim⟩
          rw [hriE 10 (by rw [hgr, hgd]; simp only [grantsR]; rw [if_pos h]) (by decide)]; rfl
        cases k with
        | zero =>
          repeat' (first | (apply Wl.loadAH; exact rfl; exact rfl; (repeat (first | exact List.Mem.head _ | apply List.Mem.tail)); (repeat (first | apply LSub.z | apply LSub.t | apply LSub.s))) | (apply Wl.splitP; exact rfl; exact rfl; all_goals (intros; try (exfalso; omega))) | (apply Wl.splitB; exact rfl; exact rfl; all_goals intros) | (apply St.condP; exact rfl; all_goals (intros; try (exfalso; omega))) | (apply St.condB; exact rfl; all_goals intros))
          apply Wl.callQQ
          exact rfl
          (repeat (first | exact Evs.nil | apply Evs.cons rfl))
          · intro wq hq
            refine (fine_any g wq hgV).mono ?_
            rintro e wr ⟨rfl, hr⟩
            exact ⟨rfl, hq.keep hr⟩
          repeat' (first | (apply Wl.move; exact rfl; exact rfl) | (apply Wl.assign; exact rfl; exact rfl) | (apply Wl.on; exact rfl; exact rfl; (first | with_reducible rfl | with_reducible assumption | decide)) | (apply Wl.off; exact rfl; exact rfl; exact rfl; (first | with_reducible rfl | (show _ = false; with_reducible assumption) | (show _ = true; with_reducible assumption) | decide)) | (apply Wl.offU; exact rfl; exact rfl; exact rfl) | (apply Wl.pickT; exact rfl; exact rfl; (first | with_reducible rfl | with_reducible assumption | decide); exact rfl) | (apply Wl.pickF; exact rfl; exact rfl; (first | with_reducible rfl | with_reducible assumption | decide); exact rfl) | (apply Wl.not; exact rfl; exact rfl) | (apply Wl.gtr; exact rfl; exact rfl; exact rfl) | (apply Wl.nil) | (apply Wl.nilQ) | (apply St.seq) | (apply St.region) | (apply St.condT; exact rfl; (first | with_reducible rfl | with_reducible assumption | decide)) | (apply St.condF; exact rfl; (first | with_reducible rfl | with_reducible assumption | decide)) | (apply St.ret) | (apply St.skip) | (apply Gt.next) | (apply Gt.thenRet) | (apply Gt.inRet) | (apply Gt.out1; exact rfl; exact rfl; intro w' hp) | (apply Wl.splitP; exact rfl; exact rfl; all_goals (intros; try (exfalso; omega))) | (apply Wl.splitB; exact rfl; exact rfl; all_goals intros) | (apply St.condP; exact rfl; all_goals (intros; try (exfalso; omega))) | (apply St.condB; exact rfl; all_goals intros))
          · rename_i hnf
            exact hten (by rw [hnf]; rfl) _ _ hp (by simp; omega)
          · rename_i hnf
            apply Gt.meet ()
            · exact ⟨by simpa using hnf, rfl⟩
            · (repeat (first | exact Sub.nil | apply Sub.cons rfl))
            · exact fun _ h => h
        | succ k =>
          obtain ⟨q, hq⟩ : ∃ q, gs[k]? = some q := ⟨_, List.getElem?_eq_getElem (by omega)⟩
          have hpv : w1.cell? ⟨gb, go + (((k + 1 : Nat) : Int) - 1).toNat * 3, none⟩ = some (.int .u32 q.start) := by
            have := hcell k 0 _ q hq rfl (by decide)
            rw [show go + (((k + 1 : Nat) : Int) - 1).toNat * 3 = go + (k * 3 + 0) by omega]
            exact this
          repeat' (first | (apply Wl.loadAH; exact rfl; exact rfl; (repeat (first | exact List.Mem.head _ | apply List.Mem.tail)); (repeat (first | apply LSub.z | apply LSub.t | apply LSub.s))) | (apply Wl.splitP; exact rfl; exact rfl; all_goals (intros; try (exfalso; omega))) | (apply Wl.splitB; exact rfl; exact rfl; all_goals intros) | (apply St.condP; exact rfl; all_goals (intros; try (exfalso; omega))) | (apply St.condB; exact rfl; all_goals intros))
          apply Wl.callQQ
          exact rfl
          (repeat (first | exact Evs.nil | apply Evs.cons rfl))
          · intro wq hq
            refine (fine_any g wq hgV).mono ?_
            rintro e wr ⟨rfl, hr⟩
            exact ⟨rfl, hq.keep hr⟩
          repeat' (first | (apply Wl.move; exact rfl; exact rfl) | (apply Wl.assign; exact rfl; exact rfl) | (apply Wl.on; exact rfl; exact rfl; (first | with_reducible rfl | with_reducible assumption | decide)) | (apply Wl.off; exact rfl; exact rfl; exact rfl; (first | with_reducible rfl | (show _ = false; with_reducible assumption) | (show _ = true; with_reducible assumption) | decide)) | (apply Wl.offU; exact rfl; exact rfl; exact rfl) | (apply Wl.pickT; exact rfl; exact rfl; (first | with_reducible rfl | with_reducible assumption | decide); exact rfl) | (apply Wl.pickF; exact rfl; exact rfl; (first | with_reducible rfl | with_reducible assumption | decide); exact rfl) | (apply Wl.not; exact rfl; exact rfl) | (apply Wl.fieldAddr0; exact rfl; exact rfl) | (apply Wl.fieldAddrZ; exact rfl; exact rfl) | (apply Wl.loadH; exact rfl; exact rfl; (repeat (first | exact List.Mem.head _ | apply List.Mem.tail)); exact rfl) | (apply Wl.loadO; exact rfl; exact rfl; (assumption); (repeat (first | exact trivial | refine ⟨by first | assumption | omega, ?_⟩))) | (apply Wl.gtr; exact rfl; exact rfl; exact rfl) | (apply Wl.geq; exact rfl; exact rfl; exact rfl) | (apply Wl.subI; exact rfl; exact rfl; exact rfl; (constructor <;> omega)) | (apply Wl.indexAddr; exact rfl; exact rfl; exact rfl; (constructor <;> omega)) | (apply Wl.nil) | (apply Wl.nilQ) | (apply St.seq) | (apply St.region) | (apply St.condT; exact rfl; (first | with_reducible rfl | with_reducible assumption | decide)) | (apply St.ret) | (apply St.skip) | (apply Gt.next) | (apply Gt.thenRet) | (apply Gt.inRet) | (apply Gt.out1; exact rfl; exact rfl; intro w' hp) | (apply Wl.splitP; exact rfl; exact rfl; all_goals (intros; try (exfalso; omega))) | (apply Wl.splitB; exact rfl; exact rfl; all_goals intros) | (apply St.condP; exact rfl; all_goals (intros; try (exfalso; omega))) | (apply St.condB; exact rfl; all_goals intros))
          · rename_i hnf
            exact hten (by rw [hnf]; rfl) _ _ hp (by simp; omega)
          · exact ⟨fun e => by have e' : c7 = c5 := e; omega, trivial⟩
          · exact ⟨fun e => by have e' : c7 = gb := e; omega, trivial⟩
          · refine hten ?_ _ _ hp (by simp; omega)
            rw [show notUp (prevOf gs (k + 1)) g = true from by simp only [prevOf, hq, notUp]; exact decide_eq_true (by omega)]
            simp
          · rename_i hnf _ _ _ _
            apply Gt.meet ()
            · exact ⟨by simpa using hnf, by simp only [prevOf, hq, notUp]; exact decide_eq_false (by omega)⟩
            · (repeat (first | exact Sub.nil | apply Sub.cons rfl))
            · exact fun _ h => h
      rintro _ ⟨hfine, hnu⟩
      repeat' (first | (apply Wl.assign; exact rfl; exact rfl) | (apply Wl.nil) | (apply St.seq) | (apply St.block) | (apply St.region) | (apply Gt.next) | (apply Wl.splitP; exact rfl; exact rfl; all_goals (intros; try (exfalso; omega))) | (apply Wl.splitB; exact rfl; exact rfl; all_goals intros) | (apply St.condP; exact rfl; all_goals (intros; try (exfalso; omega))) | (apply St.condB; exact rfl; all_goals intros))
      refine St.loop (σ := Nat) (fun j => j ≤ all'.length ∧ ∀ o ∈ all'.take j, apG g o = true)
        (fun j => [(1, .pointer (some ⟨bm, 0, none⟩)), (3, .slice ab all'.length cb), (4, .int .i64 i), (5, .pointer (some ⟨c5, 0, none⟩)), (6, .int .i64 k), (7, .pointer (some ⟨c7, 0, none⟩)), (8, .int .i64 j)])
        (fun _ => Hp w1 [⟨c7, grCells g, 99⟩]) (fun j => all'.length - j) 0 ⟨Nat.zero_le _, fun o ho => by simp at ho⟩ (by (repeat (first | exact Sub.nil | apply Sub.cons rfl))) (fun _ h => h) ?_
      rintro j ⟨hjn, hja⟩
      by_cases hjl : j < all'.length
      · obtain ⟨o, hoj⟩ : ∃ o, all'[j]? = some o := ⟨_, List.getElem?_eq_getElem hjl⟩
        obtain ⟨ho32, hos32, _⟩ := hgv' o (List.mem_of_getElem? hoj)
        obtain ⟨aq, ao, cb', hab, _, _⟩ := Sv.some_of (Sv.ofOwn hown1) (fun e => by have := flat3 grCells_len hoj (j := 0) (by decide); rw [e] at this; simp [grCells] at this)
        simp only [Value.slice.injEq, true_and] at hab
        obtain ⟨rfl, rfl⟩ := hab
        have hoe : ∀ n v, [Value.int .u32 o.start, .int .u32 o.size, .int .i64 o.rights][n]? = some v → w1.cell? ⟨aq, ao + (j : Int).toNat * 3 + n, none⟩ = some v := by
          intro n v hj
          have hj3 : n < 3 := (List.getElem?_eq_some_iff.1 hj).1
          rw [show ao + (j : Int).toNat * 3 + n = ao + (j * 3 + n) by omega]
          exact Sv.cellN (Sv.ofOwn hown1) ((flat3 grCells_len hoj hj3).trans hj)
        have haq : aq < w1.heap.size := World.block_lt_of_cell? w1 _ (hoe 0 _ rfl)
        have ho0 := hoe 0 _ rfl
        have ho1 := hoe 1 _ rfl
        repeat' (first | (apply Wl.move; exact rfl; exact rfl) | (apply Wl.fieldAddr0; exact rfl; exact rfl) | (apply Wl.fieldAddrZ; exact rfl; exact rfl) | (apply Wl.fieldAddr; exact rfl; exact rfl) | (apply Wl.loadH; exact rfl; exact rfl; (repeat (first | exact List.Mem.head _ | apply List.Mem.tail)); exact rfl) | (apply Wl.loadO; exact rfl; exact rfl; (assumption); (repeat (first | exact trivial | refine ⟨by first | assumption | omega, ?_⟩))) | (apply Wl.lss; exact rfl; exact rfl; exact rfl) | (apply Wl.convI64; exact rfl; exact rfl; (constructor <;> omega)) | (apply Wl.len; exact rfl; exact rfl) | (apply Wl.indexAddr; exact rfl; exact rfl; exact rfl; (constructor <;> omega)) | (apply Wl.nil) | (apply St.seq) | (apply St.block) | (apply St.region) | (apply St.draw; exact mixed; (kernel_rfl); exact (fun _ h => Hp.drew h)) | (apply St.skip) | (apply Gt.next) | (apply Wl.splitP; exact rfl; exact rfl; all_goals (intros; try (exfalso; omega))) | (apply Wl.splitB; exact rfl; exact rfl; all_goals intros) | (apply St.condP; exact rfl; all_goals (intros; try (exfalso; omega))) | (apply St.condB; exact rfl; all_goals intros))
        · exact ⟨fun e => by have e' : c7 = aq := e; omega, trivial⟩
        · exact ⟨fun e => by have e' : c7 = aq := e; omega, trivial⟩
        apply Wl.callQQ
        exact rfl
        (repeat (first | exact Evs.nil | apply Evs.cons rfl))
        · intro wq hq
          refine (rapart_any g.start g.size o.start o.size wq (by unfold U32; omega) (by unfold U32; omega) (by unfold U32; omega) (by unfold U32; omega)).mono ?_
          rintro e wr ⟨rfl, hr⟩
          exact ⟨rfl, hq.keep hr⟩
        repeat' (first | (apply Wl.move; exact rfl; exact rfl) | (apply Wl.assign; exact rfl; exact rfl) | (apply Wl.not; exact rfl; exact rfl) | (apply Wl.addI; exact rfl; exact rfl; exact rfl; (constructor <;> omega)) | (apply Wl.nil) | (apply Wl.nilQ) | (apply St.seq) | (apply St.region) | (apply St.ret) | (apply St.skip) | (apply Gt.next) | (apply Gt.thenRet) | (apply Gt.inNormal) | (apply Gt.inRet) | (apply Gt.out1; exact rfl; exact rfl; intro w' hp) | (apply Wl.splitP; exact rfl; exact rfl; all_goals (intros; try (exfalso; omega))) | (apply Wl.splitB; exact rfl; exact rfl; all_goals intros) | (apply St.condP; exact rfl; all_goals (intros; try (exfalso; omega))) | (apply St.condB; exact rfl; all_goals intros))
        · rename_i hna
          refine ⟨?_, hu1.comp (hp.drop (by simp; omega)).upd fun _ _ hs => hs.elim id fun y => (y trivial).elim⟩
          rw [hriE 11 (by
            rw [hgr, hgd]; simp only [grantsR]
            rw [if_neg (by rw [hfine, hnu]; simp), if_neg fun h => by
              have h1 := List.all_eq_true.1 h o (List.mem_of_getElem? hoj)
              unfold apG at h1
              rw [h1] at hna
              cases hna]) (by decide)]
          rfl
        · rename_i hna
          apply Gt.round (j + 1)
          · refine ⟨hjl, fun o' ho' => ?_⟩
            rw [List.take_add_one, hoj] at ho'
            rcases List.mem_append.1 ho' with ho' | ho'
            · exact hja o' ho'
            · simp only [Option.toList_some, List.mem_singleton] at ho'
              subst ho'
              unfold apG
              simpa using hna
          · omega
          · (repeat (first | exact Sub.nil | apply Sub.cons rfl))
          · exact fun _ h => h
      · have hj' : j = all'.length := by omega
        subst hj'
        rw [List.take_length] at hja
        have hapart : all'.all (apG g) = true := List.all_eq_true.2 hja
        repeat' (first | (apply Wl.move; exact rfl; exact rfl) | (apply Wl.lss; exact rfl; exact rfl; exact rfl) | (apply Wl.len; exact rfl; exact rfl) | (apply Wl.loadAH; exact rfl; exact rfl; (repeat (first | exact List.Mem.head _ | apply List.Mem.tail)); (repeat (first | apply LSub.z | apply LSub.t | apply LSub.s))) | (apply Wl.lit; exact rfl; (repeat (first | exact Parts.nil | apply Parts.cons rfl)); exact rfl; exact rfl; (repeat (first | apply CatP.nil | (apply CatP.one; exact rfl; exact rfl) | (apply CatP.agg; exact rfl) | apply LApp.nil | apply LApp.cons)); intro c hc ho) | (apply Wl.nil) | (apply St.seq) | (apply St.region) | (apply St.exit) | (apply Gt.next) | (apply Gt.thenExit) | (apply Gt.inExit) | (apply Wl.splitP; exact rfl; exact rfl; all_goals (intros; try (exfalso; omega))) | (apply Wl.splitB; exact rfl; exact rfl; all_goals intros) | (apply St.condP; exact rfl; all_goals (intros; try (exfalso; omega))) | (apply St.condB; exact rfl; all_goals intros))
        apply Wl.appendT
        · exact rfl
        · exact rfl
        · exact rfl
        · exact hc
        · exact rfl
        · exact hown1
        · exact fun k hk => ⟨fun e => by have := (hown1.lt k hk).2; have e' : c7 = k := e; omega, trivial⟩
        · exact rfl
        · exact rfl
        · decide
        · unfold maxLen; omega
        · omega
        · exact hu1.size
        intro vb' w2 ho2 u2 _ hk2
        have u2' : Upd (fun k => (Value.slice ab all'.length cb).ownBlock = some k) w1 w2 := u2.mono fun k hk hs => hs.elim id fun y => (y ⟨fun e => by have e' : c7 = k := e; omega, trivial⟩).elim
        have hvsb : ∀ k, (Value.slice ab all'.length cb).ownBlock = some k → w.heap.size ≤ k ∧ k < w1.heap.size := fun k hk => hown1.lt k hk
        repeat' (first | (apply Wl.move; exact rfl; exact rfl) | (apply Wl.assign; exact rfl; exact rfl) | (apply Wl.addI; exact rfl; exact rfl; exact rfl; (constructor <;> omega)) | (apply Wl.nil) | (apply St.region) | (apply Gt.next) | (apply Gt.inNormal) | (apply Wl.splitP; exact rfl; exact rfl; all_goals (intros; try (exfalso; omega))) | (apply Wl.splitB; exact rfl; exact rfl; all_goals intros) | (apply St.condP; exact rfl; all_goals (intros; try (exfalso; omega))) | (apply St.condB; exact rfl; all_goals intros))
        apply Gt.reb (H' := [])
        intro w3 h3
        refine ⟨trivial, trivial, ?_⟩
        have u3 : Upd (fun k => k = c7) w2 w3 := h3.upd.mono fun k _ y => Classical.byContradiction fun e => y ⟨fun e' => e e'.symm, trivial⟩
        apply Gt.round (k + 1, w3, vb', all' ++ [g])
        rotate_left
        · simp only; omega
        · refine .cons rfl (.cons rfl (.cons rfl (.cons rfl (.cons rfl .nil))))
        · exact fun _ h => h
        refine ⟨hkl, (hu1.comp u2' (T := fun k => w.heap.size ≤ k) fun k _ hs => hs.elim id fun e => (hvsb k e).1).comp u3 fun k _ hs => hs.elim id fun e => by have := hu1.size; omega, ?_, ?_, by simp [hal']; omega, fun q hq => ?_, ?_, ?_, fun e => ?_, u3.cell (u2'.cell hbm1 hbv1) (fun e => by have e' : bm = c7 := e; omega), Nat.lt_of_lt_of_le hbl1 (Nat.le_trans u2'.size u3.size), fun e => ?_⟩
        · simp only
          rw [List.length_append, List.flatMap_append]
          exact ownsRow_upd ho2 u3 fun k hk e => (hk2 k hk).1.1 e.symm
        · simp only
          rw [hgr, hgd]
          simp only [grantsR]
          rw [if_neg (by rw [hfine, hnu]; simp), if_pos hapart]
          simp only [prevOf, hg]
        · rcases List.mem_append.1 hq with hq | hq
          · exact hgv' q hq
          · rw [List.mem_singleton] at hq; subst hq; exact hgV
        · exact u3.cell (u2'.cell hc5 hvc) (fun e => by have e' : c5 = c7 := e; omega)
        · have := u2'.size; have := u3.size; simp only; omega
        · rcases (hk2 c5 e).2 with e' | e'
          · exact hvc e'
          · omega
        · rcases (hk2 bm e).2 with e' | e'
          · exact hbv1 e'
          · omega
    · have hk' : k = gs.length := by omega
      subst hk'
      rw [List.drop_length] at hgr
      simp only [grantsR] at hgr
      repeat' (first | (apply Wl.move; exact rfl; exact rfl) | (apply Wl.assign; exact rfl; exact rfl) | (apply Wl.fieldAddrZ; exact rfl; exact rfl) | (apply Wl.loadO; exact rfl; exact rfl; (assumption); (repeat (first | exact trivial | refine ⟨by first | assumption | omega, ?_⟩))) | (apply Wl.lss; exact rfl; exact rfl; exact rfl) | (apply Wl.addI; exact rfl; exact rfl; exact rfl; (constructor <;> omega)) | (apply Wl.len; exact rfl; exact rfl) | (apply Wl.nil) | (apply St.seq) | (apply St.region) | (apply St.exit) | (apply Gt.next) | (apply Gt.thenExit) | (apply Gt.inNormal) | (apply Gt.inExit) | (apply Wl.splitP; exact rfl; exact rfl; all_goals (intros; try (exfalso; omega))) | (apply Wl.splitB; exact rfl; exact rfl; all_goals intros) | (apply St.condP; exact rfl; all_goals (intros; try (exfalso; omega))) | (apply St.condB; exact rfl; all_goals intros))
      apply Gt.round (i + 1, w1, vb, all')
      rotate_left
      · simp only; omega
      · (repeat (first | exact Sub.nil | apply Sub.cons rfl))
      · exact fun _ h => h
      refine ⟨hlt, hu1, hown1, ?_, by simp only; omega, hgv', hbm1, hbl1, hbv1⟩
      simp only
      exact hriO _ hgr
  · have hin' : i = xs.length := by omega
    subst hin'
    rw [hlen, List.drop_length] at hri
    repeat' (first | (apply Wl.move; exact rfl; exact rfl) | (apply Wl.assign; exact rfl; exact rfl) | (apply Wl.fieldAddrZ; exact rfl; exact rfl) | (apply Wl.loadO; exact rfl; exact rfl; (assumption); (repeat (first | exact trivial | refine ⟨by first | assumption | omega, ?_⟩))) | (apply Wl.lss; exact rfl; exact rfl; exact rfl) | (apply Wl.len; exact rfl; exact rfl) | (apply Wl.nil) | (apply St.seq) | (apply St.region) | (apply St.ret) | (apply St.exit) | (apply Gt.next) | (apply Gt.thenExit) | (apply Gt.inExit) | (apply Gt.out1; exact rfl; exact rfl; intro w' hp) | (apply Wl.splitP; exact rfl; exact rfl; all_goals (intros; try (exfalso; omega))) | (apply Wl.splitB; exact rfl; exact rfl; all_goals intros) | (apply St.condP; exact rfl; all_goals (intros; try (exfalso; omega))) | (apply St.condB; exact rfl; all_goals intros))
    exact ⟨by rw [hri]; rfl, hu.comp hp.upd fun _ _ hs => hs.elim id fun y => (y trivial).elim⟩
end Go.Proofs.Ythdojhldiinkcaa
