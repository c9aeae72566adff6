/-
  manifest.Encode: the bytes of a manifest that may be. Conditions: the argument reads as a manifest.
-/
import Derived.Test.YthdojhldiinkcaaEnc0
namespace Go.Proofs.Ythdojhldiinkcaa
open Go.RowKit Go.Pt

theorem MfV.upd {S : Nat → Prop} {w w' : World} {v : Value} {m : Mf} (h : MfV w v m) (u : Upd S w w') (hs : ∀ k, k < w.heap.size → ¬ S k) : MfV w' v m := by
  obtain ⟨pv, xs, h1, h2, h3, h4, h5⟩ := h
  exact ⟨pv, xs, h1, h2, Sv.upd h3 u fun k _ hk _ => hs k hk, fun x hx => ⟨Sv.upd (h4 x hx).1 u fun k _ hk _ => hs k hk, (h4 x hx).2⟩, h5⟩
/-- a buffer of bytes lies in no block of another type -/
theorem Bo.neBlk {w : World} {base c T : Nat} {cs : Array Value} {fr : Nat × Nat} {v : Value} {l : List UInt8} (h : Bo w base v l) (hc : w.heap[c]? = some (.cells cs T fr)) (hT : T ≠ 5) : v.ownBlock ≠ some c := fun e => by
  obtain ⟨_, h⟩ := h
  rcases h with ⟨rfl, _⟩ | ⟨g, cap, cur, rfl, _, hh, _⟩
  · cases e
  · simp only [Value.ownBlock, Option.some.injEq] at e
    subst e
    rw [hh] at hc
    simp only [Option.some.injEq, Obj.cells.injEq] at hc
    exact hT hc.2.1.symm
theorem encPs_len {ps : List Py} (h : ∀ p ∈ ps, PyFit p) : (ps.flatMap encP).length ≤ 92 * ps.length := by
  induction ps with
  | nil => simp
  | cons p r ih =>
    obtain ⟨h1, _, _, _, _, h2, _⟩ := h p (by simp)
    rw [List.flatMap_cons, List.length_append, encP_length p h1, List.length_cons]
    have := ih fun q hq => h q (by simp [hq])
    omega
theorem u8n (x : Nat) (h : x < 256) : (Value.int .u8 (x : Int)) = .int .u8 (((UInt8.ofNat (x % 256)).toNat : Nat) : Int) := by
  congr 1
  simp
  omega
theorem flatMap_take_succ {α β : Type} (ls : List α) (f : α → List β) (i : Nat) (l : α) (h : ls[i]? = some l) : (ls.take (i + 1)).flatMap f = (ls.take i).flatMap f ++ f l := by
  rw [List.take_add_one, h]; simp
theorem Hp.undr {wB w0 w : World} {H : List Blk} (h : Hp w0 H w) (hu : Upd (fun k => wB.heap.size ≤ k) wB w0) (hH : ∀ x ∈ H, wB.heap.size ≤ x.b) : Hp wB H w :=
  ⟨hu.comp h.upd fun k hk hs => hs.elim (fun y => by omega) id, h.own, h.apart⟩
/-- P32 among operations whose order is open: the buffer is the call's own, the block c is kept -/
theorem mix_p32 {N d T c : Nat} {ops : Array Oper} {rest : List Oper} {Γ : Env} {Q : Exit → Act → World → Prop} {ty : TypeId} {pos : String} {af : Array Edge} {ts : Array TypeId} {xs : Array Operand} {w wb : World} {cs : List Value} {b : Value} {l : List UInt8} {x : Nat}
    (hd : Nat.blt d N = true) (hx : Evs Γ xs.toList [b, .int .u32 x]) (hbo : Bo wb w.heap.size b l) (hT : T ≠ 5) (hx32 : x < 4294967296) (hu : Upd (fun k => w.heap.size ≤ k) w wb) (hcw : w.heap.size ≤ c) (hcb : b.ownBlock ≠ some c) (hl : l.length ≤ 1000)
    (h : ∀ b' wr, Bo wr w.heap.size b' (l ++ leB 4 x) → Upd (fun k => w.heap.size ≤ k) w wr → b'.ownBlock ≠ some c → Wl rest Try.prog (.mix (Hp wr [⟨c, cs, T⟩])) ops N ((d, b') :: Γ) (Hp w [⟨c, cs, T⟩]) Q) :
    Wl (⟨some d, .call { callee := .value (.func 29), args := xs, argTypes := ts }, ty, pos, af, none⟩ :: rest) Try.prog (.mix (Hp wb [⟨c, cs, T⟩])) ops N Γ (Hp w [⟨c, cs, T⟩]) Q := by
  apply Wl.mixOf
  · exact rfl
  apply Wl.callC
  · exact hd
  · exact hx
  intro wq hq
  have hoff : ∀ k, b.ownBlock = some k → Off [⟨c, cs, T⟩] k := fun k hk => ⟨fun e => hcb (by have e' : c = k := e; rw [e']; exact hk), trivial⟩
  have hboq : Bo wq w.heap.size b l := hbo.upd hq.upd fun k hk y => y (hoff k hk)
  have huq : Upd (fun k => w.heap.size ≤ k) w wq := hu.comp hq.upd fun k hk hs => hs.elim id fun y => (y ⟨fun e => by have e' : c = k := e; omega, trivial⟩).elim
  refine (p32_any w.heap.size b l x (by unfold U32; omega) wq hboq huq.size (by omega)).mono ?_
  rintro e wr ⟨b', rfl, hbo', hu'⟩
  have hownr : Own wr [⟨c, cs, T⟩] := hq.own.upd hu' fun y hy e => by
    rw [List.mem_singleton] at hy; subst hy; exact hcb e
  refine ⟨_, Hp wr [⟨c, cs, T⟩], rfl, ⟨Upd.refl _ _, hownr, hq.apart⟩, ?_⟩
  have hur : Upd (fun k => w.heap.size ≤ k) w wr := huq.comp hu' fun k _ hs => hs.elim id fun e => (hbo.lt k e).1
  apply Wl.mixEnd
  · exact fun u hu'' => Hp.undr hu'' hur (by simp; omega)
  exact h b' wr (by rw [Int.toNat_natCast] at hbo'; exact hbo') hur (Bo.neBlk hbo' hownr.1 hT)
set_option maxHeartbeats 1000000 in
theorem encode_any (v : Value) (m : Mf) (w : World) (hv : MfV w v m) :
    Calls Try.prog 41 #[v] w fun e w' => Upd (fun k => w.heap.size ≤ k) w w' ∧ ((rightOf m ≠ 0 ∧ e = .returned (.slice none 0 0)) ∨ (rightOf m = 0 ∧ ∃ v', e = .returned v' ∧ Bo w' w.heap.size v' (encM m))) := by
  have hv0 := hv
  obtain ⟨pv, xs, rfl, hxs, hsv, hpy, hcnt, hkey⟩ := hv
  unfold I64 at hkey
  have hlen : xs.length = m.pays.length := by rw [← hxs, List.length_map]
  have hsv0 := hsv
  obtain ⟨_, ap, cp, rfl, hp1, hp2, _, _⟩ := hsv
  unfold maxLen at hp2
  refine enter (args := [_]) (Γ := [(0, _)]) Try.func41 Try.ntmps41 rfl (of_decide_eq_true rfl) (.cons rfl .nil) ?_
  repeat' (first | (apply Wl.assign; exact rfl; exact rfl) | (apply Wl.loadAH; exact rfl; exact rfl; (repeat (first | exact List.Mem.head _ | apply List.Mem.tail)); (repeat (first | apply LSub.z | apply LSub.t | apply LSub.s))) | (apply Wl.boxA; exact rfl; exact rfl; intro c hc ho) | (apply Wl.nil) | (apply St.seq) | (apply St.region) | (apply Gt.next) | (apply Wl.splitP; exact rfl; exact rfl; all_goals (intros; try (exfalso; omega))) | (apply Wl.splitB; exact rfl; exact rfl; all_goals intros) | (apply St.condP; exact rfl; all_goals (intros; try (exfalso; omega))) | (apply St.condB; exact rfl; all_goals intros))
  generalize c = bm at *
  have hbw : w.heap.size ≤ bm := hc
  apply Wl.call
  exact rfl
  (repeat (first | exact Evs.nil | apply Evs.cons rfl))
  intro wq hq
  have eq : Ext w wq := (hq.drop (by simp; omega)).ext
  refine (right_any _ m wq (hv0.upd eq fun _ _ y => y)).mono ?_
  rintro e w1 ⟨rfl, hu⟩
  refine ⟨_, rfl, ?_⟩
  have hbq : bm < wq.heap.size := hq.own.lt (.head _)
  have e1 : Ext w w1 := Ext.trans _ _ _ eq (hu.mono fun k hk y => by omega)
  have hb0 : w1.cell? ⟨bm, 0, none⟩ = some (.int .u32 m.counter) := hu.cell (hq.cell (.head _) rfl) (by simp only; omega)
  have hb1 : w1.cell? ⟨bm, 1, none⟩ = some (.int .i64 m.key) := hu.cell (hq.cell (.head _) rfl) (by simp only; omega)
  have hb2 : w1.cell? ⟨bm, 2, none⟩ = some (.slice ap xs.length cp) := hu.cell (hq.cell (.head _) rfl) (by simp only; omega)
  have hbl : bm < w1.heap.size := Nat.lt_of_lt_of_le hbq hu.size
  clear hq hu eq wq hbq
  repeat' (first | (apply Wl.assign; exact rfl; exact rfl) | (apply Wl.neq; exact rfl; exact rfl; exact rfl) | (apply Wl.lit; exact rfl; (repeat (first | exact Parts.nil | apply Parts.cons rfl)); exact rfl; exact rfl; (repeat (first | apply CatP.nil | (apply CatP.one; exact rfl; exact rfl) | (apply CatP.agg; exact rfl) | apply LApp.nil | apply LApp.cons)); intro c hc ho) | (apply Wl.nil) | (apply St.seq) | (apply St.region) | (apply St.ret) | (apply St.skip) | (apply Gt.next) | (apply Gt.thenRet) | (apply Gt.out1; exact rfl; exact rfl; intro w' hp) | (apply Wl.splitP; exact rfl; exact rfl; all_goals (intros; try (exfalso; omega))) | (apply Wl.splitB; exact rfl; exact rfl; all_goals intros) | (apply St.condP; exact rfl; all_goals (intros; try (exfalso; omega))) | (apply St.condB; exact rfl; all_goals intros))
  · exact ⟨(e1.comp hp.upd fun _ _ hs => hs.elim id fun y => y trivial).mono fun _ _ y => y.elim, .inl ⟨fun e => ‹((rightOf m : Nat) : Int) ≠ 0› (by rw [e]; rfl), rfl⟩⟩
  have hr0 : rightOf m = 0 := by have := ‹¬ ((rightOf m : Nat) : Int) ≠ 0›; omega
  have hfit : MfOk m := rightOf_fit hr0 hcnt fun p hp => by
    rw [← hxs] at hp
    obtain ⟨x, hx, rfl⟩ := List.mem_map.1 hp
    exact ⟨(hpy x hx).2.1, (hpy x hx).2.2.2.1⟩
  obtain ⟨_, hk0, hk255, hpl4, hpfit⟩ := hfit
  apply Wl.convMarkS (l := manMark)
  · exact rfl
  · exact rfl
  · unfold maxLen; decide
  · exact hc
  intro w2 hbs u2 _ _ _
  have e2 : Ext w1 w2 := u2.mono fun k _ y => y trivial
  have hb0 := e2.cell hb0 id
  have hb1 := e2.cell hb1 id
  have hb2 := e2.cell hb2 id
  have hbl := Nat.lt_of_lt_of_le hbl e2.size
  have e02 : Ext w w2 := Ext.trans _ _ _ e1 e2
  clear u2 e2 e1
  repeat' (first | (apply Wl.fieldAddr0; exact rfl; exact rfl) | (apply Wl.loadO; exact rfl; exact rfl; (assumption); (repeat (first | exact trivial | refine ⟨by first | assumption | omega, ?_⟩))) | (apply Wl.splitP; exact rfl; exact rfl; all_goals (intros; try (exfalso; omega))) | (apply Wl.splitB; exact rfl; exact rfl; all_goals intros) | (apply St.condP; exact rfl; all_goals (intros; try (exfalso; omega))) | (apply St.condB; exact rfl; all_goals intros))
  apply Wl.call
  exact rfl
  (repeat (first | exact Evs.nil | apply Evs.cons rfl))
  intro wq hq
  refine (p32_full _ manMark m.counter hcnt wq _ rfl (hbs.upd hq.upd fun _ _ _ _ y => y trivial) (by decide)).mono ?_
  rintro e w3 ⟨b3, rfl, hbo3, hu3⟩
  refine ⟨_, rfl, ?_⟩
  have e23 : Ext w2 w3 := bag_call hq hu3 (Hp.start w3)
  have hb3ne : b3.ownBlock ≠ some bm := fun e => by have := (hbo3.lt bm e).1; have := hq.ext.size; omega
  have hbo3 := Bo.less hbo3 (Nat.le_trans e02.size hq.ext.size)
  have hb0 := e23.cell hb0 id
  have hb1 := e23.cell hb1 id
  have hb2 := e23.cell hb2 id
  have hbl := Nat.lt_of_lt_of_le hbl e23.size
  have e03 : Ext w w3 := Ext.trans _ _ _ e02 e23
  have hl3 : (manMark ++ leB 4 m.counter).length = 12 := by rw [List.length_append, leB_length]; rfl
  repeat' (first | (apply Wl.move; exact rfl; exact rfl) | (apply Wl.assign; exact rfl; exact rfl) | (apply Wl.fieldAddrZ; exact rfl; exact rfl) | (apply Wl.loadO; exact rfl; exact rfl; (assumption); (repeat (first | exact trivial | refine ⟨by first | assumption | omega, ?_⟩))) | (apply Wl.convU8; exact rfl; exact rfl; (constructor <;> omega)) | (apply Wl.len; exact rfl; exact rfl) | (apply Wl.lit; exact rfl; (repeat (first | exact Parts.nil | apply Parts.cons rfl)); exact rfl; exact rfl; (repeat (first | apply CatP.nil | (apply CatP.one; exact rfl; exact rfl) | (apply CatP.agg; exact rfl) | apply LApp.nil | apply LApp.cons)); intro c hc ho) | (apply Wl.nil) | (apply St.seq) | (apply St.region) | (apply Gt.next) | (apply Wl.splitP; exact rfl; exact rfl; all_goals (intros; try (exfalso; omega))) | (apply Wl.splitB; exact rfl; exact rfl; all_goals intros) | (apply St.condP; exact rfl; all_goals (intros; try (exfalso; omega))) | (apply St.condB; exact rfl; all_goals intros))
  apply Wl.appendT
  · exact rfl
  · exact rfl
  · exact rfl
  · exact hc
  · exact rfl
  · exact hbo3
  · exact fun k _ => trivial
  · exact rfl
  · exact rfl
  · decide
  · unfold maxLen; omega
  · omega
  · exact e03.size
  intro b4 w4 ho4 u4 _ hk4
  have hkey' : m.key = ((m.key.toNat : Nat) : Int) := by omega
  have hbo4 : Bo w4 w.heap.size b4 (manMark ++ leB 4 m.counter ++ (leB 1 m.key.toNat ++ (leB 1 m.pays.length ++ leB 2 0))) := by
    refine Bo.of ho4 (by simp [leB_length]) ?_
    rw [hkey', hlen, u8n m.key.toNat (by omega), u8n m.pays.length (by omega)]
    simp [byteCells, leB]
  have u34 : Upd (fun k => b3.ownBlock = some k) w3 w4 := u4.mono fun k _ hs => hs.elim id fun y => (y trivial).elim
  have u04 : Upd (fun k => w.heap.size ≤ k) w w4 := e03.comp u34 fun k _ hs => hs.elim False.elim fun e => (hbo3.lt k e).1
  have hb2 := u34.cell hb2 hb3ne
  generalize hHD : manMark ++ leB 4 m.counter ++ (leB 1 m.key.toNat ++ (leB 1 m.pays.length ++ leB 2 0)) = HD at hbo4
  have hHDl : HD.length = 16 := by rw [← hHD]; simp [leB_length, manMark]
  repeat' (first | (apply Wl.move; exact rfl; exact rfl) | (apply Wl.assign; exact rfl; exact rfl) | (apply Wl.fieldAddrZ; exact rfl; exact rfl) | (apply Wl.loadO; exact rfl; exact rfl; (assumption); (repeat (first | exact trivial | refine ⟨by first | assumption | omega, ?_⟩))) | (apply Wl.len; exact rfl; exact rfl) | (apply Wl.nil) | (apply St.seq) | (apply St.block) | (apply St.region) | (apply Gt.next) | (apply Wl.splitP; exact rfl; exact rfl; all_goals (intros; try (exfalso; omega))) | (apply Wl.splitB; exact rfl; exact rfl; all_goals intros) | (apply St.condP; exact rfl; all_goals (intros; try (exfalso; omega))) | (apply St.condB; exact rfl; all_goals intros))
  refine St.loop (σ := Nat × World × Value)
    (fun τ => τ.1 ≤ xs.length ∧ Upd (fun k => w.heap.size ≤ k) w τ.2.1 ∧ Bo τ.2.1 w.heap.size τ.2.2 (HD ++ (m.pays.take τ.1).flatMap encP))
    (fun τ => [(3, τ.2.2), (27, .slice ap xs.length cp), (28, .int .i64 xs.length), (29, .int .i64 τ.1)])
    (fun τ => Hp τ.2.1 [])
    (fun τ => xs.length - τ.1) (0, w4, b4) ⟨Nat.zero_le _, u04, by simpa using hbo4⟩ (by (repeat (first | exact Sub.nil | apply Sub.cons rfl))) (fun _ h => h) ?_
  clear hb2 hb1 hb0 hbl hbo4 u04 u34 hk4 u4 ho4
  rintro ⟨i, w0, b⟩ ⟨hin, hu, hbo⟩
  simp only at hin hu hbo ⊢
  have hbl' : (HD ++ (m.pays.take i).flatMap encP).length ≤ 400 := by
    have := encPs_len (ps := m.pays.take i) fun p hp => hpfit p (List.mem_of_mem_take hp)
    rw [List.length_append, hHDl]
    rw [List.length_take] at this
    omega
  by_cases hlt : i < xs.length
  · obtain ⟨x, hx⟩ : ∃ x, xs[i]? = some x := ⟨_, List.getElem?_eq_getElem hlt⟩
    obtain ⟨hsg, hdl, hsz, hbi, hca, hgrs, _⟩ := hpy x (List.mem_of_getElem? hx)
    have hpi : m.pays[i]? = some x.1 := by rw [← hxs, List.getElem?_map, hx]; rfl
    obtain ⟨_, _, _, hca0, hca1, hgl4, hgok⟩ := hpfit x.1 (List.mem_of_getElem? hpi)
    have hpyl : ∀ x ∈ xs, (pyCells x).length = 36 := fun x hx => pyCells_len x (hpy x hx).2.1
    obtain ⟨⟨dig, psz, pbi, gs, pca⟩, gv⟩ := x
    simp only at hsg hdl hsz hbi hca hgrs hpi hca0 hca1 hgl4 hgok
    obtain ⟨d0, d1, d2, d3, d4, d5, d6, d7, d8, d9, d10, d11, d12, d13, d14, d15, d16, d17, d18, d19, d20, d21, d22, d23, d24, d25, d26, d27, d28, d29, d30, d31, hdig⟩ := list32 dig hdl
    obtain ⟨bp, op, cp', hap, _, _⟩ := Sv.some_of hsv0 (fun e => by have := flat36 hpyl hx (j := 33) (by decide); rw [e] at this; simp [pyCells, byteCells, hdl] at this)
    simp only [Value.slice.injEq, true_and] at hap
    obtain ⟨rfl, rfl⟩ := hap
    have hsg0 := hsg
    obtain ⟨_, ga, gc, rfl, hg1, hg2, _, _⟩ := hsg
    unfold maxLen at hg2
    have hce : ∀ j v, [Value.int .u8 (d0.toNat : Int), .int .u8 (d1.toNat : Int), .int .u8 (d2.toNat : Int), .int .u8 (d3.toNat : Int), .int .u8 (d4.toNat : Int), .int .u8 (d5.toNat : Int), .int .u8 (d6.toNat : Int), .int .u8 (d7.toNat : Int), .int .u8 (d8.toNat : Int), .int .u8 (d9.toNat : Int), .int .u8 (d10.toNat : Int), .int .u8 (d11.toNat : Int), .int .u8 (d12.toNat : Int), .int .u8 (d13.toNat : Int), .int .u8 (d14.toNat : Int), .int .u8 (d15.toNat : Int), .int .u8 (d16.toNat : Int), .int .u8 (d17.toNat : Int), .int .u8 (d18.toNat : Int), .int .u8 (d19.toNat : Int), .int .u8 (d20.toNat : Int), .int .u8 (d21.toNat : Int), .int .u8 (d22.toNat : Int), .int .u8 (d23.toNat : Int), .int .u8 (d24.toNat : Int), .int .u8 (d25.toNat : Int), .int .u8 (d26.toNat : Int), .int .u8 (d27.toNat : Int), .int .u8 (d28.toNat : Int), .int .u8 (d29.toNat : Int), .int .u8 (d30.toNat : Int), .int .u8 (d31.toNat : Int), .int .u32 psz, .int .u32 pbi, .slice ga gs.length gc, .int .i64 pca][j]? = some v → w0.cell? ⟨bp, op + (i : Int).toNat * 36 + j, none⟩ = some v := by
      intro j v hj
      have hj36 : j < 36 := (List.getElem?_eq_some_iff.1 hj).1
      have := flat36 hpyl hx hj36
      rw [show op + (i : Int).toNat * 36 + j = op + (i * 36 + j) by omega]
      have hc := Sv.cellN hsv0 (this.trans (by subst hdig; exact hj))
      exact hu.cell hc (by have := World.block_lt_of_cell? w _ hc; simp only at this ⊢; omega)
    repeat' (first | (apply Wl.loadAP; exact rfl; exact rfl; exact hce; exact trivial; exact rfl) | (apply Wl.sliceArr; exact rfl; exact rfl; decide) | (apply Wl.move; exact rfl; exact rfl) | (apply Wl.fieldAddr0; exact rfl; exact rfl) | (apply Wl.lss; exact rfl; exact rfl; exact rfl) | (apply Wl.storeA; exact rfl; exact rfl; exact rfl; exact rfl; (repeat (first | apply HSet.here | apply HSet.there)); (repeat (first | apply LPut.s | apply LPut.z | apply LOver.nil | apply LOver.cons))) | (apply Wl.alloc; exact rfl; intro c hc ho) | (apply Wl.indexAddr; exact rfl; exact rfl; exact rfl; (constructor <;> omega)) | (apply Wl.nil) | (apply St.seq) | (apply St.block) | (apply St.region) | (apply St.skip) | (apply Gt.next) | (apply Wl.splitP; exact rfl; exact rfl; all_goals (intros; try (exfalso; omega))) | (apply Wl.splitB; exact rfl; exact rfl; all_goals intros) | (apply St.condP; exact rfl; all_goals (intros; try (exfalso; omega))) | (apply St.condB; exact rfl; all_goals intros))
    generalize c = c5 at *
    have hcw5 : w0.heap.size ≤ c5 := hc
    have hbc5 : b.ownBlock ≠ some c5 := fun e => by have := (hbo.lt c5 e).2; omega
    apply Wl.append (news := byteCells dig)
    · exact rfl
    · exact rfl
    · exact rfl
    · exact hbo
    · rw [byteCells_length, hdl]
    · intro w' hw' j u hj
      rw [addLit]
      refine hw'.cell (.head _) ?_
      rw [Nat.zero_add]
      have hj32 : j < 32 := by have := (List.getElem?_eq_some_iff.1 hj).1; rw [byteCells_length, hdl] at this; exact this
      rw [hdig] at hj
      have h1 : (byteCells [d0, d1, d2, d3, d4, d5, d6, d7, d8, d9, d10, d11, d12, d13, d14, d15, d16, d17, d18, d19, d20, d21, d22, d23, d24, d25, d26, d27, d28, d29, d30, d31] ++ [Value.int .u32 psz, .int .u32 pbi, .slice ga gs.length gc, .int .i64 pca])[j]? = some u := by
        rw [List.getElem?_append_left (by rw [byteCells_length]; exact hj32)]; exact hj
      exact h1
    · exact fun k hk => ⟨fun e => hbc5 (by have e' : c5 = k := e; rw [e']; exact hk), trivial⟩
    · exact byteCells_all dig
    · exact rfl
    · decide
    · unfold maxLen; omega
    · omega
    · exact hu.size
    intro b5 w5 ho5 u5 _ hk5
    have hbo5 : Bo w5 w.heap.size b5 (HD ++ (m.pays.take i).flatMap encP ++ dig) := Bo.of ho5 (by rw [hdl]) rfl
    have u05 : Upd (fun k => w.heap.size ≤ k) w w5 := hu.comp u5 fun k hk hs => hs.elim id fun hs => hs.elim (fun e => (hbo.lt k e).1) fun y => (y ⟨fun e => by have e' : c5 = k := e; have := hu.size; omega, trivial⟩).elim
    have hb5c : b5.ownBlock ≠ some c5 := fun e => (hk5 c5 e).1.1 rfl
    have hl5 : (HD ++ (m.pays.take i).flatMap encP ++ dig).length ≤ 500 := by rw [List.length_append, hdl]; omega
    have hcw : w.heap.size ≤ c5 := by have := hu.size; omega
    repeat' (first | (apply Wl.assign; exact rfl; exact rfl) | (apply Wl.nil) | (apply St.seq) | (apply Gt.next) | (apply Wl.splitP; exact rfl; exact rfl; all_goals (intros; try (exfalso; omega))) | (apply Wl.splitB; exact rfl; exact rfl; all_goals intros) | (apply St.condP; exact rfl; all_goals (intros; try (exfalso; omega))) | (apply St.condB; exact rfl; all_goals intros))
    apply St.mix [0, 1, 2, 4, 5, 3, 6, 7] (Hp w [⟨c5, [Value.int .u8 (d0.toNat : Int), .int .u8 (d1.toNat : Int), .int .u8 (d2.toNat : Int), .int .u8 (d3.toNat : Int), .int .u8 (d4.toNat : Int), .int .u8 (d5.toNat : Int), .int .u8 (d6.toNat : Int), .int .u8 (d7.toNat : Int), .int .u8 (d8.toNat : Int), .int .u8 (d9.toNat : Int), .int .u8 (d10.toNat : Int), .int .u8 (d11.toNat : Int), .int .u8 (d12.toNat : Int), .int .u8 (d13.toNat : Int), .int .u8 (d14.toNat : Int), .int .u8 (d15.toNat : Int), .int .u8 (d16.toNat : Int), .int .u8 (d17.toNat : Int), .int .u8 (d18.toNat : Int), .int .u8 (d19.toNat : Int), .int .u8 (d20.toNat : Int), .int .u8 (d21.toNat : Int), .int .u8 (d22.toNat : Int), .int .u8 (d23.toNat : Int), .int .u8 (d24.toNat : Int), .int .u8 (d25.toNat : Int), .int .u8 (d26.toNat : Int), .int .u8 (d27.toNat : Int), .int .u8 (d28.toNat : Int), .int .u8 (d29.toNat : Int), .int .u8 (d30.toNat : Int), .int .u8 (d31.toNat : Int), .int .u32 psz, .int .u32 pbi, .slice ga gs.length gc, .int .i64 pca], 97⟩])
    · exact mixed
    · kernel_rfl
    · (repeat (first | exact Pick.nil | apply Pick.cons rfl))
    · rfl
    · kernel_rfl
    · intro u hu'
      exact ⟨Hp.drew hu', Hp.undr (Hp.drew hu') u05 (by simp; omega)⟩
    repeat' (first | (apply Wl.move; exact rfl; exact rfl) | (apply Wl.fieldAddrZ; exact rfl; exact rfl) | (apply Wl.loadH; exact rfl; exact rfl; (repeat (first | exact List.Mem.head _ | apply List.Mem.tail)); exact rfl) | (apply Wl.splitP; exact rfl; exact rfl; all_goals (intros; try (exfalso; omega))) | (apply Wl.splitB; exact rfl; exact rfl; all_goals intros) | (apply St.condP; exact rfl; all_goals (intros; try (exfalso; omega))) | (apply St.condB; exact rfl; all_goals intros))
    apply mix_p32 (l := HD ++ (m.pays.take i).flatMap encP ++ dig)
    · exact rfl
    · (repeat (first | exact Evs.nil | apply Evs.cons rfl))
    · exact hbo5
    · decide
    · exact hsz
    · exact u05
    · exact hcw
    · exact hb5c
    · omega
    intro b6 w6 hbo6 u06 hb6c
    have hl6 : (HD ++ (m.pays.take i).flatMap encP ++ dig ++ leB 4 psz).length ≤ 504 := by rw [List.length_append, leB_length]; omega
    repeat' (first | (apply Wl.splitP; exact rfl; exact rfl; all_goals (intros; try (exfalso; omega))) | (apply Wl.splitB; exact rfl; exact rfl; all_goals intros) | (apply St.condP; exact rfl; all_goals (intros; try (exfalso; omega))) | (apply St.condB; exact rfl; all_goals intros))
    apply mix_p32 (l := HD ++ (m.pays.take i).flatMap encP ++ dig ++ leB 4 psz)
    · exact rfl
    · (repeat (first | exact Evs.nil | apply Evs.cons rfl))
    · exact hbo6
    · decide
    · exact hbi
    · exact u06
    · exact hcw
    · exact hb6c
    · omega
    intro b7 w7 hbo7 u07 hb7c
    have hl7 : (HD ++ (m.pays.take i).flatMap encP ++ dig ++ leB 4 psz ++ leB 4 pbi).length ≤ 508 := by rw [List.length_append, leB_length]; omega
    apply Wl.assign
    · exact rfl
    · exact rfl
    apply Wl.nilM
    apply Gt.next
    repeat' (first | (apply Wl.move; exact rfl; exact rfl) | (apply Wl.fieldAddrZ; exact rfl; exact rfl) | (apply Wl.loadH; exact rfl; exact rfl; (repeat (first | exact List.Mem.head _ | apply List.Mem.tail)); exact rfl) | (apply Wl.convU8; exact rfl; exact rfl; (constructor <;> omega)) | (apply Wl.len; exact rfl; exact rfl) | (apply Wl.lit; exact rfl; (repeat (first | exact Parts.nil | apply Parts.cons rfl)); exact rfl; exact rfl; (repeat (first | apply CatP.nil | (apply CatP.one; exact rfl; exact rfl) | (apply CatP.agg; exact rfl) | apply LApp.nil | apply LApp.cons)); intro c hc ho) | (apply St.seq) | (apply St.region) | (apply Wl.splitP; exact rfl; exact rfl; all_goals (intros; try (exfalso; omega))) | (apply Wl.splitB; exact rfl; exact rfl; all_goals intros) | (apply St.condP; exact rfl; all_goals (intros; try (exfalso; omega))) | (apply St.condB; exact rfl; all_goals intros))
    apply Wl.appendT
    · exact rfl
    · exact rfl
    · exact rfl
    · exact hc
    · exact rfl
    · exact hbo7
    · exact fun k hk => ⟨fun e => hb7c (by have e' : c5 = k := e; rw [e']; exact hk), trivial⟩
    · exact rfl
    · exact rfl
    · decide
    · unfold maxLen; omega
    · omega
    · exact u07.size
    intro b8 w8 ho8 u8 _ hk8
    obtain ⟨pc, rfl⟩ := Int.eq_ofNat_of_zero_le hca0
    have hbo8 : Bo w8 w.heap.size b8 (HD ++ (m.pays.take i).flatMap encP ++ dig ++ leB 4 psz ++ leB 4 pbi ++ (leB 1 pc ++ (leB 1 gs.length ++ leB 2 0))) := by
      refine Bo.of ho8 (by simp [leB_length]) ?_
      rw [u8n pc (by omega), u8n gs.length (by omega)]
      simp [byteCells, leB]
    have u08 : Upd (fun k => w.heap.size ≤ k) w w8 := u07.comp u8 fun k hk hs => hs.elim id fun hs => hs.elim (fun e => (hbo7.lt k e).1) fun y => Classical.byContradiction fun e => y ⟨fun e' => by have e2 : c5 = k := e'; omega, trivial⟩
    generalize hL8 : HD ++ (m.pays.take i).flatMap encP ++ dig ++ leB 4 psz ++ leB 4 pbi ++ (leB 1 pc ++ (leB 1 gs.length ++ leB 2 0)) = L8 at hbo8
    have hl8 : L8.length ≤ 512 := by rw [← hL8]; simp only [List.length_append, leB_length] at hl7 ⊢; omega
    repeat' (first | (apply Wl.move; exact rfl; exact rfl) | (apply Wl.assign; exact rfl; exact rfl) | (apply Wl.fieldAddrZ; exact rfl; exact rfl) | (apply Wl.loadH; exact rfl; exact rfl; (repeat (first | exact List.Mem.head _ | apply List.Mem.tail)); exact rfl) | (apply Wl.len; exact rfl; exact rfl) | (apply Wl.nil) | (apply St.seq) | (apply St.block) | (apply St.region) | (apply Gt.next) | (apply Wl.splitP; exact rfl; exact rfl; all_goals (intros; try (exfalso; omega))) | (apply Wl.splitB; exact rfl; exact rfl; all_goals intros) | (apply St.condP; exact rfl; all_goals (intros; try (exfalso; omega))) | (apply St.condB; exact rfl; all_goals intros))
    apply St.reb (H' := [])
    intro w9 h9
    refine ⟨trivial, trivial, ?_⟩
    have hb8c : b8.ownBlock ≠ some c5 := fun e => (hk8 c5 e).1.1 rfl
    have u89 : Upd (fun k => k = c5) w8 w9 := h9.upd.mono fun k _ y => Classical.byContradiction fun e => y ⟨fun e' => e e'.symm, trivial⟩
    refine St.loop (σ := Nat × World × Value)
      (fun τ => τ.1 ≤ gs.length ∧ Upd (fun k => w.heap.size ≤ k) w τ.2.1 ∧ Bo τ.2.1 w.heap.size τ.2.2 (L8 ++ (gs.take τ.1).flatMap encG))
      (fun τ => [(3, τ.2.2), (27, .slice (some ⟨bp, op, none⟩) xs.length cp), (28, .int .i64 xs.length), (29, .int .i64 i), (55, .slice ga gs.length gc), (56, .int .i64 gs.length), (57, .int .i64 τ.1)])
      (fun τ => Hp τ.2.1 [])
      (fun τ => gs.length - τ.1) (0, w9, b8) ⟨Nat.zero_le _, u08.comp u89 fun k _ hs => hs.elim id fun e => by omega, by simpa using hbo8.upd u89 fun k hk e => hb8c (by rw [← e]; exact hk)⟩ (by (repeat (first | exact Sub.nil | apply Sub.cons rfl))) (fun _ h => h) ?_
    clear u89 hb8c h9 w9 u08 hbo8 hk8 u8 ho8 hb7c u07 hbo7 hb6c u06 hbo6 hb5c u05 hbo5 hk5 u5 ho5
    rintro ⟨k, w1, bb⟩ ⟨hkn, hu1, hbb⟩
    simp only at hkn hu1 hbb ⊢
    have hlk : (L8 ++ (gs.take k).flatMap encG).length ≤ 600 := by
      rw [List.length_append, encGs_length, List.length_take]; omega
    by_cases hkl : k < gs.length
    · obtain ⟨g, hg⟩ : ∃ g, gs[k]? = some g := ⟨_, List.getElem?_eq_getElem hkl⟩
      obtain ⟨hg1', hg2', hg3', hg4'⟩ := hgok g (List.mem_of_getElem? hg)
      have hstep := flatMap_take_succ gs encG k g hg
      obtain ⟨gb, go, gc', hga, _, _⟩ := Sv.some_of hsg0 (fun e => by have := flat3 grCells_len hg (j := 0) (by decide); rw [e] at this; simp [grCells] at this)
      simp only [Value.slice.injEq, true_and] at hga
      obtain ⟨rfl, rfl⟩ := hga
      obtain ⟨gst, gsz, gri⟩ := g
      simp only at hg1' hg2' hg3' hg4'
      obtain ⟨gr, rfl⟩ := Int.eq_ofNat_of_zero_le hg3'
      have hge : ∀ j v, [Value.int .u32 gst, .int .u32 gsz, .int .i64 (gr : Int)][j]? = some v → w1.cell? ⟨gb, go + (k : Int).toNat * 3 + j, none⟩ = some v := by
        intro j v hj
        have hj3 : j < 3 := (List.getElem?_eq_some_iff.1 hj).1
        rw [show go + (k : Int).toNat * 3 + j = go + (k * 3 + j) by omega]
        have hc := Sv.cellN hsg0 ((flat3 grCells_len hg hj3).trans hj)
        exact hu1.cell hc (by have := World.block_lt_of_cell? w _ hc; simp only at this ⊢; omega)
      repeat' (first | (apply Wl.loadAP; exact rfl; exact rfl; exact hge; exact trivial; exact rfl) | (apply Wl.lss; exact rfl; exact rfl; exact rfl) | (apply Wl.storeA; exact rfl; exact rfl; exact rfl; exact rfl; (repeat (first | apply HSet.here | apply HSet.there)); (repeat (first | apply LPut.s | apply LPut.z | apply LOver.nil | apply LOver.cons))) | (apply Wl.alloc; exact rfl; intro c hc ho) | (apply Wl.indexAddr; exact rfl; exact rfl; exact rfl; (constructor <;> omega)) | (apply Wl.nil) | (apply St.seq) | (apply St.block) | (apply St.region) | (apply St.skip) | (apply Gt.next) | (apply Wl.splitP; exact rfl; exact rfl; all_goals (intros; try (exfalso; omega))) | (apply Wl.splitB; exact rfl; exact rfl; all_goals intros) | (apply St.condP; exact rfl; all_goals (intros; try (exfalso; omega))) | (apply St.condB; exact rfl; all_goals intros))
      generalize c = c7 at *
      have hcw7 : w1.heap.size ≤ c7 := hc
      have hcw' : w.heap.size ≤ c7 := by have := hu1.size; omega
      have hbc7 : bb.ownBlock ≠ some c7 := fun e => by have := (hbb.lt c7 e).2; omega
      apply St.mix [0, 1, 2, 4, 5, 7, 8, 9, 3, 6, 10, 11] (Hp w [⟨c7, [Value.int .u32 gst, .int .u32 gsz, .int .i64 (gr : Int)], 99⟩])
      · exact mixed
      · kernel_rfl
      · (repeat (first | exact Pick.nil | apply Pick.cons rfl))
      · rfl
      · kernel_rfl
      · intro u hu'
        exact ⟨Hp.drew hu', Hp.undr (Hp.drew hu') hu1 (by simp; omega)⟩
      repeat' (first | (apply Wl.move; exact rfl; exact rfl) | (apply Wl.fieldAddr0; exact rfl; exact rfl) | (apply Wl.fieldAddrZ; exact rfl; exact rfl) | (apply Wl.loadH; exact rfl; exact rfl; (repeat (first | exact List.Mem.head _ | apply List.Mem.tail)); exact rfl) | (apply Wl.convU32; exact rfl; exact rfl; (constructor <;> omega)) | (apply Wl.splitP; exact rfl; exact rfl; all_goals (intros; try (exfalso; omega))) | (apply Wl.splitB; exact rfl; exact rfl; all_goals intros) | (apply St.condP; exact rfl; all_goals (intros; try (exfalso; omega))) | (apply St.condB; exact rfl; all_goals intros))
      apply mix_p32 (l := L8 ++ (gs.take k).flatMap encG)
      · exact rfl
      · (repeat (first | exact Evs.nil | apply Evs.cons rfl))
      · exact hbb
      · decide
      · exact hg1'
      · exact hu1
      · exact hcw'
      · exact hbc7
      · omega
      intro b9 w9 hbo9 u9 hb9c
      repeat' (first | (apply Wl.splitP; exact rfl; exact rfl; all_goals (intros; try (exfalso; omega))) | (apply Wl.splitB; exact rfl; exact rfl; all_goals intros) | (apply St.condP; exact rfl; all_goals (intros; try (exfalso; omega))) | (apply St.condB; exact rfl; all_goals intros))
      apply mix_p32 (l := L8 ++ (gs.take k).flatMap encG ++ leB 4 gst)
      · exact rfl
      · (repeat (first | exact Evs.nil | apply Evs.cons rfl))
      · exact hbo9
      · decide
      · exact hg2'
      · exact u9
      · exact hcw'
      · exact hb9c
      · rw [List.length_append, leB_length]; omega
      intro b10 w10 hbo10 u10 hb10c
      repeat' (first | (apply Wl.splitP; exact rfl; exact rfl; all_goals (intros; try (exfalso; omega))) | (apply Wl.splitB; exact rfl; exact rfl; all_goals intros) | (apply St.condP; exact rfl; all_goals (intros; try (exfalso; omega))) | (apply St.condB; exact rfl; all_goals intros))
      apply mix_p32 (l := L8 ++ (gs.take k).flatMap encG ++ leB 4 gst ++ leB 4 gsz)
      · exact rfl
      · (repeat (first | exact Evs.nil | apply Evs.cons rfl))
      · exact hbo10
      · decide
      · omega
      · exact u10
      · exact hcw'
      · exact hb10c
      · rw [List.length_append, List.length_append, leB_length, leB_length]; omega
      intro b11 w11 hbo11 u11 hb11c
      apply Wl.assign
      · exact rfl
      · exact rfl
      apply Wl.nilM
      repeat' (first | (apply Wl.move; exact rfl; exact rfl) | (apply Wl.addI; exact rfl; exact rfl; exact rfl; (constructor <;> omega)) | (apply Wl.nil) | (apply St.region) | (apply Gt.next) | (apply Gt.inNormal) | (apply Wl.splitP; exact rfl; exact rfl; all_goals (intros; try (exfalso; omega))) | (apply Wl.splitB; exact rfl; exact rfl; all_goals intros) | (apply St.condP; exact rfl; all_goals (intros; try (exfalso; omega))) | (apply St.condB; exact rfl; all_goals intros))
      apply Gt.reb (H' := [])
      intro w12 h12
      refine ⟨trivial, trivial, ?_⟩
      have u12 : Upd (fun k => k = c7) w11 w12 := h12.upd.mono fun k _ y => Classical.byContradiction fun e => y ⟨fun e' => e e'.symm, trivial⟩
      apply Gt.round (k + 1, w12, b11)
      rotate_left
      · simp only; omega
      · (repeat (first | exact Sub.nil | apply Sub.cons rfl))
      · exact fun _ h => h
      refine ⟨hkl, u11.comp u12 fun k _ hs => hs.elim id fun e => by omega, ?_⟩
      simp only
      rw [hstep]
      have := hbo11.upd u12 fun k hk e => hb11c (by rw [← e]; exact hk)
      simpa [encG] using this
    · have hk' : k = gs.length := by omega
      subst hk'
      rw [List.take_length] at hbb
      repeat' (first | (apply Wl.move; exact rfl; exact rfl) | (apply Wl.lss; exact rfl; exact rfl; exact rfl) | (apply Wl.addI; exact rfl; exact rfl; exact rfl; (constructor <;> omega)) | (apply Wl.nil) | (apply St.seq) | (apply St.region) | (apply St.exit) | (apply Gt.next) | (apply Gt.thenExit) | (apply Gt.inNormal) | (apply Gt.inExit) | (apply Wl.splitP; exact rfl; exact rfl; all_goals (intros; try (exfalso; omega))) | (apply Wl.splitB; exact rfl; exact rfl; all_goals intros) | (apply St.condP; exact rfl; all_goals (intros; try (exfalso; omega))) | (apply St.condB; exact rfl; all_goals intros))
      apply Gt.round (i + 1, w1, bb)
      rotate_left
      · simp only; omega
      · (repeat (first | exact Sub.nil | apply Sub.cons rfl))
      · exact fun _ h => h
      refine ⟨hlt, hu1, ?_⟩
      simp only
      rw [flatMap_take_succ m.pays encP i _ hpi]
      have : L8 ++ gs.flatMap encG = HD ++ ((m.pays.take i).flatMap encP ++ encP ⟨dig, psz, pbi, gs, (pc : Int)⟩) := by rw [← hL8]; simp [encP]
      rw [this] at hbb
      exact hbb
  · have hin' : i = xs.length := by omega
    subst hin'
    rw [hlen, List.take_length] at hbo
    repeat' (first | (apply Wl.move; exact rfl; exact rfl) | (apply Wl.assign; exact rfl; exact rfl) | (apply Wl.lss; exact rfl; exact rfl; exact rfl) | (apply Wl.nil) | (apply St.seq) | (apply St.region) | (apply St.ret) | (apply St.exit) | (apply Gt.next) | (apply Gt.thenExit) | (apply Gt.inExit) | (apply Gt.out1; exact rfl; exact rfl; intro w' hp) | (apply Wl.splitP; exact rfl; exact rfl; all_goals (intros; try (exfalso; omega))) | (apply Wl.splitB; exact rfl; exact rfl; all_goals intros) | (apply St.condP; exact rfl; all_goals (intros; try (exfalso; omega))) | (apply St.condB; exact rfl; all_goals intros))
    refine ⟨hu.comp hp.upd fun _ _ hs => hs.elim id fun y => (y trivial).elim, .inr ⟨hr0, _, rfl, ?_⟩⟩
    have : HD ++ m.pays.flatMap encP = encM m := by rw [← hHD]; simp [encM]
    rw [this] at hbo
    exact hbo.upd hp.upd fun _ _ y => y trivial
end Go.Proofs.Ythdojhldiinkcaa
