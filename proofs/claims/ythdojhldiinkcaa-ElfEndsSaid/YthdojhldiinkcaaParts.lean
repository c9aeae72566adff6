/-
  porticolaw08.file: a file of parts, or none. Conditions: a part's bytes are no more than a machine holds.
-/
import Derived.Test.YthdojhldiinkcaaFile
namespace Go.Proofs.Ythdojhldiinkcaa
open Go.RowKit Go.Pt

structure Part where
  kind : Int
  rights : Int
  addr : Nat
  more : Nat
  val : Value
  bytes : List UInt8
def partCells (p : Part) : List Value := [.int .i64 p.kind, .int .u32 p.addr, .int .u32 p.more, .int .i64 p.rights, p.val]
def PartOk (w : World) (p : Part) : Prop := Bs w p.val p.bytes ∧ p.bytes.length ≤ 140737488355328 ∧ p.addr ≤ 4294967295 ∧ p.more ≤ 4294967295
/-- an argument of parts -/
def Parts' (w : World) (v : Value) (ps : List Part) : Prop := Sv w 5 ps.length v (ps.flatMap partCells) ∧ ∀ p ∈ ps, PartOk w p
theorem flat5 {α : Type} {g : α → List Value} (hg : ∀ x, (g x).length = 5) {xs : List α} {i j : Nat} {x : α} (hi : xs[i]? = some x) (hj : j < 5) : (xs.flatMap g)[i * 5 + j]? = (g x)[j]? := by
  induction xs generalizing i with
  | nil => simp at hi
  | cons y ys ih =>
    rw [List.flatMap_cons]
    cases i with
    | zero =>
      simp only [List.getElem?_cons_zero, Option.some.injEq] at hi
      subst hi
      rw [List.getElem?_append_left (by rw [hg]; omega)]
      congr 1; omega
    | succ i =>
      rw [List.getElem?_append_right (by rw [hg]; omega), hg]
      rw [List.getElem?_cons_succ] at hi
      rw [← ih hi]
      congr 1; omega
/-- the list of the parts' bytes, as it grows: each as it was in the world w -/
def DOut (w w0 : World) (v : Value) (ds : List (List UInt8)) : Prop :=
  ∃ vs : List Value, vs.length = ds.length ∧ w0.ownsRow w.heap.size 28 1 v vs.length vs ∧ ∀ (i : Nat) (x : Value) (l : List UInt8), vs[i]? = some x → ds[i]? = some l → Bs w x l
theorem DOut.bss {w w0 : World} {v : Value} {ds : List (List UInt8)} (h : DOut w w0 v ds) (u : Upd (fun k => w.heap.size ≤ k) w w0) : Bss w0 v ds := by
  obtain ⟨vs, h1, h2, h3⟩ := h
  exact ⟨vs, h1, Sv.ofOwn h2, fun i x l hx hl => (h3 i x l hx hl).upd u fun k _ hk _ y => by omega⟩
theorem DOut.upd {S : Nat → Prop} {w w0 w1 : World} {v : Value} {ds : List (List UInt8)} (h : DOut w w0 v ds) (u : Upd S w0 w1) (hs : ∀ k, v.ownBlock = some k → ¬ S k) : DOut w w1 v ds := by
  obtain ⟨vs, h1, h2, h3⟩ := h
  exact ⟨vs, h1, ownsRow_upd h2 u hs, h3⟩
/-- what a file may be made of -/
structure Made (hs : List Hd) (ds : List (List UInt8)) : Prop where
  len : ds.length = hs.length
  few : hs.length ≤ 8
  small : ds.flatten.length ≤ 2000
  ok : ∀ x ∈ hs, x.rights ≤ 7 ∧ x.mem ≤ 1099511627776 ∧ x.kind ≤ 3 ∧ x.addr ≤ 4294967295

set_option maxHeartbeats 1000000 in
theorem fileP_any (entry : Nat) (v : Value) (ps : List Part) (w : World) (he : entry ≤ 4294967295) (hv : Parts' w v ps) :
    Calls Try.prog 32 #[.int .u32 entry, v] w fun e w' => Upd (fun k => w.heap.size ≤ k) w w' ∧
      (e = .returned (.slice none 0 0) ∨ ∃ v' hs ds, e = .returned v' ∧ Made hs ds ∧ Bo w' w.heap.size v' (fileB entry hs ds)) := by
  obtain ⟨⟨_, a, cap, rfl, hc1, hc2, _, hcell⟩, hok⟩ := hv
  unfold maxLen at hc2
  refine enter (args := [_, _]) (Γ := [(0, _), (1, _)]) Try.func32 Try.ntmps32 rfl (of_decide_eq_true rfl) (.cons rfl (.cons rfl .nil)) ?_
  repeat' (first | (apply Wl.move; exact rfl; exact rfl) | (apply Wl.assign; exact rfl; exact rfl) | (apply Wl.len; exact rfl; exact rfl) | (apply Wl.nil) | (apply St.seq) | (apply St.block) | (apply St.region) | (apply Gt.next) | (apply Wl.splitP; exact rfl; exact rfl; all_goals (intros; try (exfalso; omega))) | (apply Wl.splitB; exact rfl; exact rfl; all_goals intros) | (apply St.condP; exact rfl; all_goals (intros; try (exfalso; omega))) | (apply St.condB; exact rfl; all_goals intros))
  refine St.loop (σ := Nat × World × Value × Value × List Hd × List (List UInt8))
    (fun τ => τ.1 ≤ ps.length ∧ Upd (fun k => w.heap.size ≤ k) w τ.2.1 ∧ τ.2.1.ownsRow w.heap.size 82 6 τ.2.2.1 τ.1 (τ.2.2.2.2.1.flatMap hdCells) ∧ DOut w τ.2.1 τ.2.2.2.1 τ.2.2.2.2.2 ∧
      τ.2.2.2.2.1.length = τ.1 ∧ τ.2.2.2.2.2.length = τ.1 ∧ τ.1 + τ.2.2.2.2.2.flatten.length ≤ 2000 ∧ (τ.1 = 0 ∨ ps.length ≤ 8) ∧ (∀ x ∈ τ.2.2.2.2.1, x.rights ≤ 7 ∧ x.mem ≤ 1099511627776 ∧ x.kind ≤ 3 ∧ x.addr ≤ 4294967295) ∧
      (∀ k, τ.2.2.1.ownBlock = some k → τ.2.2.2.1.ownBlock ≠ some k))
    (fun τ => [(0, .int .u32 entry), (1, .slice a ps.length cap), (5, τ.2.2.1), (6, τ.2.2.2.1), (7, .int .i64 (τ.1 + τ.2.2.2.2.2.flatten.length : Nat)), (10, .slice a ps.length cap), (11, .int .i64 ps.length), (12, .int .i64 τ.1)])
    (fun τ => Hp τ.2.1 [])
    (fun τ => ps.length - τ.1) (0, w, .slice none 0 0, .slice none 0 0, [], [])
    ⟨Nat.zero_le _, Upd.refl _ _, World.ownsRow_nil _ _ _ _, ⟨[], rfl, World.ownsRow_nil _ _ _ _, fun i x l hx => by simp at hx⟩, rfl, rfl, by simp, .inl rfl, (fun x hx => by cases hx), fun k hk => (by cases hk)⟩ (by (repeat (first | exact Sub.nil | apply Sub.cons rfl))) (fun _ h => h) ?_
  rintro ⟨i, w0, vh, vd, hs, ds⟩ ⟨hin, hu, hoh, hod, hlh, hld, hn, h8, hhs, hdis⟩
  simp only at hin hu hoh hod hlh hld hn h8 hhs hdis ⊢
  have hus := hu.size
  by_cases hlt : i < ps.length
  · obtain ⟨p, hp'⟩ : ∃ p, ps[i]? = some p := ⟨_, List.getElem?_eq_getElem hlt⟩
    obtain ⟨hpb, hpl, hpa, hpm⟩ := hok p (List.mem_of_getElem? hp')
    obtain ⟨g, og, rfl, hgc⟩ := hcell (fun e => by cases ps with | nil => simp at hlt | cons x r => simp [partCells] at e)
    obtain ⟨pk, pr, pa, pm, pv, pb⟩ := p
    simp only at hpb hpl hpa hpm
    obtain ⟨ya, yc, rfl, _, _⟩ := hpb.shape
    have hce : ∀ j v, [Value.int .i64 pk, .int .u32 pa, .int .u32 pm, .int .i64 pr, .slice ya pb.length yc][j]? = some v → w0.cell? ⟨g, og + (i : Int).toNat * 5 + j, none⟩ = some v := by
      intro j v hj
      have hj5 : j < 5 := (List.getElem?_eq_some_iff.1 hj).1
      have hj' : (partCells ⟨pk, pr, pa, pm, .slice ya pb.length yc, pb⟩)[j]? = some v := hj
      rw [← flat5 (g := partCells) (fun _ => rfl) hp' hj5] at hj'
      obtain ⟨h1, h2⟩ := List.getElem?_eq_some_iff.1 hj'
      have := hgc _ h1
      rw [h2] at this
      rw [show og + (i : Int).toNat * 5 + j = og + (i * 5 + j) by omega]
      exact hu.cell this (by have := World.block_lt_of_cell? w _ this; simp only at this ⊢; omega)
    have hpb0 : Bs w0 (.slice ya pb.length yc) pb := hpb.upd hu fun k _ hk _ y => by omega
    repeat' (first | (apply Wl.loadAP; exact rfl; exact rfl; exact hce; exact trivial; exact rfl) | (apply Wl.move; exact rfl; exact rfl) | (apply Wl.assign; exact rfl; exact rfl) | (apply Wl.on; exact rfl; exact rfl; (first | rfl | assumption)) | (apply Wl.off; exact rfl; exact rfl; exact rfl; (first | rfl | assumption)) | (apply Wl.pickT; exact rfl; exact rfl; (first | rfl | assumption); exact rfl) | (apply Wl.pickF; exact rfl; exact rfl; (first | rfl | assumption); exact rfl) | (apply Wl.fieldAddr0; exact rfl; exact rfl) | (apply Wl.fieldAddrZ; exact rfl; exact rfl) | (apply Wl.loadH; exact rfl; exact rfl; (repeat (first | exact List.Mem.head _ | apply List.Mem.tail)); exact rfl) | (apply Wl.lss; exact rfl; exact rfl; exact rfl) | (apply Wl.gtr; exact rfl; exact rfl; exact rfl) | (apply Wl.addI; exact rfl; exact rfl; exact rfl; (constructor <;> omega)) | (apply Wl.and; exact rfl; exact rfl; exact rfl) | (apply Wl.convI64; exact rfl; exact rfl; (constructor <;> omega)) | (apply Wl.len; exact rfl; exact rfl) | (apply Wl.storeA; exact rfl; exact rfl; exact rfl; exact rfl; (repeat (first | apply HSet.here | apply HSet.there)); (repeat (first | apply LPut.s | apply LPut.z | apply LOver.nil | apply LOver.cons))) | (apply Wl.buildS; exact rfl; (repeat (first | exact Parts.nil | apply Parts.cons rfl)); (repeat (first | apply Fills.nil | (apply Fills.one; exact rfl; exact rfl; (repeat (first | apply LSet.z | apply LSet.s))) | (apply Fills.agg; exact rfl; exact rfl; (repeat (first | apply LPut.s | apply LPut.z | apply LOver.nil | apply LOver.cons)))))) | (apply Wl.lit; exact rfl; (repeat (first | exact Parts.nil | apply Parts.cons rfl)); exact rfl; exact rfl; (repeat (first | apply CatP.nil | (apply CatP.one; exact rfl; exact rfl) | (apply CatP.agg; exact rfl) | apply LApp.nil | apply LApp.cons)); intro c hc ho) | (apply Wl.alloc; exact rfl; intro c hc ho) | (apply Wl.indexAddr; exact rfl; exact rfl; exact rfl; (constructor <;> omega)) | (apply Wl.nil) | (apply St.seq) | (apply St.block) | (apply St.region) | (apply St.condT; exact rfl; (first | rfl | assumption)) | (apply St.ret) | (apply St.skip) | (apply Gt.next) | (apply Gt.thenRet) | (apply Gt.inRet) | (apply Gt.out1; exact rfl; exact rfl; intro w' hp) | (apply Wl.splitP; exact rfl; exact rfl; all_goals (intros; try (exfalso; omega))) | (apply Wl.splitB; exact rfl; exact rfl; all_goals intros) | (apply St.condP; exact rfl; all_goals (intros; try (exfalso; omega))) | (apply St.condB; exact rfl; all_goals intros))
    · exact ⟨hu.comp (hp.drop (by simp; omega)).ext fun k _ hs => hs.elim id False.elim, .inl rfl⟩
    · exact ⟨hu.comp (hp.drop (by simp; omega)).ext fun k _ hs => hs.elim id False.elim, .inl rfl⟩
    rename_i c1 hc1' ho1 _ _ _ _
    have e3 : bits .and .i64 pk 3 = ((pk % 4).toNat : Int) := by rw [bitsAnd_mask .i64 _ _ 2 (by decide) (by decide)]; omega
    have e7 : bits .and .i64 pr 7 = ((pr % 8).toNat : Int) := by rw [bitsAnd_mask .i64 _ _ 3 (by decide) (by decide)]; omega
    rw [e3, e7]
    apply Wl.appendT
    · exact rfl
    · exact rfl
    · exact rfl
    · exact hc
    · exact rfl
    · exact hoh
    · exact fun k hk => ⟨fun e => by have := (hoh.lt k hk).2; have e' : c1 = k := e; omega, trivial⟩
    · exact rfl
    · exact rfl
    · decide
    · unfold maxLen; omega
    · omega
    · exact hus
    intro vh' w1 hoh1 u1 _ hkh
    have u1' : Upd (fun k => vh.ownBlock = some k) w0 w1 := u1.mono fun k hk hs => hs.elim id fun y => (y ⟨fun e => by have e' : c1 = k := e; omega, trivial⟩).elim
    have hod1 := hod.upd u1' fun k hk e => hdis k e hk
    obtain ⟨vs, l1, own1, l3⟩ := hod1
    have hc1c : w1.cell? ⟨c1, 4, none⟩ = some (.slice ya pb.length yc) ∨ True := .inr trivial
    repeat' (first | (apply Wl.move; exact rfl; exact rfl) | (apply Wl.assign; exact rfl; exact rfl) | (apply Wl.fieldAddrZ; exact rfl; exact rfl) | (apply Wl.loadH; exact rfl; exact rfl; (repeat (first | exact List.Mem.head _ | apply List.Mem.tail)); exact rfl) | (apply Wl.lit; exact rfl; (repeat (first | exact Parts.nil | apply Parts.cons rfl)); exact rfl; exact rfl; (repeat (first | apply CatP.nil | (apply CatP.one; exact rfl; exact rfl) | (apply CatP.agg; exact rfl) | apply LApp.nil | apply LApp.cons)); intro c hc ho) | (apply Wl.nil) | (apply St.region) | (apply Gt.next) | (apply Wl.splitP; exact rfl; exact rfl; all_goals (intros; try (exfalso; omega))) | (apply Wl.splitB; exact rfl; exact rfl; all_goals intros) | (apply St.condP; exact rfl; all_goals (intros; try (exfalso; omega))) | (apply St.condB; exact rfl; all_goals intros))
    apply Wl.appendT
    · exact rfl
    · exact rfl
    · exact rfl
    · exact hc
    · exact rfl
    · exact own1
    · exact fun k hk => ⟨fun e => by have e' : c1 = k := e; obtain ⟨_, _, ho, _⟩ := hod; have := (ho.lt k hk).2; omega, trivial⟩
    · exact rfl
    · exact rfl
    · decide
    · unfold maxLen; omega
    · omega
    · exact Nat.le_trans hus u1'.size
    intro vd' w2 hod2 u2 _ hkd
    have hvd : ∀ k, vd.ownBlock = some k → w.heap.size ≤ k ∧ k < w0.heap.size := fun k hk => by obtain ⟨_, _, ho, _⟩ := hod; exact ho.lt k hk
    have hvh' : ∀ k, vh'.ownBlock = some k → w.heap.size ≤ k ∧ k < w1.heap.size := fun k hk => hoh1.lt k hk
    have u1s := u1'.size
    have u2' : Upd (fun k => vd.ownBlock = some k ∨ k = c1) w1 w2 := u2.mono fun k hk hs => hs.elim .inl fun y => .inr (Classical.byContradiction fun e => y ⟨fun e' => e e'.symm, trivial⟩)
    repeat' (first | (apply Wl.move; exact rfl; exact rfl) | (apply Wl.assign; exact rfl; exact rfl) | (apply Wl.addI; exact rfl; exact rfl; exact rfl; (constructor <;> omega)) | (apply Wl.nil) | (apply St.region) | (apply Gt.next) | (apply Gt.inNormal) | (apply Wl.splitP; exact rfl; exact rfl; all_goals (intros; try (exfalso; omega))) | (apply Wl.splitB; exact rfl; exact rfl; all_goals intros) | (apply St.condP; exact rfl; all_goals (intros; try (exfalso; omega))) | (apply St.condB; exact rfl; all_goals intros))
    have hsum : (ds ++ [pb]).flatten.length = ds.flatten.length + pb.length := by simp
    apply Gt.reb (H' := [])
    intro w3 h3
    refine ⟨trivial, trivial, ?_⟩
    have u3 : Upd (fun k => k = c1) w2 w3 := h3.upd.mono fun k _ y => Classical.byContradiction fun e => y ⟨fun e' => e e'.symm, trivial⟩
    have u23 : Upd (fun k => vd.ownBlock = some k ∨ k = c1) w1 w3 := u2'.comp u3 fun k _ hs => hs.elim id .inr
    have hvhd : ∀ k, vh'.ownBlock = some k → ¬ (vd.ownBlock = some k ∨ k = c1) := fun k hk hs => by
      obtain ⟨⟨q1, _⟩, q2⟩ := hkh k hk
      rcases hs with hs | hs
      · rcases q2 with q2 | q2
        · exact hdis k q2 hs
        · have := (hvd k hs).2; omega
      · exact q1 hs.symm
    apply Gt.round (i + 1, w3, vh', vd', hs ++ [⟨(pk % 4).toNat, pa, pb.length + pm, (pr % 8).toNat⟩], ds ++ [pb])
    rotate_left
    · simp only; omega
    · refine .cons rfl (.cons rfl (.cons rfl (.cons rfl (.cons' rfl ?_ (.cons rfl (.cons rfl (.cons rfl .nil)))))))
      rw [hsum]
      congr 1
      omega
    · exact fun _ h => h
    refine ⟨hlt, ?_, ?_, ⟨vs ++ [.slice ya pb.length yc], by simp [l1], ?_, fun j x l hx hl => ?_⟩, by simp [hlh], by simp [hld], ?_, .inr (by omega), fun x hx => ?_, fun k hk e => ?_⟩
    · exact (hu.comp u1' (T := fun k => w.heap.size ≤ k) fun k _ hs => hs.elim id fun e => (hoh.lt k e).1).comp u23 fun k _ hs => hs.elim id fun e => e.elim (fun e => (hvd k e).1) fun e => by omega
    · simp only
      rw [List.flatMap_append]
      exact ownsRow_upd hoh1 u23 hvhd
    · simp only
      rw [List.length_append]
      exact ownsRow_upd hod2 u3 fun k hk e => (hkd k hk).1.1 e.symm
    · rcases Nat.lt_or_ge j vs.length with hj | hj
      · rw [List.getElem?_append_left hj] at hx
        rw [List.getElem?_append_left (by omega)] at hl
        exact l3 j x l hx hl
      · have hj' : j = vs.length := by
          have := (List.getElem?_eq_some_iff.1 hx).1
          rw [List.length_append, List.length_singleton] at this
          omega
        subst hj'
        rw [List.getElem?_append_right (Nat.le_refl _), Nat.sub_self] at hx
        rw [l1, List.getElem?_append_right (Nat.le_refl _), Nat.sub_self] at hl
        simp only [List.getElem?_cons_zero, Option.some.injEq] at hx hl
        subst hx; subst hl
        exact hpb
    · simp only
      rw [hsum]
      omega
    · rcases List.mem_append.1 hx with hx | hx
      · exact hhs x hx
      · rw [List.mem_singleton] at hx
        subst hx
        simp only
        omega
    · rcases (hkd k e).2 with e' | e'
      · exact hvhd k hk (.inl e')
      · have := (hvh' k hk).2; omega
  · have hin' : i = ps.length := by omega
    subst hin'
    repeat' (first | (apply Wl.move; exact rfl; exact rfl) | (apply Wl.lss; exact rfl; exact rfl; exact rfl) | (apply Wl.convI64; exact rfl; exact rfl; (constructor <;> omega)) | (apply Wl.nil) | (apply St.seq) | (apply St.region) | (apply St.exit) | (apply Gt.next) | (apply Gt.thenExit) | (apply Gt.inExit) | (apply Wl.splitP; exact rfl; exact rfl; all_goals (intros; try (exfalso; omega))) | (apply Wl.splitB; exact rfl; exact rfl; all_goals intros) | (apply St.condP; exact rfl; all_goals (intros; try (exfalso; omega))) | (apply St.condB; exact rfl; all_goals intros))
    apply Wl.call
    exact rfl
    (repeat (first | exact Evs.nil | apply Evs.cons rfl))
    intro wq hq
    have huq : Upd (fun k => w.heap.size ≤ k) w wq := hu.comp hq.ext fun k _ hs => hs.elim id False.elim
    have hoh' := Sv.ofOwn (ownsRow_upd hoh hq.upd fun k _ y => y trivial)
    rw [← hlh] at hoh'
    have h8' : hs.length ≤ 8 := by omega
    refine (file_any entry _ _ hs ds wq he hoh' ((hod.upd hq.upd fun k _ y => y trivial).bss huq) (by omega) h8' (by omega) hhs).mono ?_
    rintro e wr ⟨v', rfl, hb, hup⟩
    refine ⟨_, rfl, ?_⟩
    repeat' (first | (apply Wl.assign; exact rfl; exact rfl) | (apply Wl.nil) | (apply St.ret) | (apply Gt.next) | (apply Gt.out1; exact rfl; exact rfl; intro w' hp) | (apply Wl.splitP; exact rfl; exact rfl; all_goals (intros; try (exfalso; omega))) | (apply Wl.splitB; exact rfl; exact rfl; all_goals intros) | (apply St.condP; exact rfl; all_goals (intros; try (exfalso; omega))) | (apply St.condB; exact rfl; all_goals intros))
    refine ⟨hu.comp (bag_call hq hup hp) fun k _ hs => hs.elim id False.elim, .inr ⟨_, hs, ds, rfl, ⟨by omega, h8', by omega, hhs⟩, Bo.less (hb.upd hp.upd fun _ _ y => y trivial) huq.size⟩⟩
end Go.Proofs.Ythdojhldiinkcaa
