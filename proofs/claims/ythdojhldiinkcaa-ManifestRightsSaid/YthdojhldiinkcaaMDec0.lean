/-
  Rules for decoders: results that lie half in cells; copy into an array's slice. porticolaw07.One. Conditions: what is copied reads as bytes.
-/
import Derived.Test.YthdojhldiinkcaaMSame
import Derived.Test.YthdojhldiinkcaaEnc
import Derived.Laws.ResultCell
import Derived.Laws.IdiomCopy
namespace Go.Pt
open Go.RowKit
theorem Gt.outCT {P : Program} {N : Nat} {Γ : Env} {w0 : World} {H : List Blk} {fn : Func} {R : Ending → World → Prop} {t u ty n c i bt : Nat} {v : Value} {cs xs : List Value} (hr : fn.results = #[.cell t ty, .tmp u]) (hT : TyA P ty n) (ht : look Γ t = some (.pointer (some ⟨c, i, none⟩))) (hu : look Γ u = some v) (hm : (⟨c, cs, bt⟩ : Blk) ∈ H) (hi' : LSub cs i n xs)
    (h : ∀ w, Hp w0 H w → R (.returned (.tuple #[.agg xs.toArray, v])) w) : Gt N .ret Γ (Hp w0 H) (bodyPost P fn R) := Gt.intro fun a w ha hw => by
  have hi := hi'.out.1
  have hn := hi'.out.2
  refine ⟨ha.defers, _, ?_, h w hw⟩
  have hl := run_loadA (P := P) (t := ty) (w := w) (a := ⟨c, i, none⟩) hn (fun j v hj => by
    rw [addLit]
    refine hw.cell hm ?_
    subst hi
    rw [List.getElem?_take] at hj
    split at hj
    · simpa [List.getElem?_drop] using hj
    · cases hj)
  rw [results_cell_tmp hr]
  simp [ha.get _ _ ht, ha.get _ _ hu, asAddr, hl]
theorem Gt.outC' {P : Program} {N : Nat} {Γ : Env} {w0 : World} {H : List Blk} {fn : Func} {R : Ending → World → Prop} {t ty n c i bt : Nat} {cs xs : List Value} (hr : fn.results = #[.cell t ty]) (hT : TyA P ty n) (ht : look Γ t = some (.pointer (some ⟨c, i, none⟩))) (hm : (⟨c, cs, bt⟩ : Blk) ∈ H) (hi' : LSub cs i n xs)
    (h : ∀ w, Hp w0 H w → R (.returned (.agg xs.toArray)) w) : Gt N .ret Γ (Hp w0 H) (bodyPost P fn R) := Gt.outC hr ht hm hi' h
theorem run_copy_at {P : Program} (w : World) {dT sT ty elem : TypeId} {c n cap m cap' bt : Nat} {a : Addr} {cs xs : List Value} (hu : P.underlying dT = some (.slice elem)) (hs : (P.info? elem).map (·.size) = some 1) (hm : xs.length = m) (hmn : m ≤ n) (hnc : n ≤ cs.length)
    (hsrc : ∀ j v, xs[j]? = some v → w.cell? (a.add j) = some v) (hb : w.heap[c]? = some (.cells cs.toArray bt (0, 0))) (h1 : ∀ v ∈ xs, v.oneCell' = true) :
    (Builtin.copy_ #[dT, sT] ty #[.slice (some ⟨c, 0, none⟩) n cap, .slice (some a) m cap']).run P w = .ok (goInt xs.length) (w.setRow c (xs ++ cs.drop xs.length).toArray) := by
  have hl := run_loadCells_list (P := P) w a xs hsrc
  have hst := run_storeCells_at P c 0 bt xs 0 cs.toArray w hb (by simp; omega) h1
  simp only [Nat.add_zero] at hst
  have hmin : Nat.min m n = xs.length := by rw [hm]; exact Nat.min_eq_left hmn
  cases hq : P.info? elem with
  | none => simp [hq] at hs
  | some i =>
    have hi : i.size = 1 := by simpa [hq] using hs
    simp [Builtin.copy_, run_underlying hu, Builtin.lenOf, Builtin.firstCells, sizeOf, typeInfo, hq, hi, hmin, hl]
    simp at hst
    rw [hst]
    simp
theorem Wl.copyB {P : Program} {N : Nat} {ops : Array Oper} {rest : List Oper} {Γ : Env} {Q : Exit → Act → World → Prop} {w0 : World} {H H' : List Blk} {d : Nat} {ty : TypeId} {pos : String} {af : Array Edge} {dT sT e by_ c n cap bt : Nat} {y : Value} {l : List UInt8} {cs cs' : List Value} {p q : Operand} [ht : TyD P dT (.slice e)] [hz : TyS P e 1 by_]
    (hd : Nat.blt d N = true) (hx : ev Γ p = some (.slice (some ⟨c, 0, none⟩) n cap)) (hy : ev Γ q = some y) (hs : HSet c cs cs' bt H H') (he : byteCells l ++ cs.drop l.length = cs') (hl : l.length ≤ n) (hn : n ≤ cs.length) (hb : ∀ w, Hp w0 H w → Bs w y l)
    (h : Wl rest P .seq ops N ((d, .int .i64 l.length) :: Γ) (Hp w0 H') Q) : Wl (⟨some d, .call { callee := .builtin .copy, args := #[p, q], argTypes := #[dT, sT] }, ty, pos, af, none⟩ :: rest) P .seq ops N Γ (Hp w0 H) Q :=
  Wl.eff fun a w ha hw => by
    subst he
    obtain ⟨ad, cap', rfl, h1, h2⟩ := (hb w hw).shape
    have hsz : (P.info? e).map (·.size) = some 1 := by
      have := hz.out
      cases hq : P.info? e with
      | none => simp [hq] at this
      | some i => simp [hq] at this ⊢; exact this.1
    have hcell := hw.own.at hs.mem
    by_cases hne : l = []
    · subst hne
      have hr := run_copy_none (P := P) w dT sT ty e (some ⟨c, 0, none⟩) ad n cap 0 cap' ht.out hsz (Nat.zero_min n)
      refine ⟨.int .i64 0, w, .inl ?_, h.elim _ _ (ha.put hd _) (hw.hset hs (Upd.refl _ _) ?_)⟩
      · simp only [execOp, resolve, invoke, builtin, ha.ev hx, ha.ev hy]
        simp [ha.ev hx, ha.ev hy] 
        simp [hr, goInt]
      · simpa [byteCells] using hcell
    · obtain ⟨g, og, e', hc'⟩ := (hb w hw).cells hne
      cases e'
      have hr := run_copy_at (P := P) w (dT := dT) (sT := sT) (ty := ty) (elem := e) (c := c) (n := n) (cap := cap) (m := l.length) (cap' := cap') (bt := bt) (a := ⟨g, og, none⟩) (cs := cs) (xs := byteCells l) ht.out hsz (byteCells_length l) hl hn (fun j v hj => by
        obtain ⟨h1, h2⟩ := List.getElem?_eq_some_iff.1 hj
        rw [byteCells_length] at h1
        rw [addLit, hc' j h1, ← h2]
        simp [byteCells]) hcell (fun v hv => by
        simp only [byteCells, List.mem_map] at hv
        obtain ⟨b, _, rfl⟩ := hv
        rfl)
      rw [byteCells_length] at hr
      refine ⟨.int .i64 l.length, w.setRow c (byteCells l ++ cs.drop l.length).toArray, .inl ?_, h.elim _ _ (ha.put hd _) (hw.hset hs ⟨rfl, rfl, rfl, by simp, fun k hk hne => ?_⟩ ?_)⟩
      · simp only [execOp, resolve, invoke, builtin, ha.ev hx, ha.ev hy]
        simp [ha.ev hx, ha.ev hy]
        simp [hr, goInt]
      · exact setRow_other w c k _ hne
      · exact setRow_heap w c _ _ bt _ hcell
end Go.Pt
namespace Go.Proofs.Ythdojhldiinkcaa
open Go.RowKit Go.Pt
def oneM : Mf := ⟨3, 0, [⟨List.replicate 32 0, 0, 2147487744, [⟨2147487744, 4096, 5⟩, ⟨2147491840, 4096, 3⟩], 255⟩]⟩
set_option maxHeartbeats 1000000 in
theorem one_any (w : World) : Calls Try.prog 50 #[] w fun e w' => ∃ v, e = .returned v ∧ MfV w' v oneM ∧ Upd (fun k => w.heap.size ≤ k) w w' := by
  refine enter (args := []) (Γ := []) Try.func50 Try.ntmps50 rfl (of_decide_eq_true rfl) .nil ?_
  repeat' (first | (apply Gt.outC'; exact rfl; infer_instance; exact rfl; (repeat (first | exact List.Mem.head _ | apply List.Mem.tail)); (repeat (first | apply LSub.z | apply LSub.t | apply LSub.s)); intro w' hp) | (apply Wl.storeA; exact rfl; exact rfl; exact rfl; exact rfl; (repeat (first | apply HSet.here | apply HSet.there)); (repeat (first | apply LPut.s | apply LPut.z | apply LOver.nil | apply LOver.cons))) | (apply Wl.buildS; exact rfl; (repeat (first | exact Parts.nil | apply Parts.cons rfl)); (repeat (first | apply Fills.nil | (apply Fills.one; exact rfl; exact rfl; (repeat (first | apply LSet.z | apply LSet.s))) | (apply Fills.agg; exact rfl; exact rfl; (repeat (first | apply LPut.s | apply LPut.z | apply LOver.nil | apply LOver.cons)))))) | (apply Wl.lit; exact rfl; (repeat (first | exact Parts.nil | apply Parts.cons rfl)); exact rfl; exact rfl; (repeat (first | apply CatP.nil | (apply CatP.one; exact rfl; exact rfl) | (apply CatP.agg; exact rfl) | apply LApp.nil | apply LApp.cons)); intro c hc ho) | (apply Wl.alloc; exact rfl; intro c hc ho) | (apply Wl.nil) | (apply St.seq) | (apply St.region) | (apply St.ret) | (apply Gt.next) | (apply Wl.splitP; exact rfl; exact rfl; all_goals (intros; try (exfalso; omega))) | (apply Wl.splitB; exact rfl; exact rfl; all_goals intros) | (apply St.condP; exact rfl; all_goals (intros; try (exfalso; omega))) | (apply St.condB; exact rfl; all_goals intros))
  rename_i c0 hc0 ho0 c1 hc1 ho1
  have hu : Upd (fun k => w.heap.size ≤ k) w w' := (hp.drop (by simp; omega)).upd.mono fun _ _ y => (y trivial).elim
  refine ⟨_, rfl, ⟨_, [(⟨List.replicate 32 0, 0, 2147487744, [⟨2147487744, 4096, 5⟩, ⟨2147491840, 4096, 3⟩], 255⟩, .slice (some ⟨c1, 0, none⟩) 2 2)], rfl, rfl, ?_, ?_, by decide, by unfold I64; decide⟩, hu⟩
  · refine ⟨rfl, _, 1, rfl, Nat.le_refl _, by decide, fun e => (by cases e), fun _ => ⟨c, 0, rfl, fun i h => ?_⟩⟩
    rw [Nat.zero_add]
    refine hp.cell (.head _) ?_
    rw [← List.getElem?_eq_getElem h]
    rfl
  · intro x hx
    rw [List.mem_singleton] at hx
    subst hx
    refine ⟨⟨rfl, _, 2, rfl, Nat.le_refl _, by decide, fun e => (by cases e), fun _ => ⟨c1, 0, rfl, fun i h => ?_⟩⟩, rfl, by simp only; omega, by simp only; omega, by unfold I64; simp only; omega, ?_, by simp⟩
    · rw [Nat.zero_add]
      refine hp.cell (.tail _ (.head _)) ?_
      rw [← List.getElem?_eq_getElem h]
      rfl
    · intro g hg
      simp only [List.mem_cons, List.not_mem_nil, or_false] at hg
      rcases hg with rfl | rfl <;> exact ⟨by decide, by decide, by unfold I64; decide⟩
end Go.Proofs.Ythdojhldiinkcaa
