/-
  7 texts, one behind the other; each says what it proves. Conditions: as each text says.
-/
import Derived.Test.YtfaobdakpbpkbaaDoorM05
import Derived.Test.YtfaobdakpbpkbaaDoorM03
import Derived.Test.YtfaobdakpbpkbaaDoorM04
section
/-
  seal.Public, seal.Sign (the first number will do). Conditions: the secret is one; the table of SHA-256 is laid.
-/
namespace Go.Pt
theorem Wl.fieldVa {P : Program} {md : Md} {N : Nat} {ops : Array Oper} {rest : List Oper} {Γ : Env} {C : World → Prop} {Q : Exit → Act → World → Prop} {d : Nat} {ty : TypeId} {pos : String} {af : Array Edge} {x : Operand} {s i off ft n : Nat} [hf : Fld P s i off ft] [TyA P ft n] {cs xs : List Value} (hd : Nat.blt d N = true) (hx : ev Γ x = some (.agg cs.toArray)) (hv : LSub cs off n xs) (h : Wl rest P md ops N ((d, .agg xs.toArray) :: Γ) C Q) :
    Wl (⟨some d, .field s x i, ty, pos, af, none⟩ :: rest) P md ops N Γ C Q :=
  Wl.val hd (fun a w ha _ => by
    have h := hf.out
    unfold fieldB at h
    split at h <;> try cases h
    rename_i fs hfs
    cases e : fs[i]? with
    | none => rw [e] at h; cases h
    | some f =>
      rw [e] at h; simp at h
      obtain ⟨h1, h2, h3⟩ := h
      subst h1 h2
      obtain ⟨hv1, hv2⟩ := hv.out
      simp [execOp, ha.ev hx, Instr.field, run_underlying hfs, e, part, run_aggA (P := P) (t := f.type), run_sizeA (P := P) (t := f.type), asAgg]
      rw [← hv1]) h
end Go.Pt
namespace Go.Proofs.YtfaobdakpbpkbaaDoor
open Go.RowKit Go.Pt
attribute [local irreducible] Prim.P256 Prim.N256
theorem hpTrS2 {w0 w1 w2 : World} {H : List Blk} {c t t' : Nat} {cs cs' : List Value} (h1 : Hp w0 (⟨c, cs, t⟩ :: H) w1) (h2 : Hp w1 (⟨c, cs', t'⟩ :: H) w2) (hx : w0.heap.size ≤ c) : Hp w0 H w2 := hpTrS h1 h2 hx
theorem curMultG (k bm n : Nat) (w : World) (hV : CurV w k bm) (hn : n < W256) : Calls Tryd.prog 80 #[mp k, numV n, poV (some curG)] w fun e w' => e = .returned (poV (sm3 n (some curG))) ∧ Hp w [] w' := curMult k bm (some curG) n w hV onG hn
set_option maxHeartbeats 16000000 in
theorem sealPublic (v : Value) (l : List UInt8) (w : World) (hv : Bs w v l) (hl : l.length = 32) (hok : okS (rdL l) = true) (A : Ec.Pt) (hA : A = sm3 (rdL l) (some curG)) :
    Calls Tryd.prog 46 #[v] w fun e w' => ∃ x, e = .returned (.tuple #[x, .int .i64 0]) ∧ Bo w' w.heap.size x (bL (poX A) ++ bL (poY A)) ∧ Upd (fun k => w.heap.size ≤ k) w w' := by
  have hnW := rdL_lt l
  have hu : Upd (fun k => w.heap.size ≤ k) w w := Upd.refl _ _
  refine enter (args := [_]) (Γ := [(0, _)]) Tryd.func46 Tryd.ntmps46 rfl (of_decide_eq_true rfl) (.cons rfl .nil) ?_
  repeat' (first | (apply Wl.callQ (f := 79); exact rfl; (repeat (first | exact Evs.nil | apply Evs.cons rfl)); (intro wq hq; refine (sealSecret v l wq (bsNew hv hq (by simp)) hl hok).mono ?_; rintro e wr ⟨rfl, hr⟩; exact ⟨rfl, hq.keep hr⟩)) | (apply Wl.storeW; exact rfl; exact rfl; (repeat (first | apply HSet.here | apply HSet.there)); exact rfl; (first | exact cellsN_len _ _ _ | exact rfl)) | (apply Wl.allocN; exact rfl; (first | exact z8 | exact z16 | exact z17 | exact z33 | exact z10); intro c hc ho) | (apply Wl.move; exact rfl; exact rfl) | (apply Wl.assign; exact rfl; exact rfl) | (apply Wl.extract; exact rfl; exact rfl; exact rfl) | (apply Wl.not; exact rfl; exact rfl) | (apply Wl.nil) | (apply St.seq) | (apply St.region) | (apply St.condF; exact rfl; (first | with_reducible rfl | with_reducible assumption | decide)) | (apply St.skip) | (apply Gt.next) | (apply Wl.splitP; exact rfl; exact rfl; all_goals (intros; try (exfalso; omega))) | (apply Wl.splitB; exact rfl; exact rfl; all_goals intros) | (apply St.condP; exact rfl; all_goals (intros; try (exfalso; omega))) | (apply St.condB; exact rfl; all_goals intros))
  generalize rdL l = n at *
  generalize c = cn at *
  have hcn : w.heap.size ≤ cn := by assumption
  refine St.tree (Hp w [⟨cn, cellsN .u32 8 (dg W32 n), 30⟩]) mixed (fun _ h => ⟨Hp.drew h, Hp.drew h⟩) ?_
  refine Mt.pure 1 (by decide +kernel) (by exact rfl) (by exact rfl) (by decide +kernel) (by decide +kernel) ?_
  repeat' (first | (apply Wl.loadW; exact rfl; exact rfl; (repeat (first | exact List.Mem.head _ | apply List.Mem.tail)); exact rfl) | (apply Wl.nilM) | (apply Wl.splitP; exact rfl; exact rfl; all_goals (intros; try (exfalso; omega))) | (apply Wl.splitB; exact rfl; exact rfl; all_goals intros) | (apply St.condP; exact rfl; all_goals (intros; try (exfalso; omega))) | (apply St.condB; exact rfl; all_goals intros))
  apply Mt.back
  refine Mt.eff2 (i := 0) (j := 4) (by decide +kernel) (by exact rfl) (by exact rfl) ?_ ?_
  · apply Wl.callC
    · exact rfl
    · (repeat (first | exact Evs.nil | apply Evs.cons rfl))
    intro wq hq
    refine (curNew wq).mono ?_
    rintro e wr ⟨k, bm, rfl, hk, hbm, hV, hr⟩
    have hqr := hq.keep hr
    refine ⟨_, _, rfl, hpRb hqr, ?_⟩
    have hszq := hq.upd.size
    have hszr := hr.upd.size
    have hall := fun x hx => hq.own.lt (x := x) hx
    simp only [List.mem_cons, List.not_mem_nil, or_false, forall_eq_or_imp, forall_eq] at hall
    have hu2 : Upd (fun k => w.heap.size ≤ k) w wr := hpOn hqr hu (by simp; omega)
    obtain ⟨hkl, hbl⟩ := hV.lt
    clear hq hr
    repeat' (first | (apply Wl.nil) | (apply Wl.splitP; exact rfl; exact rfl; all_goals (intros; try (exfalso; omega))) | (apply Wl.splitB; exact rfl; exact rfl; all_goals intros) | (apply St.condP; exact rfl; all_goals (intros; try (exfalso; omega))) | (apply St.condB; exact rfl; all_goals intros))
    refine Mt.backE (fun u h => hpTr hqr h) ?_
    refine Mt.eff2 (i := 2) (j := 4) (by decide +kernel) (by exact rfl) (by exact rfl) ?_ ?_
    · repeat' (first | (apply Wl.callQ (f := 30); exact rfl; (repeat (first | exact Evs.nil | apply Evs.cons rfl)); (intro wq hq; refine (curBase wq).mono ?_; rintro e wr ⟨rfl, hr⟩; exact ⟨rfl, hq.keep hr⟩)) | (apply Wl.nil) | (apply Wl.splitP; exact rfl; exact rfl; all_goals (intros; try (exfalso; omega))) | (apply Wl.splitB; exact rfl; exact rfl; all_goals intros) | (apply St.condP; exact rfl; all_goals (intros; try (exfalso; omega))) | (apply St.condB; exact rfl; all_goals intros))
      refine Mt.backE (fun u h => hpTr hqr h) ?_
      refine Mt.eff2 (i := 3) (j := 4) (by decide +kernel) (by exact rfl) (by exact rfl) ?_ ?_
      · repeat' (first | (apply Wl.callQ (f := 80); exact rfl; (repeat (first | exact Evs.nil | apply Evs.cons rfl)); (intro wq hq; refine ((hA ▸ curMultG k bm n wq (hV.hp hq (by (repeat (first | exact trivial | exact hX.off (by omega) | refine ⟨by first | assumption | omega | (simp only; omega), ?_⟩))) (by (repeat (first | exact trivial | exact hX.off (by omega) | refine ⟨by first | assumption | omega | (simp only; omega), ?_⟩)))) hnW)).mono ?_; rintro e wr ⟨rfl, hr⟩; exact ⟨rfl, hq.keep hr⟩)) | (apply Wl.nil) | (apply Wl.splitP; exact rfl; exact rfl; all_goals (intros; try (exfalso; omega))) | (apply Wl.splitB; exact rfl; exact rfl; all_goals intros) | (apply St.condP; exact rfl; all_goals (intros; try (exfalso; omega))) | (apply St.condB; exact rfl; all_goals intros))
        refine Mt.backE (fun u h => hpTr hqr h) ?_
        refine Mt.eff1 (i := 4) (by decide +kernel) (by exact rfl) ?_
        repeat' (first | (apply Wl.allocC (t := 32); exact rfl; exact zPo; intro c hc ho) | (apply Wl.nil) | (apply Wl.splitP; exact rfl; exact rfl; all_goals (intros; try (exfalso; omega))) | (apply Wl.splitB; exact rfl; exact rfl; all_goals intros) | (apply St.condP; exact rfl; all_goals (intros; try (exfalso; omega))) | (apply St.condB; exact rfl; all_goals intros))
        generalize c = cP at *
        have hcc : wr.heap.size ≤ cP := by assumption
        refine Mt.backE (fun u h => hpTr hqr (hpPopS h hcc)) ?_
        refine Mt.eff1 (i := 5) (by decide +kernel) (by exact rfl) ?_
        repeat' (first | (apply Wl.storeAll; exact rfl; exact rfl; (repeat (first | apply HSet.here | apply HSet.there)); (first | exact ptC_len _ _ _ | exact poC_len _ _ _ | exact poD_len _); (first | exact rfl | exact ptC_len _ _ _ | exact poC_len _ _ _ | exact poD_len _); (first | exact ptC_one _ _ _ | exact poC_one _ _ _ | exact poD_one _)) | (apply Wl.nil) | (apply Wl.splitP; exact rfl; exact rfl; all_goals (intros; try (exfalso; omega))) | (apply Wl.splitB; exact rfl; exact rfl; all_goals intros) | (apply St.condP; exact rfl; all_goals (intros; try (exfalso; omega))) | (apply St.condB; exact rfl; all_goals intros))
        refine Mt.backE (fun u h => hpTr hqr (hpPopS h hcc)) ?_
        refine Mt.toGt (by decide +kernel) ?_
        have cBx := fun wq => limbBytes (poX A) wq
        have cBy := fun wq => limbBytes (poY A) wq
        repeat' (first | (apply St.bagSn 10 []; exact rfl; exact mixed; kernel_rfl) | (apply OpsS.nil) | (apply OpsS.b; rotate_left; exact rfl; exact z32b) | (apply OpsS.s (j := 6); exact rfl; exact rfl; exact rfl; (intro X f hX hfj; change Wl [_] _ _ _ _ _ _ _; apply Wl.catS; (repeat (first | apply CatB.nil | apply CatB.cons)))) | (apply OpsS.s (j := 7); exact rfl; exact rfl; exact rfl; (intro X f hX hfj; change Wl [_] _ _ _ _ _ _ _; apply Wl.catS; (repeat (first | apply CatB.nil | apply CatB.cons)))) | (apply OpsS.v; exact rfl; (intro X f hX; change Wl [_] _ _ _ _ _ _ _; apply Wl.catX; (repeat (first | apply CatB.nil | apply CatB.cons)))) | (apply Gt.endS; exact fun _ h => h) | (apply Gt.endX; exact rfl) | (apply ConS.nil) | (apply ConS.v) | (apply ConS.s) | (apply ConS.b1; exact rfl) | (apply EndS.new; intro c hc ho) | (apply EndS.off; exact rfl) | (apply EndS.st) | (apply EndS.nil'; apply Gt.catS; (repeat (first | apply CatB.nil | apply CatB.cons))) | (apply Wl.loadAH; exact rfl; exact rfl; (repeat (first | exact List.Mem.head _ | apply List.Mem.tail)); (first | exact ptC_x _ _ _ | exact ptC_y _ _ _ | exact ptC_z _ _ _ | exact poC_x _ _ _ | exact poC_y _ _ _ | exact poD_x _ | exact poD_y _ | exact LSub.whole (ptC_len _ _ _) | exact LSub.whole (poC_len _ _ _) | exact LSub.whole (poD_len _))) | (apply Wl.callQ (f := 81); exact rfl; (repeat (first | exact Evs.nil | apply Evs.cons rfl)); (intro wq hq; with_reducible first | refine (cBx wq).mono ?_ | refine (cBy wq).mono ?_); (rintro e wr ⟨rfl, hr⟩; exact ⟨rfl, hq.keep hr⟩)) | (apply Wl.storeW; exact rfl; exact rfl; (repeat (first | apply HSet.here | apply HSet.there)); exact rfl; (first | exact cellsN_len _ _ _ | exact rfl)) | (apply Wl.fieldAddr0; exact rfl; exact rfl) | (apply Wl.fieldAddrZ; exact rfl; exact rfl) | (apply Wl.nil) | (apply St.seq) | (apply Gt.next) | (apply Wl.splitP; exact rfl; exact rfl; all_goals (intros; try (exfalso; omega))) | (apply Wl.splitB; exact rfl; exact rfl; all_goals intros) | (apply St.condP; exact rfl; all_goals (intros; try (exfalso; omega))) | (apply St.condB; exact rfl; all_goals intros))
        rename_i ca hca hoa
        generalize c = cb at *
        have hcb : wr.heap.size ≤ cb := by assumption
        refine St.tree (fun _ => True) mixed (fun _ h => ⟨Hp.drew h, trivial⟩) ?_
        refine Mt.pure 0 (by decide +kernel) (by exact rfl) (by exact rfl) (by decide +kernel) (by decide +kernel) ?_
        repeat' (first | (apply Wl.sliceAll; exact rfl; exact rfl; (decide); exact rfl) | (apply Wl.nilM) | (apply Wl.splitP; exact rfl; exact rfl; all_goals (intros; try (exfalso; omega))) | (apply Wl.splitB; exact rfl; exact rfl; all_goals intros) | (apply St.condP; exact rfl; all_goals (intros; try (exfalso; omega))) | (apply St.condB; exact rfl; all_goals intros))
        apply Mt.back
        refine Mt.pure 1 (by decide +kernel) (by exact rfl) (by exact rfl) (by decide +kernel) (by decide +kernel) ?_
        repeat' (first | (apply Wl.sliceAll; exact rfl; exact rfl; (decide); exact rfl) | (apply Wl.nilM) | (apply Wl.splitP; exact rfl; exact rfl; all_goals (intros; try (exfalso; omega))) | (apply Wl.splitB; exact rfl; exact rfl; all_goals intros) | (apply St.condP; exact rfl; all_goals (intros; try (exfalso; omega))) | (apply St.condB; exact rfl; all_goals intros))
        apply Mt.back
        refine Mt.eff1 (i := 2) (by decide +kernel) (by exact rfl) ?_
        apply Wl.appendG (olds := byteCells (bL (poX A))) (news := byteCells (bL (poY A))) (n := 32) (m := 32)
        · exact rfl
        · exact rfl
        · exact rfl
        · rw [byteCells_length, bL_len]
        · intro wx hwx j u hj; rw [addLit]; rw [bL_bytes] at hj; exact hwx.cell (.tail _ (.head _)) (by simpa using hj)
        · rw [byteCells_length, bL_len]
        · intro wx hwx j u hj; rw [addLit]; rw [bL_bytes] at hj; exact hwx.cell (.head _) (by simpa using hj)
        · decide
        · exact rfl
        · decide
        · decide
        · decide
        intro v' w5 ho5 hp5 hof5
        have hb5 : Bo w5 w.heap.size v' (bL (poX A) ++ bL (poY A)) := Bo.lower (Bo.of (base := wr.heap.size) ho5 (by rw [bL_len, bL_len]) rfl) (by have := hu2.size; omega)
        have hu5 : Upd (fun k => w.heap.size ≤ k) w w5 := hpOn hp5 hu2 (by simp; omega)
        have hs5 := hp5.upd.size
        repeat' (first | (apply Wl.nil) | (apply Wl.splitP; exact rfl; exact rfl; all_goals (intros; try (exfalso; omega))) | (apply Wl.splitB; exact rfl; exact rfl; all_goals intros) | (apply St.condP; exact rfl; all_goals (intros; try (exfalso; omega))) | (apply St.condB; exact rfl; all_goals intros))
        refine Mt.backE (fun _ _ => trivial) ?_
        refine Mt.pure 3 (by decide +kernel) (by exact rfl) (by exact rfl) (by decide +kernel) (by decide +kernel) ?_
        repeat' (first | (apply Wl.assign; exact rfl; exact rfl) | (apply Wl.nilM) | (apply Wl.splitP; exact rfl; exact rfl; all_goals (intros; try (exfalso; omega))) | (apply Wl.splitB; exact rfl; exact rfl; all_goals intros) | (apply St.condP; exact rfl; all_goals (intros; try (exfalso; omega))) | (apply St.condB; exact rfl; all_goals intros))
        apply Mt.back
        refine Mt.pure 4 (by decide +kernel) (by exact rfl) (by exact rfl) (by decide +kernel) (by decide +kernel) ?_
        repeat' (first | (apply Wl.assign; exact rfl; exact rfl) | (apply Wl.nilM) | (apply Wl.splitP; exact rfl; exact rfl; all_goals (intros; try (exfalso; omega))) | (apply Wl.splitB; exact rfl; exact rfl; all_goals intros) | (apply St.condP; exact rfl; all_goals (intros; try (exfalso; omega))) | (apply St.condB; exact rfl; all_goals intros))
        apply Mt.back
        refine Mt.toGt (by decide +kernel) ?_
        repeat' (first | (apply St.ret) | (apply Gt.next) | (apply Gt.out2; exact rfl; exact rfl; exact rfl; intro w' hp) | (apply Wl.splitP; exact rfl; exact rfl; all_goals (intros; try (exfalso; omega))) | (apply Wl.splitB; exact rfl; exact rfl; all_goals intros) | (apply St.condP; exact rfl; all_goals (intros; try (exfalso; omega))) | (apply St.condB; exact rfl; all_goals intros))
        exact ⟨_, rfl, hb5.upd hp.upd (fun k hk hs => hs (hof5 k hk)), hpOn hp hu5 (by simp; omega)⟩
      · repeat' (first | (apply Wl.allocC (t := 32); exact rfl; exact zPo; intro c hc ho) | (apply Wl.nil) | (apply Wl.splitP; exact rfl; exact rfl; all_goals (intros; try (exfalso; omega))) | (apply Wl.splitB; exact rfl; exact rfl; all_goals intros) | (apply St.condP; exact rfl; all_goals (intros; try (exfalso; omega))) | (apply St.condB; exact rfl; all_goals intros))
        generalize c = cP at *
        have hcc : wr.heap.size ≤ cP := by assumption
        refine Mt.backE (fun u h => hpTr hqr (hpPopS h hcc)) ?_
        refine Mt.eff1 (i := 3) (by decide +kernel) (by exact rfl) ?_
        repeat' (first | (apply Wl.callQ (f := 80); exact rfl; (repeat (first | exact Evs.nil | apply Evs.cons rfl)); (intro wq hq; refine ((hA ▸ curMultG k bm n wq (hV.hp hq (by (repeat (first | exact trivial | exact hX.off (by omega) | refine ⟨by first | assumption | omega | (simp only; omega), ?_⟩))) (by (repeat (first | exact trivial | exact hX.off (by omega) | refine ⟨by first | assumption | omega | (simp only; omega), ?_⟩)))) hnW)).mono ?_; rintro e wr ⟨rfl, hr⟩; exact ⟨rfl, hq.keep hr⟩)) | (apply Wl.nil) | (apply Wl.splitP; exact rfl; exact rfl; all_goals (intros; try (exfalso; omega))) | (apply Wl.splitB; exact rfl; exact rfl; all_goals intros) | (apply St.condP; exact rfl; all_goals (intros; try (exfalso; omega))) | (apply St.condB; exact rfl; all_goals intros))
        refine Mt.backE (fun u h => hpTr hqr (hpPopS h hcc)) ?_
        refine Mt.eff1 (i := 5) (by decide +kernel) (by exact rfl) ?_
        repeat' (first | (apply Wl.storeAll; exact rfl; exact rfl; (repeat (first | apply HSet.here | apply HSet.there)); (first | exact ptC_len _ _ _ | exact poC_len _ _ _ | exact poD_len _); (first | exact rfl | exact ptC_len _ _ _ | exact poC_len _ _ _ | exact poD_len _); (first | exact ptC_one _ _ _ | exact poC_one _ _ _ | exact poD_one _)) | (apply Wl.nil) | (apply Wl.splitP; exact rfl; exact rfl; all_goals (intros; try (exfalso; omega))) | (apply Wl.splitB; exact rfl; exact rfl; all_goals intros) | (apply St.condP; exact rfl; all_goals (intros; try (exfalso; omega))) | (apply St.condB; exact rfl; all_goals intros))
        refine Mt.backE (fun u h => hpTr hqr (hpPopS h hcc)) ?_
        refine Mt.toGt (by decide +kernel) ?_
        have cBx := fun wq => limbBytes (poX A) wq
        have cBy := fun wq => limbBytes (poY A) wq
        repeat' (first | (apply St.bagSn 10 []; exact rfl; exact mixed; kernel_rfl) | (apply OpsS.nil) | (apply OpsS.b; rotate_left; exact rfl; exact z32b) | (apply OpsS.s (j := 6); exact rfl; exact rfl; exact rfl; (intro X f hX hfj; change Wl [_] _ _ _ _ _ _ _; apply Wl.catS; (repeat (first | apply CatB.nil | apply CatB.cons)))) | (apply OpsS.s (j := 7); exact rfl; exact rfl; exact rfl; (intro X f hX hfj; change Wl [_] _ _ _ _ _ _ _; apply Wl.catS; (repeat (first | apply CatB.nil | apply CatB.cons)))) | (apply OpsS.v; exact rfl; (intro X f hX; change Wl [_] _ _ _ _ _ _ _; apply Wl.catX; (repeat (first | apply CatB.nil | apply CatB.cons)))) | (apply Gt.endS; exact fun _ h => h) | (apply Gt.endX; exact rfl) | (apply ConS.nil) | (apply ConS.v) | (apply ConS.s) | (apply ConS.b1; exact rfl) | (apply EndS.new; intro c hc ho) | (apply EndS.off; exact rfl) | (apply EndS.st) | (apply EndS.nil'; apply Gt.catS; (repeat (first | apply CatB.nil | apply CatB.cons))) | (apply Wl.loadAH; exact rfl; exact rfl; (repeat (first | exact List.Mem.head _ | apply List.Mem.tail)); (first | exact ptC_x _ _ _ | exact ptC_y _ _ _ | exact ptC_z _ _ _ | exact poC_x _ _ _ | exact poC_y _ _ _ | exact poD_x _ | exact poD_y _ | exact LSub.whole (ptC_len _ _ _) | exact LSub.whole (poC_len _ _ _) | exact LSub.whole (poD_len _))) | (apply Wl.callQ (f := 81); exact rfl; (repeat (first | exact Evs.nil | apply Evs.cons rfl)); (intro wq hq; with_reducible first | refine (cBx wq).mono ?_ | refine (cBy wq).mono ?_); (rintro e wr ⟨rfl, hr⟩; exact ⟨rfl, hq.keep hr⟩)) | (apply Wl.storeW; exact rfl; exact rfl; (repeat (first | apply HSet.here | apply HSet.there)); exact rfl; (first | exact cellsN_len _ _ _ | exact rfl)) | (apply Wl.fieldAddr0; exact rfl; exact rfl) | (apply Wl.fieldAddrZ; exact rfl; exact rfl) | (apply Wl.nil) | (apply St.seq) | (apply Gt.next) | (apply Wl.splitP; exact rfl; exact rfl; all_goals (intros; try (exfalso; omega))) | (apply Wl.splitB; exact rfl; exact rfl; all_goals intros) | (apply St.condP; exact rfl; all_goals (intros; try (exfalso; omega))) | (apply St.condB; exact rfl; all_goals intros))
        rename_i ca hca hoa
        generalize c = cb at *
        have hcb : wr.heap.size ≤ cb := by assumption
        refine St.tree (fun _ => True) mixed (fun _ h => ⟨Hp.drew h, trivial⟩) ?_
        refine Mt.pure 0 (by decide +kernel) (by exact rfl) (by exact rfl) (by decide +kernel) (by decide +kernel) ?_
        repeat' (first | (apply Wl.sliceAll; exact rfl; exact rfl; (decide); exact rfl) | (apply Wl.nilM) | (apply Wl.splitP; exact rfl; exact rfl; all_goals (intros; try (exfalso; omega))) | (apply Wl.splitB; exact rfl; exact rfl; all_goals intros) | (apply St.condP; exact rfl; all_goals (intros; try (exfalso; omega))) | (apply St.condB; exact rfl; all_goals intros))
        apply Mt.back
        refine Mt.pure 1 (by decide +kernel) (by exact rfl) (by exact rfl) (by decide +kernel) (by decide +kernel) ?_
        repeat' (first | (apply Wl.sliceAll; exact rfl; exact rfl; (decide); exact rfl) | (apply Wl.nilM) | (apply Wl.splitP; exact rfl; exact rfl; all_goals (intros; try (exfalso; omega))) | (apply Wl.splitB; exact rfl; exact rfl; all_goals intros) | (apply St.condP; exact rfl; all_goals (intros; try (exfalso; omega))) | (apply St.condB; exact rfl; all_goals intros))
        apply Mt.back
        refine Mt.eff1 (i := 2) (by decide +kernel) (by exact rfl) ?_
        apply Wl.appendG (olds := byteCells (bL (poX A))) (news := byteCells (bL (poY A))) (n := 32) (m := 32)
        · exact rfl
        · exact rfl
        · exact rfl
        · rw [byteCells_length, bL_len]
        · intro wx hwx j u hj; rw [addLit]; rw [bL_bytes] at hj; exact hwx.cell (.tail _ (.head _)) (by simpa using hj)
        · rw [byteCells_length, bL_len]
        · intro wx hwx j u hj; rw [addLit]; rw [bL_bytes] at hj; exact hwx.cell (.head _) (by simpa using hj)
        · decide
        · exact rfl
        · decide
        · decide
        · decide
        intro v' w5 ho5 hp5 hof5
        have hb5 : Bo w5 w.heap.size v' (bL (poX A) ++ bL (poY A)) := Bo.lower (Bo.of (base := wr.heap.size) ho5 (by rw [bL_len, bL_len]) rfl) (by have := hu2.size; omega)
        have hu5 : Upd (fun k => w.heap.size ≤ k) w w5 := hpOn hp5 hu2 (by simp; omega)
        have hs5 := hp5.upd.size
        repeat' (first | (apply Wl.nil) | (apply Wl.splitP; exact rfl; exact rfl; all_goals (intros; try (exfalso; omega))) | (apply Wl.splitB; exact rfl; exact rfl; all_goals intros) | (apply St.condP; exact rfl; all_goals (intros; try (exfalso; omega))) | (apply St.condB; exact rfl; all_goals intros))
        refine Mt.backE (fun _ _ => trivial) ?_
        refine Mt.pure 3 (by decide +kernel) (by exact rfl) (by exact rfl) (by decide +kernel) (by decide +kernel) ?_
        repeat' (first | (apply Wl.assign; exact rfl; exact rfl) | (apply Wl.nilM) | (apply Wl.splitP; exact rfl; exact rfl; all_goals (intros; try (exfalso; omega))) | (apply Wl.splitB; exact rfl; exact rfl; all_goals intros) | (apply St.condP; exact rfl; all_goals (intros; try (exfalso; omega))) | (apply St.condB; exact rfl; all_goals intros))
        apply Mt.back
        refine Mt.pure 4 (by decide +kernel) (by exact rfl) (by exact rfl) (by decide +kernel) (by decide +kernel) ?_
        repeat' (first | (apply Wl.assign; exact rfl; exact rfl) | (apply Wl.nilM) | (apply Wl.splitP; exact rfl; exact rfl; all_goals (intros; try (exfalso; omega))) | (apply Wl.splitB; exact rfl; exact rfl; all_goals intros) | (apply St.condP; exact rfl; all_goals (intros; try (exfalso; omega))) | (apply St.condB; exact rfl; all_goals intros))
        apply Mt.back
        refine Mt.toGt (by decide +kernel) ?_
        repeat' (first | (apply St.ret) | (apply Gt.next) | (apply Gt.out2; exact rfl; exact rfl; exact rfl; intro w' hp) | (apply Wl.splitP; exact rfl; exact rfl; all_goals (intros; try (exfalso; omega))) | (apply Wl.splitB; exact rfl; exact rfl; all_goals intros) | (apply St.condP; exact rfl; all_goals (intros; try (exfalso; omega))) | (apply St.condB; exact rfl; all_goals intros))
        exact ⟨_, rfl, hb5.upd hp.upd (fun k hk hs => hs (hof5 k hk)), hpOn hp hu5 (by simp; omega)⟩
    · repeat' (first | (apply Wl.allocC (t := 32); exact rfl; exact zPo; intro c hc ho) | (apply Wl.nil) | (apply Wl.splitP; exact rfl; exact rfl; all_goals (intros; try (exfalso; omega))) | (apply Wl.splitB; exact rfl; exact rfl; all_goals intros) | (apply St.condP; exact rfl; all_goals (intros; try (exfalso; omega))) | (apply St.condB; exact rfl; all_goals intros))
      generalize c = cP at *
      have hcc : wr.heap.size ≤ cP := by assumption
      refine Mt.backE (fun u h => hpTr hqr (hpPopS h hcc)) ?_
      refine Mt.eff1 (i := 2) (by decide +kernel) (by exact rfl) ?_
      repeat' (first | (apply Wl.callQ (f := 30); exact rfl; (repeat (first | exact Evs.nil | apply Evs.cons rfl)); (intro wq hq; refine (curBase wq).mono ?_; rintro e wr ⟨rfl, hr⟩; exact ⟨rfl, hq.keep hr⟩)) | (apply Wl.nil) | (apply Wl.splitP; exact rfl; exact rfl; all_goals (intros; try (exfalso; omega))) | (apply Wl.splitB; exact rfl; exact rfl; all_goals intros) | (apply St.condP; exact rfl; all_goals (intros; try (exfalso; omega))) | (apply St.condB; exact rfl; all_goals intros))
      refine Mt.backE (fun u h => hpTr hqr (hpPopS h hcc)) ?_
      refine Mt.eff1 (i := 3) (by decide +kernel) (by exact rfl) ?_
      repeat' (first | (apply Wl.callQ (f := 80); exact rfl; (repeat (first | exact Evs.nil | apply Evs.cons rfl)); (intro wq hq; refine ((hA ▸ curMultG k bm n wq (hV.hp hq (by (repeat (first | exact trivial | exact hX.off (by omega) | refine ⟨by first | assumption | omega | (simp only; omega), ?_⟩))) (by (repeat (first | exact trivial | exact hX.off (by omega) | refine ⟨by first | assumption | omega | (simp only; omega), ?_⟩)))) hnW)).mono ?_; rintro e wr ⟨rfl, hr⟩; exact ⟨rfl, hq.keep hr⟩)) | (apply Wl.nil) | (apply Wl.splitP; exact rfl; exact rfl; all_goals (intros; try (exfalso; omega))) | (apply Wl.splitB; exact rfl; exact rfl; all_goals intros) | (apply St.condP; exact rfl; all_goals (intros; try (exfalso; omega))) | (apply St.condB; exact rfl; all_goals intros))
      refine Mt.backE (fun u h => hpTr hqr (hpPopS h hcc)) ?_
      refine Mt.eff1 (i := 5) (by decide +kernel) (by exact rfl) ?_
      repeat' (first | (apply Wl.storeAll; exact rfl; exact rfl; (repeat (first | apply HSet.here | apply HSet.there)); (first | exact ptC_len _ _ _ | exact poC_len _ _ _ | exact poD_len _); (first | exact rfl | exact ptC_len _ _ _ | exact poC_len _ _ _ | exact poD_len _); (first | exact ptC_one _ _ _ | exact poC_one _ _ _ | exact poD_one _)) | (apply Wl.nil) | (apply Wl.splitP; exact rfl; exact rfl; all_goals (intros; try (exfalso; omega))) | (apply Wl.splitB; exact rfl; exact rfl; all_goals intros) | (apply St.condP; exact rfl; all_goals (intros; try (exfalso; omega))) | (apply St.condB; exact rfl; all_goals intros))
      refine Mt.backE (fun u h => hpTr hqr (hpPopS h hcc)) ?_
      refine Mt.toGt (by decide +kernel) ?_
      have cBx := fun wq => limbBytes (poX A) wq
      have cBy := fun wq => limbBytes (poY A) wq
      repeat' (first | (apply St.bagSn 10 []; exact rfl; exact mixed; kernel_rfl) | (apply OpsS.nil) | (apply OpsS.b; rotate_left; exact rfl; exact z32b) | (apply OpsS.s (j := 6); exact rfl; exact rfl; exact rfl; (intro X f hX hfj; change Wl [_] _ _ _ _ _ _ _; apply Wl.catS; (repeat (first | apply CatB.nil | apply CatB.cons)))) | (apply OpsS.s (j := 7); exact rfl; exact rfl; exact rfl; (intro X f hX hfj; change Wl [_] _ _ _ _ _ _ _; apply Wl.catS; (repeat (first | apply CatB.nil | apply CatB.cons)))) | (apply OpsS.v; exact rfl; (intro X f hX; change Wl [_] _ _ _ _ _ _ _; apply Wl.catX; (repeat (first | apply CatB.nil | apply CatB.cons)))) | (apply Gt.endS; exact fun _ h => h) | (apply Gt.endX; exact rfl) | (apply ConS.nil) | (apply ConS.v) | (apply ConS.s) | (apply ConS.b1; exact rfl) | (apply EndS.new; intro c hc ho) | (apply EndS.off; exact rfl) | (apply EndS.st) | (apply EndS.nil'; apply Gt.catS; (repeat (first | apply CatB.nil | apply CatB.cons))) | (apply Wl.loadAH; exact rfl; exact rfl; (repeat (first | exact List.Mem.head _ | apply List.Mem.tail)); (first | exact ptC_x _ _ _ | exact ptC_y _ _ _ | exact ptC_z _ _ _ | exact poC_x _ _ _ | exact poC_y _ _ _ | exact poD_x _ | exact poD_y _ | exact LSub.whole (ptC_len _ _ _) | exact LSub.whole (poC_len _ _ _) | exact LSub.whole (poD_len _))) | (apply Wl.callQ (f := 81); exact rfl; (repeat (first | exact Evs.nil | apply Evs.cons rfl)); (intro wq hq; with_reducible first | refine (cBx wq).mono ?_ | refine (cBy wq).mono ?_); (rintro e wr ⟨rfl, hr⟩; exact ⟨rfl, hq.keep hr⟩)) | (apply Wl.storeW; exact rfl; exact rfl; (repeat (first | apply HSet.here | apply HSet.there)); exact rfl; (first | exact cellsN_len _ _ _ | exact rfl)) | (apply Wl.fieldAddr0; exact rfl; exact rfl) | (apply Wl.fieldAddrZ; exact rfl; exact rfl) | (apply Wl.nil) | (apply St.seq) | (apply Gt.next) | (apply Wl.splitP; exact rfl; exact rfl; all_goals (intros; try (exfalso; omega))) | (apply Wl.splitB; exact rfl; exact rfl; all_goals intros) | (apply St.condP; exact rfl; all_goals (intros; try (exfalso; omega))) | (apply St.condB; exact rfl; all_goals intros))
      rename_i ca hca hoa
      generalize c = cb at *
      have hcb : wr.heap.size ≤ cb := by assumption
      refine St.tree (fun _ => True) mixed (fun _ h => ⟨Hp.drew h, trivial⟩) ?_
      refine Mt.pure 0 (by decide +kernel) (by exact rfl) (by exact rfl) (by decide +kernel) (by decide +kernel) ?_
      repeat' (first | (apply Wl.sliceAll; exact rfl; exact rfl; (decide); exact rfl) | (apply Wl.nilM) | (apply Wl.splitP; exact rfl; exact rfl; all_goals (intros; try (exfalso; omega))) | (apply Wl.splitB; exact rfl; exact rfl; all_goals intros) | (apply St.condP; exact rfl; all_goals (intros; try (exfalso; omega))) | (apply St.condB; exact rfl; all_goals intros))
      apply Mt.back
      refine Mt.pure 1 (by decide +kernel) (by exact rfl) (by exact rfl) (by decide +kernel) (by decide +kernel) ?_
      repeat' (first | (apply Wl.sliceAll; exact rfl; exact rfl; (decide); exact rfl) | (apply Wl.nilM) | (apply Wl.splitP; exact rfl; exact rfl; all_goals (intros; try (exfalso; omega))) | (apply Wl.splitB; exact rfl; exact rfl; all_goals intros) | (apply St.condP; exact rfl; all_goals (intros; try (exfalso; omega))) | (apply St.condB; exact rfl; all_goals intros))
      apply Mt.back
      refine Mt.eff1 (i := 2) (by decide +kernel) (by exact rfl) ?_
      apply Wl.appendG (olds := byteCells (bL (poX A))) (news := byteCells (bL (poY A))) (n := 32) (m := 32)
      · exact rfl
      · exact rfl
      · exact rfl
      · rw [byteCells_length, bL_len]
      · intro wx hwx j u hj; rw [addLit]; rw [bL_bytes] at hj; exact hwx.cell (.tail _ (.head _)) (by simpa using hj)
      · rw [byteCells_length, bL_len]
      · intro wx hwx j u hj; rw [addLit]; rw [bL_bytes] at hj; exact hwx.cell (.head _) (by simpa using hj)
      · decide
      · exact rfl
      · decide
      · decide
      · decide
      intro v' w5 ho5 hp5 hof5
      have hb5 : Bo w5 w.heap.size v' (bL (poX A) ++ bL (poY A)) := Bo.lower (Bo.of (base := wr.heap.size) ho5 (by rw [bL_len, bL_len]) rfl) (by have := hu2.size; omega)
      have hu5 : Upd (fun k => w.heap.size ≤ k) w w5 := hpOn hp5 hu2 (by simp; omega)
      have hs5 := hp5.upd.size
      repeat' (first | (apply Wl.nil) | (apply Wl.splitP; exact rfl; exact rfl; all_goals (intros; try (exfalso; omega))) | (apply Wl.splitB; exact rfl; exact rfl; all_goals intros) | (apply St.condP; exact rfl; all_goals (intros; try (exfalso; omega))) | (apply St.condB; exact rfl; all_goals intros))
      refine Mt.backE (fun _ _ => trivial) ?_
      refine Mt.pure 3 (by decide +kernel) (by exact rfl) (by exact rfl) (by decide +kernel) (by decide +kernel) ?_
      repeat' (first | (apply Wl.assign; exact rfl; exact rfl) | (apply Wl.nilM) | (apply Wl.splitP; exact rfl; exact rfl; all_goals (intros; try (exfalso; omega))) | (apply Wl.splitB; exact rfl; exact rfl; all_goals intros) | (apply St.condP; exact rfl; all_goals (intros; try (exfalso; omega))) | (apply St.condB; exact rfl; all_goals intros))
      apply Mt.back
      refine Mt.pure 4 (by decide +kernel) (by exact rfl) (by exact rfl) (by decide +kernel) (by decide +kernel) ?_
      repeat' (first | (apply Wl.assign; exact rfl; exact rfl) | (apply Wl.nilM) | (apply Wl.splitP; exact rfl; exact rfl; all_goals (intros; try (exfalso; omega))) | (apply Wl.splitB; exact rfl; exact rfl; all_goals intros) | (apply St.condP; exact rfl; all_goals (intros; try (exfalso; omega))) | (apply St.condB; exact rfl; all_goals intros))
      apply Mt.back
      refine Mt.toGt (by decide +kernel) ?_
      repeat' (first | (apply St.ret) | (apply Gt.next) | (apply Gt.out2; exact rfl; exact rfl; exact rfl; intro w' hp) | (apply Wl.splitP; exact rfl; exact rfl; all_goals (intros; try (exfalso; omega))) | (apply Wl.splitB; exact rfl; exact rfl; all_goals intros) | (apply St.condP; exact rfl; all_goals (intros; try (exfalso; omega))) | (apply St.condB; exact rfl; all_goals intros))
      exact ⟨_, rfl, hb5.upd hp.upd (fun k hk hs => hs (hof5 k hk)), hpOn hp hu5 (by simp; omega)⟩
  · repeat' (first | (apply Wl.allocC (t := 32); exact rfl; exact zPo; intro c hc ho) | (apply Wl.nil) | (apply Wl.splitP; exact rfl; exact rfl; all_goals (intros; try (exfalso; omega))) | (apply Wl.splitB; exact rfl; exact rfl; all_goals intros) | (apply St.condP; exact rfl; all_goals (intros; try (exfalso; omega))) | (apply St.condB; exact rfl; all_goals intros))
    generalize c = cP at *
    have hcc : w.heap.size ≤ cP := by assumption
    refine Mt.backE (fun u h => hpPopS h hcc) ?_
    refine Mt.eff1 (i := 0) (by decide +kernel) (by exact rfl) ?_
    apply Wl.callC
    · exact rfl
    · (repeat (first | exact Evs.nil | apply Evs.cons rfl))
    intro wq hq
    refine (curNew wq).mono ?_
    rintro e wr ⟨k, bm, rfl, hk, hbm, hV, hr⟩
    have hqr := hq.keep hr
    refine ⟨_, _, rfl, hpRb hqr, ?_⟩
    have hszq := hq.upd.size
    have hszr := hr.upd.size
    have hall := fun x hx => hq.own.lt (x := x) hx
    simp only [List.mem_cons, List.not_mem_nil, or_false, forall_eq_or_imp, forall_eq] at hall
    have hu2 : Upd (fun k => w.heap.size ≤ k) w wr := hpOn hqr hu (by simp; omega)
    obtain ⟨hkl, hbl⟩ := hV.lt
    clear hq hr
    repeat' (first | (apply Wl.nil) | (apply Wl.splitP; exact rfl; exact rfl; all_goals (intros; try (exfalso; omega))) | (apply Wl.splitB; exact rfl; exact rfl; all_goals intros) | (apply St.condP; exact rfl; all_goals (intros; try (exfalso; omega))) | (apply St.condB; exact rfl; all_goals intros))
    refine Mt.backE (fun u h => hpPopS (hpTr hqr h) hcc) ?_
    refine Mt.eff1 (i := 2) (by decide +kernel) (by exact rfl) ?_
    repeat' (first | (apply Wl.callQ (f := 30); exact rfl; (repeat (first | exact Evs.nil | apply Evs.cons rfl)); (intro wq hq; refine (curBase wq).mono ?_; rintro e wr ⟨rfl, hr⟩; exact ⟨rfl, hq.keep hr⟩)) | (apply Wl.nil) | (apply Wl.splitP; exact rfl; exact rfl; all_goals (intros; try (exfalso; omega))) | (apply Wl.splitB; exact rfl; exact rfl; all_goals intros) | (apply St.condP; exact rfl; all_goals (intros; try (exfalso; omega))) | (apply St.condB; exact rfl; all_goals intros))
    refine Mt.backE (fun u h => hpPopS (hpTr hqr h) hcc) ?_
    refine Mt.eff1 (i := 3) (by decide +kernel) (by exact rfl) ?_
    repeat' (first | (apply Wl.callQ (f := 80); exact rfl; (repeat (first | exact Evs.nil | apply Evs.cons rfl)); (intro wq hq; refine ((hA ▸ curMultG k bm n wq (hV.hp hq (by (repeat (first | exact trivial | exact hX.off (by omega) | refine ⟨by first | assumption | omega | (simp only; omega), ?_⟩))) (by (repeat (first | exact trivial | exact hX.off (by omega) | refine ⟨by first | assumption | omega | (simp only; omega), ?_⟩)))) hnW)).mono ?_; rintro e wr ⟨rfl, hr⟩; exact ⟨rfl, hq.keep hr⟩)) | (apply Wl.nil) | (apply Wl.splitP; exact rfl; exact rfl; all_goals (intros; try (exfalso; omega))) | (apply Wl.splitB; exact rfl; exact rfl; all_goals intros) | (apply St.condP; exact rfl; all_goals (intros; try (exfalso; omega))) | (apply St.condB; exact rfl; all_goals intros))
    refine Mt.backE (fun u h => hpPopS (hpTr hqr h) hcc) ?_
    refine Mt.eff1 (i := 5) (by decide +kernel) (by exact rfl) ?_
    repeat' (first | (apply Wl.storeAll; exact rfl; exact rfl; (repeat (first | apply HSet.here | apply HSet.there)); (first | exact ptC_len _ _ _ | exact poC_len _ _ _ | exact poD_len _); (first | exact rfl | exact ptC_len _ _ _ | exact poC_len _ _ _ | exact poD_len _); (first | exact ptC_one _ _ _ | exact poC_one _ _ _ | exact poD_one _)) | (apply Wl.nil) | (apply Wl.splitP; exact rfl; exact rfl; all_goals (intros; try (exfalso; omega))) | (apply Wl.splitB; exact rfl; exact rfl; all_goals intros) | (apply St.condP; exact rfl; all_goals (intros; try (exfalso; omega))) | (apply St.condB; exact rfl; all_goals intros))
    refine Mt.backE (fun u h => hpTrS2 (c := cP) hqr h hcc) ?_
    refine Mt.toGt (by decide +kernel) ?_
    have cBx := fun wq => limbBytes (poX A) wq
    have cBy := fun wq => limbBytes (poY A) wq
    repeat' (first | (apply St.bagSn 10 []; exact rfl; exact mixed; kernel_rfl) | (apply OpsS.nil) | (apply OpsS.b; rotate_left; exact rfl; exact z32b) | (apply OpsS.s (j := 6); exact rfl; exact rfl; exact rfl; (intro X f hX hfj; change Wl [_] _ _ _ _ _ _ _; apply Wl.catS; (repeat (first | apply CatB.nil | apply CatB.cons)))) | (apply OpsS.s (j := 7); exact rfl; exact rfl; exact rfl; (intro X f hX hfj; change Wl [_] _ _ _ _ _ _ _; apply Wl.catS; (repeat (first | apply CatB.nil | apply CatB.cons)))) | (apply OpsS.v; exact rfl; (intro X f hX; change Wl [_] _ _ _ _ _ _ _; apply Wl.catX; (repeat (first | apply CatB.nil | apply CatB.cons)))) | (apply Gt.endS; exact fun _ h => h) | (apply Gt.endX; exact rfl) | (apply ConS.nil) | (apply ConS.v) | (apply ConS.s) | (apply ConS.b1; exact rfl) | (apply EndS.new; intro c hc ho) | (apply EndS.off; exact rfl) | (apply EndS.st) | (apply EndS.nil'; apply Gt.catS; (repeat (first | apply CatB.nil | apply CatB.cons))) | (apply Wl.loadAH; exact rfl; exact rfl; (repeat (first | exact List.Mem.head _ | apply List.Mem.tail)); (first | exact ptC_x _ _ _ | exact ptC_y _ _ _ | exact ptC_z _ _ _ | exact poC_x _ _ _ | exact poC_y _ _ _ | exact poD_x _ | exact poD_y _ | exact LSub.whole (ptC_len _ _ _) | exact LSub.whole (poC_len _ _ _) | exact LSub.whole (poD_len _))) | (apply Wl.callQ (f := 81); exact rfl; (repeat (first | exact Evs.nil | apply Evs.cons rfl)); (intro wq hq; with_reducible first | refine (cBx wq).mono ?_ | refine (cBy wq).mono ?_); (rintro e wr ⟨rfl, hr⟩; exact ⟨rfl, hq.keep hr⟩)) | (apply Wl.storeW; exact rfl; exact rfl; (repeat (first | apply HSet.here | apply HSet.there)); exact rfl; (first | exact cellsN_len _ _ _ | exact rfl)) | (apply Wl.fieldAddr0; exact rfl; exact rfl) | (apply Wl.fieldAddrZ; exact rfl; exact rfl) | (apply Wl.nil) | (apply St.seq) | (apply Gt.next) | (apply Wl.splitP; exact rfl; exact rfl; all_goals (intros; try (exfalso; omega))) | (apply Wl.splitB; exact rfl; exact rfl; all_goals intros) | (apply St.condP; exact rfl; all_goals (intros; try (exfalso; omega))) | (apply St.condB; exact rfl; all_goals intros))
    rename_i ca hca hoa
    generalize c = cb at *
    have hcb : wr.heap.size ≤ cb := by assumption
    refine St.tree (fun _ => True) mixed (fun _ h => ⟨Hp.drew h, trivial⟩) ?_
    refine Mt.pure 0 (by decide +kernel) (by exact rfl) (by exact rfl) (by decide +kernel) (by decide +kernel) ?_
    repeat' (first | (apply Wl.sliceAll; exact rfl; exact rfl; (decide); exact rfl) | (apply Wl.nilM) | (apply Wl.splitP; exact rfl; exact rfl; all_goals (intros; try (exfalso; omega))) | (apply Wl.splitB; exact rfl; exact rfl; all_goals intros) | (apply St.condP; exact rfl; all_goals (intros; try (exfalso; omega))) | (apply St.condB; exact rfl; all_goals intros))
    apply Mt.back
    refine Mt.pure 1 (by decide +kernel) (by exact rfl) (by exact rfl) (by decide +kernel) (by decide +kernel) ?_
    repeat' (first | (apply Wl.sliceAll; exact rfl; exact rfl; (decide); exact rfl) | (apply Wl.nilM) | (apply Wl.splitP; exact rfl; exact rfl; all_goals (intros; try (exfalso; omega))) | (apply Wl.splitB; exact rfl; exact rfl; all_goals intros) | (apply St.condP; exact rfl; all_goals (intros; try (exfalso; omega))) | (apply St.condB; exact rfl; all_goals intros))
    apply Mt.back
    refine Mt.eff1 (i := 2) (by decide +kernel) (by exact rfl) ?_
    apply Wl.appendG (olds := byteCells (bL (poX A))) (news := byteCells (bL (poY A))) (n := 32) (m := 32)
    · exact rfl
    · exact rfl
    · exact rfl
    · rw [byteCells_length, bL_len]
    · intro wx hwx j u hj; rw [addLit]; rw [bL_bytes] at hj; exact hwx.cell (.tail _ (.head _)) (by simpa using hj)
    · rw [byteCells_length, bL_len]
    · intro wx hwx j u hj; rw [addLit]; rw [bL_bytes] at hj; exact hwx.cell (.head _) (by simpa using hj)
    · decide
    · exact rfl
    · decide
    · decide
    · decide
    intro v' w5 ho5 hp5 hof5
    have hb5 : Bo w5 w.heap.size v' (bL (poX A) ++ bL (poY A)) := Bo.lower (Bo.of (base := wr.heap.size) ho5 (by rw [bL_len, bL_len]) rfl) (by have := hu2.size; omega)
    have hu5 : Upd (fun k => w.heap.size ≤ k) w w5 := hpOn hp5 hu2 (by simp; omega)
    have hs5 := hp5.upd.size
    repeat' (first | (apply Wl.nil) | (apply Wl.splitP; exact rfl; exact rfl; all_goals (intros; try (exfalso; omega))) | (apply Wl.splitB; exact rfl; exact rfl; all_goals intros) | (apply St.condP; exact rfl; all_goals (intros; try (exfalso; omega))) | (apply St.condB; exact rfl; all_goals intros))
    refine Mt.backE (fun _ _ => trivial) ?_
    refine Mt.pure 3 (by decide +kernel) (by exact rfl) (by exact rfl) (by decide +kernel) (by decide +kernel) ?_
    repeat' (first | (apply Wl.assign; exact rfl; exact rfl) | (apply Wl.nilM) | (apply Wl.splitP; exact rfl; exact rfl; all_goals (intros; try (exfalso; omega))) | (apply Wl.splitB; exact rfl; exact rfl; all_goals intros) | (apply St.condP; exact rfl; all_goals (intros; try (exfalso; omega))) | (apply St.condB; exact rfl; all_goals intros))
    apply Mt.back
    refine Mt.pure 4 (by decide +kernel) (by exact rfl) (by exact rfl) (by decide +kernel) (by decide +kernel) ?_
    repeat' (first | (apply Wl.assign; exact rfl; exact rfl) | (apply Wl.nilM) | (apply Wl.splitP; exact rfl; exact rfl; all_goals (intros; try (exfalso; omega))) | (apply Wl.splitB; exact rfl; exact rfl; all_goals intros) | (apply St.condP; exact rfl; all_goals (intros; try (exfalso; omega))) | (apply St.condB; exact rfl; all_goals intros))
    apply Mt.back
    refine Mt.toGt (by decide +kernel) ?_
    repeat' (first | (apply St.ret) | (apply Gt.next) | (apply Gt.out2; exact rfl; exact rfl; exact rfl; intro w' hp) | (apply Wl.splitP; exact rfl; exact rfl; all_goals (intros; try (exfalso; omega))) | (apply Wl.splitB; exact rfl; exact rfl; all_goals intros) | (apply St.condP; exact rfl; all_goals (intros; try (exfalso; omega))) | (apply St.condB; exact rfl; all_goals intros))
    exact ⟨_, rfl, hb5.upd hp.upd (fun k hk hs => hs (hof5 k hk)), hpOn hp hu5 (by simp; omega)⟩
/-- the number that is drawn -/
def drawK (x h : Nat) : List UInt8 := macB (stp x h 2).1 (stp x h 2).2
set_option maxHeartbeats 16000000 in
theorem sealSign (v mv : Value) (l m : List UInt8) (w : World) (hK : ArrAt w 0 0 .u32 64 Sha.K) (hv : Bs w v l) (hl : l.length = 32) (hok : okS (rdL l) = true) (hm : Bs w mv m) (hmn : m.length < 100000000)
    (k R S : Nat) (hk : k = rdL (drawK (rdL l) (eN m))) (hkok : okS k = true) (hR : R = poX (sm3 k (some curG)) % Prim.N256) (hR0 : R ≠ 0) (hS : S = (eN m + R * rdL l % Prim.N256) % Prim.N256 * pwm Prim.N256 k (Prim.N256 - 2) % Prim.N256) (hS0 : S ≠ 0) :
    Calls Tryd.prog 47 #[v, mv] w fun e w' => ∃ x, e = .returned (.tuple #[x, .int .i64 0]) ∧ Bo w' w.heap.size x (bL R ++ bL S) ∧ Upd (fun k => w.heap.size ≤ k) w w' := by
  have h0K := hK.lt (by decide)
  have hnW := rdL_lt l
  have h0N : 0 < Prim.N256 := by decide +kernel
  have h2N : 2 < Prim.N256 := by decide +kernel
  have hxN : rdL l < Prim.N256 := by
    unfold okS at hok
    rw [Bool.and_eq_true] at hok
    exact of_decide_eq_true hok.2
  have hkW : k < W256 := hk ▸ rdL_lt _
  refine enter (args := [_, _]) (Γ := [(0, _), (1, _)]) Tryd.func47 Tryd.ntmps47 rfl (of_decide_eq_true rfl) (.cons rfl (.cons rfl .nil)) ?_
  repeat' (first | (apply Wl.callQ (f := 79); exact rfl; (repeat (first | exact Evs.nil | apply Evs.cons rfl)); (intro wq hq; refine (sealSecret v l wq (bsNew hv hq (by simp)) hl hok).mono ?_; rintro e wr ⟨rfl, hr⟩; exact ⟨rfl, hq.keep hr⟩)) | (apply Wl.callQ (f := 22); exact rfl; (repeat (first | exact Evs.nil | apply Evs.cons rfl)); (intro wq hq; refine (curOrder wq).mono ?_; rintro e wr ⟨rfl, hr⟩; exact ⟨rfl, hq.keep hr⟩)) | (apply Wl.storeW; exact rfl; exact rfl; (repeat (first | apply HSet.here | apply HSet.there)); exact rfl; (first | exact cellsN_len _ _ _ | exact rfl)) | (apply Wl.allocN; exact rfl; (first | exact z8 | exact z16 | exact z17 | exact z33 | exact z10); intro c hc ho) | (apply Wl.move; exact rfl; exact rfl) | (apply Wl.assign; exact rfl; exact rfl) | (apply Wl.extract; exact rfl; exact rfl; exact rfl) | (apply Wl.not; exact rfl; exact rfl) | (apply Wl.nil) | (apply St.seq) | (apply St.region) | (apply St.condF; exact rfl; (first | with_reducible rfl | with_reducible assumption | decide)) | (apply St.skip) | (apply Gt.next) | (apply Wl.splitP; exact rfl; exact rfl; all_goals (intros; try (exfalso; omega))) | (apply Wl.splitB; exact rfl; exact rfl; all_goals intros) | (apply St.condP; exact rfl; all_goals (intros; try (exfalso; omega))) | (apply St.condB; exact rfl; all_goals intros))
  generalize rdL l = n at *
  generalize c = cn at *
  have hcn : w.heap.size ≤ cn := by assumption
  apply Wl.callC
  · exact rfl
  · (repeat (first | exact Evs.nil | apply Evs.cons rfl))
  intro wq hq
  refine (newModN wq).mono ?_
  rintro e w1 ⟨bn, rfl, hbn, hMn, hr1⟩
  have hqr := hq.keep hr1
  have hszq := hq.upd.size
  have hsz1 := hr1.upd.size
  have l0 := hq.own.lt (.head _)
  simp only at l0
  refine ⟨_, _, rfl, hpRb hqr, ?_⟩
  have hu : Upd (fun k => w.heap.size ≤ k) w w1 := hpOn hqr (Upd.refl _ _) (by simp; omega)
  have hnl := hMn.blk
  clear hq hr1 hqr
  have hK1 : ArrAt w1 0 0 .u32 64 Sha.K := hK.upd hu (by omega)
  have hmW : ∀ {H : List Blk} {wx : World}, Hp w1 H wx → (∀ x ∈ H, w.heap.size ≤ x.b) → Bs wx mv m := fun hx hH => hm.upd (hpOn hx hu hH) fun k hk hlt hne hs => by omega
  repeat' (first | (apply Wl.callQ (f := 23); exact rfl; (repeat (first | exact Evs.nil | apply Evs.cons rfl)); (intro wq hq; refine (shaOf mv m wq (hmW hq (by simp; omega)) (by omega) (fun a k hk => Nat.lt_of_lt_of_le (hm.aged a k hk) (Nat.le_trans hu.size hq.upd.size)) (hK1.upd hq.upd (fun y => y (by (repeat (first | exact trivial | exact hX.off (by omega) | refine ⟨by first | assumption | omega | (simp only; omega), ?_⟩)))))).mono ?_; rintro e wr ⟨rfl, hr⟩; exact ⟨rfl, hq.keep hr⟩)) | (apply Wl.allocC (t := 45); exact rfl; exact z32b; intro c hc ho) | (apply Wl.storeW; exact rfl; exact rfl; (repeat (first | apply HSet.here | apply HSet.there)); exact rfl; (first | exact cellsN_len _ _ _ | exact rfl)) | (apply Wl.move; exact rfl; exact rfl) | (apply Wl.assign; exact rfl; exact rfl) | (apply Wl.extract; exact rfl; exact rfl; exact rfl) | (apply Wl.nil) | (apply St.seq) | (apply St.region) | (apply Gt.next) | (apply Wl.splitP; exact rfl; exact rfl; all_goals (intros; try (exfalso; omega))) | (apply Wl.splitB; exact rfl; exact rfl; all_goals intros) | (apply St.condP; exact rfl; all_goals (intros; try (exfalso; omega))) | (apply St.condB; exact rfl; all_goals intros))
  generalize c = cH at *
  have hcH : w1.heap.size ≤ cH := by assumption
  obtain ⟨E0, hE0⟩ : ∃ E0, E0 = rdL (shaL m) := ⟨_, rfl⟩
  have hE0W : E0 < W256 := hE0 ▸ rdL_lt _
  obtain ⟨E, hE⟩ : ∃ E, E = eN m := ⟨_, rfl⟩
  have hEe : E0 % Prim.N256 = E := by rw [hE, hE0]; rfl
  have hEN : E < Prim.N256 := by rw [← hEe]; exact Nat.mod_lt _ h0N
  rw [← hE] at hk hS
  have cRe := fun wq h => modReduce bn Prim.N256 E0 wq h hE0W
  rw [hEe] at cRe
  repeat' (first | (apply Wl.sliceAll; exact rfl; exact rfl; (decide); exact rfl) | (apply Wl.callQ (f := 19); exact rfl; (repeat (first | exact Evs.nil | apply Evs.cons rfl)); (intro wq hq; have hb : wq.heap[cH]? = _ := hq.own.at (x := ⟨cH, cellsN .u8 32 (Sha.of m), 45⟩) (by (repeat (first | exact List.Mem.head _ | apply List.Mem.tail))); refine (limbRead _ (shaL m) wq (bsSha hb) (shaL_len m)).mono ?_; rw [← hE0]; rintro e wr ⟨rfl, hr⟩; exact ⟨rfl, hq.keep hr⟩)) | (apply Wl.callQ (f := 31); exact rfl; (repeat (first | exact Evs.nil | apply Evs.cons rfl)); (intro wq hq; refine (cRe wq (hMn.hp hq (by (repeat (first | exact trivial | exact hX.off (by omega) | refine ⟨by first | assumption | omega | (simp only; omega), ?_⟩))))).mono ?_; rintro e wr ⟨rfl, hr⟩; exact ⟨rfl, hq.keep hr⟩)) | (apply Wl.loadW; exact rfl; exact rfl; (repeat (first | exact List.Mem.head _ | apply List.Mem.tail)); exact rfl) | (apply Wl.storeW; exact rfl; exact rfl; (repeat (first | apply HSet.here | apply HSet.there)); exact rfl; (first | exact cellsN_len _ _ _ | exact rfl)) | (apply Wl.allocN; exact rfl; (first | exact z8 | exact z16 | exact z17 | exact z33 | exact z10); intro c hc ho) | (apply Wl.move; exact rfl; exact rfl) | (apply Wl.assign; exact rfl; exact rfl) | (apply Wl.extract; exact rfl; exact rfl; exact rfl) | (apply Wl.nil) | (apply St.seq) | (apply St.region) | (apply Gt.next) | (apply Wl.splitP; exact rfl; exact rfl; all_goals (intros; try (exfalso; omega))) | (apply Wl.splitB; exact rfl; exact rfl; all_goals intros) | (apply St.condP; exact rfl; all_goals (intros; try (exfalso; omega))) | (apply St.condB; exact rfl; all_goals intros))
  generalize c = cE at *
  have hcE : w1.heap.size ≤ cE := by assumption
  clear cRe
  apply Wl.callC
  · exact rfl
  · (repeat (first | exact Evs.nil | apply Evs.cons rfl))
  intro wq2 hq
  refine (curNew wq2).mono ?_
  rintro e w2 ⟨kc, bm, rfl, hkc, hbm, hV, hr2⟩
  have hqr := hq.keep hr2
  have hszq2 := hq.upd.size
  have hsz2 := hr2.upd.size
  have hall := fun x hx => hq.own.lt (x := x) hx
  simp only [List.mem_cons, List.not_mem_nil, or_false, forall_eq_or_imp, forall_eq] at hall
  have hu2 : Upd (fun k => w.heap.size ≤ k) w w2 := hpOn hqr hu (by simp; omega)
  obtain ⟨hkl, hbl⟩ := hV.lt
  have hM2 : ModV w2 bn Prim.N256 := (hMn.hp hq (by (repeat (first | exact trivial | exact hX.off (by omega) | refine ⟨by first | assumption | omega | (simp only; omega), ?_⟩)))).hp hr2 trivial
  have hK2 : ArrAt w2 0 0 .u32 64 Sha.K := hK.upd hu2 (by omega)
  refine ⟨_, _, rfl, hpRb hqr, ?_⟩
  clear hq hr2 hqr
  repeat' (first | (apply Wl.assign; exact rfl; exact rfl) | (apply Wl.nil) | (apply St.seq) | (apply Gt.next) | (apply Wl.splitP; exact rfl; exact rfl; all_goals (intros; try (exfalso; omega))) | (apply Wl.splitB; exact rfl; exact rfl; all_goals intros) | (apply St.condP; exact rfl; all_goals (intros; try (exfalso; omega))) | (apply St.condB; exact rfl; all_goals intros))
  refine St.tree (Hp w2 [⟨cE, cellsN .u32 8 (dg W32 E), 30⟩, ⟨cH, cellsN .u8 32 (Sha.of m), 45⟩, ⟨cn, cellsN .u32 8 (dg W32 n), 30⟩]) mixed (fun _ h => ⟨Hp.drew h, Hp.drew h⟩) ?_
  refine Mt.pure 0 (by decide +kernel) (by exact rfl) (by exact rfl) (by decide +kernel) (by decide +kernel) ?_
  repeat' (first | (apply Wl.loadW; exact rfl; exact rfl; (repeat (first | exact List.Mem.head _ | apply List.Mem.tail)); exact rfl) | (apply Wl.nilM) | (apply Wl.splitP; exact rfl; exact rfl; all_goals (intros; try (exfalso; omega))) | (apply Wl.splitB; exact rfl; exact rfl; all_goals intros) | (apply St.condP; exact rfl; all_goals (intros; try (exfalso; omega))) | (apply St.condB; exact rfl; all_goals intros))
  apply Mt.back
  refine Mt.pure 2 (by decide +kernel) (by exact rfl) (by exact rfl) (by decide +kernel) (by decide +kernel) ?_
  repeat' (first | (apply Wl.loadW; exact rfl; exact rfl; (repeat (first | exact List.Mem.head _ | apply List.Mem.tail)); exact rfl) | (apply Wl.nilM) | (apply Wl.splitP; exact rfl; exact rfl; all_goals (intros; try (exfalso; omega))) | (apply Wl.splitB; exact rfl; exact rfl; all_goals intros) | (apply St.condP; exact rfl; all_goals (intros; try (exfalso; omega))) | (apply St.condB; exact rfl; all_goals intros))
  apply Mt.back
  refine Mt.eff1 (i := 1) (by decide +kernel) (by exact rfl) ?_
  repeat' (first | (apply Wl.callQ (f := 81); exact rfl; (repeat (first | exact Evs.nil | apply Evs.cons rfl)); (intro wq hq; refine (limbBytes n wq).mono ?_; rintro e wr ⟨rfl, hr⟩; exact ⟨rfl, hq.keep hr⟩)) | (apply Wl.nil) | (apply Wl.splitP; exact rfl; exact rfl; all_goals (intros; try (exfalso; omega))) | (apply Wl.splitB; exact rfl; exact rfl; all_goals intros) | (apply St.condP; exact rfl; all_goals (intros; try (exfalso; omega))) | (apply St.condB; exact rfl; all_goals intros))
  refine Mt.backE (fun _ h => h) ?_
  refine Mt.eff1 (i := 3) (by decide +kernel) (by exact rfl) ?_
  repeat' (first | (apply Wl.callQ (f := 81); exact rfl; (repeat (first | exact Evs.nil | apply Evs.cons rfl)); (intro wq hq; refine (limbBytes E wq).mono ?_; rintro e wr ⟨rfl, hr⟩; exact ⟨rfl, hq.keep hr⟩)) | (apply Wl.nil) | (apply Wl.splitP; exact rfl; exact rfl; all_goals (intros; try (exfalso; omega))) | (apply Wl.splitB; exact rfl; exact rfl; all_goals intros) | (apply St.condP; exact rfl; all_goals (intros; try (exfalso; omega))) | (apply St.condB; exact rfl; all_goals intros))
  refine Mt.backE (fun _ h => h) ?_
  refine Mt.eff1 (i := 4) (by decide +kernel) (by exact rfl) ?_
  apply Wl.callC
  · exact rfl
  · (repeat (first | exact Evs.nil | apply Evs.cons rfl))
  intro wq3 hq
  refine (drStart n E wq3 (hK2.hp hq (by (repeat (first | exact trivial | exact hX.off (by omega) | refine ⟨by first | assumption | omega | (simp only; omega), ?_⟩))))).mono ?_
  rintro e w3 ⟨d, rfl, hd, hD, hr3⟩
  have hqr := hq.keep hr3
  have hszq3 := hq.upd.size
  have hsz3 := hr3.upd.size
  have hall3 := fun x hx => hq.own.lt (x := x) hx
  simp only [List.mem_cons, List.not_mem_nil, or_false, forall_eq_or_imp, forall_eq] at hall3
  have hu3 : Upd (fun k => w.heap.size ≤ k) w w3 := hpOn hqr hu2 (by simp; omega)
  have hM3 : ModV w3 bn Prim.N256 := (hM2.hp hq (by (repeat (first | exact trivial | exact hX.off (by omega) | refine ⟨by first | assumption | omega | (simp only; omega), ?_⟩)))).hp hr3 trivial
  have hV3 : CurV w3 kc bm := (hV.hp hq (by (repeat (first | exact trivial | exact hX.off (by omega) | refine ⟨by first | assumption | omega | (simp only; omega), ?_⟩))) (by (repeat (first | exact trivial | exact hX.off (by omega) | refine ⟨by first | assumption | omega | (simp only; omega), ?_⟩)))).hp hr3 trivial trivial
  have hK3 : ArrAt w3 0 0 .u32 64 Sha.K := hK.upd hu3 (by omega)
  have hdl : d < w3.heap.size := (Array.getElem?_eq_some_iff.1 hD).1
  refine ⟨_, _, rfl, Hp.open (hpRb hqr) hD ⟨by simp only; omega, by simp only; omega, by simp only; omega, trivial⟩, ?_⟩
  repeat' (first | (apply Wl.nil) | (apply Wl.splitP; exact rfl; exact rfl; all_goals (intros; try (exfalso; omega))) | (apply Wl.splitB; exact rfl; exact rfl; all_goals intros) | (apply St.condP; exact rfl; all_goals (intros; try (exfalso; omega))) | (apply St.condB; exact rfl; all_goals intros))
  refine Mt.backE (fun u h => hpTr hqr (hpShut h hD)) ?_
  refine Mt.pure 5 (by decide +kernel) (by exact rfl) (by exact rfl) (by decide +kernel) (by decide +kernel) ?_
  repeat' (first | (apply Wl.assign; exact rfl; exact rfl) | (apply Wl.nilM) | (apply Wl.splitP; exact rfl; exact rfl; all_goals (intros; try (exfalso; omega))) | (apply Wl.splitB; exact rfl; exact rfl; all_goals intros) | (apply St.condP; exact rfl; all_goals (intros; try (exfalso; omega))) | (apply St.condB; exact rfl; all_goals intros))
  apply Mt.back
  refine Mt.toGt (by decide +kernel) ?_
  repeat' (first | (apply St.block) | (apply Gt.next) | (apply Wl.splitP; exact rfl; exact rfl; all_goals (intros; try (exfalso; omega))) | (apply Wl.splitB; exact rfl; exact rfl; all_goals intros) | (apply St.condP; exact rfl; all_goals (intros; try (exfalso; omega))) | (apply St.condB; exact rfl; all_goals intros))
  obtain ⟨hK2l, hV2l⟩ := stp_len n E 2
  unfold drawK at hk
  generalize (stp n E 2).1 = K2 at *
  generalize (stp n E 2).2 = V2 at *
  clear hq hr3 hqr
  have hdr := fun wq h1 h2 => drNext d K2 V2 wq h1 h2 hK2l hV2l (by omega) (hk ▸ hkok)
  rw [← hk] at hdr
  obtain ⟨V3, hV3e⟩ : ∃ V3, V3 = macB K2 V2 := ⟨_, rfl⟩
  rw [← hV3e] at hdr hk
  refine St.loop (σ := Nat) (fun _ => True) (fun _ => [(6, mp cn), (8, mp bn), (11, mp cE), (13, mp kc), (14, mp d)]) (fun _ => Hp w3 [drB d K2 V2, ⟨cE, cellsN .u32 8 (dg W32 E), 30⟩, ⟨cH, cellsN .u8 32 (Sha.of m), 45⟩, ⟨cn, cellsN .u32 8 (dg W32 n), 30⟩]) (fun _ => 0) 0 trivial (by (repeat (first | exact Sub.nil | apply Sub.cons rfl))) (fun _ h => h) ?_
  intro _ _
  repeat' (first | (apply Wl.move; exact rfl; exact rfl) | (apply St.seq) | (apply St.block) | (apply St.region) | (apply Wl.splitP; exact rfl; exact rfl; all_goals (intros; try (exfalso; omega))) | (apply Wl.splitB; exact rfl; exact rfl; all_goals intros) | (apply St.condP; exact rfl; all_goals (intros; try (exfalso; omega))) | (apply St.condB; exact rfl; all_goals intros))
  apply Wl.callC
  exact rfl
  (repeat (first | exact Evs.nil | apply Evs.cons rfl))
  intro wq hq
  refine (hdr wq (hK3.hp hq (by (repeat (first | exact trivial | exact hX.off (by omega) | refine ⟨by first | assumption | omega | (simp only; omega), ?_⟩)))) (hq.own.at (.head _))).mono ?_
  rintro e wr ⟨rfl, hp⟩
  refine ⟨_, _, rfl, hq.callSet (by (repeat (first | apply HSet.here | apply HSet.there))) hp, ?_⟩
  clear hp hq wq wr
  repeat' (first | (apply Wl.storeW; exact rfl; exact rfl; (repeat (first | apply HSet.here | apply HSet.there)); exact rfl; (first | exact cellsN_len _ _ _ | exact rfl)) | (apply Wl.allocN; exact rfl; (first | exact z8 | exact z16 | exact z17 | exact z33 | exact z10); intro c hc ho) | (apply Wl.nil) | (apply St.seq) | (apply Gt.next) | (apply Wl.splitP; exact rfl; exact rfl; all_goals (intros; try (exfalso; omega))) | (apply Wl.splitB; exact rfl; exact rfl; all_goals intros) | (apply St.condP; exact rfl; all_goals (intros; try (exfalso; omega))) | (apply St.condB; exact rfl; all_goals intros))
  generalize c = cK at *
  have hcK : w3.heap.size ≤ cK := by assumption
  obtain ⟨A, hA⟩ : ∃ A, A = sm3 k (some curG) := ⟨_, rfl⟩
  rw [← hA] at hR
  have hXW := poX_W A
  have cMu := fun wq hV => curMultG kc bm k wq hV hkW
  rw [← hA] at cMu
  have cRd := fun wq h => modReduce bn Prim.N256 (poX A) wq h hXW
  rw [← hR] at cRd
  have hRN : R < Prim.N256 := by rw [hR]; exact Nat.mod_lt _ h0N
  have hRW := Nat.lt_trans hRN nW
  obtain ⟨D1, hD1⟩ : ∃ D1, D1 = R * n % Prim.N256 := ⟨_, rfl⟩
  obtain ⟨D2, hD2⟩ : ∃ D2, D2 = (E + D1) % Prim.N256 := ⟨_, rfl⟩
  have hD1N : D1 < Prim.N256 := hD1 ▸ Nat.mod_lt _ h0N
  have hD2N : D2 < Prim.N256 := hD2 ▸ Nat.mod_lt _ h0N
  have hD2W := Nat.lt_trans hD2N nW
  rw [← hD1, ← hD2] at hS
  have cM1 := fun wq h => modMul bn Prim.N256 R n wq h hRW hnW
  rw [← hD1] at cM1
  have cA2 := fun wq h => modAdd bn Prim.N256 E D1 wq h nW hEN hD1N
  rw [← hD2] at cA2
  repeat' (first | (apply St.bagSn 9 []; exact rfl; exact mixed; kernel_rfl) | (apply OpsS.nil) | (apply OpsS.b; rotate_left; exact rfl; exact rfl) | (apply OpsS.s (j := 7); exact rfl; exact rfl; exact rfl; (intro X f hX hfj; change Wl [_] _ _ _ _ _ _ _; apply Wl.catS; (repeat (first | apply CatB.nil | apply CatB.cons)))) | (apply OpsS.v; exact rfl; (intro X f hX; change Wl [_] _ _ _ _ _ _ _; apply Wl.catX; (repeat (first | apply CatB.nil | apply CatB.cons)))) | (apply Gt.endS; exact fun _ h => h) | (apply Gt.endX; exact rfl) | (apply ConS.nil) | (apply ConS.v) | (apply ConS.s) | (apply ConS.b1; exact rfl) | (apply EndS.new; intro c hc ho) | (apply EndS.off; exact rfl) | (apply EndS.st) | (apply EndS.nil'; apply Gt.catS; (repeat (first | apply CatB.nil | apply CatB.cons))) | (apply Wl.storeAll; exact rfl; exact rfl; (repeat (first | apply HSet.here | apply HSet.there)); exact cellsN_len _ _ _; exact rfl; exact cellsN_one _ _ _) | (apply Wl.fieldVa; exact rfl; exact rfl; exact poD_x _) | (apply Wl.callQ (f := 30); exact rfl; (repeat (first | exact Evs.nil | apply Evs.cons rfl)); (intro wq hq; refine (curBase wq).mono ?_; rintro e wr ⟨rfl, hr⟩; exact ⟨rfl, hq.keep hr⟩)) | (apply Wl.callQ (f := 80); exact rfl; (repeat (first | exact Evs.nil | apply Evs.cons rfl)); (intro wq hq; refine (cMu wq (hV3.hp hq (by (repeat (first | exact trivial | exact hX.off (by omega) | refine ⟨by first | assumption | omega | (simp only; omega), ?_⟩))) (by (repeat (first | exact trivial | exact hX.off (by omega) | refine ⟨by first | assumption | omega | (simp only; omega), ?_⟩))))).mono ?_; rintro e wr ⟨rfl, hr⟩; exact ⟨rfl, hq.keep hr⟩)) | (apply Wl.callQ (f := 31); exact rfl; (repeat (first | exact Evs.nil | apply Evs.cons rfl)); (intro wq hq; refine (cRd wq (hM3.hp hq (by (repeat (first | exact trivial | exact hX.off (by omega) | refine ⟨by first | assumption | omega | (simp only; omega), ?_⟩))))).mono ?_; rintro e wr ⟨rfl, hr⟩; exact ⟨rfl, hq.keep hr⟩)) | (apply Wl.callQ (f := 85); exact rfl; (repeat (first | exact Evs.nil | apply Evs.cons rfl)); (intro wq hq; refine (cM1 wq (hM3.hp hq (by (repeat (first | exact trivial | exact hX.off (by omega) | refine ⟨by first | assumption | omega | (simp only; omega), ?_⟩))))).mono ?_; rintro e wr ⟨rfl, hr⟩; exact ⟨rfl, hq.keep hr⟩)) | (apply Wl.callQ (f := 57); exact rfl; (repeat (first | exact Evs.nil | apply Evs.cons rfl)); (intro wq hq; refine (cA2 wq (hM3.hp hq (by (repeat (first | exact trivial | exact hX.off (by omega) | refine ⟨by first | assumption | omega | (simp only; omega), ?_⟩)))).mod).mono ?_; rintro e wr ⟨rfl, hr⟩; exact ⟨rfl, hq.keep hr⟩)) | (apply Wl.loadW; exact rfl; exact rfl; (repeat (first | exact List.Mem.head _ | apply List.Mem.tail)); exact rfl) | (apply Wl.move; exact rfl; exact rfl) | (apply Wl.nil) | (apply St.seq) | (apply Gt.next) | (apply Wl.splitP; exact rfl; exact rfl; all_goals (intros; try (exfalso; omega))) | (apply Wl.splitB; exact rfl; exact rfl; all_goals intros) | (apply St.condP; exact rfl; all_goals (intros; try (exfalso; omega))) | (apply St.condB; exact rfl; all_goals intros))
  generalize c = cS at *
  have hcS : w3.heap.size ≤ cS := by assumption
  rename_i cR hcR hoR
  obtain ⟨Ik, hIk⟩ : ∃ x, x = k * W256 % Prim.N256 := ⟨_, rfl⟩
  obtain ⟨Wv, hWv⟩ : ∃ x, x = pw Prim.N256 Ik (Prim.N256 - 2) := ⟨_, rfl⟩
  obtain ⟨Is, hIs⟩ : ∃ x, x = D2 * W256 % Prim.N256 := ⟨_, rfl⟩
  obtain ⟨Tv, hTv⟩ : ∃ x, x = Wv * Is * rinv Prim.N256 % Prim.N256 := ⟨_, rfl⟩
  have hIkN : Ik < Prim.N256 := hIk ▸ Nat.mod_lt _ h0N
  have hWvN : Wv < Prim.N256 := hWv ▸ pw_lt h0N
  have hWvW := Nat.lt_trans hWvN nW
  have hIsN : Is < Prim.N256 := hIs ▸ Nat.mod_lt _ h0N
  have hTvW : Tv < W256 := hTv ▸ Nat.lt_trans (Nat.mod_lt _ h0N) nW
  have hOu : Tv * rinv Prim.N256 % Prim.N256 = S := by rw [hTv, Nat.mul_comm Wv Is, hIs, hWv, hIk, uv_eq n_odd]; exact hS.symm
  have cIk := fun wq h => modIn bn Prim.N256 k wq h hkW
  rw [← hIk] at cIk
  have cWv := fun wq (h : ModV wq bn Prim.N256) => modInv h hIkN nW h2N
  rw [← hWv] at cWv
  have cIs := fun wq h => modIn bn Prim.N256 D2 wq h hD2W
  rw [← hIs] at cIs
  have cTv := fun wq (h : ModV wq bn Prim.N256) => modTimes' h hWvW hIsN
  rw [← hTv] at cTv
  have cOu := fun wq h => modOut bn Prim.N256 Tv wq h hTvW
  rw [hOu] at cOu
  have hSN : S < Prim.N256 := by rw [hS]; exact Nat.mod_lt _ h0N
  have hSW := Nat.lt_trans hSN nW
  have cZR := fun wq => limbZero R wq hRW
  rw [decide_eq_false hR0] at cZR
  have cZS := fun wq => limbZero S wq hSW
  rw [decide_eq_false hS0] at cZS
  clear hR hS hIk hWv hIs hTv hOu hD1 hD2 hA hk cMu cRd cM1 cA2 hdr
  repeat' (first | (apply St.bagSn 14 []; exact rfl; exact mixed; kernel_rfl) | (apply OpsS.nil) | (apply OpsS.b; rotate_left; exact rfl; exact rfl) | (apply OpsS.s (j := 12); exact rfl; exact rfl; exact rfl; (intro X f hX hfj; change Wl [_] _ _ _ _ _ _ _; apply Wl.catS; (repeat (first | apply CatB.nil | apply CatB.cons)))) | (apply OpsS.v; exact rfl; (intro X f hX; change Wl [_] _ _ _ _ _ _ _; apply Wl.catX; (repeat (first | apply CatB.nil | apply CatB.cons)))) | (apply Gt.endS; exact fun _ h => h) | (apply Gt.endX; exact rfl) | (apply ConS.nil) | (apply ConS.v) | (apply ConS.s) | (apply ConS.b1; exact rfl) | (apply EndS.new; intro c hc ho) | (apply EndS.off; exact rfl) | (apply EndS.st) | (apply EndS.nil'; apply Gt.catS; (repeat (first | apply CatB.nil | apply CatB.cons))) | (apply Wl.storeAll; exact rfl; exact rfl; (repeat (first | apply HSet.here | apply HSet.there)); exact cellsN_len _ _ _; exact rfl; exact cellsN_one _ _ _) | (apply Wl.callQ (f := 25); exact rfl; (repeat (first | exact Evs.nil | apply Evs.cons rfl)); (intro wq hq; have hMq := hM3.hp hq (by (repeat (first | exact trivial | exact hX.off (by omega) | refine ⟨by first | assumption | omega | (simp only; omega), ?_⟩))); with_reducible first | refine (cIk wq hMq).mono ?_ | refine (cIs wq hMq).mono ?_); (rintro e wr ⟨rfl, hr⟩; exact ⟨rfl, hq.keep hr⟩)) | (apply Wl.callQ (f := 24); exact rfl; (repeat (first | exact Evs.nil | apply Evs.cons rfl)); (intro wq hq; refine (cWv wq (hM3.hp hq (by (repeat (first | exact trivial | exact hX.off (by omega) | refine ⟨by first | assumption | omega | (simp only; omega), ?_⟩))))).mono ?_; rintro e wr ⟨rfl, hr⟩; exact ⟨rfl, hq.keep hr⟩)) | (apply Wl.callQ (f := 27); exact rfl; (repeat (first | exact Evs.nil | apply Evs.cons rfl)); (intro wq hq; refine (cTv wq (hM3.hp hq (by (repeat (first | exact trivial | exact hX.off (by omega) | refine ⟨by first | assumption | omega | (simp only; omega), ?_⟩))))).mono ?_; rintro e wr ⟨rfl, hr⟩; exact ⟨rfl, hq.keep hr⟩)) | (apply Wl.callQ (f := 26); exact rfl; (repeat (first | exact Evs.nil | apply Evs.cons rfl)); (intro wq hq; refine (cOu wq (hM3.hp hq (by (repeat (first | exact trivial | exact hX.off (by omega) | refine ⟨by first | assumption | omega | (simp only; omega), ?_⟩))))).mono ?_; rintro e wr ⟨rfl, hr⟩; exact ⟨rfl, hq.keep hr⟩)) | (apply Wl.callQ (f := 55); exact rfl; (repeat (first | exact Evs.nil | apply Evs.cons rfl)); (intro wq hq; with_reducible first | refine (cZR wq).mono ?_ | refine (cZS wq).mono ?_); (rintro e wr ⟨rfl, hr⟩; exact ⟨rfl, hq.keep hr⟩)) | (apply Wl.loadW; exact rfl; exact rfl; (repeat (first | exact List.Mem.head _ | apply List.Mem.tail)); exact rfl) | (apply Wl.move; exact rfl; exact rfl) | (apply Wl.on; exact rfl; exact rfl; (first | with_reducible rfl | with_reducible assumption | decide)) | (apply Wl.pickT; exact rfl; exact rfl; (first | with_reducible rfl | with_reducible assumption | decide); exact rfl) | (apply Wl.not; exact rfl; exact rfl) | (apply Wl.nil) | (apply St.seq) | (apply St.region) | (apply St.condT; exact rfl; (first | with_reducible rfl | with_reducible assumption | decide)) | (apply Gt.next) | (apply Wl.splitP; exact rfl; exact rfl; all_goals (intros; try (exfalso; omega))) | (apply Wl.splitB; exact rfl; exact rfl; all_goals intros) | (apply St.condP; exact rfl; all_goals (intros; try (exfalso; omega))) | (apply St.condB; exact rfl; all_goals intros))
  have cBx := fun wq => limbBytes R wq
  have cBy := fun wq => limbBytes S wq
  repeat' (first | (apply St.bagSn 8 []; exact rfl; exact mixed; kernel_rfl) | (apply OpsS.nil) | (apply OpsS.b; rotate_left; exact rfl; exact z32b) | (apply OpsS.s (j := 4); exact rfl; exact rfl; exact rfl; (intro X f hX hfj; change Wl [_] _ _ _ _ _ _ _; apply Wl.catS; (repeat (first | apply CatB.nil | apply CatB.cons)))) | (apply OpsS.s (j := 5); exact rfl; exact rfl; exact rfl; (intro X f hX hfj; change Wl [_] _ _ _ _ _ _ _; apply Wl.catS; (repeat (first | apply CatB.nil | apply CatB.cons)))) | (apply OpsS.v; exact rfl; (intro X f hX; change Wl [_] _ _ _ _ _ _ _; apply Wl.catX; (repeat (first | apply CatB.nil | apply CatB.cons)))) | (apply Gt.endS; exact fun _ h => h) | (apply Gt.endX; exact rfl) | (apply ConS.nil) | (apply ConS.v) | (apply ConS.s) | (apply ConS.b1; exact rfl) | (apply EndS.new; intro c hc ho) | (apply EndS.off; exact rfl) | (apply EndS.st) | (apply EndS.nil'; apply Gt.catS; (repeat (first | apply CatB.nil | apply CatB.cons))) | (apply Wl.callQ (f := 81); exact rfl; (repeat (first | exact Evs.nil | apply Evs.cons rfl)); (intro wq hq; with_reducible first | refine (cBx wq).mono ?_ | refine (cBy wq).mono ?_); (rintro e wr ⟨rfl, hr⟩; exact ⟨rfl, hq.keep hr⟩)) | (apply Wl.loadW; exact rfl; exact rfl; (repeat (first | exact List.Mem.head _ | apply List.Mem.tail)); exact rfl) | (apply Wl.storeW; exact rfl; exact rfl; (repeat (first | apply HSet.here | apply HSet.there)); exact rfl; (first | exact cellsN_len _ _ _ | exact rfl)) | (apply Wl.nil) | (apply St.seq) | (apply Gt.next) | (apply Wl.splitP; exact rfl; exact rfl; all_goals (intros; try (exfalso; omega))) | (apply Wl.splitB; exact rfl; exact rfl; all_goals intros) | (apply St.condP; exact rfl; all_goals (intros; try (exfalso; omega))) | (apply St.condB; exact rfl; all_goals intros))
  rename_i ca hca hoa
  generalize c = cb at *
  have hcb : w3.heap.size ≤ cb := by assumption
  rename_i cS2 hcS2 hoS2
  refine St.tree (fun _ => True) mixed (fun _ h => ⟨Hp.drew h, trivial⟩) ?_
  refine Mt.pure 0 (by decide +kernel) (by exact rfl) (by exact rfl) (by decide +kernel) (by decide +kernel) ?_
  repeat' (first | (apply Wl.sliceAll; exact rfl; exact rfl; (decide); exact rfl) | (apply Wl.nilM) | (apply Wl.splitP; exact rfl; exact rfl; all_goals (intros; try (exfalso; omega))) | (apply Wl.splitB; exact rfl; exact rfl; all_goals intros) | (apply St.condP; exact rfl; all_goals (intros; try (exfalso; omega))) | (apply St.condB; exact rfl; all_goals intros))
  apply Mt.back
  refine Mt.pure 1 (by decide +kernel) (by exact rfl) (by exact rfl) (by decide +kernel) (by decide +kernel) ?_
  repeat' (first | (apply Wl.sliceAll; exact rfl; exact rfl; (decide); exact rfl) | (apply Wl.nilM) | (apply Wl.splitP; exact rfl; exact rfl; all_goals (intros; try (exfalso; omega))) | (apply Wl.splitB; exact rfl; exact rfl; all_goals intros) | (apply St.condP; exact rfl; all_goals (intros; try (exfalso; omega))) | (apply St.condB; exact rfl; all_goals intros))
  apply Mt.back
  refine Mt.eff1 (i := 2) (by decide +kernel) (by exact rfl) ?_
  apply Wl.appendG (olds := byteCells (bL R)) (news := byteCells (bL S)) (n := 32) (m := 32)
  · exact rfl
  · exact rfl
  · exact rfl
  · rw [byteCells_length, bL_len]
  · intro wx hwx j u hj; rw [addLit]; rw [bL_bytes] at hj; exact hwx.cell (.tail _ (.head _)) (by simpa using hj)
  · rw [byteCells_length, bL_len]
  · intro wx hwx j u hj; rw [addLit]; rw [bL_bytes] at hj; exact hwx.cell (.head _) (by simpa using hj)
  · decide
  · exact rfl
  · decide
  · decide
  · decide
  intro v' w5 ho5 hp5 hof5
  have hb5 : Bo w5 w.heap.size v' (bL R ++ bL S) := Bo.lower (Bo.of (base := w3.heap.size) ho5 (by rw [bL_len, bL_len]) rfl) (by have := hu3.size; omega)
  have hu5 : Upd (fun k => w.heap.size ≤ k) w w5 := hpOn hp5 hu3 (by simp; omega)
  have hs5 := hp5.upd.size
  repeat' (first | (apply Wl.nil) | (apply Wl.splitP; exact rfl; exact rfl; all_goals (intros; try (exfalso; omega))) | (apply Wl.splitB; exact rfl; exact rfl; all_goals intros) | (apply St.condP; exact rfl; all_goals (intros; try (exfalso; omega))) | (apply St.condB; exact rfl; all_goals intros))
  refine Mt.backE (fun _ _ => trivial) ?_
  refine Mt.pure 3 (by decide +kernel) (by exact rfl) (by exact rfl) (by decide +kernel) (by decide +kernel) ?_
  repeat' (first | (apply Wl.assign; exact rfl; exact rfl) | (apply Wl.nilM) | (apply Wl.splitP; exact rfl; exact rfl; all_goals (intros; try (exfalso; omega))) | (apply Wl.splitB; exact rfl; exact rfl; all_goals intros) | (apply St.condP; exact rfl; all_goals (intros; try (exfalso; omega))) | (apply St.condB; exact rfl; all_goals intros))
  apply Mt.back
  refine Mt.pure 4 (by decide +kernel) (by exact rfl) (by exact rfl) (by decide +kernel) (by decide +kernel) ?_
  repeat' (first | (apply Wl.assign; exact rfl; exact rfl) | (apply Wl.nilM) | (apply Wl.splitP; exact rfl; exact rfl; all_goals (intros; try (exfalso; omega))) | (apply Wl.splitB; exact rfl; exact rfl; all_goals intros) | (apply St.condP; exact rfl; all_goals (intros; try (exfalso; omega))) | (apply St.condB; exact rfl; all_goals intros))
  apply Mt.back
  refine Mt.toGt (by decide +kernel) ?_
  repeat' (first | (apply St.ret) | (apply Gt.next) | (apply Gt.thenRet) | (apply Gt.inRet) | (apply Gt.out2; exact rfl; exact rfl; exact rfl; intro w' hp) | (apply Wl.splitP; exact rfl; exact rfl; all_goals (intros; try (exfalso; omega))) | (apply Wl.splitB; exact rfl; exact rfl; all_goals intros) | (apply St.condP; exact rfl; all_goals (intros; try (exfalso; omega))) | (apply St.condB; exact rfl; all_goals intros))
  exact ⟨_, rfl, hb5.upd hp.upd (fun k hk hs => hs (hof5 k hk)), hpOn hp hu5 (by simp; omega)⟩
end Go.Proofs.YtfaobdakpbpkbaaDoor
end
section
/-
  SHA-256 for the kernel: sums of closed texts, every number reckoned before it is used. Conditions: none.
-/
namespace Sha
open Go.Pt (updN)
section
variable {β : Type}
/-- rounds over a window of sixteen words -/
def stK (k : Nat → Nat → Nat → Nat → Nat → Nat → Nat → Nat → β) : List Nat → Nat → Nat → Nat → Nat → Nat → Nat → Nat → Nat → Nat → Nat → Nat → Nat → Nat → Nat → Nat → Nat → Nat → Nat → Nat → Nat → Nat → Nat → Nat → Nat → β
  | [], _, _, _, _, _, _, _, _, _, _, _, _, _, _, _, _, a, b, c, d, e, f, g, h => k a b c d e f g h
  | q :: qs, w0, w1, w2, w3, w4, w5, w6, w7, w8, w9, w10, w11, w12, w13, w14, w15, a, b, c, d, e, f, g, h =>
    now (P (P (P (P h (S1 e)) (ch e f g)) q) w0) fun t => now (P t (P (S0 a) (mj a b c))) fun a' => now (P d t) fun e' =>
    now (P (P (P w0 w9) (sg0 w1)) (sg1 w14)) fun n => stK k qs w1 w2 w3 w4 w5 w6 w7 w8 w9 w10 w11 w12 w13 w14 w15 n a' a b c e' e f g
abbrev app8 (k : Nat → Nat → Nat → Nat → Nat → Nat → Nat → Nat → β) (r : Nat → Nat) : β := k (r 0) (r 1) (r 2) (r 3) (r 4) (r 5) (r 6) (r 7)
theorem stK_step (k : Nat → Nat → Nat → Nat → Nat → Nat → Nat → Nat → β) (q : Nat) (qs : List Nat) (w0 w1 w2 w3 w4 w5 w6 w7 w8 w9 w10 w11 w12 w13 w14 w15 a b c d e f g h : Nat) : stK k (q :: qs) w0 w1 w2 w3 w4 w5 w6 w7 w8 w9 w10 w11 w12 w13 w14 w15 a b c d e f g h = stK k qs w1 w2 w3 w4 w5 w6 w7 w8 w9 w10 w11 w12 w13 w14 w15 (P (P (P w0 w9) (sg0 w1)) (sg1 w14)) (P (P (P (P (P h (S1 e)) (ch e f g)) q) w0) (P (S0 a) (mj a b c))) a b c (P d (P (P (P (P h (S1 e)) (ch e f g)) q) w0)) e f g := by
  rw [stK]
  simp only [now_eq]
theorem v80 (a b c d e f g h : Nat) : v8 a b c d e f g h 0 = a := rfl
theorem v84 (a b c d e f g h : Nat) : v8 a b c d e f g h 4 = e := rfl
theorem rnd0 (v : Nat → Nat) (k w : Nat) : rnd v k w 0 = P (tt v k w) (uu v) := by
  unfold rnd
  exact v80 _ _ _ _ _ _ _ _
theorem rnd4 (v : Nat → Nat) (k w : Nat) : rnd v k w 4 = P (v 3) (tt v k w) := by
  unfold rnd
  exact v84 _ _ _ _ _ _ _ _
theorem tt_eq (v : Nat → Nat) (k w : Nat) : tt v k w = P (P (P (P (v 7) (S1 (v 4))) (ch (v 4) (v 5) (v 6))) k) w := by unfold tt; rfl
theorem uu_eq (v : Nat → Nat) : uu v = P (S0 (v 0)) (mj (v 0) (v 1) (v 2)) := by unfold uu; rfl
theorem rndS (v : Nat → Nat) (k w : Nat) : rnd v k w 1 = v 0 ∧ rnd v k w 2 = v 1 ∧ rnd v k w 3 = v 2 ∧ rnd v k w 5 = v 4 ∧ rnd v k w 6 = v 5 ∧ rnd v k w 7 = v 6 := ⟨rfl, rfl, rfl, rfl, rfl, rfl⟩
theorem stK_eq (k : Nat → Nat → Nat → Nat → Nat → Nat → Nat → Nat → β) (W : Nat → Nat) (hW : ∀ i, 16 ≤ i → W i = sch1 W i) (v0 : Nat → Nat) : ∀ (qs : List Nat) (i : Nat), (∀ j, j < qs.length → qs.getD j 0 = K (i + j)) →
    stK k qs (W (i + 0)) (W (i + 1)) (W (i + 2)) (W (i + 3)) (W (i + 4)) (W (i + 5)) (W (i + 6)) (W (i + 7)) (W (i + 8)) (W (i + 9)) (W (i + 10)) (W (i + 11)) (W (i + 12)) (W (i + 13)) (W (i + 14)) (W (i + 15)) (rnds K W v0 i 0) (rnds K W v0 i 1) (rnds K W v0 i 2) (rnds K W v0 i 3) (rnds K W v0 i 4) (rnds K W v0 i 5) (rnds K W v0 i 6) (rnds K W v0 i 7) = app8 k (rnds K W v0 (i + qs.length)) := by
  intro qs
  induction qs with
  | nil => exact fun i _ => rfl
  | cons q qs IH =>
    intro i hq
    have h0 := hq 0 (by simp)
    simp only [List.getD_cons_zero, Nat.add_zero] at h0
    have ih := IH (i + 1) fun j hj => by
      have := hq (j + 1) (by simp; omega)
      simp only [List.getD_cons_succ] at this
      rw [this, show i + (j + 1) = i + 1 + j by omega]
    have e16 := hW (i + 16) (by omega)
    unfold sch1 at e16
    rw [show i + 16 - 16 = i + 0 by omega, show i + 16 - 7 = i + 9 by omega, show i + 16 - 15 = i + 1 by omega, show i + 16 - 2 = i + 14 by omega] at e16
    have er : rnds K W v0 (i + 1) = rnd (rnds K W v0 i) (K i) (W i) := rfl
    have key : ∀ j, i + 1 + j = i + (1 + j) := fun j => by omega
    rw [er] at ih
    obtain ⟨r1, r2, r3, r5, r6, r7⟩ := rndS (rnds K W v0 i) (K i) (W i)
    rw [rnd0, rnd4, tt_eq, uu_eq, r1, r2, r3, r5, r6, r7] at ih
    generalize rnds K W v0 i = v at *
    rw [stK_step, h0]
    rw [show i + 1 + 0 = i + 1 by omega, show i + 1 + 1 = i + 2 by omega, show i + 1 + 2 = i + 3 by omega, show i + 1 + 3 = i + 4 by omega, show i + 1 + 4 = i + 5 by omega, show i + 1 + 5 = i + 6 by omega, show i + 1 + 6 = i + 7 by omega, show i + 1 + 7 = i + 8 by omega, show i + 1 + 8 = i + 9 by omega, show i + 1 + 9 = i + 10 by omega, show i + 1 + 10 = i + 11 by omega, show i + 1 + 11 = i + 12 by omega, show i + 1 + 12 = i + 13 by omega, show i + 1 + 13 = i + 14 by omega, show i + 1 + 14 = i + 15 by omega, show i + 1 + 15 = i + 16 by omega, show i + 1 + qs.length = i + (q :: qs).length by rw [List.length_cons]; omega, e16] at ih
    exact ih
/-- a block -/
def cmK (k : Nat → Nat → Nat → Nat → Nat → Nat → Nat → Nat → β) (a b c d e f g h w0 w1 w2 w3 w4 w5 w6 w7 w8 w9 w10 w11 w12 w13 w14 w15 : Nat) : β := stK (fun xa xb xc xd xe xf xg xh => now (P a xa) fun ya => now (P b xb) fun yb => now (P c xc) fun yc => now (P d xd) fun yd => now (P e xe) fun ye => now (P f xf) fun yf => now (P g xg) fun yg => now (P h xh) fun yh => k ya yb yc yd ye yf yg yh) KL w0 w1 w2 w3 w4 w5 w6 w7 w8 w9 w10 w11 w12 w13 w14 w15 a b c d e f g h
theorem sch_self {f : Nat → Nat} {q j : Nat} (h : j < 16 + q) : sch f q j = sch f j j := by
  rcases Nat.le_total q j with h1 | h1
  · have := sch_stay f q (j - q) h
    rw [show q + (j - q) = j by omega] at this
    exact this.symm
  · have := sch_stay f j (q - j) (j := j) (by omega)
    rw [show j + (q - j) = q by omega] at this
    exact this
theorem sch_inf (f : Nat → Nat) (i : Nat) (h : 16 ≤ i) : sch f i i = sch1 (fun j => sch f j j) i := by
  have e : sch f (i - 15) i = sch1 (sch f (i - 16)) i := by
    rw [show i - 15 = (i - 16) + 1 by omega]
    show updN (sch f (i - 16)) (16 + (i - 16)) _ i = _
    rw [show 16 + (i - 16) = i by omega]
    unfold updN
    rw [if_pos rfl]
  rw [← sch_self (f := f) (q := i - 15) (by omega), e]
  unfold sch1
  rw [sch_self (f := f) (q := i - 16) (j := i - 7) (by omega), sch_self (f := f) (q := i - 16) (j := i - 15) (by omega), sch_self (f := f) (q := i - 16) (j := i - 2) (by omega)]
theorem rnds_congr {W W' v : Nat → Nat} : ∀ n, (∀ j, j < n → W j = W' j) → rnds K W v n = rnds K W' v n
  | 0, _ => rfl
  | n + 1, h => by
    show rnd (rnds K W v n) (K n) (W n) = rnd (rnds K W' v n) (K n) (W' n)
    rw [rnds_congr n fun j hj => h j (by omega), h n (by omega)]
theorem KL_get (j : Nat) : KL.getD j 0 = K j := rfl
theorem cmK_eq (k : Nat → Nat → Nat → Nat → Nat → Nat → Nat → Nat → β) (h p : Nat → Nat) (hp : ∀ j, p j < 256) : cmK k (h 0) (h 1) (h 2) (h 3) (h 4) (h 5) (h 6) (h 7) (word p 0) (word p 1) (word p 2) (word p 3) (word p 4) (word p 5) (word p 6) (word p 7) (word p 8) (word p 9) (word p 10) (word p 11) (word p 12) (word p 13) (word p 14) (word p 15) = app8 k (comp h p) := by
  have hf : ∀ i, i < 16 → sch (ldw p 64) i i = word p i := fun i hi => by
    rw [← sch_self (q := 0) (by omega)]
    show ldw p 64 i = _
    rw [ldw64 hp, if_pos hi]
  have hr : rnds K (sch (ldw p 64) 48) h 64 = rnds K (fun j => sch (ldw p 64) j j) h 64 := rnds_congr 64 fun j hj => sch_self (by omega)
  have := stK_eq (fun xa xb xc xd xe xf xg xh => now (P (h 0) xa) fun ya => now (P (h 1) xb) fun yb => now (P (h 2) xc) fun yc => now (P (h 3) xd) fun yd => now (P (h 4) xe) fun ye => now (P (h 5) xf) fun yf => now (P (h 6) xg) fun yg => now (P (h 7) xh) fun yh => k ya yb yc yd ye yf yg yh) (fun j => sch (ldw p 64) j j) (fun i hi => sch_inf _ i hi) h KL 0 (fun j _ => by rw [KL_get, Nat.zero_add])
  simp only [Nat.zero_add, show KL.length = 64 from rfl] at this
  rw [← hr] at this
  rw [hf 0 (by decide), hf 1 (by decide), hf 2 (by decide), hf 3 (by decide), hf 4 (by decide), hf 5 (by decide), hf 6 (by decide), hf 7 (by decide), hf 8 (by decide), hf 9 (by decide), hf 10 (by decide), hf 11 (by decide), hf 12 (by decide), hf 13 (by decide), hf 14 (by decide), hf 15 (by decide)] at this
  unfold cmK
  refine this.trans ?_
  simp only [now_eq, app8]
  rfl
/-- all blocks -/
def hNK (l : List UInt8) (h0 : Nat → Nat) : Nat → (Nat → Nat → Nat → Nat → Nat → Nat → Nat → Nat → β) → β
  | 0, k => app8 k h0
  | n + 1, k => hNK l h0 n fun a b c d e f g h => now (word (fun j => byteAt l (64 * n + j)) 0) fun w0 => now (word (fun j => byteAt l (64 * n + j)) 1) fun w1 => now (word (fun j => byteAt l (64 * n + j)) 2) fun w2 => now (word (fun j => byteAt l (64 * n + j)) 3) fun w3 => now (word (fun j => byteAt l (64 * n + j)) 4) fun w4 => now (word (fun j => byteAt l (64 * n + j)) 5) fun w5 => now (word (fun j => byteAt l (64 * n + j)) 6) fun w6 => now (word (fun j => byteAt l (64 * n + j)) 7) fun w7 => now (word (fun j => byteAt l (64 * n + j)) 8) fun w8 => now (word (fun j => byteAt l (64 * n + j)) 9) fun w9 => now (word (fun j => byteAt l (64 * n + j)) 10) fun w10 => now (word (fun j => byteAt l (64 * n + j)) 11) fun w11 => now (word (fun j => byteAt l (64 * n + j)) 12) fun w12 => now (word (fun j => byteAt l (64 * n + j)) 13) fun w13 => now (word (fun j => byteAt l (64 * n + j)) 14) fun w14 => now (word (fun j => byteAt l (64 * n + j)) 15) fun w15 => cmK k a b c d e f g h w0 w1 w2 w3 w4 w5 w6 w7 w8 w9 w10 w11 w12 w13 w14 w15
theorem hNK_eq (l : List UInt8) (h0 : Nat → Nat) : ∀ (n : Nat) (k : Nat → Nat → Nat → Nat → Nat → Nat → Nat → Nat → β), hNK l h0 n k = app8 k (hN h0 l n)
  | 0, k => rfl
  | n + 1, k => by
    rw [hNK, hNK_eq l h0 n]
    simp only [now_eq, app8]
    exact cmK_eq k (hN h0 l n) (fun j => byteAt l (64 * n + j)) fun j => byteAt_lt _ _
end
def eqL : List Nat → List UInt8 → Bool
  | [], [] => true
  | x :: r, y :: s => Nat.beq x y.toNat && eqL r s
  | _, _ => false
theorem eqL_eq : ∀ {r : List Nat} {s : List UInt8}, eqL r s = true → r.map UInt8.ofNat = s
  | [], [], _ => rfl
  | x :: r, y :: s, h => by
    simp only [eqL, Bool.and_eq_true] at h
    rw [List.map_cons, eqL_eq h.2, Nat.eq_of_beq_eq_true h.1, UInt8.ofNat_toNat]
def shaB (l out : List UInt8) : Bool := hNK (padded l) H0 ((padded l).length / 64) fun a b c d e f g h => eqL ((List.range 32).map (outB (v8 a b c d e f g h))) out
theorem v8_outB (r : Nat → Nat) : (List.range 32).map (outB (v8 (r 0) (r 1) (r 2) (r 3) (r 4) (r 5) (r 6) (r 7))) = (List.range 32).map (outB r) := rfl
end Sha
namespace Go.Pt
/-- a sum, found by the kernel -/
theorem sha_eq {l out : List UInt8} (h : Sha.shaB l out = true) : shaL l = out := by
  unfold Sha.shaB at h
  rw [Sha.hNK_eq] at h
  simp only [Sha.app8] at h
  rw [Sha.v8_outB] at h
  have := Sha.eqL_eq h
  rw [← this, List.map_map]
  unfold shaL
  rw [Sha.of_eq]
  rfl
end Go.Pt
end
section
/-
  The example of layer 5, reckoned: the signature of "x" by the secret 1 with the number 7; what of "y". Conditions: none.
-/
namespace Go.Proofs.YtfaobdakpbpkbaaDoor
open Go.RowKit Go.Pt
attribute [local irreducible] Prim.P256 Prim.N256
/-- an inverse by Fermat, told by any inverse -/
theorem pwm_inv {a b : Nat} (h : a * b % Prim.N256 = 1) (hb : b < Prim.N256) : pwm Prim.N256 a (Prim.N256 - 2) = b := by
  have h0 : a % Prim.N256 ≠ 0 := fun e => by rw [Nat.mul_mod, e, Nat.zero_mul, Nat.zero_mod] at h; cases h
  have hF := ferm_n a h0
  have h2 : 2 < Prim.N256 := by decide +kernel
  unfold pwm
  generalize Prim.N256 = m at *
  have e1 : a ^ (m - 1) = a * a ^ (m - 2) := by rw [← Nat.pow_succ', show (m - 2).succ = m - 1 by omega]
  have : a ^ (m - 2) % m = b * (a * a ^ (m - 2)) % m := by
    rw [← Nat.mul_assoc, Nat.mul_comm b a, Nat.mul_mod, h, Nat.one_mul, Nat.mod_mod]
  rw [this, ← e1, Nat.mul_mod, hF, Nat.mul_one, Nat.mod_mod, Nat.mod_eq_of_lt hb]
theorem sm_mod (n : Nat) : sm3 n (some curG) = sm3 (n % Prim.N256) (some curG) := by
  have h1 := Ec.sm_add disc3 onG (Prim.N256 * (n / Prim.N256)) (n % Prim.N256)
  have h2 := Ec.sm_mul disc3 onG Prim.N256 (n / Prim.N256)
  rw [Nat.div_add_mod] at h1
  rw [Nat.mul_comm, h2, show Ec.sm Ec.A3 Prim.N256 (some curG) = none from ordG, Ec.sm_none] at h1
  exact h1
theorem two_one (u v : Nat) : add3 (sm3 u (some curG)) (sm3 v (some curG)) = sm3 ((u + v) % Prim.N256) (some curG) := by
  rw [← sm_mod]
  exact (Ec.sm_add disc3 onG u v).symm
theorem sumX : shaL [120] = [0x2d, 0x71, 0x16, 0x42, 0xb7, 0x26, 0xb0, 0x44, 0x01, 0x62, 0x7c, 0xa9, 0xfb, 0xac, 0x32, 0xf5, 0xc8, 0x53, 0x0f, 0xb1, 0x90, 0x3c, 0xc4, 0xdb, 0x02, 0x25, 0x87, 0x17, 0x92, 0x1a, 0x48, 0x81] := sha_eq (by decide +kernel)
def eX : Nat := 0x2d711642b726b04401627ca9fbac32f5c8530fb1903cc4db02258717921a4881
theorem eN_x : eN [120] = eX := by
  unfold eN
  rw [sumX]
  decide +kernel
theorem poX_some (a b : Nat) : poX (some (nF a, nF b)) = a % Prim.P256 := rfl
end Go.Proofs.YtfaobdakpbpkbaaDoor
end
section
/-
  The example of layer 19, reckoned: the signature of "x" by the secret 1. Conditions: none.
-/
namespace Go.Proofs.YtfaobdakpbpkbaaDoor
open Go.RowKit Go.Pt
attribute [local irreducible] Prim.P256 Prim.N256
theorem macB_of {k t i o : List UInt8} (hk : Nat.ble k.length 64 = true) (h1 : Sha.shaB (padL k 54 ++ t) i = true) (h2 : Sha.shaB (padL k 92 ++ i) o = true) : macB k t = o := by
  unfold macB key64
  rw [if_neg (by have := Nat.le_of_ble_eq_true hk; omega), sha_eq h1, sha_eq h2]
theorem bL_1 : bL 1 = [0x00, 0x00, 0x00, 0x00, 0x00, 0x00, 0x00, 0x00, 0x00, 0x00, 0x00, 0x00, 0x00, 0x00, 0x00, 0x00, 0x00, 0x00, 0x00, 0x00, 0x00, 0x00, 0x00, 0x00, 0x00, 0x00, 0x00, 0x00, 0x00, 0x00, 0x00, 0x01] := by decide +kernel
theorem bL_e : bL eX = [0x2d, 0x71, 0x16, 0x42, 0xb7, 0x26, 0xb0, 0x44, 0x01, 0x62, 0x7c, 0xa9, 0xfb, 0xac, 0x32, 0xf5, 0xc8, 0x53, 0x0f, 0xb1, 0x90, 0x3c, 0xc4, 0xdb, 0x02, 0x25, 0x87, 0x17, 0x92, 0x1a, 0x48, 0x81] := by decide +kernel
theorem m1 : macB [0x00, 0x00, 0x00, 0x00, 0x00, 0x00, 0x00, 0x00, 0x00, 0x00, 0x00, 0x00, 0x00, 0x00, 0x00, 0x00, 0x00, 0x00, 0x00, 0x00, 0x00, 0x00, 0x00, 0x00, 0x00, 0x00, 0x00, 0x00, 0x00, 0x00, 0x00, 0x00] [0x01, 0x01, 0x01, 0x01, 0x01, 0x01, 0x01, 0x01, 0x01, 0x01, 0x01, 0x01, 0x01, 0x01, 0x01, 0x01, 0x01, 0x01, 0x01, 0x01, 0x01, 0x01, 0x01, 0x01, 0x01, 0x01, 0x01, 0x01, 0x01, 0x01, 0x01, 0x01, 0x00, 0x00, 0x00, 0x00, 0x00, 0x00, 0x00, 0x00, 0x00, 0x00, 0x00, 0x00, 0x00, 0x00, 0x00, 0x00, 0x00, 0x00, 0x00, 0x00, 0x00, 0x00, 0x00, 0x00, 0x00, 0x00, 0x00, 0x00, 0x00, 0x00, 0x00, 0x00, 0x01, 0x2d, 0x71, 0x16, 0x42, 0xb7, 0x26, 0xb0, 0x44, 0x01, 0x62, 0x7c, 0xa9, 0xfb, 0xac, 0x32, 0xf5, 0xc8, 0x53, 0x0f, 0xb1, 0x90, 0x3c, 0xc4, 0xdb, 0x02, 0x25, 0x87, 0x17, 0x92, 0x1a, 0x48, 0x81] = [0xd0, 0x52, 0x23, 0xf3, 0x47, 0x77, 0x81, 0x86, 0x1d, 0xe7, 0x4f, 0x5a, 0xc1, 0x16, 0xd3, 0x94, 0x33, 0xc9, 0xcf, 0x0a, 0x20, 0x4f, 0xcd, 0x75, 0x39, 0xf1, 0xcf, 0x32, 0x6f, 0x92, 0x67, 0x90] := macB_of (i := [0x9e, 0x0b, 0x20, 0x8c, 0x1e, 0x31, 0xa0, 0xc8, 0x20, 0xd2, 0x8c, 0xe6, 0x0d, 0x6b, 0x87, 0x8f, 0x7d, 0xe8, 0xaa, 0x3a, 0x3c, 0xe8, 0xb4, 0x48, 0x94, 0xe3, 0xe8, 0xf3, 0x4d, 0x37, 0x46, 0x22]) (by decide +kernel) (by decide +kernel) (by decide +kernel)
theorem m2 : macB [0xd0, 0x52, 0x23, 0xf3, 0x47, 0x77, 0x81, 0x86, 0x1d, 0xe7, 0x4f, 0x5a, 0xc1, 0x16, 0xd3, 0x94, 0x33, 0xc9, 0xcf, 0x0a, 0x20, 0x4f, 0xcd, 0x75, 0x39, 0xf1, 0xcf, 0x32, 0x6f, 0x92, 0x67, 0x90] [0x01, 0x01, 0x01, 0x01, 0x01, 0x01, 0x01, 0x01, 0x01, 0x01, 0x01, 0x01, 0x01, 0x01, 0x01, 0x01, 0x01, 0x01, 0x01, 0x01, 0x01, 0x01, 0x01, 0x01, 0x01, 0x01, 0x01, 0x01, 0x01, 0x01, 0x01, 0x01] = [0xc9, 0x61, 0xa7, 0x2e, 0xd7, 0x84, 0xa5, 0x03, 0x51, 0x8b, 0x0b, 0x3b, 0xb7, 0x91, 0xfe, 0x88, 0x48, 0x99, 0xe2, 0xfb, 0xb6, 0x0d, 0xe8, 0xc8, 0xab, 0x28, 0x10, 0xf1, 0x28, 0x0b, 0x59, 0x10] := macB_of (i := [0x9e, 0x15, 0x86, 0xcc, 0xb1, 0x6c, 0xcf, 0x88, 0x71, 0xf6, 0x96, 0xe0, 0x3b, 0xc1, 0x03, 0x5d, 0x41, 0xf7, 0x40, 0x7c, 0xf7, 0x0b, 0x58, 0x7f, 0x07, 0x63, 0xfc, 0xf5, 0xdb, 0xe3, 0xca, 0x0a]) (by decide +kernel) (by decide +kernel) (by decide +kernel)
theorem m3 : macB [0xd0, 0x52, 0x23, 0xf3, 0x47, 0x77, 0x81, 0x86, 0x1d, 0xe7, 0x4f, 0x5a, 0xc1, 0x16, 0xd3, 0x94, 0x33, 0xc9, 0xcf, 0x0a, 0x20, 0x4f, 0xcd, 0x75, 0x39, 0xf1, 0xcf, 0x32, 0x6f, 0x92, 0x67, 0x90] [0xc9, 0x61, 0xa7, 0x2e, 0xd7, 0x84, 0xa5, 0x03, 0x51, 0x8b, 0x0b, 0x3b, 0xb7, 0x91, 0xfe, 0x88, 0x48, 0x99, 0xe2, 0xfb, 0xb6, 0x0d, 0xe8, 0xc8, 0xab, 0x28, 0x10, 0xf1, 0x28, 0x0b, 0x59, 0x10, 0x01, 0x00, 0x00, 0x00, 0x00, 0x00, 0x00, 0x00, 0x00, 0x00, 0x00, 0x00, 0x00, 0x00, 0x00, 0x00, 0x00, 0x00, 0x00, 0x00, 0x00, 0x00, 0x00, 0x00, 0x00, 0x00, 0x00, 0x00, 0x00, 0x00, 0x00, 0x00, 0x01, 0x2d, 0x71, 0x16, 0x42, 0xb7, 0x26, 0xb0, 0x44, 0x01, 0x62, 0x7c, 0xa9, 0xfb, 0xac, 0x32, 0xf5, 0xc8, 0x53, 0x0f, 0xb1, 0x90, 0x3c, 0xc4, 0xdb, 0x02, 0x25, 0x87, 0x17, 0x92, 0x1a, 0x48, 0x81] = [0x2d, 0x21, 0xc8, 0xb9, 0xf3, 0x3e, 0xd8, 0xc4, 0x24, 0x26, 0x24, 0xaf, 0x3e, 0xf5, 0x71, 0xfa, 0x03, 0xf0, 0xce, 0x48, 0xc8, 0xff, 0x13, 0x0c, 0xaf, 0xc2, 0x9c, 0x64, 0xe8, 0x7c, 0x75, 0xc1] := macB_of (i := [0xa8, 0xce, 0x29, 0x93, 0x7f, 0x04, 0xa8, 0x16, 0x94, 0x43, 0x12, 0x27, 0x41, 0xfc, 0xe0, 0xa8, 0xb0, 0x3b, 0xf7, 0x23, 0x8e, 0x27, 0x30, 0xbf, 0xd3, 0x5e, 0xd1, 0xcd, 0xa1, 0x4b, 0xbb, 0xf3]) (by decide +kernel) (by decide +kernel) (by decide +kernel)
theorem m4 : macB [0x2d, 0x21, 0xc8, 0xb9, 0xf3, 0x3e, 0xd8, 0xc4, 0x24, 0x26, 0x24, 0xaf, 0x3e, 0xf5, 0x71, 0xfa, 0x03, 0xf0, 0xce, 0x48, 0xc8, 0xff, 0x13, 0x0c, 0xaf, 0xc2, 0x9c, 0x64, 0xe8, 0x7c, 0x75, 0xc1] [0xc9, 0x61, 0xa7, 0x2e, 0xd7, 0x84, 0xa5, 0x03, 0x51, 0x8b, 0x0b, 0x3b, 0xb7, 0x91, 0xfe, 0x88, 0x48, 0x99, 0xe2, 0xfb, 0xb6, 0x0d, 0xe8, 0xc8, 0xab, 0x28, 0x10, 0xf1, 0x28, 0x0b, 0x59, 0x10] = [0x0b, 0xdd, 0x69, 0x66, 0xaf, 0xc5, 0xad, 0x7c, 0xb6, 0x29, 0xdc, 0x9b, 0x9f, 0x52, 0xc7, 0x8c, 0xea, 0xc7, 0x36, 0x37, 0xbf, 0xb1, 0x5a, 0x71, 0xd1, 0x50, 0x24, 0xb5, 0xf3, 0x76, 0x5b, 0x4e] := macB_of (i := [0x18, 0x69, 0x7a, 0xe6, 0x3c, 0x60, 0xd1, 0xad, 0x05, 0x45, 0xfc, 0x4c, 0x80, 0x74, 0x04, 0x3a, 0x2a, 0xbf, 0x06, 0x7e, 0x25, 0x7c, 0xd0, 0x3c, 0x2e, 0x5e, 0x5d, 0x86, 0xd2, 0xe5, 0xa0, 0x09]) (by decide +kernel) (by decide +kernel) (by decide +kernel)
theorem m5 : macB [0x2d, 0x21, 0xc8, 0xb9, 0xf3, 0x3e, 0xd8, 0xc4, 0x24, 0x26, 0x24, 0xaf, 0x3e, 0xf5, 0x71, 0xfa, 0x03, 0xf0, 0xce, 0x48, 0xc8, 0xff, 0x13, 0x0c, 0xaf, 0xc2, 0x9c, 0x64, 0xe8, 0x7c, 0x75, 0xc1] [0x0b, 0xdd, 0x69, 0x66, 0xaf, 0xc5, 0xad, 0x7c, 0xb6, 0x29, 0xdc, 0x9b, 0x9f, 0x52, 0xc7, 0x8c, 0xea, 0xc7, 0x36, 0x37, 0xbf, 0xb1, 0x5a, 0x71, 0xd1, 0x50, 0x24, 0xb5, 0xf3, 0x76, 0x5b, 0x4e] = [0xfd, 0xd7, 0xc1, 0xa9, 0xc5, 0xd3, 0x5c, 0x21, 0xd7, 0x82, 0x00, 0xd1, 0x1c, 0x9c, 0xd7, 0xc7, 0x8e, 0x1a, 0xbd, 0xb5, 0x86, 0x95, 0x4e, 0xd7, 0x76, 0x00, 0x14, 0x1f, 0x5b, 0x7e, 0x06, 0x05] := macB_of (i := [0x76, 0xf7, 0xdd, 0xde, 0x4f, 0xe7, 0xf0, 0x07, 0x95, 0x2d, 0x2f, 0xc7, 0x44, 0x33, 0x64, 0xcd, 0xa9, 0x93, 0x09, 0xfa, 0xfd, 0x8d, 0x88, 0x40, 0x9f, 0xe6, 0x88, 0xb3, 0x6d, 0x6a, 0x32, 0x65]) (by decide +kernel) (by decide +kernel) (by decide +kernel)
theorem st0 : stp 1 eX 0 = ([0x00, 0x00, 0x00, 0x00, 0x00, 0x00, 0x00, 0x00, 0x00, 0x00, 0x00, 0x00, 0x00, 0x00, 0x00, 0x00, 0x00, 0x00, 0x00, 0x00, 0x00, 0x00, 0x00, 0x00, 0x00, 0x00, 0x00, 0x00, 0x00, 0x00, 0x00, 0x00], [0x01, 0x01, 0x01, 0x01, 0x01, 0x01, 0x01, 0x01, 0x01, 0x01, 0x01, 0x01, 0x01, 0x01, 0x01, 0x01, 0x01, 0x01, 0x01, 0x01, 0x01, 0x01, 0x01, 0x01, 0x01, 0x01, 0x01, 0x01, 0x01, 0x01, 0x01, 0x01]) := rfl
theorem st1 : stp 1 eX 1 = ([0xd0, 0x52, 0x23, 0xf3, 0x47, 0x77, 0x81, 0x86, 0x1d, 0xe7, 0x4f, 0x5a, 0xc1, 0x16, 0xd3, 0x94, 0x33, 0xc9, 0xcf, 0x0a, 0x20, 0x4f, 0xcd, 0x75, 0x39, 0xf1, 0xcf, 0x32, 0x6f, 0x92, 0x67, 0x90], [0xc9, 0x61, 0xa7, 0x2e, 0xd7, 0x84, 0xa5, 0x03, 0x51, 0x8b, 0x0b, 0x3b, 0xb7, 0x91, 0xfe, 0x88, 0x48, 0x99, 0xe2, 0xfb, 0xb6, 0x0d, 0xe8, 0xc8, 0xab, 0x28, 0x10, 0xf1, 0x28, 0x0b, 0x59, 0x10]) := by
  show (macB (stp 1 eX 0).1 ((stp 1 eX 0).2 ++ ([UInt8.ofNat 0] ++ (bL 1 ++ bL eX))), macB (macB (stp 1 eX 0).1 ((stp 1 eX 0).2 ++ ([UInt8.ofNat 0] ++ (bL 1 ++ bL eX)))) (stp 1 eX 0).2) = _
  rw [st0, bL_1, bL_e]
  simp only [List.cons_append, List.nil_append]
  rw [show UInt8.ofNat 0 = 0 from rfl, m1, m2]
theorem st2 : stp 1 eX 2 = ([0x2d, 0x21, 0xc8, 0xb9, 0xf3, 0x3e, 0xd8, 0xc4, 0x24, 0x26, 0x24, 0xaf, 0x3e, 0xf5, 0x71, 0xfa, 0x03, 0xf0, 0xce, 0x48, 0xc8, 0xff, 0x13, 0x0c, 0xaf, 0xc2, 0x9c, 0x64, 0xe8, 0x7c, 0x75, 0xc1], [0x0b, 0xdd, 0x69, 0x66, 0xaf, 0xc5, 0xad, 0x7c, 0xb6, 0x29, 0xdc, 0x9b, 0x9f, 0x52, 0xc7, 0x8c, 0xea, 0xc7, 0x36, 0x37, 0xbf, 0xb1, 0x5a, 0x71, 0xd1, 0x50, 0x24, 0xb5, 0xf3, 0x76, 0x5b, 0x4e]) := by
  show (macB (stp 1 eX 1).1 ((stp 1 eX 1).2 ++ ([UInt8.ofNat 1] ++ (bL 1 ++ bL eX))), macB (macB (stp 1 eX 1).1 ((stp 1 eX 1).2 ++ ([UInt8.ofNat 1] ++ (bL 1 ++ bL eX)))) (stp 1 eX 1).2) = _
  rw [st1, bL_1, bL_e]
  simp only [List.cons_append, List.nil_append]
  rw [show UInt8.ofNat 1 = 1 from rfl, m3, m4]
theorem dr_eq : drawK 1 eX = [0xfd, 0xd7, 0xc1, 0xa9, 0xc5, 0xd3, 0x5c, 0x21, 0xd7, 0x82, 0x00, 0xd1, 0x1c, 0x9c, 0xd7, 0xc7, 0x8e, 0x1a, 0xbd, 0xb5, 0x86, 0x95, 0x4e, 0xd7, 0x76, 0x00, 0x14, 0x1f, 0x5b, 0x7e, 0x06, 0x05] := by
  unfold drawK
  rw [st2, m5]
def k19 : Nat := 0xfdd7c1a9c5d35c21d78200d11c9cd7c78e1abdb586954ed77600141f5b7e0605
theorem k19_eq : k19 = rdL (drawK 1 eX) := by
  rw [dr_eq]
  decide +kernel
theorem k19_ok : okS k19 = true := by decide +kernel
def x19 : Nat := 0x3d6d8c7916e6646191514b814c4faa6bbfec5b823bfa8c9b10efb275f9f074f2
def y19 : Nat := 0x42d57e88786242b71379d47302f21df11ed811e15d1d9e3c729bd30ae2a9a8c8
theorem lad19 : lad Prim.P256 k19 curG.1.val curG.2.val 256 1 1 0 (fun x y z => !(Nat.beq z 0) && (Nat.beq (x19 * (z * z) % Prim.P256) x && Nat.beq (y19 * (z * z * z) % Prim.P256) y)) = true := by decide +kernel
theorem sm19 : sm3 k19 (some curG) = some (nF x19, nF y19) := sm_some_of (by decide +kernel) onG lad19
def r19 : Nat := 0x3d6d8c7916e6646191514b814c4faa6bbfec5b823bfa8c9b10efb275f9f074f2
theorem r_of2 {k x y r : Nat} (h : sm3 k (some curG) = some (nF x, nF y)) (hr : x % Prim.P256 % Prim.N256 = r) : r = poX (sm3 k (some curG)) % Prim.N256 := by
  rw [h]
  exact hr.symm
theorem r19_eq : r19 = poX (sm3 k19 (some curG)) % Prim.N256 := r_of2 sm19 (by decide +kernel)
def k19i : Nat := 0x56605fb96b8007ac777beaaa532bc1862c63d6b1fa5f57433a51c6c36b74f9c
def s19 : Nat := 0x104ed8cb4aacc72bf4d86da58e2096337055c52cf3af7ad3c0b581e21cb1aea9
def s19i : Nat := 0xc6923f7c9af681006126030008118914b5beff29387edb412721ee461c37c29e
theorem k19inv : pwm Prim.N256 k19 (Prim.N256 - 2) = k19i := pwm_inv (by decide +kernel) (by decide +kernel)
theorem s19inv : pwm Prim.N256 s19 (Prim.N256 - 2) = s19i := pwm_inv (by decide +kernel) (by decide +kernel)
theorem s_of2 {E R n I K S : Nat} (h : K = I) (hs : (E + R * n % Prim.N256) % Prim.N256 * I % Prim.N256 = S) : S = (E + R * n % Prim.N256) % Prim.N256 * K % Prim.N256 := by
  rw [h]
  exact hs.symm
theorem s19_eq : s19 = (eX + r19 * 1 % Prim.N256) % Prim.N256 * pwm Prim.N256 k19 (Prim.N256 - 2) % Prim.N256 := s_of2 k19inv (by decide +kernel)
def u19 : Nat := 0x312152ee846f0b9d6bf6a17f32629f06a5e373d53c1f6b62db611702c4faf6d5
def v19 : Nat := 0xccb66ebb416450846b8b5f51ea3a38c0e83749e04a75e3749a9efd1c96830f30
theorem u19_eq : eN [120] * pwm Prim.N256 s19 (Prim.N256 - 2) % Prim.N256 = u19 := by
  rw [eN_x, s19inv]
  decide +kernel
theorem v19_eq : r19 * pwm Prim.N256 s19 (Prim.N256 - 2) % Prim.N256 = v19 := by
  rw [s19inv]
  decide +kernel
theorem a19 : add3 (sm3 u19 (some curG)) (sm3 v19 (some curG)) = some (nF x19, nF y19) := by
  rw [two_one, show (u19 + v19) % Prim.N256 = k19 by decide +kernel, sm19]
end Go.Proofs.YtfaobdakpbpkbaaDoor
end
section
/-
  porticolaw05.fit. Conditions: the table of SHA-256 is laid.
-/
namespace Go.Proofs.YtfaobdakpbpkbaaDoor
open Go.RowKit Go.Pt
attribute [local irreducible] Prim.P256 Prim.N256
def gx : Nat := 0x6B17D1F2E12C4247F8BCE6E563A440F277037D812DEB33A0F4A13945D898C296
def gy : Nat := 0x4FE342E2FE1A7F9B8EE7EB4A7C0F9E162BCE33576B315ECECBB6406837BF51F5
/-- the key of the secret 1 -/
def keyG : List UInt8 := beL gx ++ beL gy
theorem gx_eq : poX (some curG) = gx := by decide +kernel
theorem gy_eq : poY (some curG) = gy := by decide +kernel
theorem keyG_len : keyG.length = 64 := by unfold keyG; rw [List.length_append, beL_len, beL_len]
theorem keyG_take : keyG.take 32 = beL gx := by unfold keyG; rw [List.take_append_of_le_length (by rw [beL_len]; decide), List.take_of_length_le (by rw [beL_len]; decide)]
theorem keyG_drop : keyG.drop 32 = beL gy := by
  unfold keyG
  rw [show (32 : Nat) = (beL gx).length from (beL_len _).symm, List.drop_left]
theorem gx_W : gx < W256 := by decide +kernel
theorem gy_W : gy < W256 := by decide +kernel
theorem keyG_x : rdL (keyG.take 32) = gx := by rw [keyG_take, rd_beL gx_W]
theorem keyG_y : rdL (keyG.drop 32) = gy := by rw [keyG_drop, rd_beL gy_W]
theorem onB_g : onB gx gy = true := by decide +kernel
theorem gG : some (nF gx, nF gy) = some curG := rfl
end Go.Proofs.YtfaobdakpbpkbaaDoor
end
section
/-
  porticolaw19.fit. Conditions: the table of SHA-256 is laid.
-/
namespace Go.Proofs.YtfaobdakpbpkbaaDoor
open Go.RowKit Go.Pt
attribute [local irreducible] Prim.P256 Prim.N256
def SEC : List UInt8 := List.replicate 31 0 ++ [1]
theorem sec_o : cellsN .u8 32 (updN (fun _ => 0) 31 1) = byteCells SEC := by kernel_rfl
theorem sec_z : (madeCells (Value.int .u8 0).cells (32 * 1)).toList = cellsN .u8 32 (fun _ => 0) := by kernel_rfl
theorem sec_n : rdL SEC = 1 := by decide +kernel
theorem sec_k : okS (rdL SEC) = true := by decide +kernel
theorem bL_gx : bL gx = beL gx := by decide +kernel
theorem bL_gy : bL gy = beL gy := by decide +kernel
theorem keyB : bL (poX (some curG)) ++ bL (poY (some curG)) = keyG := by rw [gx_eq, gy_eq, bL_gx, bL_gy]; rfl
def sig19 : List UInt8 := bL r19 ++ bL s19
theorem sig19_len : sig19.length = 64 := by unfold sig19; rw [List.length_append, bL_len, bL_len]
theorem sig19_r : rdL (sig19.take 32) = r19 := by decide +kernel
theorem sig19_s : rdL (sig19.drop 32) = s19 := by decide +kernel
theorem ver_19 : verA r19 s19 (some (nF x19, nF y19)) = 0 := by
  unfold verA
  rw [poX_some, if_neg (by decide +kernel), if_neg (by rintro (h | h); cases h; exact absurd h (by decide +kernel))]
theorem keyG_0 : ∀ h : 0 < keyG.length, keyG[0].toNat = 107 := by decide +kernel
theorem sign19 (kv mv gv : Value) (w : World) (hK : ArrAt w 0 0 .u32 64 Sha.K) (hv : Bs w kv keyG) (hvl : ∀ k, kv.ownBlock = some k → k < w.heap.size) (hm : Bs w mv [120]) (hmv : ∀ k, mv.ownBlock = some k → k < w.heap.size) (hg : Bs w gv sig19) :
    Calls Tryd.prog 8 #[kv, mv, gv] w fun e w' => e = .returned (.int .i64 0) ∧ Hp w [] w' := by
  have := signVerM kv mv gv keyG [120] sig19 w hK hv hvl keyG_len (by rw [keyG_x, keyG_y]; exact onB_g) hm (by decide) (fun _ => hmv) hg sig19_len u19 v19 (some (nF x19, nF y19)) (by rw [sig19_s]; exact u19_eq) (by rw [sig19_r, sig19_s]; exact v19_eq) (by rw [keyG_x, keyG_y, gG]; exact a19.symm)
  rw [sig19_r, sig19_s, ver_19] at this
  exact this
set_option maxHeartbeats 8000000 in
theorem fit19 (w : World) (hK : ArrAt w 0 0 .u32 64 Sha.K) : Calls Tryd.prog 13 #[] w fun e w' => e = .returned (.bool true) ∧ Hp w [] w' := by
  have h0K := hK.lt (by decide)
  refine enter (args := []) (Γ := []) Tryd.func13 Tryd.ntmps13 rfl (of_decide_eq_true rfl) .nil ?_
  repeat' (first | (apply Wl.assign; exact rfl; exact rfl) | (apply Wl.nil) | (apply St.seq) | (apply St.region) | (apply Gt.next) | (apply Wl.splitP; exact rfl; exact rfl; all_goals (intros; try (exfalso; omega))) | (apply Wl.splitB; exact rfl; exact rfl; all_goals intros) | (apply St.condP; exact rfl; all_goals (intros; try (exfalso; omega))) | (apply St.condB; exact rfl; all_goals intros))
  apply Wl.makeSlice (n := 32)
  · exact rfl
  · exact rfl
  · exact rfl
  · exact rfl
  · decide
  intro cb hcb hob
  rw [sec_z]
  repeat' (first | (apply Wl.indexS0 (j := 31); exact rfl; exact rfl; exact rfl; (decide)) | (apply Wl.storeN (v := 1); exact rfl; exact rfl; (repeat (first | apply HSet.here | apply HSet.there)); (decide)) | (apply Wl.move; exact rfl; exact rfl) | (apply Wl.assign; exact rfl; exact rfl) | (apply Wl.nil) | (apply St.seq) | (apply St.region) | (apply Gt.next) | (apply Wl.splitP; exact rfl; exact rfl; all_goals (intros; try (exfalso; omega))) | (apply Wl.splitB; exact rfl; exact rfl; all_goals intros) | (apply St.condP; exact rfl; all_goals (intros; try (exfalso; omega))) | (apply St.condB; exact rfl; all_goals intros))
  apply Wl.reb (H' := [])
  intro w1 hw1
  refine ⟨trivial, trivial, ?_⟩
  rw [sec_o] at hw1
  have hu1 : Upd (fun k => w.heap.size ≤ k) w w1 := hpOn hw1 (Upd.refl _ _) (by simp; omega)
  have hsec : Bs w1 (.slice (some ⟨cb, 0, none⟩) 32 32) SEC := Bs.ofBlk (l := SEC) (hw1.own.at (x := ⟨cb, byteCells SEC, 5⟩) (.head _)) (by decide)
  have s1 := hw1.upd.size
  have lcb := hw1.own.lt (.head _)
  simp only at lcb
  clear hw1
  apply Wl.callC
  · exact rfl
  · (repeat (first | exact Evs.nil | apply Evs.cons rfl))
  intro wq hq
  have s2 := hq.upd.size
  refine (sealPublic _ SEC wq (bsNew hsec hq (by simp)) (by decide) sec_k (some curG) (by rw [sec_n]; exact (Ec.sm_one _).symm)).mono ?_
  rintro e w2 ⟨kv, rfl, hb2, u2⟩
  rw [keyB] at hb2
  have hq2 := hpNewer hq u2
  have s3 := u2.size
  refine ⟨_, _, rfl, hpRb hq2, ?_⟩
  have hb2 : Bo w2 w.heap.size kv keyG := Bo.lower hb2 (by omega)
  have hu2 : Upd (fun k => w.heap.size ≤ k) w w2 := hpOn hq2 hu1 (by simp)
  have hsec2 : Bs w2 (.slice (some ⟨cb, 0, none⟩) 32 32) SEC := (bsNew hsec hq (by simp)).upd u2 fun k hk hlt hne hs => by cases hk; have hs' : wq.heap.size ≤ cb := hs; omega
  clear hq hq2 u2 hsec
  obtain ⟨ka, kc, rfl, hkc, hkm⟩ := hb2.bs.shape
  obtain ⟨ab, off, rfl, hcell⟩ := hb2.bs.cells (fun e => by have := keyG_len; rw [e] at this; cases this)
  have hk0 : w2.cell? ⟨ab, off, none⟩ = some (.int .u8 107) := by
    have := hcell 0 (by rw [keyG_len]; decide)
    rw [keyG_0] at this
    exact this
  rw [keyG_len] at hb2 hkc ⊢
  clear hcell
  repeat' (first | (apply Wl.move; exact rfl; exact rfl) | (apply Wl.assign; exact rfl; exact rfl) | (apply Wl.extract; exact rfl; exact rfl; exact rfl) | (apply Wl.lit; exact rfl; (repeat (first | exact Parts.nil | apply Parts.cons rfl)); exact rfl; exact rfl; (repeat (first | apply CatP.nil | (apply CatP.one; exact rfl; exact rfl) | (apply CatP.agg; exact rfl) | apply LApp.nil | apply LApp.cons)); intro c hc ho) | (apply Wl.nil) | (apply St.seq) | (apply St.region) | (apply Gt.next) | (apply Wl.splitP; exact rfl; exact rfl; all_goals (intros; try (exfalso; omega))) | (apply Wl.splitB; exact rfl; exact rfl; all_goals intros) | (apply St.condP; exact rfl; all_goals (intros; try (exfalso; omega))) | (apply St.condB; exact rfl; all_goals intros))
  generalize c = c2 at *
  have hc2 : w2.heap.size ≤ c2 := by assumption
  apply Wl.convMk [120]
  · exact rfl
  · exact rfl
  · exact rfl
  · exact rfl
  · decide
  · exact hc2
  intro w4 hx4 u4 _ _ _ l4
  have hb4 : Bo w4 w.heap.size (.slice (some ⟨ab, off, none⟩) 64 kc) keyG := hb2.upd u4 fun k hk hs => hs trivial
  have hk4 : w4.cell? ⟨ab, off, none⟩ = some (.int .u8 107) := u4.cell hk0 fun hs => hs trivial
  have hsec4 : Bs w4 (.slice (some ⟨cb, 0, none⟩) 32 32) SEC := hsec2.upd u4 fun k hk _ _ hs => hs trivial
  have hu4 : Upd (fun k => w.heap.size ≤ k) w w4 := hu2.comp u4 fun k hk hs => hs.elim id fun hs => absurd trivial hs
  have s4 := u4.size
  clear hb2 hk0 hsec2 hu2 u4
  repeat' (first | (apply Wl.splitP; exact rfl; exact rfl; all_goals (intros; try (exfalso; omega))) | (apply Wl.splitB; exact rfl; exact rfl; all_goals intros) | (apply St.condP; exact rfl; all_goals (intros; try (exfalso; omega))) | (apply St.condB; exact rfl; all_goals intros))
  apply Wl.callC
  · exact rfl
  · (repeat (first | exact Evs.nil | apply Evs.cons rfl))
  intro wq hq
  have s5 := hq.upd.size
  refine (sealSign _ _ SEC [120] wq ((hK.upd hu4 (by omega)).upd hq.upd (fun y => y trivial)) (bsNew hsec4 hq (by simp)) (by decide) sec_k (bsNew hx4 hq (by simp)) (by decide) k19 r19 s19 (by rw [sec_n, eN_x]; exact k19_eq) k19_ok r19_eq (by decide +kernel) (by rw [sec_n, eN_x]; exact s19_eq) (by decide +kernel)).mono ?_
  rintro e w5 ⟨gv, rfl, hg, u5⟩
  have hg : Bo w5 w.heap.size gv sig19 := Bo.lower hg (by omega)
  have hq5 := hpNewer hq u5
  have s6 := u5.size
  refine ⟨_, _, rfl, hpRb hq5, ?_⟩
  have lab := (hb4.lt ab rfl).2
  have hb5 : Bo w5 w.heap.size (.slice (some ⟨ab, off, none⟩) 64 kc) keyG := (hb4.upd hq.upd fun k hk hs => hs trivial).upd u5 fun k hk hs => by cases hk; have hs' : wq.heap.size ≤ ab := hs; omega
  have hk5 : w5.cell? ⟨ab, off, none⟩ = some (.int .u8 107) := u5.cell (hq.upd.cell hk4 fun hs => hs trivial) fun hs => by have hs' : wq.heap.size ≤ ab := hs; omega
  have hu5 : Upd (fun k => w.heap.size ≤ k) w w5 := hpOn hq5 hu4 (by simp)
  clear hb4 hk4 hu4 u5 hq5 hq hx4 hsec4
  repeat' (first | (apply Wl.loadO; exact rfl; exact rfl; exact hk5; (exact trivial)) | (apply Wl.move; exact rfl; exact rfl) | (apply Wl.assign; exact rfl; exact rfl) | (apply Wl.on; exact rfl; exact rfl; (first | with_reducible rfl | with_reducible assumption | decide)) | (apply Wl.extract; exact rfl; exact rfl; exact rfl) | (apply Wl.pickT; exact rfl; exact rfl; (first | with_reducible rfl | with_reducible assumption | decide); exact rfl) | (apply Wl.eqlIs; exact rfl; exact rfl; exact rfl; (first | with_reducible assumption | with_reducible rfl)) | (apply Wl.eql; exact rfl; exact rfl; exact rfl) | (apply Wl.len; exact rfl; exact rfl) | (apply Wl.lit; exact rfl; (repeat (first | exact Parts.nil | apply Parts.cons rfl)); exact rfl; exact rfl; (repeat (first | apply CatP.nil | (apply CatP.one; exact rfl; exact rfl) | (apply CatP.agg; exact rfl) | apply LApp.nil | apply LApp.cons)); intro c hc ho) | (apply Wl.indexAddr1; exact rfl; exact rfl; exact rfl; (constructor <;> omega)) | (apply Wl.nil) | (apply St.seq) | (apply St.region) | (apply Gt.next) | (apply Wl.splitP; exact rfl; exact rfl; all_goals (intros; try (exfalso; omega))) | (apply Wl.splitB; exact rfl; exact rfl; all_goals intros) | (apply St.condP; exact rfl; all_goals (intros; try (exfalso; omega))) | (apply St.condB; exact rfl; all_goals intros))
  generalize c = c3 at *
  have hc3 : w5.heap.size ≤ c3 := by assumption
  apply Wl.convMk [120]
  · exact rfl
  · exact rfl
  · exact rfl
  · exact rfl
  · decide
  · exact hc3
  intro w6 hx6 u6 _ _ _ l6
  have hb6 : Bo w6 w.heap.size (.slice (some ⟨ab, off, none⟩) 64 kc) keyG := hb5.upd u6 fun k hk hs => hs trivial
  have hg6 : Bo w6 w.heap.size gv sig19 := hg.upd u6 fun k hk hs => hs trivial
  have hu6 : Upd (fun k => w.heap.size ≤ k) w w6 := hu5.comp u6 fun k hk hs => hs.elim id fun hs => absurd trivial hs
  repeat' (first | (apply Wl.move; exact rfl; exact rfl) | (apply Wl.on; exact rfl; exact rfl; (first | with_reducible rfl | with_reducible assumption | decide)) | (apply Wl.splitP; exact rfl; exact rfl; all_goals (intros; try (exfalso; omega))) | (apply Wl.splitB; exact rfl; exact rfl; all_goals intros) | (apply St.condP; exact rfl; all_goals (intros; try (exfalso; omega))) | (apply St.condB; exact rfl; all_goals intros))
  apply Wl.callQ
  · exact rfl
  · (repeat (first | exact Evs.nil | apply Evs.cons rfl))
  · intro wq hq
    have hbq := hb6.upd hq.upd fun k hk hs => hs trivial
    have hgq := hg6.upd hq.upd fun k hk hs => hs trivial
    have s7 := hq.upd.size
    have hvq := hbq.bs
    refine (sign19 _ _ gv wq ((hK.upd hu6 (by omega)).upd hq.upd (fun y => y trivial)) hvq (fun k hk => (hbq.lt k hk).2) (bsNew hx6 hq (by simp)) (fun k hk => by cases hk; show c3 < _; omega) hgq.bs).mono ?_
    rintro e wr ⟨rfl, hr⟩
    exact ⟨rfl, hq.keep hr⟩
  repeat' (first | (apply Wl.assign; exact rfl; exact rfl) | (apply Wl.on; exact rfl; exact rfl; (first | with_reducible rfl | with_reducible assumption | decide)) | (apply Wl.pickT; exact rfl; exact rfl; (first | with_reducible rfl | with_reducible assumption | decide); exact rfl) | (apply Wl.eqlIs; exact rfl; exact rfl; exact rfl; (first | with_reducible assumption | with_reducible rfl)) | (apply Wl.nil) | (apply St.ret) | (apply Gt.next) | (apply Gt.out1; exact rfl; exact rfl; intro w' hp) | (apply Wl.splitP; exact rfl; exact rfl; all_goals (intros; try (exfalso; omega))) | (apply Wl.splitB; exact rfl; exact rfl; all_goals intros) | (apply St.condP; exact rfl; all_goals (intros; try (exfalso; omega))) | (apply St.condB; exact rfl; all_goals intros))
  exact ⟨rfl, hpFin hp hu6 (by simp)⟩
end Go.Proofs.YtfaobdakpbpkbaaDoor
end
section
/-
  SealMacs. Conditions: no slice has more than 2^47 bytes; the table of SHA-256 is laid.
-/
namespace Go.Pt
open Go.RowKit
theorem Pts.upd {S : Nat → Prop} {w w' : World} {v : Value} {ls : List (List UInt8)} (h : Pts w v ls) (u : Upd S w w') (hS : ∀ k, k < w.heap.size → ¬ S k) : Pts w' v ls := by
  obtain ⟨vs, h1, h2, h3⟩ := h
  exact ⟨vs, h1, h2.upd u fun k _ hk _ => hS k hk, fun i x l hx hl => (h3 i x l hx hl).upd u fun k _ hk _ => hS k hk⟩
theorem cell8 (f : Nat → Nat) (hf : ∀ j, f j < 256) : ∀ j, j < 32 → IntKind.u8.min ≤ (f j : Int) ∧ (f j : Int) ≤ IntKind.u8.max := fun j _ => by
  have h0 : IntKind.u8.min = 0 := by decide
  have h1 : IntKind.u8.max = 255 := by decide
  have := hf j
  rw [h0, h1]
  omega
theorem eqF {f g : Nat → Nat} (h : f = g) : true = true ↔ ∀ j, j < 32 → f j = g j := ⟨fun _ _ _ => by rw [h], fun _ => rfl⟩
theorem shaLt (l : List UInt8) (j : Nat) : Sha.of l j < 256 := by rw [Sha.of_eq]; exact Nat.mod_lt _ (by decide)
end Go.Pt
namespace Go.Proofs.YtfaobdakpbpkbaaDoor
open Go.RowKit Go.Pt
attribute [local irreducible] Prim.P256 Prim.N256
set_option maxHeartbeats 16000000 in
theorem macs19 (kv pv : Value) (k : List UInt8) (ls : List (List UInt8)) (w : World) (hK : ArrAt w 0 0 .u32 64 Sha.K) (hk : Bs w kv k) (hkn : k.length ≤ 140737488355328) (hp : Pts w pv ls) (hl : ∀ l ∈ ls, l.length ≤ 140737488355328) :
    Calls Tryd.prog 5 #[kv, pv] w fun e w' => e = .returned (.bool true) ∧ Hp w [] w' := by
  have h0K := hK.lt (by decide)
  have hp0 := hp
  obtain ⟨vs, hlen, ⟨_, pa, pc, rfl, hc1, hc2, _, hcell⟩, hbs⟩ := hp
  unfold maxLen at hc2
  obtain ⟨ka, kc, rfl, hkl, hkm⟩ := hk.shape
  unfold maxLen at hkm
  have hKq : ∀ {wq : World}, Hp w [] wq → ArrAt wq 0 0 .u32 64 Sha.K := fun hq => hK.upd hq.upd (fun y => y trivial)
  refine enter (args := [_, _]) (Γ := [(0, _), (1, _)]) Tryd.func5 Tryd.ntmps5 rfl (of_decide_eq_true rfl) (.cons rfl (.cons rfl .nil)) ?_
  repeat' (first | (apply Wl.callQ (f := 13); exact rfl; (repeat (first | exact Evs.nil | apply Evs.cons rfl)); (intro wq hq; refine (fit19 wq (hKq hq)).mono ?_; rintro e wr ⟨rfl, hr⟩; exact ⟨rfl, hq.keep hr⟩)) | (apply Wl.move; exact rfl; exact rfl) | (apply Wl.assign; exact rfl; exact rfl) | (apply Wl.not; exact rfl; exact rfl) | (apply Wl.len; exact rfl; exact rfl) | (apply Wl.nil) | (apply St.seq) | (apply St.block) | (apply St.region) | (apply St.condF; exact rfl; (first | with_reducible rfl | with_reducible assumption | decide)) | (apply St.skip) | (apply Gt.next) | (apply Wl.splitP; exact rfl; exact rfl; all_goals (intros; try (exfalso; omega))) | (apply Wl.splitB; exact rfl; exact rfl; all_goals intros) | (apply St.condP; exact rfl; all_goals (intros; try (exfalso; omega))) | (apply St.condB; exact rfl; all_goals intros))
  refine St.loop (σ := Nat × Nat × World × Value)
    (fun τ => τ.1 ≤ vs.length ∧ (τ.2.1 = k.length + τ.1 + (ls.take τ.1).flatten.length ∧ (0 < τ.1 → τ.2.1 ≤ 1000)) ∧ Upd (fun k => w.heap.size ≤ k) w τ.2.2.1 ∧ Bo τ.2.2.1 w.heap.size τ.2.2.2 (ls.take τ.1).flatten)
    (fun τ => [(0, .slice ka k.length kc), (1, .slice pa vs.length pc), (5, .int .i64 (τ.2.1 : Int)), (6, τ.2.2.2), (15, .slice pa vs.length pc), (16, .int .i64 (vs.length : Int)), (17, .int .i64 (τ.1 : Int))])
    (fun τ => Hp τ.2.2.1 []) (fun τ => vs.length - τ.1) (0, k.length, w, .slice none 0 0) ⟨Nat.zero_le _, ⟨by simp, fun h => by simp at h⟩, Upd.refl _ _, Bo.nil _ _⟩ (by (repeat (first | exact Sub.nil | apply Sub.cons rfl))) (fun _ h => h) ?_
  rintro ⟨i, n, w0, b⟩ ⟨hin, ⟨hn, hn1⟩, hu, hb⟩
  simp only at hin hn hn1 hu hb ⊢
  have hs0 := hu.size
  by_cases hlt : i < vs.length
  · have hd : decide ((i : Int) < (vs.length : Int)) = true := decide_eq_true (by omega)
    obtain ⟨g, og, rfl, hgc⟩ := hcell (fun e => by rw [e] at hlt; simp at hlt)
    obtain ⟨x, hx⟩ : ∃ x, vs[i]? = some x := ⟨_, List.getElem?_eq_getElem hlt⟩
    obtain ⟨l, hli⟩ : ∃ l, ls[i]? = some l := ⟨_, List.getElem?_eq_getElem (hlen ▸ hlt)⟩
    have hll : l.length ≤ 140737488355328 := hl l (List.mem_of_getElem? hli)
    have hxl := hbs i x l hx hli
    have hg : w.cell? ⟨g, og + (i : Int).toNat, none⟩ = some x := by
      have h1 := hgc i hlt
      rw [List.getElem?_eq_getElem hlt] at hx
      rw [Int.toNat_natCast, h1]; exact hx
    have hgs := World.block_lt_of_cell? w _ hg
    simp only at hgs
    have hg0 : w0.cell? ⟨g, og + (i : Int).toNat, none⟩ = some x := hu.cell hg (by simp only; omega)
    have hx0 : Bs w0 x l := hxl.upd hu fun k _ hk _ y => by omega
    obtain ⟨xa, xc, rfl, hxc, hxm⟩ := hx0.shape
    have hsum := flat_succ ls i l hli
    have hlen2 : (ls.take (i + 1)).flatten.length = (ls.take i).flatten.length + l.length := by rw [hsum, List.length_append]
    have hnk : n ≤ 140737488355328 + 1000 := by
      rcases Nat.eq_zero_or_pos i with h0 | h0
      · subst h0; simp at hn; omega
      · have := hn1 h0; omega
    by_cases hbig : n + (1 + l.length) > 1000
    · have hd2 : decide (((n + (1 + l.length) : Nat) : Int) > 1000) = true := decide_eq_true (by omega)
      repeat' (first | (apply Wl.addNI (m := 1); exact rfl; exact rfl; exact rfl; (omega)) | (apply Wl.addNI; exact rfl; exact rfl; exact rfl; (omega)) | (apply Wl.move; exact rfl; exact rfl) | (apply Wl.assign; exact rfl; exact rfl) | (apply Wl.loadO; exact rfl; exact rfl; (assumption); (repeat (first | exact trivial | refine ⟨by first | assumption | omega, ?_⟩))) | (apply Wl.lss; exact rfl; exact rfl; exact rfl) | (apply Wl.gtr; exact rfl; exact rfl; exact rfl) | (apply Wl.len; exact rfl; exact rfl) | (apply Wl.indexAddr1; exact rfl; exact rfl; exact rfl; (constructor <;> omega)) | (apply Wl.nil) | (apply St.seq) | (apply St.block) | (apply St.region) | (apply St.condT; exact rfl; (first | with_reducible rfl | with_reducible assumption | decide)) | (apply St.ret) | (apply St.skip) | (apply Gt.next) | (apply Gt.thenRet) | (apply Gt.inRet) | (apply Gt.out1; exact rfl; exact rfl; intro w' hp) | (apply Wl.splitP; exact rfl; exact rfl; all_goals (intros; try (exfalso; omega))) | (apply Wl.splitB; exact rfl; exact rfl; all_goals intros) | (apply St.condP; exact rfl; all_goals (intros; try (exfalso; omega))) | (apply St.condB; exact rfl; all_goals intros))
      exact ⟨rfl, hpFin hp hu (by simp)⟩
    · have hd2 : decide (((n + (1 + l.length) : Nat) : Int) > 1000) = false := decide_eq_false (by omega)
      repeat' (first | (apply Wl.addNI (m := 1); exact rfl; exact rfl; exact rfl; (omega)) | (apply Wl.addNI; exact rfl; exact rfl; exact rfl; (omega)) | (apply Wl.move; exact rfl; exact rfl) | (apply Wl.assign; exact rfl; exact rfl) | (apply Wl.loadO; exact rfl; exact rfl; (assumption); (repeat (first | exact trivial | refine ⟨by first | assumption | omega, ?_⟩))) | (apply Wl.lss; exact rfl; exact rfl; exact rfl) | (apply Wl.gtr; exact rfl; exact rfl; exact rfl) | (apply Wl.len; exact rfl; exact rfl) | (apply Wl.indexAddr1; exact rfl; exact rfl; exact rfl; (constructor <;> omega)) | (apply Wl.nil) | (apply St.seq) | (apply St.block) | (apply St.region) | (apply St.condT; exact rfl; (first | with_reducible rfl | with_reducible assumption | decide)) | (apply St.condF; exact rfl; (first | with_reducible rfl | with_reducible assumption | decide)) | (apply St.skip) | (apply Gt.next) | (apply Wl.splitP; exact rfl; exact rfl; all_goals (intros; try (exfalso; omega))) | (apply Wl.splitB; exact rfl; exact rfl; all_goals intros) | (apply St.condP; exact rfl; all_goals (intros; try (exfalso; omega))) | (apply St.condB; exact rfl; all_goals intros))
      apply Wl.appendV (news := byteCells l) (m := l.length) (base := w.heap.size) (n := (ls.take i).flatten.length) (xs := byteCells (ls.take i).flatten)
      · exact rfl
      · exact rfl
      · exact rfl
      · exact hx0
      · exact fun _ _ _ _ => trivial
      · exact hb
      · exact fun _ _ => trivial
      · exact byteCells_all l
      · exact rfl
      · decide
      · unfold maxLen; omega
      · omega
      · exact hu.size
      intro v' w1 ho2 u _ _
      repeat' (first | (apply Wl.move; exact rfl; exact rfl) | (apply Wl.assign; exact rfl; exact rfl) | (apply Wl.addI; exact rfl; exact rfl; exact rfl; (constructor <;> omega)) | (apply Wl.nil) | (apply St.region) | (apply Gt.next) | (apply Gt.inNormal) | (apply Wl.splitP; exact rfl; exact rfl; all_goals (intros; try (exfalso; omega))) | (apply Wl.splitB; exact rfl; exact rfl; all_goals intros) | (apply St.condP; exact rfl; all_goals (intros; try (exfalso; omega))) | (apply St.condB; exact rfl; all_goals intros))
      apply Gt.round (i + 1, n + (1 + l.length), w1, v')
      rotate_left
      · simp only; omega
      · (repeat (first | exact Sub.nil | apply Sub.cons rfl))
      · exact fun _ h => h
      · refine ⟨hlt, ⟨by simp only; rw [hlen2]; omega, fun _ => by simp only; omega⟩, hu.comp u fun j _ hs => hs.elim id fun hs => hs.elim (fun hs => hb.base hs) fun y => (y trivial).elim, ?_⟩
        simp only
        rw [hsum]
        exact Bo.of ho2 rfl rfl
  obtain rfl : i = vs.length := by omega
  have hd : decide ((vs.length : Int) < (vs.length : Int)) = false := decide_eq_false (by omega)
  have etk : ls.take vs.length = ls := by rw [hlen, List.take_length]
  rw [etk] at hn hb
  have hfl : ls.flatten.length ≤ 1000 := by
    rcases Nat.eq_zero_or_pos vs.length with h0 | h0
    · have : ls = [] := List.length_eq_zero_iff.1 (by omega)
      subst this; simp
    · have := hn1 h0; omega
  have hK0 : ArrAt w0 0 0 .u32 64 Sha.K := hK.upd hu (by omega)
  have hk0 : Bs w0 (.slice ka k.length kc) k := hk.upd hu fun j _ hj _ y => by omega
  have hp1 : Pts w0 (.slice pa vs.length pc) ls := hp0.upd hu fun j hj y => by omega
  obtain ⟨ba, bc, rfl, hbl, hbm⟩ := hb.bs.shape
  have hMq := fun wq (hq : Hp w0 [] wq) => sealMac _ _ k ls wq (hK0.hp hq trivial) (bsNew hk0 hq (by simp)) (by omega) (hp1.upd hq.upd fun j hj y => y trivial) (by omega)
  repeat' (first | (apply Wl.callQ (f := 14); exact rfl; (repeat (first | exact Evs.nil | apply Evs.cons rfl)); (intro wq hq; refine (hMq wq hq).mono ?_; rintro e wr ⟨rfl, hr⟩; exact ⟨rfl, hq.keep hr⟩)) | (apply Wl.move; exact rfl; exact rfl) | (apply Wl.lss; exact rfl; exact rfl; exact rfl) | (apply Wl.lit; exact rfl; (repeat (first | exact Parts.nil | apply Parts.cons rfl)); exact rfl; exact rfl; (repeat (first | apply CatP.nil | (apply CatP.one; exact rfl; exact rfl) | (apply CatP.agg; exact rfl) | apply LApp.nil | apply LApp.cons)); intro c hc ho) | (apply Wl.nil) | (apply St.seq) | (apply St.region) | (apply St.condF; exact rfl; (first | with_reducible rfl | with_reducible assumption | decide)) | (apply St.exit) | (apply Gt.next) | (apply Gt.thenExit) | (apply Gt.inExit) | (apply Wl.splitP; exact rfl; exact rfl; all_goals (intros; try (exfalso; omega))) | (apply Wl.splitB; exact rfl; exact rfl; all_goals intros) | (apply St.condP; exact rfl; all_goals (intros; try (exfalso; omega))) | (apply St.condB; exact rfl; all_goals intros))
  apply Wl.callQ
  · exact rfl
  · (repeat (first | exact Evs.nil | apply Evs.cons rfl))
  · intro wq hq
    have hlb := fun j hj => (hb.lt j hj).2
    refine (sealMac _ _ k [ls.flatten] wq (hK0.hp hq (by (repeat (first | exact trivial | exact hX.off (by omega) | refine ⟨by first | assumption | omega | (simp only; omega), ?_⟩)))) (bsNew hk0 hq (by simp; omega)) (by omega) (Pts.one (hq.own.at (.head _)) (bsNew hb.bs hq (by simp; omega))) (by rw [show [ls.flatten].flatten = ls.flatten by simp]; omega)).mono ?_
    rintro e wr ⟨rfl, hr⟩
    exact ⟨rfl, hq.keep hr⟩
  rw [show [ls.flatten].flatten = ls.flatten by simp]
  repeat' (first | (apply Wl.allocC (t := 45); exact rfl; exact z32b; intro c hc ho) | (apply Wl.storeW; exact rfl; exact rfl; (repeat (first | apply HSet.here | apply HSet.there)); exact rfl; (first | exact cellsN_len _ _ _ | exact rfl)) | (apply Wl.nil) | (apply St.seq) | (apply Gt.next) | (apply Wl.splitP; exact rfl; exact rfl; all_goals (intros; try (exfalso; omega))) | (apply Wl.splitB; exact rfl; exact rfl; all_goals intros) | (apply St.condP; exact rfl; all_goals (intros; try (exfalso; omega))) | (apply St.condB; exact rfl; all_goals intros))
  rename_i c1 hc1 ho1 c2 hc2 ho2
  by_cases hbig : (k.length : Int) > 1000
  · have hd2 : decide ((k.length : Int) > 1000) = true := decide_eq_true hbig
    repeat' (first | (apply St.bagX 17 [16]; exact mixed; (decide +kernel); kernel_rfl) | (apply OpsX.nil) | (apply OpsX.v; (intro X hX; change Wl [_] _ _ _ _ _ _ _; apply Wl.catX; (repeat (first | apply CatB.nil | apply CatB.cons)))) | (apply Gt.endX; exact rfl) | (apply EndX.on; exact rfl) | (apply EndX.off; exact rfl) | (apply EndX.nil'; apply Wl.catE; (repeat (first | apply CatB.nil | apply CatB.cons))) | (apply Wl.move; exact rfl; exact rfl) | (apply Wl.assign; exact rfl; exact rfl) | (apply Wl.off; exact rfl; exact rfl; exact rfl; (first | with_reducible rfl | (show _ = false; with_reducible assumption) | (show _ = true; with_reducible assumption) | decide)) | (apply Wl.offU; exact rfl; exact rfl; exact rfl) | (apply Wl.pickT; exact rfl; exact rfl; (first | with_reducible rfl | with_reducible assumption | decide); exact rfl) | (apply Wl.gtr; exact rfl; exact rfl; exact rfl) | (apply Wl.len; exact rfl; exact rfl) | (apply Wl.nil) | (apply St.ret) | (apply Gt.next) | (apply Gt.out1; exact rfl; exact rfl; intro w' hp) | (apply Wl.splitP; exact rfl; exact rfl; all_goals (intros; try (exfalso; omega))) | (apply Wl.splitB; exact rfl; exact rfl; all_goals intros) | (apply St.condP; exact rfl; all_goals (intros; try (exfalso; omega))) | (apply St.condB; exact rfl; all_goals intros))
    exact ⟨rfl, hpFin hp hu (by simp; omega)⟩
  have hd2 : decide ((k.length : Int) > 1000) = false := decide_eq_false hbig
  have hb9 : ∀ w', Hp w0 [⟨c, cellsN .u8 32 (mac k ls.flatten), 45⟩, ⟨c2, cellsN .u8 32 (mac k ls.flatten), 45⟩, ⟨c1, [.slice ba ls.flatten.length bc], 22⟩] w' → Bs w' (.slice (some ⟨c2, 0, none⟩) 32 32) (macB k ls.flatten) := fun w' hw' => bsSha (l := padL (key64 k) 92 ++ shaL (padL (key64 k) 54 ++ ls.flatten)) (hw'.own.at (x := ⟨c2, cellsN .u8 32 (mac k ls.flatten), 45⟩) (.tail _ (.head _)))
  refine St.tree (Hp w0 [⟨c, cellsN .u8 32 (mac k ls.flatten), 45⟩, ⟨c2, cellsN .u8 32 (mac k ls.flatten), 45⟩, ⟨c1, [.slice ba ls.flatten.length bc], 22⟩]) mixed (fun _ h => ⟨Hp.drew h, Hp.drew h⟩) ?_
  refine Mt.pure 0 (by decide +kernel) (by exact rfl) (by exact rfl) (by decide +kernel) (by decide +kernel) ?_
  repeat' (first | (apply Wl.move; exact rfl; exact rfl) | (apply Wl.nilM) | (apply Wl.splitP; exact rfl; exact rfl; all_goals (intros; try (exfalso; omega))) | (apply Wl.splitB; exact rfl; exact rfl; all_goals intros) | (apply St.condP; exact rfl; all_goals (intros; try (exfalso; omega))) | (apply St.condB; exact rfl; all_goals intros))
  apply Mt.back
  refine Mt.pure 1 (by decide +kernel) (by exact rfl) (by exact rfl) (by decide +kernel) (by decide +kernel) ?_
  repeat' (first | (apply Wl.len; exact rfl; exact rfl) | (apply Wl.nilM) | (apply Wl.splitP; exact rfl; exact rfl; all_goals (intros; try (exfalso; omega))) | (apply Wl.splitB; exact rfl; exact rfl; all_goals intros) | (apply St.condP; exact rfl; all_goals (intros; try (exfalso; omega))) | (apply St.condB; exact rfl; all_goals intros))
  apply Mt.back
  refine Mt.pure 2 (by decide +kernel) (by exact rfl) (by exact rfl) (by decide +kernel) (by decide +kernel) ?_
  repeat' (first | (apply Wl.gtr; exact rfl; exact rfl; exact rfl) | (apply Wl.nilM) | (apply Wl.splitP; exact rfl; exact rfl; all_goals (intros; try (exfalso; omega))) | (apply Wl.splitB; exact rfl; exact rfl; all_goals intros) | (apply St.condP; exact rfl; all_goals (intros; try (exfalso; omega))) | (apply St.condB; exact rfl; all_goals intros))
  apply Mt.back
  refine Mt.pure 3 (by decide +kernel) (by exact rfl) (by exact rfl) (by decide +kernel) (by decide +kernel) ?_
  repeat' (first | (apply Wl.move; exact rfl; exact rfl) | (apply Wl.nilM) | (apply Wl.splitP; exact rfl; exact rfl; all_goals (intros; try (exfalso; omega))) | (apply Wl.splitB; exact rfl; exact rfl; all_goals intros) | (apply St.condP; exact rfl; all_goals (intros; try (exfalso; omega))) | (apply St.condB; exact rfl; all_goals intros))
  apply Mt.back
  refine Mt.pure 4 (by decide +kernel) (by exact rfl) (by exact rfl) (by decide +kernel) (by decide +kernel) ?_
  repeat' (first | (apply Wl.loadW; exact rfl; exact rfl; (repeat (first | exact List.Mem.head _ | apply List.Mem.tail)); exact rfl) | (apply Wl.on; exact rfl; exact rfl; (first | with_reducible rfl | with_reducible assumption | decide)) | (apply Wl.nilM) | (apply Wl.splitP; exact rfl; exact rfl; all_goals (intros; try (exfalso; omega))) | (apply Wl.splitB; exact rfl; exact rfl; all_goals intros) | (apply St.condP; exact rfl; all_goals (intros; try (exfalso; omega))) | (apply St.condB; exact rfl; all_goals intros))
  apply Mt.back
  refine Mt.pure 5 (by decide +kernel) (by exact rfl) (by exact rfl) (by decide +kernel) (by decide +kernel) ?_
  repeat' (first | (apply Wl.loadW; exact rfl; exact rfl; (repeat (first | exact List.Mem.head _ | apply List.Mem.tail)); exact rfl) | (apply Wl.on; exact rfl; exact rfl; (first | with_reducible rfl | with_reducible assumption | decide)) | (apply Wl.nilM) | (apply Wl.splitP; exact rfl; exact rfl; all_goals (intros; try (exfalso; omega))) | (apply Wl.splitB; exact rfl; exact rfl; all_goals intros) | (apply St.condP; exact rfl; all_goals (intros; try (exfalso; omega))) | (apply St.condB; exact rfl; all_goals intros))
  apply Mt.back
  refine Mt.pure 6 (by decide +kernel) (by exact rfl) (by exact rfl) (by decide +kernel) (by decide +kernel) ?_
  repeat' (first | (apply Wl.eqlA (t := 45); exact rfl; exact rfl; exact rfl; kernel_rfl; kernel_rfl; kernel_rfl; kernel_rfl; exact cell8 _ (shaLt _); exact cell8 _ (shaLt _); with_reducible exact eqF rfl) | (apply Wl.on; exact rfl; exact rfl; (first | with_reducible rfl | with_reducible assumption | decide)) | (apply Wl.nilM) | (apply Wl.splitP; exact rfl; exact rfl; all_goals (intros; try (exfalso; omega))) | (apply Wl.splitB; exact rfl; exact rfl; all_goals intros) | (apply St.condP; exact rfl; all_goals (intros; try (exfalso; omega))) | (apply St.condB; exact rfl; all_goals intros))
  apply Mt.back
  refine Mt.pure 7 (by decide +kernel) (by exact rfl) (by exact rfl) (by decide +kernel) (by decide +kernel) ?_
  repeat' (first | (apply Wl.move; exact rfl; exact rfl) | (apply Wl.on; exact rfl; exact rfl; (first | with_reducible rfl | with_reducible assumption | decide)) | (apply Wl.nilM) | (apply Wl.splitP; exact rfl; exact rfl; all_goals (intros; try (exfalso; omega))) | (apply Wl.splitB; exact rfl; exact rfl; all_goals intros) | (apply St.condP; exact rfl; all_goals (intros; try (exfalso; omega))) | (apply St.condB; exact rfl; all_goals intros))
  apply Mt.back
  refine Mt.pure 8 (by decide +kernel) (by exact rfl) (by exact rfl) (by decide +kernel) (by decide +kernel) ?_
  repeat' (first | (apply Wl.sliceAll; exact rfl; exact rfl; (decide); exact rfl) | (apply Wl.on; exact rfl; exact rfl; (first | with_reducible rfl | with_reducible assumption | decide)) | (apply Wl.nilM) | (apply Wl.splitP; exact rfl; exact rfl; all_goals (intros; try (exfalso; omega))) | (apply Wl.splitB; exact rfl; exact rfl; all_goals intros) | (apply St.condP; exact rfl; all_goals (intros; try (exfalso; omega))) | (apply St.condB; exact rfl; all_goals intros))
  apply Mt.back
  refine Mt.pure 9 (by decide +kernel) (by exact rfl) (by exact rfl) (by decide +kernel) (by decide +kernel) ?_
  repeat' (first | (apply Wl.convBS (l := macB k ls.flatten); exact rfl; exact rfl; (exact hb9)) | (apply Wl.on; exact rfl; exact rfl; (first | with_reducible rfl | with_reducible assumption | decide)) | (apply Wl.nilM) | (apply Wl.splitP; exact rfl; exact rfl; all_goals (intros; try (exfalso; omega))) | (apply Wl.splitB; exact rfl; exact rfl; all_goals intros) | (apply St.condP; exact rfl; all_goals (intros; try (exfalso; omega))) | (apply St.condB; exact rfl; all_goals intros))
  apply Mt.back
  refine Mt.pure 10 (by decide +kernel) (by exact rfl) (by exact rfl) (by decide +kernel) (by decide +kernel) ?_
  repeat' (first | (apply Wl.move; exact rfl; exact rfl) | (apply Wl.on; exact rfl; exact rfl; (first | with_reducible rfl | with_reducible assumption | decide)) | (apply Wl.nilM) | (apply Wl.splitP; exact rfl; exact rfl; all_goals (intros; try (exfalso; omega))) | (apply Wl.splitB; exact rfl; exact rfl; all_goals intros) | (apply St.condP; exact rfl; all_goals (intros; try (exfalso; omega))) | (apply St.condB; exact rfl; all_goals intros))
  apply Mt.back
  refine Mt.pure 11 (by decide +kernel) (by exact rfl) (by exact rfl) (by decide +kernel) (by decide +kernel) ?_
  repeat' (first | (apply Wl.move; exact rfl; exact rfl) | (apply Wl.on; exact rfl; exact rfl; (first | with_reducible rfl | with_reducible assumption | decide)) | (apply Wl.nilM) | (apply Wl.splitP; exact rfl; exact rfl; all_goals (intros; try (exfalso; omega))) | (apply Wl.splitB; exact rfl; exact rfl; all_goals intros) | (apply St.condP; exact rfl; all_goals (intros; try (exfalso; omega))) | (apply St.condB; exact rfl; all_goals intros))
  apply Mt.back
  refine Mt.eff1 (i := 12) (by decide +kernel) (by exact rfl) ?_
  apply Wl.on
  · exact rfl
  · exact rfl
  · exact rfl
  apply Wl.callC
  · exact rfl
  · (repeat (first | exact Evs.nil | apply Evs.cons rfl))
  intro wq hq
  refine (refMac _ _ k ls.flatten wq (bsNew hk0 hq (by simp; omega)) (by omega) (bsNew hb.bs hq (by simp; omega)) (by omega)).mono ?_
  rintro e w3 ⟨v, rfl, hbv, hvo, u3⟩
  have hq3 := hpNewer hq u3
  have hall := fun x hx => hq.own.lt (x := x) hx
  simp only [List.mem_cons, List.not_mem_nil, or_false, forall_eq_or_imp, forall_eq] at hall
  have hu3 : Upd (fun k => w.heap.size ≤ k) w w3 := hpOn hq3 hu (by simp; omega)
  refine ⟨_, _, rfl, hpRb hq3, ?_⟩
  repeat' (first | (apply Wl.nil) | (apply Wl.splitP; exact rfl; exact rfl; all_goals (intros; try (exfalso; omega))) | (apply Wl.splitB; exact rfl; exact rfl; all_goals intros) | (apply St.condP; exact rfl; all_goals (intros; try (exfalso; omega))) | (apply St.condB; exact rfl; all_goals intros))
  refine Mt.backE (fun u h => hpTr hq3 h) ?_
  refine Mt.eff1 (i := 13) (by decide +kernel) (by exact rfl) ?_
  apply Wl.on
  · exact rfl
  · exact rfl
  · exact rfl
  apply Wl.convBSo (l := macB k ls.flatten)
  · exact rfl
  · exact rfl
  · exact hbv
  · intro j hj _ _
    have := (hvo j hj).1
    exact Off.of fun y hy e => by have := hq.own.lt hy; omega
  repeat' (first | (apply Wl.nil) | (apply Wl.splitP; exact rfl; exact rfl; all_goals (intros; try (exfalso; omega))) | (apply Wl.splitB; exact rfl; exact rfl; all_goals intros) | (apply St.condP; exact rfl; all_goals (intros; try (exfalso; omega))) | (apply St.condB; exact rfl; all_goals intros))
  refine Mt.backE (fun u h => hpTr hq3 h) ?_
  refine Mt.pure 14 (by decide +kernel) (by exact rfl) (by exact rfl) (by decide +kernel) (by decide +kernel) ?_
  repeat' (first | (apply Wl.on; exact rfl; exact rfl; (first | with_reducible rfl | with_reducible assumption | decide)) | (apply Wl.eqlSB; exact rfl; exact rfl; exact rfl) | (apply Wl.nilM) | (apply Wl.splitP; exact rfl; exact rfl; all_goals (intros; try (exfalso; omega))) | (apply Wl.splitB; exact rfl; exact rfl; all_goals intros) | (apply St.condP; exact rfl; all_goals (intros; try (exfalso; omega))) | (apply St.condB; exact rfl; all_goals intros))
  apply Mt.back
  refine Mt.pure 15 (by decide +kernel) (by exact rfl) (by exact rfl) (by decide +kernel) (by decide +kernel) ?_
  repeat' (first | (apply Wl.on; exact rfl; exact rfl; (first | with_reducible rfl | with_reducible assumption | decide)) | (apply Wl.pickT; exact rfl; exact rfl; (first | with_reducible rfl | with_reducible assumption | decide); exact rfl) | (apply Wl.nilM) | (apply Wl.splitP; exact rfl; exact rfl; all_goals (intros; try (exfalso; omega))) | (apply Wl.splitB; exact rfl; exact rfl; all_goals intros) | (apply St.condP; exact rfl; all_goals (intros; try (exfalso; omega))) | (apply St.condB; exact rfl; all_goals intros))
  apply Mt.back
  refine Mt.pure 16 (by decide +kernel) (by exact rfl) (by exact rfl) (by decide +kernel) (by decide +kernel) ?_
  repeat' (first | (apply Wl.pickF; exact rfl; exact rfl; (first | with_reducible rfl | with_reducible assumption | decide); exact rfl) | (apply Wl.nilM) | (apply Wl.splitP; exact rfl; exact rfl; all_goals (intros; try (exfalso; omega))) | (apply Wl.splitB; exact rfl; exact rfl; all_goals intros) | (apply St.condP; exact rfl; all_goals (intros; try (exfalso; omega))) | (apply St.condB; exact rfl; all_goals intros))
  apply Mt.back
  refine Mt.pure 17 (by decide +kernel) (by exact rfl) (by exact rfl) (by decide +kernel) (by decide +kernel) ?_
  repeat' (first | (apply Wl.assign; exact rfl; exact rfl) | (apply Wl.nilM) | (apply Wl.splitP; exact rfl; exact rfl; all_goals (intros; try (exfalso; omega))) | (apply Wl.splitB; exact rfl; exact rfl; all_goals intros) | (apply St.condP; exact rfl; all_goals (intros; try (exfalso; omega))) | (apply St.condB; exact rfl; all_goals intros))
  apply Mt.back
  refine Mt.toGt (by decide +kernel) ?_
  repeat' (first | (apply St.ret) | (apply Gt.next) | (apply Gt.out1; exact rfl; exact rfl; intro w' hp) | (apply Wl.splitP; exact rfl; exact rfl; all_goals (intros; try (exfalso; omega))) | (apply Wl.splitB; exact rfl; exact rfl; all_goals intros) | (apply St.condP; exact rfl; all_goals (intros; try (exfalso; omega))) | (apply St.condB; exact rfl; all_goals intros))
  exact ⟨by rw [decide_eq_true (p := macB k ls.flatten = macB k ls.flatten) rfl], hpFin hp hu3 (by simp; omega)⟩
end Go.Proofs.YtfaobdakpbpkbaaDoor
end
