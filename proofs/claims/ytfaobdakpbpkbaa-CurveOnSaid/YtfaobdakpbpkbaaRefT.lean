/-
  The document's Base, Times, Plain; porticolaw04.pt, like. Conditions: points are of the curve, numbers are below 2^256.
-/
import Derived.Test.YtfaobdakpbpkbaaRefP
namespace Go.Pt
open Go.RowKit
theorem results_cct {fn : Func} {p q u : Tmp} {ta tb : TypeId} (h : fn.results = #[.cell p ta, .cell q tb, .tmp u]) (tmps : Array Value) (P : Program) (w : World) :
    (results fn tmps).run P w =
      ((asAddr (tmps.getD p undef)).run P w).andThen fun a w₁ => ((loadVar ta a).run P w₁).andThen fun v w₂ => ((asAddr (tmps.getD q undef)).run P w₂).andThen fun a' w₃ => ((loadVar tb a').run P w₃).andThen fun v' w₄ => .ok (.tuple #[v, v', tmps.getD u undef]) w₄ := by
  simp only [results, h]
  simp [Sem.run_bind, Result.andThen]
theorem Gt.outCCT {P : Program} {N : Nat} {Γ : Env} {w0 : World} {H : List Blk} {fn : Func} {R : Ending → World → Prop} {t s u ta tb n1 n2 c c' bt bt' : Nat} {v : Value} {xs ys : List Value} (hr : fn.results = #[.cell t ta, .cell s tb, .tmp u]) (hT : TyA P ta n1) (hT' : TyA P tb n2)
    (ht : look Γ t = some (.pointer (some ⟨c, 0, none⟩))) (hs : look Γ s = some (.pointer (some ⟨c', 0, none⟩))) (hu : look Γ u = some v) (hm : (⟨c, xs, bt⟩ : Blk) ∈ H) (hm' : (⟨c', ys, bt'⟩ : Blk) ∈ H) (hn : xs.length = n1) (hn' : ys.length = n2)
    (h : ∀ w, Hp w0 H w → R (.returned (.tuple #[.agg xs.toArray, .agg ys.toArray, v])) w) : Gt N .ret Γ (Hp w0 H) (bodyPost P fn R) := Gt.intro fun a w ha hw => by
  refine ⟨ha.defers, _, ?_, h w hw⟩
  have h1 := run_loadA (P := P) (t := ta) (w := w) (a := ⟨c, 0, none⟩) hn (fun j v hj => by rw [addLit, Nat.zero_add]; exact hw.cell hm hj)
  have h2 := run_loadA (P := P) (t := tb) (w := w) (a := ⟨c', 0, none⟩) hn' (fun j v hj => by rw [addLit, Nat.zero_add]; exact hw.cell hm' hj)
  rw [results_cct hr]
  simp [ha.get _ _ ht, ha.get _ _ hs, ha.get _ _ hu, asAddr, h1, h2]
end Go.Pt
namespace Go.Proofs.Ytfaobdakpbpkbaa
open Go.RowKit Go.Pt
attribute [local irreducible] Prim.P256
theorem gx8R : [Value.int .u32 3633889942, .int .u32 4104206661, .int .u32 770388896, .int .u32 1996717441, .int .u32 1671708914, .int .u32 4173129445, .int .u32 3777774151, .int .u32 1796723186] = cellsN .u32 8 (dg W32 curG.1.val) := gx8
theorem gy8R : [Value.int .u32 935285237, .int .u32 3417718888, .int .u32 1798397646, .int .u32 734933847, .int .u32 2081398294, .int .u32 2397563722, .int .u32 4263149467, .int .u32 1340293858] = cellsN .u32 8 (dg W32 curG.2.val) := gy8
/-- the document's form of a point -/
def ptR : Ec.Pt → Ec.F × Ec.F × Ec.F
  | none => (0, 1, 0)
  | some (x, y) => (x, y, 1)
theorem ptR_pt (A : Ec.Pt) : Ec.ppt (ptR A) = A := by
  match A with
  | none => exact Ec.prj_zero _ _
  | some (x, y) =>
    have h1 : (1 : Ec.F) ≠ 0 := fun e => Ec.two_ne (by grobner)
    have := Ec.prj_of (x := x) (y := y) h1
    unfold Ec.ppt ptR
    simp only
    rw [show x * 1 = x by grobner, show y * 1 = y by grobner] at this
    exact this
theorem rpR_none : rpV (ptR none) = .agg (rpC 0 1 0).toArray := by
  unfold rpV rpF ptR
  simp only
  rw [val_one, val_zero]
theorem rpR_some (x y : Ec.F) : rpV (ptR (some (x, y))) = .agg (rpC x.val y.val 1).toArray := by
  unfold rpV rpF ptR
  simp only
  rw [val_one]
theorem ref4Base (w : World) : Calls Try.prog 15 #[] w fun e w' => e = .returned (rpV (ptR (some curG))) ∧ Hp w [] w' := by
  refine enter (args := []) (Γ := []) Try.func15 Try.ntmps15 rfl (of_decide_eq_true rfl) .nil ?_
  repeat' (first | (apply Wl.buildN; exact rfl; (repeat (first | exact Parts.nil | apply Parts.cons rfl)); (repeat (first | apply Fills.nil | (apply Fills.one; exact rfl; exact rfl; (repeat (first | apply LSet.z | apply LSet.s))) | (apply Fills.agg; exact rfl; exact rfl; (repeat (first | apply LPut.s | apply LPut.z | apply LOver.nil | apply LOver.cons))))); (first | exact gx8R | exact gy8R)) | (apply Wl.callQ (f := 14); exact rfl; (repeat (first | exact Evs.nil | apply Evs.cons rfl)); (intro wq hq; refine (refOf _ wq).mono ?_; rintro e wr ⟨rfl, hr⟩; exact ⟨rfl, hq.keep hr⟩)) | (apply Wl.storeAll; exact rfl; exact rfl; (repeat (first | apply HSet.here | apply HSet.there)); (first | exact rpC_len _ _ _); (first | exact rfl | exact rpC_len _ _ _); (first | exact rpC_one _ _ _)) | (apply Wl.buildRp; exact rfl; (focus ((repeat (first | exact Parts.nil | apply Parts.cons rfl)); done))) | (apply Gt.outC'; exact rfl; infer_instance; exact rfl; (repeat (first | exact List.Mem.head _ | apply List.Mem.tail)); (first | exact LSub.whole (rpC_len _ _ _)); intro w' hp) | (apply Wl.loadW; exact rfl; exact rfl; (repeat (first | exact List.Mem.head _ | apply List.Mem.tail)); exact rfl) | (apply Wl.storeW; exact rfl; exact rfl; (repeat (first | apply HSet.here | apply HSet.there)); exact rfl; (first | exact cellsN_len _ _ _ | exact rfl)) | (apply Wl.buildN; exact rfl; (repeat (first | exact Parts.nil | apply Parts.cons rfl)); (repeat (first | apply Fills.nil | (apply Fills.one; exact rfl; exact rfl; (repeat (first | apply LSet.z | apply LSet.s))) | (apply Fills.agg; exact rfl; exact rfl; (repeat (first | apply LPut.s | apply LPut.z | apply LOver.nil | apply LOver.cons))))); (first | exact one8 | exact zero8 | exact two8 | exact one16)) | (apply Wl.allocN; exact rfl; (first | exact z8 | exact z16 | exact z17 | exact z33 | exact z10); intro c hc ho) | (apply Wl.alloc; exact rfl; intro c hc ho) | (apply Wl.nil) | (apply St.seq) | (apply St.region) | (apply St.ret) | (apply Gt.next) | (apply Wl.splitP; exact rfl; exact rfl; all_goals (intros; try (exfalso; omega))) | (apply Wl.splitB; exact rfl; exact rfl; all_goals intros) | (apply St.condP; exact rfl; all_goals (intros; try (exfalso; omega))) | (apply St.condB; exact rfl; all_goals intros))
  exact ⟨by rw [show some curG = some (curG.1, curG.2) from rfl, rpR_some], hp.drop (by simp; omega)⟩
/-! ### Times -/
def tmS (n : Nat) (p : Ec.F × Ec.F × Ec.F) : Nat → (Ec.F × Ec.F × Ec.F) × (Ec.F × Ec.F × Ec.F)
  | 0 => ((0, 1, 0), p)
  | i + 1 => (if n / 2 ^ i % 2 = 1 then Ec.pplus (tmS n p i).1 (tmS n p i).2 else (tmS n p i).1, Ec.pdbl (tmS n p i).2)
def ptimes (n : Nat) (p : Ec.F × Ec.F × Ec.F) : Ec.F × Ec.F × Ec.F := (tmS n p 256).1
theorem tmS_spec {n : Nat} {p : Ec.F × Ec.F × Ec.F} (hp : OnP (Ec.ppt p)) : ∀ i, Ec.ppt (tmS n p i).1 = sm3 (n % 2 ^ i) (Ec.ppt p) ∧ Ec.ppt (tmS n p i).2 = sm3 (2 ^ i) (Ec.ppt p)
  | 0 => by
    refine ⟨?_, ?_⟩
    · rw [tmS, Nat.pow_zero, Nat.mod_one]
      exact Ec.prj_zero _ _
    · rw [tmS, Nat.pow_zero]
      exact (Ec.sm_one _).symm
  | i + 1 => by
    obtain ⟨h1, h2⟩ := tmS_spec hp i
    have hm : n % 2 ^ (i + 1) = n % 2 ^ i + 2 ^ i * (n / 2 ^ i % 2) := by rw [Nat.pow_succ, Nat.mod_mul]
    refine ⟨?_, ?_⟩
    · rw [tmS, hm]
      simp only
      by_cases hb : n / 2 ^ i % 2 = 1
      · rw [if_pos hb, Ec.pplus_pt, h1, h2, hb, Nat.mul_one]
        exact (Ec.sm_add disc3 hp _ _).symm
      · have hb0 : n / 2 ^ i % 2 = 0 := by omega
        rw [if_neg hb, hb0, Nat.mul_zero, Nat.add_zero, h1]
    · rw [tmS]
      simp only
      rw [Ec.pdbl_pt, h2, Nat.pow_succ, Nat.mul_comm]
      exact (Ec.sm_two disc3 hp _).symm
theorem ptimes_pt {n : Nat} {p : Ec.F × Ec.F × Ec.F} (hn : n < W256) (hp : OnP (Ec.ppt p)) : Ec.ppt (ptimes n p) = sm3 n (Ec.ppt p) := by
  unfold ptimes
  rw [(tmS_spec hp 256).1, show (2 : Nat) ^ 256 = W256 by decide, Nat.mod_eq_of_lt hn]
set_option maxHeartbeats 8000000 in
theorem refTimes (b n : Nat) (p : Ec.F × Ec.F × Ec.F) (w : World) (hF : FldV w b Prim.P256) : Calls Try.prog 13 #[mp b, num16 n, rpV p] w fun e w' => e = .returned (rpV (ptimes n p)) ∧ Hp w [] w' := by
  have hb := hF.blk
  refine enter (args := [_, _, _]) (Γ := [(0, _), (1, _), (2, _)]) Try.func13 Try.ntmps13 rfl (of_decide_eq_true rfl) (.cons rfl (.cons rfl (.cons rfl .nil))) ?_
  repeat' (first | (apply Wl.storeAll; exact rfl; exact rfl; (repeat (first | apply HSet.here | apply HSet.there)); (first | exact rpC_len _ _ _); (first | exact rfl | exact rpC_len _ _ _); (first | exact rpC_one _ _ _)) | (apply Wl.buildRq; exact rfl; (focus ((repeat (first | exact Parts.nil | apply Parts.cons rfl)); done))) | (apply Wl.boxN; exact rfl; exact rfl; intro c hc ho) | (apply Wl.buildN; exact rfl; (repeat (first | exact Parts.nil | apply Parts.cons rfl)); (repeat (first | apply Fills.nil | (apply Fills.one; exact rfl; exact rfl; (repeat (first | apply LSet.z | apply LSet.s))) | (apply Fills.agg; exact rfl; exact rfl; (repeat (first | apply LPut.s | apply LPut.z | apply LOver.nil | apply LOver.cons))))); (first | exact one8 | exact zero8 | exact two8 | exact one16)) | (apply Wl.assign; exact rfl; exact rfl) | (apply Wl.boxA; exact rfl; exact rfl; intro c hc ho) | (apply Wl.alloc; exact rfl; intro c hc ho) | (apply Wl.nil) | (apply St.seq) | (apply St.block) | (apply St.region) | (apply Gt.next) | (apply Wl.splitP; exact rfl; exact rfl; all_goals (intros; try (exfalso; omega))) | (apply Wl.splitB; exact rfl; exact rfl; all_goals intros) | (apply St.condP; exact rfl; all_goals (intros; try (exfalso; omega))) | (apply St.condB; exact rfl; all_goals intros))
  rename_i c4 h4 o4 c5 h5 o5 c6 h6 o6
  generalize c = c7 at *
  refine St.loop (σ := Nat) (fun i => i ≤ 256) (fun i => [(0, mp b), (4, mp c4), (5, mp c5), (6, mp c6), (7, mp c7), (8, .int .i64 i)])
    (fun i => Hp w [⟨c7, rpF (tmS n p i).1, 39⟩, ⟨c6, [Value.int .u64 0, Value.int .u64 0, Value.int .u64 0, Value.int .u64 0, Value.int .u64 0, Value.int .u64 0, Value.int .u64 0, Value.int .u64 0, Value.int .u64 0, Value.int .u64 0, Value.int .u64 0, Value.int .u64 0, Value.int .u64 0, Value.int .u64 0, Value.int .u64 0, Value.int .u64 0, Value.int .u64 0, Value.int .u64 0, Value.int .u64 0, Value.int .u64 0, Value.int .u64 0, Value.int .u64 0, Value.int .u64 0, Value.int .u64 0, Value.int .u64 0, Value.int .u64 0, Value.int .u64 0, Value.int .u64 0, Value.int .u64 0, Value.int .u64 0, Value.int .u64 0, Value.int .u64 0, Value.int .u64 0, Value.int .u64 0, Value.int .u64 0, Value.int .u64 0, Value.int .u64 0, Value.int .u64 0, Value.int .u64 0, Value.int .u64 0, Value.int .u64 0, Value.int .u64 0, Value.int .u64 0, Value.int .u64 0, Value.int .u64 0, Value.int .u64 0, Value.int .u64 0, Value.int .u64 0], 39⟩, ⟨c5, rpF (tmS n p i).2, 39⟩, ⟨c4, cellsN .u64 16 (dg D16 n), 32⟩])
    (fun i => 256 - i) 0 (by simp) (by (repeat (first | exact Sub.nil | apply Sub.cons rfl))) (fun _ h => by
      show Hp w [⟨c7, rpC (0 : Ec.F).val (1 : Ec.F).val (0 : Ec.F).val, _⟩, _, _, _] _
      rw [val_one, val_zero]
      exact h) ?_
  intro i hi256
  by_cases hil : i < 256
  · have hbit := bit_dg16 n i
    have hdl := dlt16 n (i / 16)
    have h16 : i / 16 < 16 := by omega
    have hb2 := Nat.mod_lt (n / 2 ^ i) (show 0 < 2 by decide)
    have hS : tmS n p (i + 1) = (if n / 2 ^ i % 2 = 1 then Ec.pplus (tmS n p i).1 (tmS n p i).2 else (tmS n p i).1, Ec.pdbl (tmS n p i).2) := rfl
    have hc : decide ((i : Int) < 256) = true := decide_eq_true (by omega)
    repeat' (first | (apply Wl.indexA; exact rfl; exact rfl; exact rfl; (omega)) | (apply Wl.loadN; exact rfl; exact rfl; (repeat (first | exact List.Mem.head _ | apply List.Mem.tail)); (omega)) | (apply Wl.remN (n := 2); exact rfl; exact rfl; exact rfl; (decide)) | (apply Wl.quoN (n := 16); exact rfl; exact rfl; exact rfl; (decide); (first | exact IntWalk.u64_in _ (by omega) | exact IntWalk.i64_in _ (by omega))) | (apply Wl.remN (n := 16); exact rfl; exact rfl; exact rfl; (decide)) | (apply Wl.shrV; exact rfl; exact rfl; exact rfl; (first | (show _ ≤ 32; omega) | (show _ ≤ 64; omega))) | (apply Wl.move; exact rfl; exact rfl) | (apply Wl.eql; exact rfl; exact rfl; exact rfl) | (apply Wl.lss; exact rfl; exact rfl; exact rfl) | (apply Wl.nil) | (apply St.seq) | (apply St.block) | (apply St.region) | (apply St.condT; exact rfl; (first | with_reducible rfl | with_reducible assumption | decide)) | (apply St.skip) | (apply Gt.next))
    rw [hbit]
    by_cases hbi : n / 2 ^ i % 2 = 1
    · rw [if_pos hbi] at hS
      rw [hbi]
      repeat' (first | (apply Wl.loadAH; exact rfl; exact rfl; (repeat (first | exact List.Mem.head _ | apply List.Mem.tail)); (first | exact rpC_x _ _ _ | exact rpC_y _ _ _ | exact rpC_z _ _ _ | exact LSub.whole (rpC_len _ _ _))) | (apply Wl.storeAll; exact rfl; exact rfl; (repeat (first | apply HSet.here | apply HSet.there)); (first | exact rpC_len _ _ _); (first | exact rfl | exact rpC_len _ _ _); (first | exact rpC_one _ _ _)) | (apply Wl.callQ (f := 19); exact rfl; (repeat (first | exact Evs.nil | apply Evs.cons rfl)); (intro wq hq; refine (refPlus _ _ _ wq (hF.hp hq (by (repeat (first | exact trivial | exact hX.off (by omega) | refine ⟨by first | assumption | omega | (simp only; omega), ?_⟩))))).mono ?_; rintro e wr ⟨rfl, hr⟩; exact ⟨rfl, hq.keep hr⟩)) | (apply Wl.callQ (f := 32); exact rfl; (repeat (first | exact Evs.nil | apply Evs.cons rfl)); (intro wq hq; refine (refDbl _ _ wq (hF.hp hq (by (repeat (first | exact trivial | exact hX.off (by omega) | refine ⟨by first | assumption | omega | (simp only; omega), ?_⟩))))).mono ?_; rintro e wr ⟨rfl, hr⟩; exact ⟨rfl, hq.keep hr⟩)) | (apply Wl.move; exact rfl; exact rfl) | (apply Wl.assign; exact rfl; exact rfl) | (apply Wl.addI; exact rfl; exact rfl; exact rfl; (constructor <;> omega)) | (apply Wl.nil) | (apply St.region) | (apply St.condT; exact rfl; (first | with_reducible rfl | with_reducible assumption | decide)) | (apply Gt.next) | (apply Gt.inNormal) | (apply Wl.splitP; exact rfl; exact rfl; all_goals (intros; try (exfalso; omega))) | (apply Wl.splitB; exact rfl; exact rfl; all_goals intros) | (apply St.condP; exact rfl; all_goals (intros; try (exfalso; omega))) | (apply St.condB; exact rfl; all_goals intros))
      apply Gt.round (i + 1)
      rotate_left
      · omega
      · (repeat (first | exact Sub.nil | apply Sub.cons rfl))
      · exact fun _ h => by simp only [hS]; exact h
      · omega
    · have hb0 : n / 2 ^ i % 2 = 0 := by omega
      rw [if_neg hbi] at hS
      rw [hb0]
      repeat' (first | (apply Wl.loadAH; exact rfl; exact rfl; (repeat (first | exact List.Mem.head _ | apply List.Mem.tail)); (first | exact rpC_x _ _ _ | exact rpC_y _ _ _ | exact rpC_z _ _ _ | exact LSub.whole (rpC_len _ _ _))) | (apply Wl.storeAll; exact rfl; exact rfl; (repeat (first | apply HSet.here | apply HSet.there)); (first | exact rpC_len _ _ _); (first | exact rfl | exact rpC_len _ _ _); (first | exact rpC_one _ _ _)) | (apply Wl.callQ (f := 32); exact rfl; (repeat (first | exact Evs.nil | apply Evs.cons rfl)); (intro wq hq; refine (refDbl _ _ wq (hF.hp hq (by (repeat (first | exact trivial | exact hX.off (by omega) | refine ⟨by first | assumption | omega | (simp only; omega), ?_⟩))))).mono ?_; rintro e wr ⟨rfl, hr⟩; exact ⟨rfl, hq.keep hr⟩)) | (apply Wl.move; exact rfl; exact rfl) | (apply Wl.assign; exact rfl; exact rfl) | (apply Wl.addI; exact rfl; exact rfl; exact rfl; (constructor <;> omega)) | (apply Wl.nil) | (apply St.region) | (apply St.condF; exact rfl; (first | with_reducible rfl | with_reducible assumption | decide)) | (apply St.skip) | (apply Gt.next) | (apply Gt.inNormal) | (apply Wl.splitP; exact rfl; exact rfl; all_goals (intros; try (exfalso; omega))) | (apply Wl.splitB; exact rfl; exact rfl; all_goals intros) | (apply St.condP; exact rfl; all_goals (intros; try (exfalso; omega))) | (apply St.condB; exact rfl; all_goals intros))
      apply Gt.round (i + 1)
      rotate_left
      · omega
      · (repeat (first | exact Sub.nil | apply Sub.cons rfl))
      · exact fun _ h => by simp only [hS]; exact h
      · omega
  · have hie : i = 256 := by omega
    subst hie
    repeat' (first | (apply Wl.loadAH; exact rfl; exact rfl; (repeat (first | exact List.Mem.head _ | apply List.Mem.tail)); (first | exact rpC_x _ _ _ | exact rpC_y _ _ _ | exact rpC_z _ _ _ | exact LSub.whole (rpC_len _ _ _))) | (apply Wl.storeAll; exact rfl; exact rfl; (repeat (first | apply HSet.here | apply HSet.there)); (first | exact rpC_len _ _ _); (first | exact rfl | exact rpC_len _ _ _); (first | exact rpC_one _ _ _)) | (apply Gt.outC'; exact rfl; infer_instance; exact rfl; (repeat (first | exact List.Mem.head _ | apply List.Mem.tail)); (first | exact LSub.whole (rpC_len _ _ _)); intro w' hp) | (apply Wl.move; exact rfl; exact rfl) | (apply Wl.lss; exact rfl; exact rfl; exact rfl) | (apply Wl.nil) | (apply St.seq) | (apply St.region) | (apply St.condF; exact rfl; (first | with_reducible rfl | with_reducible assumption | decide)) | (apply St.ret) | (apply St.exit) | (apply Gt.next) | (apply Gt.thenExit) | (apply Gt.inExit) | (apply Wl.splitP; exact rfl; exact rfl; all_goals (intros; try (exfalso; omega))) | (apply Wl.splitB; exact rfl; exact rfl; all_goals intros) | (apply St.condP; exact rfl; all_goals (intros; try (exfalso; omega))) | (apply St.condB; exact rfl; all_goals intros))
    exact ⟨rfl, hp.drop (by simp; omega)⟩
attribute [irreducible] ptimes
/-! ### Plain -/
set_option maxHeartbeats 8000000 in
theorem refPlain (b : Nat) (p : Ec.F × Ec.F × Ec.F) (w : World) (hF : FldV w b Prim.P256) : Calls Try.prog 33 #[mp b, rpV p] w fun e w' => e = .returned (.tuple #[num16 (poX (Ec.ppt p)), num16 (poY (Ec.ppt p)), .bool (!(Ec.ppt p).isNone)]) ∧ Hp w [] w' := by
  have hb := hF.blk
  obtain ⟨x, y, z⟩ := p
  refine enter (args := [_, _]) (Γ := [(0, _), (1, _)]) Try.func33 Try.ntmps33 rfl (of_decide_eq_true rfl) (.cons rfl (.cons rfl .nil)) ?_
  unfold Ec.ppt Ec.prj
  by_cases hz : z = 0
  · have hd : decide (z = 0) = true := decide_eq_true hz
    repeat' (first | (apply Wl.loadAH; exact rfl; exact rfl; (repeat (first | exact List.Mem.head _ | apply List.Mem.tail)); (first | exact rpC_x _ _ _ | exact rpC_y _ _ _ | exact rpC_z _ _ _ | exact LSub.whole (rpC_len _ _ _))) | (apply Wl.buildN; exact rfl; (repeat (first | exact Parts.nil | apply Parts.cons rfl)); (repeat (first | apply Fills.nil | (apply Fills.one; exact rfl; exact rfl; (repeat (first | apply LSet.z | apply LSet.s))) | (apply Fills.agg; exact rfl; exact rfl; (repeat (first | apply LPut.s | apply LPut.z | apply LOver.nil | apply LOver.cons))))); exact zero16) | (apply Wl.eqlA; exact rfl; exact rfl; exact rfl; kernel_rfl; kernel_rfl; kernel_rfl; kernel_rfl; exact cell64 _; exact cell64 _; exact eq16Z _) | (apply Gt.outCCT; exact rfl; infer_instance; infer_instance; exact rfl; exact rfl; exact rfl; (repeat (first | exact List.Mem.head _ | apply List.Mem.tail)); (repeat (first | exact List.Mem.head _ | apply List.Mem.tail)); exact cellsN_len _ _ _; exact cellsN_len _ _ _; intro w' hp) | (apply Wl.storeW; exact rfl; exact rfl; (repeat (first | apply HSet.here | apply HSet.there)); exact rfl; (first | exact cellsN_len _ _ _ | exact rfl)) | (apply Wl.allocN; exact rfl; (first | exact z8 | exact z16 | exact z17 | exact z33 | exact z10); intro c hc ho) | (apply Wl.assign; exact rfl; exact rfl) | (apply Wl.fieldAddrZ; exact rfl; exact rfl) | (apply Wl.boxA; exact rfl; exact rfl; intro c hc ho) | (apply Wl.nil) | (apply St.seq) | (apply St.region) | (apply St.condT; exact rfl; (first | with_reducible rfl | with_reducible assumption | decide)) | (apply St.ret) | (apply Gt.next) | (apply Gt.thenRet) | (apply Wl.splitP; exact rfl; exact rfl; all_goals (intros; try (exfalso; omega))) | (apply Wl.splitB; exact rfl; exact rfl; all_goals intros) | (apply St.condP; exact rfl; all_goals (intros; try (exfalso; omega))) | (apply St.condB; exact rfl; all_goals intros))
    rw [if_pos hz]
    exact ⟨rfl, hp.drop (by simp; omega)⟩
  · have hd : decide (z = 0) = false := decide_eq_false hz
    obtain ⟨i, h_i⟩ : ∃ q_ : Ec.F, q_ = Ec.finv z := ⟨_, rfl⟩
    obtain ⟨xi, h_xi⟩ : ∃ q_ : Ec.F, q_ = x * i := ⟨_, rfl⟩
    obtain ⟨yi, h_yi⟩ : ∃ q_ : Ec.F, q_ = y * i := ⟨_, rfl⟩
    repeat' (first | (apply St.bagX 10 []; exact mixed; (decide +kernel); kernel_rfl) | (apply OpsX.nil) | (apply OpsX.v; (intro X hX; change Wl [_] _ _ _ _ _ _ _; apply Wl.catX; (repeat (first | apply CatB.nil | apply CatB.cons)))) | (apply Gt.endX; exact rfl) | (apply EndX.on; exact rfl) | (apply EndX.off; exact rfl) | (apply EndX.nil'; apply Wl.catE; (repeat (first | apply CatB.nil | apply CatB.cons))) | (apply Wl.loadAH; exact rfl; exact rfl; (repeat (first | exact List.Mem.head _ | apply List.Mem.tail)); (first | exact rpC_x _ _ _ | exact rpC_y _ _ _ | exact rpC_z _ _ _ | exact LSub.whole (rpC_len _ _ _))) | (apply Wl.buildN; exact rfl; (repeat (first | exact Parts.nil | apply Parts.cons rfl)); (repeat (first | apply Fills.nil | (apply Fills.one; exact rfl; exact rfl; (repeat (first | apply LSet.z | apply LSet.s))) | (apply Fills.agg; exact rfl; exact rfl; (repeat (first | apply LPut.s | apply LPut.z | apply LOver.nil | apply LOver.cons))))); exact zero16) | (apply Wl.eqlA; exact rfl; exact rfl; exact rfl; kernel_rfl; kernel_rfl; kernel_rfl; kernel_rfl; exact cell64 _; exact cell64 _; exact eq16Z _) | (apply Wl.callQ (f := 44); exact rfl; (repeat (first | exact Evs.nil | apply Evs.cons rfl)); (intro wq hq; refine (hMul (hF.hp hq (by (repeat (first | exact trivial | exact hX.off (by omega) | refine ⟨by first | assumption | omega | (simp only; omega), ?_⟩)))) (by with_reducible assumption)).mono ?_; rintro e wr ⟨rfl, hr⟩; exact ⟨rfl, hq.keep hr⟩)) | (apply Wl.callQ (f := 53); exact rfl; (repeat (first | exact Evs.nil | apply Evs.cons rfl)); (intro wq hq; refine (hInv (hF.hp hq (by (repeat (first | exact trivial | exact hX.off (by omega) | refine ⟨by first | assumption | omega | (simp only; omega), ?_⟩)))) (by with_reducible assumption)).mono ?_; rintro e wr ⟨rfl, hr⟩; exact ⟨rfl, hq.keep hr⟩)) | (apply Gt.outCCT; exact rfl; infer_instance; infer_instance; exact rfl; exact rfl; exact rfl; (repeat (first | exact List.Mem.head _ | apply List.Mem.tail)); (repeat (first | exact List.Mem.head _ | apply List.Mem.tail)); exact cellsN_len _ _ _; exact cellsN_len _ _ _; intro w' hp) | (apply Wl.loadW; exact rfl; exact rfl; (repeat (first | exact List.Mem.head _ | apply List.Mem.tail)); exact rfl) | (apply Wl.storeW; exact rfl; exact rfl; (repeat (first | apply HSet.here | apply HSet.there)); exact rfl; (first | exact cellsN_len _ _ _ | exact rfl)) | (apply Wl.allocN; exact rfl; (first | exact z8 | exact z16 | exact z17 | exact z33 | exact z10); intro c hc ho) | (apply Wl.move; exact rfl; exact rfl) | (apply Wl.assign; exact rfl; exact rfl) | (apply Wl.fieldAddr0; exact rfl; exact rfl) | (apply Wl.fieldAddrZ; exact rfl; exact rfl) | (apply Wl.boxA; exact rfl; exact rfl; intro c hc ho) | (apply Wl.nil) | (apply St.seq) | (apply St.region) | (apply St.condF; exact rfl; (first | with_reducible rfl | with_reducible assumption | decide)) | (apply St.ret) | (apply St.skip) | (apply Gt.next) | (apply Wl.splitP; exact rfl; exact rfl; all_goals (intros; try (exfalso; omega))) | (apply Wl.splitB; exact rfl; exact rfl; all_goals intros) | (apply St.condP; exact rfl; all_goals (intros; try (exfalso; omega))) | (apply St.condB; exact rfl; all_goals intros))
    rw [if_neg hz]
    simp only
    rw [← h_i, ← h_xi, ← h_yi]
    exact ⟨rfl, hp.drop (by simp; omega)⟩
end Go.Proofs.Ytfaobdakpbpkbaa
