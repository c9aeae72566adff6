/-
  Manifests as they lie in memory; which grants may be: manifest.grant, porticoref07.Fine. Conditions: numbers are of their kinds.
-/
import Derived.Test.YthdojhldiinkcaaMan
namespace Go.Proofs.Ythdojhldiinkcaa
open Go.RowKit Go.Pt

def I64 (x : Int) : Prop := -9223372036854775808 ≤ x ∧ x ≤ 9223372036854775807
def grCells (g : Gr) : List Value := [.int .u32 g.start, .int .u32 g.size, .int .i64 g.rights]
def pyCells (x : Py × Value) : List Value := byteCells x.1.dig ++ [.int .u32 x.1.size, .int .u32 x.1.bias, x.2, .int .i64 x.1.calls]
def GrV (g : Gr) : Prop := g.start < 4294967296 ∧ g.size < 4294967296 ∧ I64 g.rights
/-- a payload whose grants lie in v -/
def PyV (w : World) (x : Py × Value) : Prop :=
  Sv w 3 x.1.grants.length x.2 (x.1.grants.flatMap grCells) ∧ x.1.dig.length = 32 ∧ x.1.size < 4294967296 ∧ x.1.bias < 4294967296 ∧ I64 x.1.calls ∧ (∀ g ∈ x.1.grants, GrV g) ∧ x.1.grants.length ≤ 140737488355328
def MfV (w : World) (v : Value) (m : Mf) : Prop :=
  ∃ (pv : Value) (xs : List (Py × Value)), v = .agg #[.int .u32 m.counter, .int .i64 m.key, pv] ∧ xs.map (·.1) = m.pays ∧ Sv w 36 xs.length pv (xs.flatMap pyCells) ∧ (∀ x ∈ xs, PyV w x) ∧ m.counter < 4294967296 ∧ I64 m.key

theorem and6I (r : Int) (a : 1 ≤ r) (b : r ≤ 7) : bits .and .i64 r 6 = 6 ↔ 6 ≤ r := by
  have : r = 1 ∨ r = 2 ∨ r = 3 ∨ r = 4 ∨ r = 5 ∨ r = 6 ∨ r = 7 := by omega
  rcases this with e | e | e | e | e | e | e <;> rw [e] <;> decide
set_option maxHeartbeats 1000000 in
theorem grant_any (g : Gr) (w : World) (hg : GrV g) : Calls Try.prog 51 #[.agg (grCells g).toArray] w fun e w' => e = .returned (.bool (fineB g)) ∧ Hp w [] w' := by
  obtain ⟨h1, h2, h3⟩ := hg
  unfold I64 at h3
  have t1 : (g.start : Int).tmod 4 = ((g.start % 4 : Nat) : Int) := rfl
  have t2 : (g.size : Int).tmod 4 = ((g.size % 4 : Nat) : Int) := rfl
  unfold grCells
  refine enter (args := [_]) (Γ := [(0, _)]) Try.func51 Try.ntmps51 rfl (of_decide_eq_true rfl) (.cons rfl .nil) ?_
  repeat' (first | (apply Wl.assign; exact rfl; exact rfl) | (apply Wl.fieldAddr0; exact rfl; exact rfl) | (apply Wl.fieldAddrZ; exact rfl; exact rfl) | (apply Wl.loadH; exact rfl; exact rfl; (repeat (first | exact List.Mem.head _ | apply List.Mem.tail)); exact rfl) | (apply Wl.boxA; exact rfl; exact rfl; intro c hc ho) | (apply Wl.nil) | (apply St.seq) | (apply St.region) | (apply Gt.next) | (apply Wl.splitP; exact rfl; exact rfl; all_goals (intros; try (exfalso; omega))) | (apply Wl.splitB; exact rfl; exact rfl; all_goals intros) | (apply St.condP; exact rfl; all_goals (intros; try (exfalso; omega))) | (apply St.condB; exact rfl; all_goals intros))
  apply Wl.callQ
  exact rfl
  (repeat (first | exact Evs.nil | apply Evs.cons rfl))
  · intro wq hq
    refine (within_any g.start g.size 2147487744 61440 wq (by unfold U32; omega) (by unfold U32; omega) (by unfold U32; omega) (by unfold U32; omega)).mono ?_
    rintro e wr ⟨rfl, hr⟩
    exact ⟨rfl, hq.keep hr⟩
  cases hib : inB g.start g.size 2147487744 61440
  · have hw1 : ¬ (2147487744 ≤ g.start ∧ g.start + g.size ≤ 2147549184) := fun h => by
      have : inB g.start g.size 2147487744 61440 = true := by unfold inB; rw [decide_eq_true_eq]; omega
      rw [hib] at this; cases this
    clear hib
    repeat' (first | (apply Wl.move; exact rfl; exact rfl) | (apply Wl.assign; exact rfl; exact rfl) | (apply Wl.off; exact rfl; exact rfl; exact rfl; (first | with_reducible rfl | (show _ = false; with_reducible assumption) | (show _ = true; with_reducible assumption) | decide)) | (apply Wl.pickF; exact rfl; exact rfl; (first | with_reducible rfl | with_reducible assumption | decide); exact rfl) | (apply Wl.nil) | (apply St.seq) | (apply St.region) | (apply St.ret) | (apply Gt.next) | (apply Gt.out1; exact rfl; exact rfl; intro w' hp) | (apply Wl.splitP; exact rfl; exact rfl; all_goals (intros; try (exfalso; omega))) | (apply Wl.splitB; exact rfl; exact rfl; all_goals intros) | (apply St.condP; exact rfl; all_goals (intros; try (exfalso; omega))) | (apply St.condB; exact rfl; all_goals intros))
    refine ⟨congrArg (fun b => Ending.returned (.bool b)) ?_, hp.drop (by simp; omega)⟩
    unfold fineB
    rw [Bool.eq_iff_iff]
    simp only [decide_eq_true_eq, Bool.false_eq_true, true_iff, false_iff]
    omega
  · have hw1 : 2147487744 ≤ g.start ∧ g.start + g.size ≤ 2147549184 := by
      unfold inB at hib; rw [decide_eq_true_eq] at hib; omega
    clear hib
    repeat' (first | (apply Wl.move; exact rfl; exact rfl) | (apply Wl.assign; exact rfl; exact rfl) | (apply Wl.on; exact rfl; exact rfl; (first | with_reducible rfl | with_reducible assumption | decide)) | (apply Wl.off; exact rfl; exact rfl; exact rfl; (first | with_reducible rfl | (show _ = false; with_reducible assumption) | (show _ = true; with_reducible assumption) | decide)) | (apply Wl.pickT; exact rfl; exact rfl; (first | with_reducible rfl | with_reducible assumption | decide); exact rfl) | (apply Wl.pickF; exact rfl; exact rfl; (first | with_reducible rfl | with_reducible assumption | decide); exact rfl) | (apply Wl.fieldAddr0; exact rfl; exact rfl) | (apply Wl.fieldAddrZ; exact rfl; exact rfl) | (apply Wl.loadH; exact rfl; exact rfl; (repeat (first | exact List.Mem.head _ | apply List.Mem.tail)); exact rfl) | (apply Wl.eql; exact rfl; exact rfl; exact rfl) | (apply Wl.neq; exact rfl; exact rfl; exact rfl) | (apply Wl.leq; exact rfl; exact rfl; exact rfl) | (apply Wl.gtr; exact rfl; exact rfl; exact rfl) | (apply Wl.geq; exact rfl; exact rfl; exact rfl) | (apply Wl.rem; exact rfl; exact rfl; exact rfl; (first | decide | omega)) | (apply Wl.and; exact rfl; exact rfl; exact rfl) | (apply Wl.nil) | (apply St.seq) | (apply St.region) | (apply St.ret) | (apply Gt.next) | (apply Gt.out1; exact rfl; exact rfl; intro w' hp) | (apply Wl.splitP; exact rfl; exact rfl; all_goals (intros; try (exfalso; omega))) | (apply Wl.splitB; exact rfl; exact rfl; all_goals intros) | (apply St.condP; exact rfl; all_goals (intros; try (exfalso; omega))) | (apply St.condB; exact rfl; all_goals intros))
    all_goals
      have h6 : 1 ≤ g.rights ∧ g.rights ≤ 7 → (bits .and .i64 g.rights 6 = 6 ↔ 6 ≤ g.rights) := fun h => and6I _ h.1 h.2
      generalize bits .and .i64 g.rights 6 = kk at *
      refine ⟨congrArg (fun b => Ending.returned (.bool b)) ?_, hp.drop (by simp; omega)⟩
      unfold fineB
      rw [Bool.eq_iff_iff]
      simp only [decide_eq_true_eq, Bool.false_eq_true, true_iff, false_iff]
      omega
set_option maxHeartbeats 1000000 in
theorem fine_any (g : Gr) (w : World) (hg : GrV g) : Calls Try.prog 52 #[.agg (grCells g).toArray] w fun e w' => e = .returned (.bool (fineB g)) ∧ Hp w [] w' := by
  obtain ⟨h1, h2, h3⟩ := hg
  unfold I64 at h3
  have t1 : (g.start : Int).tmod 4 = ((g.start % 4 : Nat) : Int) := rfl
  have t2 : (g.size : Int).tmod 4 = ((g.size % 4 : Nat) : Int) := rfl
  unfold grCells
  refine enter (args := [_]) (Γ := [(0, _)]) Try.func52 Try.ntmps52 rfl (of_decide_eq_true rfl) (.cons rfl .nil) ?_
  repeat' (first | (apply Wl.move; exact rfl; exact rfl) | (apply Wl.assign; exact rfl; exact rfl) | (apply Wl.on; exact rfl; exact rfl; (first | with_reducible rfl | with_reducible assumption | decide)) | (apply Wl.off; exact rfl; exact rfl; exact rfl; (first | with_reducible rfl | (show _ = false; with_reducible assumption) | (show _ = true; with_reducible assumption) | decide)) | (apply Wl.pickT; exact rfl; exact rfl; (first | with_reducible rfl | with_reducible assumption | decide); exact rfl) | (apply Wl.pickF; exact rfl; exact rfl; (first | with_reducible rfl | with_reducible assumption | decide); exact rfl) | (apply Wl.fieldAddr0; exact rfl; exact rfl) | (apply Wl.fieldAddrZ; exact rfl; exact rfl) | (apply Wl.loadH; exact rfl; exact rfl; (repeat (first | exact List.Mem.head _ | apply List.Mem.tail)); exact rfl) | (apply Wl.eql; exact rfl; exact rfl; exact rfl) | (apply Wl.neq; exact rfl; exact rfl; exact rfl) | (apply Wl.lss; exact rfl; exact rfl; exact rfl) | (apply Wl.gtr; exact rfl; exact rfl; exact rfl) | (apply Wl.addI; exact rfl; exact rfl; exact rfl; (constructor <;> omega)) | (apply Wl.rem; exact rfl; exact rfl; exact rfl; (first | decide | omega)) | (apply Wl.convI64; exact rfl; exact rfl; (constructor <;> omega)) | (apply Wl.boxA; exact rfl; exact rfl; intro c hc ho) | (apply Wl.nil) | (apply Wl.nilQ) | (apply St.seq) | (apply St.block) | (apply St.region) | (apply St.draw; exact mixed; (kernel_rfl); exact (fun _ h => Hp.drew h)) | (apply St.condT; exact rfl; (first | with_reducible rfl | with_reducible assumption | decide)) | (apply St.ret) | (apply St.skip) | (apply Gt.next) | (apply Gt.thenRet) | (apply Gt.inNormal) | (apply Gt.inRet) | (apply Gt.out1; exact rfl; exact rfl; intro w' hp) | (apply Wl.splitP; exact rfl; exact rfl; all_goals (intros; try (exfalso; omega))) | (apply Wl.splitB; exact rfl; exact rfl; all_goals intros) | (apply St.condP; exact rfl; all_goals (intros; try (exfalso; omega))) | (apply St.condB; exact rfl; all_goals intros))
  all_goals refine ⟨congrArg (fun b => Ending.returned (.bool b)) ?_, hp.drop (by simp; omega)⟩; unfold fineB; rw [Bool.eq_iff_iff]; simp only [decide_eq_true_eq, Bool.false_eq_true, true_iff, false_iff]; omega
end Go.Proofs.Ythdojhldiinkcaa
