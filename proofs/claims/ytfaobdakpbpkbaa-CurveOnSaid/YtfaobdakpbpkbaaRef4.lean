/-
  porticoref04: carry, low, neg. Conditions: digits are small enough.
-/
import Derived.Test.YtfaobdakpbpkbaaVal
import Derived.Test.YtfaobdakpbpkbaaRef3e
import Derived.Test.YtfaobdakpbpkbaaBagX
namespace Go.Proofs.Ytfaobdakpbpkbaa
open Go.RowKit Go.Pt
set_option maxHeartbeats 2000000 in
theorem refCarry (ct : Nat) (f : Nat → Nat) (V : Nat) (w : World) (hb : w.heap[ct]? = some (.cells (cellsN .u64 33 f).toArray 94 (0, 0))) (hf : ∀ j, j < 33 → f j < 1152921504606846976) (hV : hs f 0 33 = V) :
    Calls Try.prog 58 #[mp ct] w fun e w' => e = .returned (.tuple #[]) ∧ Hp w [⟨ct, cellsN .u64 33 (dg D16 V), 94⟩] w' := by
  refine enter (args := [_]) (Γ := [(0, _)]) Try.func58 Try.ntmps58 rfl (of_decide_eq_true rfl) (.cons rfl .nil) ?_
  refine St.cls (C' := Hp w [⟨ct, cellsN .u64 33 f, 94⟩]) (fun _ h' => Hp.open h' hb) ?_
  repeat' (first | (apply Wl.assign; exact rfl; exact rfl) | (apply Wl.nil) | (apply St.seq) | (apply St.block) | (apply St.region) | (apply Gt.next) | (apply Wl.splitP; exact rfl; exact rfl; all_goals (intros; try (exfalso; omega))) | (apply Wl.splitB; exact rfl; exact rfl; all_goals intros) | (apply St.condP; exact rfl; all_goals (intros; try (exfalso; omega))) | (apply St.condB; exact rfl; all_goals intros))
  refine St.loop (σ := Nat × Nat) (fun τ => τ.1 ≤ 33 ∧ τ.2 < 18446744073709551616 / 65536 ∧ hi D16 V τ.1 = τ.2 + hs f τ.1 (33 - τ.1))
    (fun τ => [(0, mp ct), (2, .int .u64 τ.2), (3, .int .i64 τ.1)])
    (fun τ => Hp w [⟨ct, cellsN .u64 33 (fillN f (dg D16 V) τ.1), 94⟩])
    (fun τ => 33 - τ.1) (0, 0) ⟨by simp, by simp, by simp only [hi_zero, Nat.sub_zero, Nat.zero_add]; exact hV.symm⟩ (by (repeat (first | exact Sub.nil | apply Sub.cons rfl))) (fun _ h => by simpa only [fillN_zero] using h) ?_
  rintro ⟨i, c⟩ ⟨hi33, hc, hic⟩
  simp only at hi33 hc hic ⊢
  by_cases hlt : i < 33
  · have hfi := hf i hlt
    have hfl : fillN f (dg D16 V) i i = f i := fillN_at (Nat.le_refl _)
    rw [show 33 - i = (32 - i) + 1 by omega] at hic
    obtain ⟨p1, p2⟩ := carry_step hic
    have q0 : c + fillN f (dg D16 V) i i < 18446744073709551616 := by rw [hfl]; omega
    repeat' (first | (apply Wl.indexA; exact rfl; exact rfl; exact rfl; (omega)) | (apply Wl.loadN; exact rfl; exact rfl; (repeat (first | exact List.Mem.head _ | apply List.Mem.tail)); (omega)) | (apply Wl.storeN; exact rfl; exact rfl; (repeat (first | apply HSet.here | apply HSet.there)); (omega)) | (apply Wl.addNU; exact rfl; exact rfl; exact rfl; (first | assumption | omega)) | (apply Wl.quoN (n := 65536); exact rfl; exact rfl; exact rfl; (decide); (first | exact IntWalk.u64_in _ (by omega) | exact IntWalk.i64_in _ (by omega))) | (apply Wl.remN (n := 65536); exact rfl; exact rfl; exact rfl; (decide)) | (apply Wl.move; exact rfl; exact rfl) | (apply Wl.assign; exact rfl; exact rfl) | (apply Wl.nilCheck; exact rfl; exact rfl) | (apply Wl.lss; exact rfl; exact rfl; exact rfl) | (apply Wl.addI; exact rfl; exact rfl; exact rfl; (constructor <;> omega)) | (apply Wl.nil) | (apply St.seq) | (apply St.block) | (apply St.region) | (apply St.skip) | (apply Gt.next) | (apply Gt.inNormal) | (apply Wl.splitP; exact rfl; exact rfl; all_goals (intros; try (exfalso; omega))) | (apply Wl.splitB; exact rfl; exact rfl; all_goals intros) | (apply St.condP; exact rfl; all_goals (intros; try (exfalso; omega))) | (apply St.condB; exact rfl; all_goals intros))
    rw [hfl, ← p1]
    apply Gt.round (i + 1, (c + f i) / 65536)
    rotate_left
    · simp only; omega
    · (repeat (first | exact Sub.nil | apply Sub.cons rfl))
    · exact fun _ h => by rw [fillN_step] at h; exact h
    · refine ⟨by simp only; omega, by simp only; omega, ?_⟩
      rw [p2, show 33 - (i + 1) = 32 - i by omega]
  · have hie : i = 33 := by omega
    subst hie
    rw [fillN_end]
    repeat' (first | (apply Wl.move; exact rfl; exact rfl) | (apply Wl.lss; exact rfl; exact rfl; exact rfl) | (apply Wl.nil) | (apply St.seq) | (apply St.region) | (apply St.condF; exact rfl; (first | with_reducible rfl | with_reducible assumption | decide)) | (apply St.exit) | (apply Gt.next) | (apply Gt.thenExit) | (apply Gt.inExit) | (apply Gt.out0n; exact rfl; intro w' hp) | (apply Wl.splitP; exact rfl; exact rfl; all_goals (intros; try (exfalso; omega))) | (apply Wl.splitB; exact rfl; exact rfl; all_goals intros) | (apply St.condP; exact rfl; all_goals (intros; try (exfalso; omega))) | (apply St.condB; exact rfl; all_goals intros))
    exact ⟨rfl, hp⟩
end Go.Proofs.Ytfaobdakpbpkbaa
