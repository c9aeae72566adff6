/-
  limbs: numbers of eight words: Add, Sub, Compare, Bit, Zero. Conditions: the numbers are below 2^256.
-/
import Derived.Test.YtfaobdakpbpkbaaNum
import Derived.Test.YtfaobdakpbpkbaaTree
import Derived.Test.YtfaobdakpbpkbaaFacts
namespace Go.Proofs.Ytfaobdakpbpkbaa
open Go.RowKit Go.Pt

/-- the words of a number -/
def d8 (n : Nat) : List Value := cellsN .u32 8 (dg W32 n)
abbrev numV (n : Nat) : Value := .agg (cellsN .u32 8 (dg W32 n)).toArray
theorem dlt (n i : Nat) : dg W32 n i < 4294967296 := dg_lt (by decide) n i
theorem d8_mod (n : Nat) : cellsN .u32 8 (dg W32 (n % W256)) = cellsN .u32 8 (dg W32 n) := cellsN_congr fun j hj => by rw [W256_eq]; exact dg_mod hj
theorem hi8_eq (n : Nat) : hi W32 n 8 = n / W256 := by unfold hi; rw [W256_eq]
theorem hi8_lt {n : Nat} (h : n < W256) : hi W32 n 8 = 0 := hi_top (by rw [← W256_eq]; exact h)
set_option maxHeartbeats 1000000 in
theorem limbAdd (a b : Nat) (ha : a < W256) (hb : b < W256) (w : World) :
    Calls Try.prog 26 #[numV a, numV b] w fun e w' => e = .returned (.tuple #[numV ((a + b) % W256), .int .u32 ((a + b) / W256 : Nat)]) ∧ Hp w [] w' := by
  refine enter (args := [_, _]) (Γ := [(0, _), (1, _)]) Try.func26 Try.ntmps26 rfl (of_decide_eq_true rfl) (.cons rfl (.cons rfl .nil)) ?_
  repeat' (first | (apply Wl.boxN; exact rfl; exact rfl; intro c hc ho) | (apply Wl.allocN; exact rfl; (first | exact z8 | exact z16 | exact z17 | exact z33 | exact z10); intro c hc ho) | (apply Wl.move; exact rfl; exact rfl) | (apply Wl.assign; exact rfl; exact rfl) | (apply Wl.nil) | (apply St.seq) | (apply St.block) | (apply St.region) | (apply Gt.next) | (apply Wl.splitP; exact rfl; exact rfl; all_goals (intros; try (exfalso; omega))) | (apply Wl.splitB; exact rfl; exact rfl; all_goals intros) | (apply St.condP; exact rfl; all_goals (intros; try (exfalso; omega))) | (apply St.condB; exact rfl; all_goals intros))
  rename_i ca hca hoa cb hcb hob
  generalize c = cr at *
  refine St.loop (σ := Nat × Nat) (fun τ => τ.1 ≤ 8 ∧ τ.2 ≤ 1 ∧ hi W32 (a + b) τ.1 = hi W32 a τ.1 + hi W32 b τ.1 + τ.2)
    (fun τ => [(2, .pointer (some ⟨ca, 0, none⟩)), (3, .pointer (some ⟨cb, 0, none⟩)), (4, .pointer (some ⟨cr, 0, none⟩)), (6, .int .u64 τ.2), (8, .int .i64 τ.1)])
    (fun τ => Hp w [⟨cr, cellsN .u32 8 fun _ => 0, 24⟩, ⟨cb, cellsN .u32 8 (dg W32 b), 24⟩, ⟨ca, cellsN .u32 8 (fillN (dg W32 a) (dg W32 (a + b)) τ.1), 24⟩])
    (fun τ => 8 - τ.1) (0, 0) ⟨by simp, by simp, by simp [hi_zero]⟩ (by (repeat (first | exact Sub.nil | apply Sub.cons rfl))) (fun _ h => by simpa only [fillN_zero] using h) ?_
  rintro ⟨i, c⟩ ⟨hi8, hc1, hic⟩
  simp only at hi8 hc1 hic ⊢
  have hA := dlt a i
  have hB := dlt b i
  have hf : fillN (dg W32 a) (dg W32 (a + b)) i i = dg W32 a i := fillN_at (Nat.le_refl _)
  by_cases hlt : i < 8
  · have hF := hA
    rw [← hf] at hF
    obtain ⟨e1, e2⟩ := add_step hic
    repeat' (first | (apply Wl.indexA; exact rfl; exact rfl; exact rfl; (omega)) | (apply Wl.loadN; exact rfl; exact rfl; (repeat (first | exact List.Mem.head _ | apply List.Mem.tail)); (omega)) | (apply Wl.storeN; exact rfl; exact rfl; (repeat (first | apply HSet.here | apply HSet.there)); (omega)) | (apply Wl.addNU; exact rfl; exact rfl; exact rfl; (first | assumption | omega)) | (apply Wl.shr32; exact rfl; exact rfl; exact rfl) | (apply Wl.convN32 (k := .u64); exact rfl; exact rfl) | (apply Wl.move; exact rfl; exact rfl) | (apply Wl.assign; exact rfl; exact rfl) | (apply Wl.lss; exact rfl; exact rfl; exact rfl) | (apply Wl.addI; exact rfl; exact rfl; exact rfl; (constructor <;> omega)) | (apply Wl.convU64; exact rfl; exact rfl; (constructor <;> omega)) | (apply Wl.nil) | (apply Wl.nilQ) | (apply St.seq) | (apply St.block) | (apply St.region) | (apply St.draw; exact mixed; (kernel_rfl); exact (fun _ h => Hp.drew h)) | (apply St.skip) | (apply Gt.next) | (apply Gt.inNormal) | (apply Wl.splitP; exact rfl; exact rfl; all_goals (intros; try (exfalso; omega))) | (apply Wl.splitB; exact rfl; exact rfl; all_goals intros) | (apply St.condP; exact rfl; all_goals (intros; try (exfalso; omega))) | (apply St.condB; exact rfl; all_goals intros))
    rw [hf, e1]
    apply Gt.round (i + 1, (c + (dg W32 a i + dg W32 b i)) / 4294967296)
    rotate_left
    · simp only; omega
    · (repeat (first | exact Sub.nil | apply Sub.cons rfl))
    · exact fun _ h => by rw [fillN_step] at h; exact h
    · exact ⟨by simp only; omega, by simp only; omega, e2⟩
  · have : i = 8 := by omega
    subst this
    have hc : c = (a + b) / W256 := by rw [hi8_lt ha, hi8_lt hb, hi8_eq] at hic; omega
    repeat' (first | (apply Wl.loadW; exact rfl; exact rfl; (repeat (first | exact List.Mem.head _ | apply List.Mem.tail)); exact rfl) | (apply Wl.storeW; exact rfl; exact rfl; (repeat (first | apply HSet.here | apply HSet.there)); exact rfl; (first | exact cellsN_len _ _ _ | exact rfl)) | (apply Wl.convN32 (k := .u64); exact rfl; exact rfl) | (apply Wl.move; exact rfl; exact rfl) | (apply Wl.assign; exact rfl; exact rfl) | (apply Wl.lss; exact rfl; exact rfl; exact rfl) | (apply Wl.nil) | (apply St.seq) | (apply St.region) | (apply St.condF; exact rfl; (first | with_reducible rfl | with_reducible assumption | decide)) | (apply St.ret) | (apply St.exit) | (apply Gt.next) | (apply Gt.thenExit) | (apply Gt.inExit) | (apply Wl.splitP; exact rfl; exact rfl; all_goals (intros; try (exfalso; omega))) | (apply Wl.splitB; exact rfl; exact rfl; all_goals intros) | (apply St.condP; exact rfl; all_goals (intros; try (exfalso; omega))) | (apply St.condB; exact rfl; all_goals intros))
    apply Gt.outCT
    · exact rfl
    · infer_instance
    · exact rfl
    · exact rfl
    · (repeat (first | exact List.Mem.head _ | apply List.Mem.tail))
    · exact LSub.whole (cellsN_len _ _ _)
    intro w' hp
    refine ⟨?_, hp.drop (by simp; omega)⟩
    rw [fillN_end, ← d8_mod, Nat.mod_eq_of_lt (show c < 4294967296 by omega), hc]
theorem two56 : W32 ^ 8 = W256 := W256_eq.symm
set_option maxHeartbeats 1000000 in
theorem limbSub (a b : Nat) (ha : a < W256) (hb : b < W256) (w : World) :
    Calls Try.prog 25 #[numV a, numV b] w fun e w' => e = .returned (.tuple #[numV ((a + W256 - b) % W256), .int .u32 (if a < b then 1 else 0 : Nat)]) ∧ Hp w [] w' := by
  refine enter (args := [_, _]) (Γ := [(0, _), (1, _)]) Try.func25 Try.ntmps25 rfl (of_decide_eq_true rfl) (.cons rfl (.cons rfl .nil)) ?_
  repeat' (first | (apply Wl.boxN; exact rfl; exact rfl; intro c hc ho) | (apply Wl.allocN; exact rfl; (first | exact z8 | exact z16 | exact z17 | exact z33 | exact z10); intro c hc ho) | (apply Wl.move; exact rfl; exact rfl) | (apply Wl.assign; exact rfl; exact rfl) | (apply Wl.nil) | (apply St.seq) | (apply St.block) | (apply St.region) | (apply Gt.next) | (apply Wl.splitP; exact rfl; exact rfl; all_goals (intros; try (exfalso; omega))) | (apply Wl.splitB; exact rfl; exact rfl; all_goals intros) | (apply St.condP; exact rfl; all_goals (intros; try (exfalso; omega))) | (apply St.condB; exact rfl; all_goals intros))
  rename_i ca hca hoa cb hcb hob
  generalize c = cr at *
  refine St.loop (σ := Nat × Nat) (fun τ => τ.1 ≤ 8 ∧ τ.2 ≤ 1 ∧ hi W32 (a + W256 - b) τ.1 + hi W32 b τ.1 + τ.2 = hi W32 a τ.1 + W32 ^ (8 - τ.1))
    (fun τ => [(2, .pointer (some ⟨ca, 0, none⟩)), (3, .pointer (some ⟨cb, 0, none⟩)), (4, .pointer (some ⟨cr, 0, none⟩)), (6, .int .u64 τ.2), (8, .int .i64 τ.1)])
    (fun τ => Hp w [⟨cr, cellsN .u32 8 fun _ => 0, 24⟩, ⟨cb, cellsN .u32 8 (dg W32 b), 24⟩, ⟨ca, cellsN .u32 8 (fillN (dg W32 a) (dg W32 (a + W256 - b)) τ.1), 24⟩])
    (fun τ => 8 - τ.1) (0, 0) ⟨by simp, by simp, by simp only [hi_zero, Nat.sub_zero, two56]; omega⟩ (by (repeat (first | exact Sub.nil | apply Sub.cons rfl))) (fun _ h => by simpa only [fillN_zero] using h) ?_
  rintro ⟨i, c⟩ ⟨hi8, hc1, hic⟩
  simp only at hi8 hc1 hic ⊢
  have hA := dlt a i
  have hB := dlt b i
  have hf : fillN (dg W32 a) (dg W32 (a + W256 - b)) i i = dg W32 a i := fillN_at (Nat.le_refl _)
  by_cases hlt : i < 8
  · have hF := hA
    rw [← hf] at hF
    obtain ⟨e1, e2, e3⟩ := sub_step hlt hic hc1
    repeat' (first | (apply Wl.indexA; exact rfl; exact rfl; exact rfl; (omega)) | (apply Wl.loadN; exact rfl; exact rfl; (repeat (first | exact List.Mem.head _ | apply List.Mem.tail)); (omega)) | (apply Wl.storeN; exact rfl; exact rfl; (repeat (first | apply HSet.here | apply HSet.there)); (omega)) | (apply Wl.shr63; exact rfl; exact rfl; exact rfl) | (apply Wl.convN32 (k := .u64); exact rfl; exact rfl) | (apply Wl.subNU; exact rfl; exact rfl; exact rfl; (omega)) | (apply Wl.move; exact rfl; exact rfl) | (apply Wl.assign; exact rfl; exact rfl) | (apply Wl.lss; exact rfl; exact rfl; exact rfl) | (apply Wl.addI; exact rfl; exact rfl; exact rfl; (constructor <;> omega)) | (apply Wl.convU64; exact rfl; exact rfl; (constructor <;> omega)) | (apply Wl.nil) | (apply Wl.nilQ) | (apply St.seq) | (apply St.block) | (apply St.region) | (apply St.draw; exact mixed; (kernel_rfl); exact (fun _ h => Hp.drew h)) | (apply St.skip) | (apply Gt.next) | (apply Gt.inNormal) | (apply Wl.splitP; exact rfl; exact rfl; all_goals (intros; try (exfalso; omega))) | (apply Wl.splitB; exact rfl; exact rfl; all_goals intros) | (apply St.condP; exact rfl; all_goals (intros; try (exfalso; omega))) | (apply St.condB; exact rfl; all_goals intros))
    rw [hf, e1]
    apply Gt.round (i + 1, ((dg W32 a i + 18446744073709551616 - dg W32 b i) % 18446744073709551616 + 18446744073709551616 - c) % 18446744073709551616 / 9223372036854775808)
    rotate_left
    · simp only; omega
    · (repeat (first | exact Sub.nil | apply Sub.cons rfl))
    · exact fun _ h => by rw [fillN_step] at h; exact h
    · exact ⟨by simp only; omega, e3, e2⟩
  · have : i = 8 := by omega
    subst this
    have hc : c = if a < b then 1 else 0 := by
      rw [hi8_lt ha, hi8_lt hb, hi8_eq, Nat.sub_self, Nat.pow_zero] at hic
      unfold W256 at *
      split <;> omega
    repeat' (first | (apply Wl.loadW; exact rfl; exact rfl; (repeat (first | exact List.Mem.head _ | apply List.Mem.tail)); exact rfl) | (apply Wl.storeW; exact rfl; exact rfl; (repeat (first | apply HSet.here | apply HSet.there)); exact rfl; (first | exact cellsN_len _ _ _ | exact rfl)) | (apply Wl.convN32 (k := .u64); exact rfl; exact rfl) | (apply Wl.move; exact rfl; exact rfl) | (apply Wl.assign; exact rfl; exact rfl) | (apply Wl.lss; exact rfl; exact rfl; exact rfl) | (apply Wl.nil) | (apply St.seq) | (apply St.region) | (apply St.condF; exact rfl; (first | with_reducible rfl | with_reducible assumption | decide)) | (apply St.ret) | (apply St.exit) | (apply Gt.next) | (apply Gt.thenExit) | (apply Gt.inExit) | (apply Wl.splitP; exact rfl; exact rfl; all_goals (intros; try (exfalso; omega))) | (apply Wl.splitB; exact rfl; exact rfl; all_goals intros) | (apply St.condP; exact rfl; all_goals (intros; try (exfalso; omega))) | (apply St.condB; exact rfl; all_goals intros))
    apply Gt.outCT
    · exact rfl
    · infer_instance
    · exact rfl
    · exact rfl
    · (repeat (first | exact List.Mem.head _ | apply List.Mem.tail))
    · exact LSub.whole (cellsN_len _ _ _)
    intro w' hp
    refine ⟨?_, hp.drop (by simp; omega)⟩
    rw [fillN_end, ← d8_mod, Nat.mod_eq_of_lt (show c < 4294967296 by omega), hc]
def cmpN (a b : Nat) : Int := if a < b then -1 else if b < a then 1 else 0
set_option maxHeartbeats 1000000 in
theorem limbCompare (a b : Nat) (ha : a < W256) (hb : b < W256) (w : World) :
    Calls Try.prog 23 #[numV a, numV b] w fun e w' => e = .returned (.int .i64 (cmpN a b)) ∧ Hp w [] w' := by
  refine enter (args := [_, _]) (Γ := [(0, _), (1, _)]) Try.func23 Try.ntmps23 rfl (of_decide_eq_true rfl) (.cons rfl (.cons rfl .nil)) ?_
  repeat' (first | (apply Wl.boxN; exact rfl; exact rfl; intro c hc ho) | (apply Wl.assign; exact rfl; exact rfl) | (apply Wl.nil) | (apply St.seq) | (apply St.block) | (apply St.region) | (apply Gt.next) | (apply Wl.splitP; exact rfl; exact rfl; all_goals (intros; try (exfalso; omega))) | (apply Wl.splitB; exact rfl; exact rfl; all_goals intros) | (apply St.condP; exact rfl; all_goals (intros; try (exfalso; omega))) | (apply St.condB; exact rfl; all_goals intros))
  rename_i ca hca hoa
  generalize c = cb at *
  refine St.loop (σ := Nat) (fun τ => τ ≤ 8 ∧ hi W32 a τ = hi W32 b τ)
    (fun τ => [(2, .pointer (some ⟨ca, 0, none⟩)), (3, .pointer (some ⟨cb, 0, none⟩)), (5, .int .i64 ((τ : Int) - 1))])
    (fun τ => Hp w [⟨cb, cellsN .u32 8 (dg W32 b), 24⟩, ⟨ca, cellsN .u32 8 (dg W32 a), 24⟩])
    (fun τ => τ) 8 ⟨by simp, by rw [hi8_lt ha, hi8_lt hb]⟩ (by (repeat (first | exact Sub.nil | apply Sub.cons rfl))) (fun _ h => h) ?_
  rintro i ⟨hi8, hic⟩
  cases i with
  | zero =>
    rw [hi_zero, hi_zero] at hic
    repeat' (first | (apply Wl.move; exact rfl; exact rfl) | (apply Wl.assign; exact rfl; exact rfl) | (apply Wl.geq; exact rfl; exact rfl; exact rfl) | (apply Wl.nil) | (apply St.seq) | (apply St.region) | (apply St.condF; exact rfl; (first | with_reducible rfl | with_reducible assumption | decide)) | (apply St.ret) | (apply St.exit) | (apply Gt.next) | (apply Gt.thenExit) | (apply Gt.inExit) | (apply Gt.out1; exact rfl; exact rfl; intro w' hp) | (apply Wl.splitP; exact rfl; exact rfl; all_goals (intros; try (exfalso; omega))) | (apply Wl.splitB; exact rfl; exact rfl; all_goals intros) | (apply St.condP; exact rfl; all_goals (intros; try (exfalso; omega))) | (apply St.condB; exact rfl; all_goals intros))
    refine ⟨?_, hp.drop (by simp; omega)⟩
    unfold cmpN
    rw [if_neg (by omega), if_neg (by omega)]
  | succ i =>
    have e : (((i + 1 : Nat) : Int) - 1) = (i : Int) := by omega
    rw [e]
    have ea := hi_eq W32 a i
    have eb := hi_eq W32 b i
    rw [hic] at ea
    repeat' (first | (apply Wl.indexA; exact rfl; exact rfl; exact rfl; (omega)) | (apply Wl.loadN; exact rfl; exact rfl; (repeat (first | exact List.Mem.head _ | apply List.Mem.tail)); (omega)) | (apply Wl.move; exact rfl; exact rfl) | (apply Wl.assign; exact rfl; exact rfl) | (apply Wl.lss; exact rfl; exact rfl; exact rfl) | (apply Wl.gtr; exact rfl; exact rfl; exact rfl) | (apply Wl.geq; exact rfl; exact rfl; exact rfl) | (apply Wl.subI; exact rfl; exact rfl; exact rfl; (constructor <;> omega)) | (apply Wl.nil) | (apply Wl.nilQ) | (apply St.seq) | (apply St.block) | (apply St.region) | (apply St.draw; exact mixed; (kernel_rfl); exact (fun _ h => Hp.drew h)) | (apply St.ret) | (apply St.skip) | (apply Gt.next) | (apply Gt.thenRet) | (apply Gt.inNormal) | (apply Gt.inRet) | (apply Gt.out1; exact rfl; exact rfl; intro w' hp) | (apply Wl.splitP; exact rfl; exact rfl; all_goals (intros; try (exfalso; omega))) | (apply Wl.splitB; exact rfl; exact rfl; all_goals intros) | (apply St.condP; exact rfl; all_goals (intros; try (exfalso; omega))) | (apply St.condB; exact rfl; all_goals intros))
    · refine ⟨?_, hp.drop (by simp; omega)⟩
      unfold cmpN
      rw [if_pos (lt_of_hi (B := W32) (i := i) (by omega))]
    · refine ⟨?_, hp.drop (by simp; omega)⟩
      unfold cmpN
      have : b < a := lt_of_hi (B := W32) (i := i) (by omega)
      rw [if_neg (by omega), if_pos this]
    · apply Gt.round i
      rotate_left
      · simp
      · (repeat (first | exact Sub.nil | apply Sub.cons rfl))
      · exact fun _ h => h
      · exact ⟨by omega, by omega⟩
set_option maxHeartbeats 1000000 in
theorem limbBit (a i : Nat) (hi' : i < 256) (w : World) :
    Calls Try.prog 42 #[numV a, .int .i64 i] w fun e w' => e = .returned (.int .u32 (a / 2 ^ i % 2 : Nat)) ∧ Hp w [] w' := by
  refine enter (args := [_, _]) (Γ := [(0, _), (1, _)]) Try.func42 Try.ntmps42 rfl (of_decide_eq_true rfl) (.cons rfl (.cons rfl .nil)) ?_
  have hi32 : i / 32 < 8 := by omega
  repeat' (first | (apply Wl.indexA; exact rfl; exact rfl; exact rfl; (omega)) | (apply Wl.loadN; exact rfl; exact rfl; (repeat (first | exact List.Mem.head _ | apply List.Mem.tail)); (omega)) | (apply Wl.boxN; exact rfl; exact rfl; intro c hc ho) | (apply Wl.and1; exact rfl; exact rfl; exact rfl; exact rfl; (first | exact wrap2_u32 | exact wrap2_u64 | exact wrap2_i64)) | (apply Wl.quoN (n := 32); exact rfl; exact rfl; exact rfl; (decide); (first | exact IntWalk.u64_in _ (by omega) | exact IntWalk.i64_in _ (by omega))) | (apply Wl.remN (n := 32); exact rfl; exact rfl; exact rfl; (decide)) | (apply Wl.shrV; exact rfl; exact rfl; exact rfl; (first | (show _ ≤ 32; omega) | (show _ ≤ 64; omega))) | (apply Wl.move; exact rfl; exact rfl) | (apply Wl.assign; exact rfl; exact rfl) | (apply Wl.on; exact rfl; exact rfl; (first | with_reducible rfl | with_reducible assumption | decide)) | (apply Wl.pickF; exact rfl; exact rfl; (first | with_reducible rfl | with_reducible assumption | decide); exact rfl) | (apply Wl.lss; exact rfl; exact rfl; exact rfl) | (apply Wl.gtr; exact rfl; exact rfl; exact rfl) | (apply Wl.nil) | (apply St.seq) | (apply St.region) | (apply St.ret) | (apply St.skip) | (apply Gt.next) | (apply Gt.out1; exact rfl; exact rfl; intro w' hp) | (apply Wl.splitP; exact rfl; exact rfl; all_goals (intros; try (exfalso; omega))) | (apply Wl.splitB; exact rfl; exact rfl; all_goals intros) | (apply St.condP; exact rfl; all_goals (intros; try (exfalso; omega))) | (apply St.condB; exact rfl; all_goals intros))
  refine ⟨?_, hp.drop (by simp; omega)⟩
  rw [bit_dg]
theorem cell32 (f : Nat → Nat) (hf : ∀ j, f j < 4294967296) : ∀ j, j < 8 → IntKind.u32.min ≤ (f j : Int) ∧ (f j : Int) ≤ IntKind.u32.max := fun j _ => by
  have := hf j
  simp only [IntKind.min, IntKind.max, IntKind.signed, IntKind.bits]
  constructor <;> simp <;> omega
theorem d8_inj {a b : Nat} (ha : a < W256) (hb : b < W256) : decide (a = b) = true ↔ ∀ j, j < 8 → dg W32 a j = dg W32 b j := by
  rw [decide_eq_true_eq]
  exact ⟨fun e _ _ => by rw [e], dg_ext (k := 8) (by rw [← W256_eq]; exact ha) (by rw [← W256_eq]; exact hb)⟩
end Go.Proofs.Ytfaobdakpbpkbaa
