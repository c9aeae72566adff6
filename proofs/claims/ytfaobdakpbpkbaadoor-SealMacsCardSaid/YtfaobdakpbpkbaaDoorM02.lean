/-
  19 texts, one behind the other; each says what it proves. Conditions: as each text says.
-/
import Derived.Test.YtfaobdakpbpkbaaDoorM01
section
/-
  limbs: numbers of eight words: Add, Sub, Compare, Bit, Zero. Conditions: the numbers are below 2^256.
-/
namespace Go.Proofs.YtfaobdakpbpkbaaDoor
open Go.RowKit Go.Pt

abbrev numV (n : Nat) : Value := .agg (cellsN .u32 8 (dg W32 n)).toArray
theorem dlt (n i : Nat) : dg W32 n i < 4294967296 := dg_lt (by decide) n i
theorem d8_mod (n : Nat) : cellsN .u32 8 (dg W32 (n % W256)) = cellsN .u32 8 (dg W32 n) := cellsN_congr fun j hj => by rw [W256_eq]; exact dg_mod hj
theorem hi8_eq (n : Nat) : hi W32 n 8 = n / W256 := by unfold hi; rw [W256_eq]
theorem hi8_lt {n : Nat} (h : n < W256) : hi W32 n 8 = 0 := hi_top (by rw [← W256_eq]; exact h)
set_option maxHeartbeats 1000000 in
theorem limbAdd (a b : Nat) (ha : a < W256) (hb : b < W256) (w : World) :
    Calls Tryd.prog 88 #[numV a, numV b] w fun e w' => e = .returned (.tuple #[numV ((a + b) % W256), .int .u32 ((a + b) / W256 : Nat)]) ∧ Hp w [] w' := by
  refine enter (args := [_, _]) (Γ := [(0, _), (1, _)]) Tryd.func88 Tryd.ntmps88 rfl (of_decide_eq_true rfl) (.cons rfl (.cons rfl .nil)) ?_
  repeat' (first | (apply Wl.boxN; exact rfl; exact rfl; intro c hc ho) | (apply Wl.allocN; exact rfl; (first | exact z8 | exact z16 | exact z17 | exact z33 | exact z10); intro c hc ho) | (apply Wl.move; exact rfl; exact rfl) | (apply Wl.assign; exact rfl; exact rfl) | (apply Wl.nil) | (apply St.seq) | (apply St.block) | (apply St.region) | (apply Gt.next) | (apply Wl.splitP; exact rfl; exact rfl; all_goals (intros; try (exfalso; omega))) | (apply Wl.splitB; exact rfl; exact rfl; all_goals intros) | (apply St.condP; exact rfl; all_goals (intros; try (exfalso; omega))) | (apply St.condB; exact rfl; all_goals intros))
  rename_i ca hca hoa cb hcb hob
  generalize c = cr at *
  refine St.loop (σ := Nat × Nat) (fun τ => τ.1 ≤ 8 ∧ τ.2 ≤ 1 ∧ hi W32 (a + b) τ.1 = hi W32 a τ.1 + hi W32 b τ.1 + τ.2)
    (fun τ => [(2, .pointer (some ⟨ca, 0, none⟩)), (3, .pointer (some ⟨cb, 0, none⟩)), (4, .pointer (some ⟨cr, 0, none⟩)), (6, .int .u64 τ.2), (8, .int .i64 τ.1)])
    (fun τ => Hp w [⟨cr, cellsN .u32 8 fun _ => 0, 30⟩, ⟨cb, cellsN .u32 8 (dg W32 b), 30⟩, ⟨ca, cellsN .u32 8 (fillN (dg W32 a) (dg W32 (a + b)) τ.1), 30⟩])
    (fun τ => 8 - τ.1) (0, 0) ⟨by simp, by simp, by simp [hi_zero]⟩ (by (repeat (first | exact Sub.nil | apply Sub.cons rfl))) (fun _ h => by simpa only [fillN_zero] using h) ?_
  rintro ⟨i, c⟩ ⟨hi8, hc1, hic⟩
  simp only at hi8 hc1 hic ⊢
  have hA := dlt a i
  have hB := dlt b i
  have hf : fillN (dg W32 a) (dg W32 (a + b)) i i = dg W32 a i := fillN_at (Nat.le_refl _)
  by_cases hlt : i < 8
  · have hF := hA
    rw [← hf] at hF
    obtain ⟨e1, e2⟩ := add_step hic
    repeat' (first | (apply Wl.indexA; exact rfl; exact rfl; exact rfl; (omega)) | (apply Wl.loadN; exact rfl; exact rfl; (repeat (first | exact List.Mem.head _ | apply List.Mem.tail)); (omega)) | (apply Wl.storeN; exact rfl; exact rfl; (repeat (first | apply HSet.here | apply HSet.there)); (omega)) | (apply Wl.addNU; exact rfl; exact rfl; exact rfl; (first | assumption | omega)) | (apply Wl.shr32; exact rfl; exact rfl; exact rfl) | (apply Wl.convN32 (k := .u64); exact rfl; exact rfl) | (apply Wl.move; exact rfl; exact rfl) | (apply Wl.assign; exact rfl; exact rfl) | (apply Wl.lss; exact rfl; exact rfl; exact rfl) | (apply Wl.addI; exact rfl; exact rfl; exact rfl; (constructor <;> omega)) | (apply Wl.convU64; exact rfl; exact rfl; (constructor <;> omega)) | (apply Wl.nil) | (apply Wl.nilQ) | (apply St.seq) | (apply St.block) | (apply St.region) | (apply St.draw; exact mixed; (kernel_rfl); exact (fun _ h => Hp.drew h)) | (apply St.skip) | (apply Gt.next) | (apply Gt.inNormal) | (apply Wl.splitP; exact rfl; exact rfl; all_goals (intros; try (exfalso; omega))) | (apply Wl.splitB; exact rfl; exact rfl; all_goals intros) | (apply St.condP; exact rfl; all_goals (intros; try (exfalso; omega))) | (apply St.condB; exact rfl; all_goals intros))
    rw [hf, e1]
    apply Gt.round (i + 1, (c + (dg W32 a i + dg W32 b i)) / 4294967296)
    rotate_left
    · simp only; omega
    · (repeat (first | exact Sub.nil | apply Sub.cons rfl))
    · exact fun _ h => by rw [fillN_step] at h; exact h
    · exact ⟨by simp only; omega, by simp only; omega, e2⟩
  · have : i = 8 := by omega
    subst this
    have hc : c = (a + b) / W256 := by rw [hi8_lt ha, hi8_lt hb, hi8_eq] at hic; omega
    repeat' (first | (apply Wl.loadW; exact rfl; exact rfl; (repeat (first | exact List.Mem.head _ | apply List.Mem.tail)); exact rfl) | (apply Wl.storeW; exact rfl; exact rfl; (repeat (first | apply HSet.here | apply HSet.there)); exact rfl; (first | exact cellsN_len _ _ _ | exact rfl)) | (apply Wl.convN32 (k := .u64); exact rfl; exact rfl) | (apply Wl.move; exact rfl; exact rfl) | (apply Wl.assign; exact rfl; exact rfl) | (apply Wl.lss; exact rfl; exact rfl; exact rfl) | (apply Wl.nil) | (apply St.seq) | (apply St.region) | (apply St.condF; exact rfl; (first | with_reducible rfl | with_reducible assumption | decide)) | (apply St.ret) | (apply St.exit) | (apply Gt.next) | (apply Gt.thenExit) | (apply Gt.inExit) | (apply Wl.splitP; exact rfl; exact rfl; all_goals (intros; try (exfalso; omega))) | (apply Wl.splitB; exact rfl; exact rfl; all_goals intros) | (apply St.condP; exact rfl; all_goals (intros; try (exfalso; omega))) | (apply St.condB; exact rfl; all_goals intros))
    apply Gt.outCT
    · exact rfl
    · infer_instance
    · exact rfl
    · exact rfl
    · (repeat (first | exact List.Mem.head _ | apply List.Mem.tail))
    · exact LSub.whole (cellsN_len _ _ _)
    intro w' hp
    refine ⟨?_, hp.drop (by simp; omega)⟩
    rw [fillN_end, ← d8_mod, Nat.mod_eq_of_lt (show c < 4294967296 by omega), hc]
theorem two56 : W32 ^ 8 = W256 := W256_eq.symm
set_option maxHeartbeats 1000000 in
theorem limbSub (a b : Nat) (ha : a < W256) (hb : b < W256) (w : World) :
    Calls Tryd.prog 58 #[numV a, numV b] w fun e w' => e = .returned (.tuple #[numV ((a + W256 - b) % W256), .int .u32 (if a < b then 1 else 0 : Nat)]) ∧ Hp w [] w' := by
  refine enter (args := [_, _]) (Γ := [(0, _), (1, _)]) Tryd.func58 Tryd.ntmps58 rfl (of_decide_eq_true rfl) (.cons rfl (.cons rfl .nil)) ?_
  repeat' (first | (apply Wl.boxN; exact rfl; exact rfl; intro c hc ho) | (apply Wl.allocN; exact rfl; (first | exact z8 | exact z16 | exact z17 | exact z33 | exact z10); intro c hc ho) | (apply Wl.move; exact rfl; exact rfl) | (apply Wl.assign; exact rfl; exact rfl) | (apply Wl.nil) | (apply St.seq) | (apply St.block) | (apply St.region) | (apply Gt.next) | (apply Wl.splitP; exact rfl; exact rfl; all_goals (intros; try (exfalso; omega))) | (apply Wl.splitB; exact rfl; exact rfl; all_goals intros) | (apply St.condP; exact rfl; all_goals (intros; try (exfalso; omega))) | (apply St.condB; exact rfl; all_goals intros))
  rename_i ca hca hoa cb hcb hob
  generalize c = cr at *
  refine St.loop (σ := Nat × Nat) (fun τ => τ.1 ≤ 8 ∧ τ.2 ≤ 1 ∧ hi W32 (a + W256 - b) τ.1 + hi W32 b τ.1 + τ.2 = hi W32 a τ.1 + W32 ^ (8 - τ.1))
    (fun τ => [(2, .pointer (some ⟨ca, 0, none⟩)), (3, .pointer (some ⟨cb, 0, none⟩)), (4, .pointer (some ⟨cr, 0, none⟩)), (6, .int .u64 τ.2), (8, .int .i64 τ.1)])
    (fun τ => Hp w [⟨cr, cellsN .u32 8 fun _ => 0, 30⟩, ⟨cb, cellsN .u32 8 (dg W32 b), 30⟩, ⟨ca, cellsN .u32 8 (fillN (dg W32 a) (dg W32 (a + W256 - b)) τ.1), 30⟩])
    (fun τ => 8 - τ.1) (0, 0) ⟨by simp, by simp, by simp only [hi_zero, Nat.sub_zero, two56]; omega⟩ (by (repeat (first | exact Sub.nil | apply Sub.cons rfl))) (fun _ h => by simpa only [fillN_zero] using h) ?_
  rintro ⟨i, c⟩ ⟨hi8, hc1, hic⟩
  simp only at hi8 hc1 hic ⊢
  have hA := dlt a i
  have hB := dlt b i
  have hf : fillN (dg W32 a) (dg W32 (a + W256 - b)) i i = dg W32 a i := fillN_at (Nat.le_refl _)
  by_cases hlt : i < 8
  · have hF := hA
    rw [← hf] at hF
    obtain ⟨e1, e2, e3⟩ := sub_step hlt hic hc1
    repeat' (first | (apply Wl.indexA; exact rfl; exact rfl; exact rfl; (omega)) | (apply Wl.loadN; exact rfl; exact rfl; (repeat (first | exact List.Mem.head _ | apply List.Mem.tail)); (omega)) | (apply Wl.storeN; exact rfl; exact rfl; (repeat (first | apply HSet.here | apply HSet.there)); (omega)) | (apply Wl.shr63; exact rfl; exact rfl; exact rfl) | (apply Wl.convN32 (k := .u64); exact rfl; exact rfl) | (apply Wl.subNU; exact rfl; exact rfl; exact rfl; (omega)) | (apply Wl.move; exact rfl; exact rfl) | (apply Wl.assign; exact rfl; exact rfl) | (apply Wl.lss; exact rfl; exact rfl; exact rfl) | (apply Wl.addI; exact rfl; exact rfl; exact rfl; (constructor <;> omega)) | (apply Wl.convU64; exact rfl; exact rfl; (constructor <;> omega)) | (apply Wl.nil) | (apply Wl.nilQ) | (apply St.seq) | (apply St.block) | (apply St.region) | (apply St.draw; exact mixed; (kernel_rfl); exact (fun _ h => Hp.drew h)) | (apply St.skip) | (apply Gt.next) | (apply Gt.inNormal) | (apply Wl.splitP; exact rfl; exact rfl; all_goals (intros; try (exfalso; omega))) | (apply Wl.splitB; exact rfl; exact rfl; all_goals intros) | (apply St.condP; exact rfl; all_goals (intros; try (exfalso; omega))) | (apply St.condB; exact rfl; all_goals intros))
    rw [hf, e1]
    apply Gt.round (i + 1, ((dg W32 a i + 18446744073709551616 - dg W32 b i) % 18446744073709551616 + 18446744073709551616 - c) % 18446744073709551616 / 9223372036854775808)
    rotate_left
    · simp only; omega
    · (repeat (first | exact Sub.nil | apply Sub.cons rfl))
    · exact fun _ h => by rw [fillN_step] at h; exact h
    · exact ⟨by simp only; omega, e3, e2⟩
  · have : i = 8 := by omega
    subst this
    have hc : c = if a < b then 1 else 0 := by
      rw [hi8_lt ha, hi8_lt hb, hi8_eq, Nat.sub_self, Nat.pow_zero] at hic
      unfold W256 at *
      split <;> omega
    repeat' (first | (apply Wl.loadW; exact rfl; exact rfl; (repeat (first | exact List.Mem.head _ | apply List.Mem.tail)); exact rfl) | (apply Wl.storeW; exact rfl; exact rfl; (repeat (first | apply HSet.here | apply HSet.there)); exact rfl; (first | exact cellsN_len _ _ _ | exact rfl)) | (apply Wl.convN32 (k := .u64); exact rfl; exact rfl) | (apply Wl.move; exact rfl; exact rfl) | (apply Wl.assign; exact rfl; exact rfl) | (apply Wl.lss; exact rfl; exact rfl; exact rfl) | (apply Wl.nil) | (apply St.seq) | (apply St.region) | (apply St.condF; exact rfl; (first | with_reducible rfl | with_reducible assumption | decide)) | (apply St.ret) | (apply St.exit) | (apply Gt.next) | (apply Gt.thenExit) | (apply Gt.inExit) | (apply Wl.splitP; exact rfl; exact rfl; all_goals (intros; try (exfalso; omega))) | (apply Wl.splitB; exact rfl; exact rfl; all_goals intros) | (apply St.condP; exact rfl; all_goals (intros; try (exfalso; omega))) | (apply St.condB; exact rfl; all_goals intros))
    apply Gt.outCT
    · exact rfl
    · infer_instance
    · exact rfl
    · exact rfl
    · (repeat (first | exact List.Mem.head _ | apply List.Mem.tail))
    · exact LSub.whole (cellsN_len _ _ _)
    intro w' hp
    refine ⟨?_, hp.drop (by simp; omega)⟩
    rw [fillN_end, ← d8_mod, Nat.mod_eq_of_lt (show c < 4294967296 by omega), hc]
def cmpN (a b : Nat) : Int := if a < b then -1 else if b < a then 1 else 0
set_option maxHeartbeats 1000000 in
theorem limbCompare (a b : Nat) (ha : a < W256) (hb : b < W256) (w : World) :
    Calls Tryd.prog 56 #[numV a, numV b] w fun e w' => e = .returned (.int .i64 (cmpN a b)) ∧ Hp w [] w' := by
  refine enter (args := [_, _]) (Γ := [(0, _), (1, _)]) Tryd.func56 Tryd.ntmps56 rfl (of_decide_eq_true rfl) (.cons rfl (.cons rfl .nil)) ?_
  repeat' (first | (apply Wl.boxN; exact rfl; exact rfl; intro c hc ho) | (apply Wl.assign; exact rfl; exact rfl) | (apply Wl.nil) | (apply St.seq) | (apply St.block) | (apply St.region) | (apply Gt.next) | (apply Wl.splitP; exact rfl; exact rfl; all_goals (intros; try (exfalso; omega))) | (apply Wl.splitB; exact rfl; exact rfl; all_goals intros) | (apply St.condP; exact rfl; all_goals (intros; try (exfalso; omega))) | (apply St.condB; exact rfl; all_goals intros))
  rename_i ca hca hoa
  generalize c = cb at *
  refine St.loop (σ := Nat) (fun τ => τ ≤ 8 ∧ hi W32 a τ = hi W32 b τ)
    (fun τ => [(2, .pointer (some ⟨ca, 0, none⟩)), (3, .pointer (some ⟨cb, 0, none⟩)), (5, .int .i64 ((τ : Int) - 1))])
    (fun τ => Hp w [⟨cb, cellsN .u32 8 (dg W32 b), 30⟩, ⟨ca, cellsN .u32 8 (dg W32 a), 30⟩])
    (fun τ => τ) 8 ⟨by simp, by rw [hi8_lt ha, hi8_lt hb]⟩ (by (repeat (first | exact Sub.nil | apply Sub.cons rfl))) (fun _ h => h) ?_
  rintro i ⟨hi8, hic⟩
  cases i with
  | zero =>
    rw [hi_zero, hi_zero] at hic
    repeat' (first | (apply Wl.move; exact rfl; exact rfl) | (apply Wl.assign; exact rfl; exact rfl) | (apply Wl.geq; exact rfl; exact rfl; exact rfl) | (apply Wl.nil) | (apply St.seq) | (apply St.region) | (apply St.condF; exact rfl; (first | with_reducible rfl | with_reducible assumption | decide)) | (apply St.ret) | (apply St.exit) | (apply Gt.next) | (apply Gt.thenExit) | (apply Gt.inExit) | (apply Gt.out1; exact rfl; exact rfl; intro w' hp) | (apply Wl.splitP; exact rfl; exact rfl; all_goals (intros; try (exfalso; omega))) | (apply Wl.splitB; exact rfl; exact rfl; all_goals intros) | (apply St.condP; exact rfl; all_goals (intros; try (exfalso; omega))) | (apply St.condB; exact rfl; all_goals intros))
    refine ⟨?_, hp.drop (by simp; omega)⟩
    unfold cmpN
    rw [if_neg (by omega), if_neg (by omega)]
  | succ i =>
    have e : (((i + 1 : Nat) : Int) - 1) = (i : Int) := by omega
    rw [e]
    have ea := hi_eq W32 a i
    have eb := hi_eq W32 b i
    rw [hic] at ea
    repeat' (first | (apply Wl.indexA; exact rfl; exact rfl; exact rfl; (omega)) | (apply Wl.loadN; exact rfl; exact rfl; (repeat (first | exact List.Mem.head _ | apply List.Mem.tail)); (omega)) | (apply Wl.move; exact rfl; exact rfl) | (apply Wl.assign; exact rfl; exact rfl) | (apply Wl.lss; exact rfl; exact rfl; exact rfl) | (apply Wl.gtr; exact rfl; exact rfl; exact rfl) | (apply Wl.geq; exact rfl; exact rfl; exact rfl) | (apply Wl.subI; exact rfl; exact rfl; exact rfl; (constructor <;> omega)) | (apply Wl.nil) | (apply Wl.nilQ) | (apply St.seq) | (apply St.block) | (apply St.region) | (apply St.draw; exact mixed; (kernel_rfl); exact (fun _ h => Hp.drew h)) | (apply St.ret) | (apply St.skip) | (apply Gt.next) | (apply Gt.thenRet) | (apply Gt.inNormal) | (apply Gt.inRet) | (apply Gt.out1; exact rfl; exact rfl; intro w' hp) | (apply Wl.splitP; exact rfl; exact rfl; all_goals (intros; try (exfalso; omega))) | (apply Wl.splitB; exact rfl; exact rfl; all_goals intros) | (apply St.condP; exact rfl; all_goals (intros; try (exfalso; omega))) | (apply St.condB; exact rfl; all_goals intros))
    · refine ⟨?_, hp.drop (by simp; omega)⟩
      unfold cmpN
      rw [if_pos (lt_of_hi (B := W32) (i := i) (by omega))]
    · refine ⟨?_, hp.drop (by simp; omega)⟩
      unfold cmpN
      have : b < a := lt_of_hi (B := W32) (i := i) (by omega)
      rw [if_neg (by omega), if_pos this]
    · apply Gt.round i
      rotate_left
      · simp
      · (repeat (first | exact Sub.nil | apply Sub.cons rfl))
      · exact fun _ h => h
      · exact ⟨by omega, by omega⟩
set_option maxHeartbeats 1000000 in
theorem limbBit (a i : Nat) (hi' : i < 256) (w : World) :
    Calls Tryd.prog 67 #[numV a, .int .i64 i] w fun e w' => e = .returned (.int .u32 (a / 2 ^ i % 2 : Nat)) ∧ Hp w [] w' := by
  refine enter (args := [_, _]) (Γ := [(0, _), (1, _)]) Tryd.func67 Tryd.ntmps67 rfl (of_decide_eq_true rfl) (.cons rfl (.cons rfl .nil)) ?_
  have hi32 : i / 32 < 8 := by omega
  repeat' (first | (apply Wl.indexA; exact rfl; exact rfl; exact rfl; (omega)) | (apply Wl.loadN; exact rfl; exact rfl; (repeat (first | exact List.Mem.head _ | apply List.Mem.tail)); (omega)) | (apply Wl.boxN; exact rfl; exact rfl; intro c hc ho) | (apply Wl.and1; exact rfl; exact rfl; exact rfl; exact rfl; (first | exact wrap2_u32 | exact wrap2_u64 | exact wrap2_i64)) | (apply Wl.quoN (n := 32); exact rfl; exact rfl; exact rfl; (decide); (first | exact IntWalk.u64_in _ (by omega) | exact IntWalk.i64_in _ (by omega))) | (apply Wl.remN (n := 32); exact rfl; exact rfl; exact rfl; (decide)) | (apply Wl.shrV; exact rfl; exact rfl; exact rfl; (first | (show _ ≤ 32; omega) | (show _ ≤ 64; omega))) | (apply Wl.move; exact rfl; exact rfl) | (apply Wl.assign; exact rfl; exact rfl) | (apply Wl.on; exact rfl; exact rfl; (first | with_reducible rfl | with_reducible assumption | decide)) | (apply Wl.pickF; exact rfl; exact rfl; (first | with_reducible rfl | with_reducible assumption | decide); exact rfl) | (apply Wl.lss; exact rfl; exact rfl; exact rfl) | (apply Wl.gtr; exact rfl; exact rfl; exact rfl) | (apply Wl.nil) | (apply St.seq) | (apply St.region) | (apply St.ret) | (apply St.skip) | (apply Gt.next) | (apply Gt.out1; exact rfl; exact rfl; intro w' hp) | (apply Wl.splitP; exact rfl; exact rfl; all_goals (intros; try (exfalso; omega))) | (apply Wl.splitB; exact rfl; exact rfl; all_goals intros) | (apply St.condP; exact rfl; all_goals (intros; try (exfalso; omega))) | (apply St.condB; exact rfl; all_goals intros))
  refine ⟨?_, hp.drop (by simp; omega)⟩
  rw [bit_dg]
theorem cell32 (f : Nat → Nat) (hf : ∀ j, f j < 4294967296) : ∀ j, j < 8 → IntKind.u32.min ≤ (f j : Int) ∧ (f j : Int) ≤ IntKind.u32.max := fun j _ => by
  have := hf j
  simp only [IntKind.min, IntKind.max, IntKind.signed, IntKind.bits]
  constructor <;> simp <;> omega
theorem d8_inj {a b : Nat} (ha : a < W256) (hb : b < W256) : decide (a = b) = true ↔ ∀ j, j < 8 → dg W32 a j = dg W32 b j := by
  rw [decide_eq_true_eq]
  exact ⟨fun e _ _ => by rw [e], dg_ext (k := 8) (by rw [← W256_eq]; exact ha) (by rw [← W256_eq]; exact hb)⟩
end Go.Proofs.YtfaobdakpbpkbaaDoor
end
section
/-
  mont.Mod: fit, Add, Sub. Conditions: the receiver's modulus lies in memory.
-/
namespace Go.Pt
open Go.RowKit
theorem hpNil (w : World) : Hp w [] w := ⟨Upd.refl _ _, trivial, trivial⟩
theorem hpPop {w0 w : World} {x : Blk} {H : List Blk} (h : Hp w0 (x :: H) w) (hx : w0.heap.size ≤ x.b) : Hp w0 H w :=
  ⟨h.upd.mono fun k hk hs ho => hs ⟨fun e => by omega, ho⟩, h.own.2, h.apart.2⟩
/-- n integers lie in memory from the o-th cell of a block on -/
def ArrAt (w : World) (b o : Nat) (k : IntKind) (n : Nat) (f : Nat → Nat) : Prop := ∀ j, j < n → w.cell? ⟨b, o + j, none⟩ = some (.int k (f j))
theorem ArrAt.get {w : World} {b o n : Nat} {k : IntKind} {f : Nat → Nat} (h : ArrAt w b o k n f) (j : Nat) (v : Value) (hj : (cellsN k n f)[j]? = some v) : w.cell? ⟨b, o + j, none⟩ = some v := by
  have hl := (List.getElem?_eq_some_iff.1 hj).1
  rw [cellsN_len] at hl
  rw [cellsN_get hl] at hj
  rw [← hj]
  exact h j hl
theorem ArrAt.lt {w : World} {b o n : Nat} {k : IntKind} {f : Nat → Nat} (h : ArrAt w b o k n f) (hn : 0 < n) : b < w.heap.size := World.block_lt_of_cell? w _ (h 0 hn)
theorem ArrAt.upd {S : Nat → Prop} {w w' : World} {b o n : Nat} {k : IntKind} {f : Nat → Nat} (h : ArrAt w b o k n f) (u : Upd S w w') (hs : ¬ S b) : ArrAt w' b o k n f := fun j hj => u.cell (h j hj) hs
theorem ArrAt.hp {w w' : World} {H : List Blk} {b o n : Nat} {k : IntKind} {f : Nat → Nat} (h : ArrAt w b o k n f) (u : Hp w H w') (hs : Off H b) : ArrAt w' b o k n f := h.upd u.upd fun y => y hs
section
variable {P : Program} {md : Md} {N : Nat} {ops : Array Oper} {rest : List Oper} {Γ : Env} {Q : Exit → Act → World → Prop} {d : Nat} {ty : TypeId} {pos : String} {af : Array Edge} {t : TypeId} {x y : Operand}
theorem Wl.loadM {w0 : World} {H : List Blk} {n m : Nat} [TyA P t n] {b o : Nat} {k : IntKind} {f : Nat → Nat} (hd : Nat.blt d N = true) (hx : ev Γ x = some (.pointer (some ⟨b, o, none⟩))) (hm : ArrAt w0 b o k m f) (ho : Off H b) (hn : Nat.beq m n = true)
    (h : Wl rest P md ops N ((d, .agg (cellsN k m f).toArray) :: Γ) (Hp w0 H) Q) : Wl (⟨some d, .load t x, ty, pos, af, none⟩ :: rest) P md ops N Γ (Hp w0 H) Q :=
  Wl.loadAF hd hx ((cellsN_len k m f).trans (Nat.eq_of_beq_eq_true hn)) (fun w hw i v hv => by rw [addLit]; exact hw.old (hm.get i v hv) ho) h
theorem Wl.loadME {w0 : World} {H : List Blk} {n : Nat} [TyC P t] {b j : Nat} {k : IntKind} {f : Nat → Nat} (hd : Nat.blt d N = true) (hx : ev Γ x = some (.pointer (some ⟨b, j, none⟩))) (hm : ArrAt w0 b 0 k n f) (ho : Off H b) (hj : j < n)
    (h : Wl rest P md ops N ((d, .int k (f j)) :: Γ) (Hp w0 H) Q) : Wl (⟨some d, .load t x, ty, pos, af, none⟩ :: rest) P md ops N Γ (Hp w0 H) Q :=
  Wl.loadO hd hx (by have := hm j hj; rw [Nat.zero_add] at this; exact this) ho h
end
theorem Gt.outN {P : Program} {N : Nat} {Γ : Env} {w0 : World} {H : List Blk} {fn : Func} {R : Ending → World → Prop} {t ty n c m bt : Nat} {k : IntKind} {f : Nat → Nat} (hr : fn.results = #[.cell t ty]) (hT : TyA P ty n) (ht : look Γ t = some (.pointer (some ⟨c, 0, none⟩))) (hm : (⟨c, cellsN k m f, bt⟩ : Blk) ∈ H) (hn : Nat.beq m n = true)
    (h : ∀ w, Hp w0 H w → R (.returned (.agg (cellsN k m f).toArray)) w) : Gt N .ret Γ (Hp w0 H) (bodyPost P fn R) := Gt.outC' hr hT ht hm (LSub.whole ((cellsN_len k m f).trans (Nat.eq_of_beq_eq_true hn))) h
end Go.Pt
namespace Go.Proofs.YtfaobdakpbpkbaaDoor
open Go.RowKit Go.Pt

abbrev mp (b : Nat) : Value := .pointer (some ⟨b, 0, none⟩)
set_option maxHeartbeats 1000000 in
theorem modFit (b m n over : Nat) (w : World) (hM : ArrAt w b 0 .u32 8 (dg W32 m)) (hm : m < W256) (hn : n < W256) (hov : over ≤ 1) (h2 : n + W256 * over < 2 * m) :
    Calls Tryd.prog 62 #[mp b, numV n, .int .u32 over] w fun e w' => e = .returned (numV ((n + W256 * over) % m)) ∧ Hp w [] w' := by
  have hb := hM.lt (by decide)
  have ho := once h2
  have k1 : 0 < over → (n + W256 * over) % m = (n + W256 - m) % W256 := fun h => by
    have e : over = 1 := by omega
    subst e
    rw [Nat.mul_one] at h2 ho
    rw [Nat.mul_one, ho, if_pos (by omega), Nat.mod_eq_of_lt (show n + W256 - m < W256 by omega)]
  have k2 : over = 0 → ¬ n < m → (n + W256 * over) % m = (n + W256 - m) % W256 := fun h h' => by
    subst h
    rw [Nat.mul_zero, Nat.add_zero] at h2 ho
    rw [Nat.mul_zero, Nat.add_zero, ho, if_pos (by omega), show n + W256 - m = (n - m) + W256 by omega, Nat.add_mod_right, Nat.mod_eq_of_lt (by omega)]
  have k3 : over = 0 → n < m → (n + W256 * over) % m = n := fun h h' => by
    subst h
    rw [Nat.mul_zero, Nat.add_zero, Nat.mod_eq_of_lt h']
  refine enter (args := [_, _, _]) (Γ := [(0, _), (1, _), (2, _)]) Tryd.func62 Tryd.ntmps62 rfl (of_decide_eq_true rfl) (.cons rfl (.cons rfl (.cons rfl .nil))) ?_
  repeat' (first | (apply Wl.boxN; exact rfl; exact rfl; intro c hc ho) | (apply Wl.allocN; exact rfl; (first | exact z8 | exact z16 | exact z17 | exact z33 | exact z10); intro c hc ho) | (apply Wl.nil) | (apply St.seq) | (apply St.region) | (apply Gt.next) | (apply Wl.splitP; exact rfl; exact rfl; all_goals (intros; try (exfalso; omega))) | (apply Wl.splitB; exact rfl; exact rfl; all_goals intros) | (apply St.condP; exact rfl; all_goals (intros; try (exfalso; omega))) | (apply St.condB; exact rfl; all_goals intros))
  rename_i ca hca hoa
  generalize c = cr at *
  refine St.tree (Hp w [_, _]) mixed (fun _ h => ⟨Hp.drew h, Hp.drew h⟩) ?_
  repeat' (first | (apply Wl.loadM; exact rfl; exact rfl; exact hM; (apply Off.of; simp; omega); exact rfl) | (refine Mt.pure 0 (by decide +kernel) (by exact rfl) (by exact rfl) (by decide +kernel) (by decide +kernel) ?_) | (refine Mt.pure 1 (by decide +kernel) (by exact rfl) (by exact rfl) (by decide +kernel) (by decide +kernel) ?_) | (refine Mt.pure 2 (by decide +kernel) (by exact rfl) (by exact rfl) (by decide +kernel) (by decide +kernel) ?_) | (refine Mt.pure 3 (by decide +kernel) (by exact rfl) (by exact rfl) (by decide +kernel) (by decide +kernel) ?_) | (refine Mt.pure 4 (by decide +kernel) (by exact rfl) (by exact rfl) (by decide +kernel) (by decide +kernel) ?_) | (refine Mt.eff1 (i := 5) (by decide +kernel) (by exact rfl) ?_) | (refine Mt.eff2 (i := 5) (j := 9) (by decide +kernel) (by exact rfl) (by exact rfl) ?_ ?_) | (apply Mt.back) | (refine Mt.backE (fun _ h => by first | exact h | exact hpPop h (by simp only; omega)) ?_) | (apply Wl.loadW; exact rfl; exact rfl; (repeat (first | exact List.Mem.head _ | apply List.Mem.tail)); exact rfl) | (apply Wl.allocN; exact rfl; (first | exact z8 | exact z16 | exact z17 | exact z33 | exact z10); intro c hc ho) | (apply Wl.move; exact rfl; exact rfl) | (apply Wl.nilCheck; exact rfl; exact rfl) | (apply Wl.fieldAddr0; exact rfl; exact rfl) | (apply Wl.nil) | (apply Wl.nilM) | (apply Wl.splitP; exact rfl; exact rfl; all_goals (intros; try (exfalso; omega))) | (apply Wl.splitB; exact rfl; exact rfl; all_goals intros) | (apply St.condP; exact rfl; all_goals (intros; try (exfalso; omega))) | (apply St.condB; exact rfl; all_goals intros))
  all_goals
    apply Wl.callQ
    exact rfl
    (repeat (first | exact Evs.nil | apply Evs.cons rfl))
    · intro wq hq
      refine (limbSub n m hn hm wq).mono ?_
      rintro e wr ⟨rfl, hr⟩
      exact ⟨rfl, hq.keep hr⟩
    repeat' (first | (apply Gt.outN; exact rfl; infer_instance; exact rfl; (repeat (first | exact List.Mem.head _ | apply List.Mem.tail)); exact rfl; intro w' hp) | (refine Mt.toGt (by decide +kernel) ?_) | (refine Mt.pure 6 (by decide +kernel) (by exact rfl) (by exact rfl) (by decide +kernel) (by decide +kernel) ?_) | (refine Mt.pure 7 (by decide +kernel) (by exact rfl) (by exact rfl) (by decide +kernel) (by decide +kernel) ?_) | (refine Mt.pure 8 (by decide +kernel) (by exact rfl) (by exact rfl) (by decide +kernel) (by decide +kernel) ?_) | (refine Mt.pure 11 (by decide +kernel) (by exact rfl) (by exact rfl) (by decide +kernel) (by decide +kernel) ?_) | (refine Mt.eff1 (i := 9) (by decide +kernel) (by exact rfl) ?_) | (refine Mt.eff1 (i := 10) (by decide +kernel) (by exact rfl) ?_) | (apply Mt.back) | (refine Mt.backE (fun _ h => by first | exact h | exact hpPop h (by simp only; omega)) ?_) | (apply Wl.loadW; exact rfl; exact rfl; (repeat (first | exact List.Mem.head _ | apply List.Mem.tail)); exact rfl) | (apply Wl.storeW; exact rfl; exact rfl; (repeat (first | apply HSet.here | apply HSet.there)); exact rfl; (first | exact cellsN_len _ _ _ | exact rfl)) | (apply Wl.allocN; exact rfl; (first | exact z8 | exact z16 | exact z17 | exact z33 | exact z10); intro c hc ho) | (apply Wl.move; exact rfl; exact rfl) | (apply Wl.assign; exact rfl; exact rfl) | (apply Wl.on; exact rfl; exact rfl; (first | with_reducible rfl | with_reducible assumption | decide)) | (apply Wl.off; exact rfl; exact rfl; exact rfl; (first | with_reducible rfl | (show _ = false; with_reducible assumption) | (show _ = true; with_reducible assumption) | decide)) | (apply Wl.extract; exact rfl; exact rfl; exact rfl) | (apply Wl.pickT; exact rfl; exact rfl; (first | with_reducible rfl | with_reducible assumption | decide); exact rfl) | (apply Wl.pickF; exact rfl; exact rfl; (first | with_reducible rfl | with_reducible assumption | decide); exact rfl) | (apply Wl.eql; exact rfl; exact rfl; exact rfl) | (apply Wl.gtr; exact rfl; exact rfl; exact rfl) | (apply Wl.nil) | (apply Wl.nilM) | (apply St.seq) | (apply St.region) | (apply St.condT; exact rfl; (first | with_reducible rfl | with_reducible assumption | decide)) | (apply St.ret) | (apply St.skip) | (apply Gt.next) | (apply Gt.thenRet) | (apply Wl.splitP; exact rfl; exact rfl; all_goals (intros; try (exfalso; omega))) | (apply Wl.splitB; exact rfl; exact rfl; all_goals intros) | (apply St.condP; exact rfl; all_goals (intros; try (exfalso; omega))) | (apply St.condB; exact rfl; all_goals intros))
  all_goals
    refine ⟨?_, hp.drop (by simp; omega)⟩
    first
      | rw [k1 (by omega)]
      | rw [k2 (by omega) (by have := ‹((if n < m then 1 else 0 : Nat) : Int) = 0›; split at this <;> omega)]
      | rw [k3 (by omega) (by have := ‹¬((if n < m then 1 else 0 : Nat) : Int) = 0›; split at this <;> omega)]
set_option maxHeartbeats 1000000 in
theorem modAdd (b m x y : Nat) (w : World) (hM : ArrAt w b 0 .u32 8 (dg W32 m)) (hm : m < W256) (hx : x < m) (hy : y < m) :
    Calls Tryd.prog 57 #[mp b, numV x, numV y] w fun e w' => e = .returned (numV ((x + y) % m)) ∧ Hp w [] w' := by
  have hb := hM.lt (by decide)
  refine enter (args := [_, _, _]) (Γ := [(0, _), (1, _), (2, _)]) Tryd.func57 Tryd.ntmps57 rfl (of_decide_eq_true rfl) (.cons rfl (.cons rfl (.cons rfl .nil))) ?_
  repeat' (first | (apply Wl.loadW; exact rfl; exact rfl; (repeat (first | exact List.Mem.head _ | apply List.Mem.tail)); exact rfl) | (apply Wl.boxN; exact rfl; exact rfl; intro c hc ho) | (apply Wl.allocN; exact rfl; (first | exact z8 | exact z16 | exact z17 | exact z33 | exact z10); intro c hc ho) | (apply Wl.move; exact rfl; exact rfl) | (apply Wl.eqlPN; exact rfl; exact rfl; exact rfl) | (apply Wl.nil) | (apply St.seq) | (apply St.region) | (apply St.condF; exact rfl; (first | with_reducible rfl | with_reducible assumption | decide)) | (apply St.skip) | (apply Gt.next) | (apply Wl.splitP; exact rfl; exact rfl; all_goals (intros; try (exfalso; omega))) | (apply Wl.splitB; exact rfl; exact rfl; all_goals intros) | (apply St.condP; exact rfl; all_goals (intros; try (exfalso; omega))) | (apply St.condB; exact rfl; all_goals intros))
  apply Wl.callQ
  exact rfl
  (repeat (first | exact Evs.nil | apply Evs.cons rfl))
  · intro wq hq
    refine (limbAdd x y (by omega) (by omega) wq).mono ?_
    rintro e wr ⟨rfl, hr⟩
    exact ⟨rfl, hq.keep hr⟩
  repeat' (first | (apply Wl.extract; exact rfl; exact rfl; exact rfl) | (apply Wl.splitP; exact rfl; exact rfl; all_goals (intros; try (exfalso; omega))) | (apply Wl.splitB; exact rfl; exact rfl; all_goals intros) | (apply St.condP; exact rfl; all_goals (intros; try (exfalso; omega))) | (apply St.condB; exact rfl; all_goals intros))
  apply Wl.callQ
  exact rfl
  (repeat (first | exact Evs.nil | apply Evs.cons rfl))
  · intro wq hq
    refine (modFit b m ((x + y) % W256) ((x + y) / W256) wq (hM.hp hq (by apply Off.of; simp; omega)) hm (Nat.mod_lt _ (by decide)) (by unfold W256 at *; omega) (by rw [Nat.mod_add_div]; omega)).mono ?_
    rintro e wr ⟨rfl, hr⟩
    exact ⟨rfl, hq.keep hr⟩
  rw [Nat.mod_add_div]
  repeat' (first | (apply Gt.outN; exact rfl; infer_instance; exact rfl; (repeat (first | exact List.Mem.head _ | apply List.Mem.tail)); exact rfl; intro w' hp) | (apply Wl.storeW; exact rfl; exact rfl; (repeat (first | apply HSet.here | apply HSet.there)); exact rfl; (first | exact cellsN_len _ _ _ | exact rfl)) | (apply Wl.nil) | (apply St.ret) | (apply Gt.next) | (apply Wl.splitP; exact rfl; exact rfl; all_goals (intros; try (exfalso; omega))) | (apply Wl.splitB; exact rfl; exact rfl; all_goals intros) | (apply St.condP; exact rfl; all_goals (intros; try (exfalso; omega))) | (apply St.condB; exact rfl; all_goals intros))
  exact ⟨rfl, hp.drop (by simp; omega)⟩
end Go.Proofs.YtfaobdakpbpkbaaDoor
end
section
/-
  mont.Mod: Sub, low, and the state of a modulus. Conditions: the receiver's modulus lies in memory.
-/
namespace Go.Proofs.YtfaobdakpbpkbaaDoor
open Go.RowKit Go.Pt
set_option maxHeartbeats 1000000 in
theorem modSub (b m x y : Nat) (w : World) (hM : ArrAt w b 0 .u32 8 (dg W32 m)) (hm : m < W256) (hx : x < m) (hy : y < m) :
    Calls Tryd.prog 77 #[mp b, numV x, numV y] w fun e w' => e = .returned (numV ((x + m - y) % m)) ∧ Hp w [] w' := by
  have hb := hM.lt (by decide)
  refine enter (args := [_, _, _]) (Γ := [(0, _), (1, _), (2, _)]) Tryd.func77 Tryd.ntmps77 rfl (of_decide_eq_true rfl) (.cons rfl (.cons rfl (.cons rfl .nil))) ?_
  repeat' (first | (apply Wl.loadW; exact rfl; exact rfl; (repeat (first | exact List.Mem.head _ | apply List.Mem.tail)); exact rfl) | (apply Wl.boxN; exact rfl; exact rfl; intro c hc ho) | (apply Wl.allocN; exact rfl; (first | exact z8 | exact z16 | exact z17 | exact z33 | exact z10); intro c hc ho) | (apply Wl.move; exact rfl; exact rfl) | (apply Wl.eqlPN; exact rfl; exact rfl; exact rfl) | (apply Wl.nil) | (apply St.seq) | (apply St.region) | (apply St.condF; exact rfl; (first | with_reducible rfl | with_reducible assumption | decide)) | (apply St.skip) | (apply Gt.next) | (apply Wl.splitP; exact rfl; exact rfl; all_goals (intros; try (exfalso; omega))) | (apply Wl.splitB; exact rfl; exact rfl; all_goals intros) | (apply St.condP; exact rfl; all_goals (intros; try (exfalso; omega))) | (apply St.condB; exact rfl; all_goals intros))
  apply Wl.callQ
  exact rfl
  (repeat (first | exact Evs.nil | apply Evs.cons rfl))
  · intro wq hq
    refine (limbSub x y (by omega) (by omega) wq).mono ?_
    rintro e wr ⟨rfl, hr⟩
    exact ⟨rfl, hq.keep hr⟩
  by_cases hxy : x < y
  · have e1 : (x + W256 - y) % W256 = x + W256 - y := Nat.mod_eq_of_lt (by omega)
    have e2 : ((x + W256 - y) % W256 + m) % W256 = (x + m - y) % m := by
      rw [e1, show x + W256 - y + m = (x + m - y) + W256 by omega, Nat.add_mod_right, Nat.mod_eq_of_lt (by omega), Nat.mod_eq_of_lt (by omega)]
    rw [if_pos hxy]
    repeat' (first | (apply Wl.storeW; exact rfl; exact rfl; (repeat (first | apply HSet.here | apply HSet.there)); exact rfl; (first | exact cellsN_len _ _ _ | exact rfl)) | (apply Wl.allocN; exact rfl; (first | exact z8 | exact z16 | exact z17 | exact z33 | exact z10); intro c hc ho) | (apply Wl.move; exact rfl; exact rfl) | (apply Wl.assign; exact rfl; exact rfl) | (apply Wl.extract; exact rfl; exact rfl; exact rfl) | (apply Wl.gtr; exact rfl; exact rfl; exact rfl) | (apply Wl.nil) | (apply St.seq) | (apply St.region) | (apply St.condT; exact rfl; (first | with_reducible rfl | with_reducible assumption | decide)) | (apply Gt.next) | (apply Wl.splitP; exact rfl; exact rfl; all_goals (intros; try (exfalso; omega))) | (apply Wl.splitB; exact rfl; exact rfl; all_goals intros) | (apply St.condP; exact rfl; all_goals (intros; try (exfalso; omega))) | (apply St.condB; exact rfl; all_goals intros))
    refine St.tree (Hp w [_, _, _]) mixed (fun _ h => ⟨Hp.drew h, hpPop (Hp.drew h) (by simp only; omega)⟩) ?_
    refine Mt.pure 1 (by decide +kernel) (by exact rfl) (by exact rfl) (by decide +kernel) (by decide +kernel) ?_
    repeat' (first | (apply Wl.move; exact rfl; exact rfl) | (apply Wl.nilM) | (apply Wl.splitP; exact rfl; exact rfl; all_goals (intros; try (exfalso; omega))) | (apply Wl.splitB; exact rfl; exact rfl; all_goals intros) | (apply St.condP; exact rfl; all_goals (intros; try (exfalso; omega))) | (apply St.condB; exact rfl; all_goals intros))
    apply Mt.back
    refine Mt.pure 2 (by decide +kernel) (by exact rfl) (by exact rfl) (by decide +kernel) (by decide +kernel) ?_
    repeat' (first | (apply Wl.nilCheck; exact rfl; exact rfl) | (apply Wl.nilM) | (apply Wl.splitP; exact rfl; exact rfl; all_goals (intros; try (exfalso; omega))) | (apply Wl.splitB; exact rfl; exact rfl; all_goals intros) | (apply St.condP; exact rfl; all_goals (intros; try (exfalso; omega))) | (apply St.condB; exact rfl; all_goals intros))
    apply Mt.back
    refine Mt.pure 3 (by decide +kernel) (by exact rfl) (by exact rfl) (by decide +kernel) (by decide +kernel) ?_
    repeat' (first | (apply Wl.fieldAddr0; exact rfl; exact rfl) | (apply Wl.nilM) | (apply Wl.splitP; exact rfl; exact rfl; all_goals (intros; try (exfalso; omega))) | (apply Wl.splitB; exact rfl; exact rfl; all_goals intros) | (apply St.condP; exact rfl; all_goals (intros; try (exfalso; omega))) | (apply St.condB; exact rfl; all_goals intros))
    apply Mt.back
    refine Mt.pure 4 (by decide +kernel) (by exact rfl) (by exact rfl) (by decide +kernel) (by decide +kernel) ?_
    repeat' (first | (apply Wl.loadM; exact rfl; exact rfl; exact hM; (apply Off.of; simp; omega); exact rfl) | (apply Wl.nilM) | (apply Wl.splitP; exact rfl; exact rfl; all_goals (intros; try (exfalso; omega))) | (apply Wl.splitB; exact rfl; exact rfl; all_goals intros) | (apply St.condP; exact rfl; all_goals (intros; try (exfalso; omega))) | (apply St.condB; exact rfl; all_goals intros))
    apply Mt.back
    refine Mt.eff1 (i := 0) (by decide +kernel) (by exact rfl) ?_
    repeat' (first | (apply Wl.loadW; exact rfl; exact rfl; (repeat (first | exact List.Mem.head _ | apply List.Mem.tail)); exact rfl) | (apply Wl.nil) | (apply Wl.splitP; exact rfl; exact rfl; all_goals (intros; try (exfalso; omega))) | (apply Wl.splitB; exact rfl; exact rfl; all_goals intros) | (apply St.condP; exact rfl; all_goals (intros; try (exfalso; omega))) | (apply St.condB; exact rfl; all_goals intros))
    refine Mt.backE (fun _ h => by first | exact h | exact hpPop h (by simp only; omega)) ?_
    refine Mt.eff1 (i := 5) (by decide +kernel) (by exact rfl) ?_
    apply Wl.callQ
    exact rfl
    (repeat (first | exact Evs.nil | apply Evs.cons rfl))
    · intro wq hq
      refine (limbAdd ((x + W256 - y) % W256) m (Nat.mod_lt _ (by decide)) hm wq).mono ?_
      rintro e wr ⟨rfl, hr⟩
      exact ⟨rfl, hq.keep hr⟩
    rw [e2]
    repeat' (first | (apply Wl.nil) | (apply Wl.splitP; exact rfl; exact rfl; all_goals (intros; try (exfalso; omega))) | (apply Wl.splitB; exact rfl; exact rfl; all_goals intros) | (apply St.condP; exact rfl; all_goals (intros; try (exfalso; omega))) | (apply St.condB; exact rfl; all_goals intros))
    refine Mt.backE (fun _ h => by first | exact h | exact hpPop h (by simp only; omega)) ?_
    refine Mt.pure 6 (by decide +kernel) (by exact rfl) (by exact rfl) (by decide +kernel) (by decide +kernel) ?_
    repeat' (first | (apply Wl.move; exact rfl; exact rfl) | (apply Wl.nilM) | (apply Wl.splitP; exact rfl; exact rfl; all_goals (intros; try (exfalso; omega))) | (apply Wl.splitB; exact rfl; exact rfl; all_goals intros) | (apply St.condP; exact rfl; all_goals (intros; try (exfalso; omega))) | (apply St.condB; exact rfl; all_goals intros))
    apply Mt.back
    refine Mt.pure 7 (by decide +kernel) (by exact rfl) (by exact rfl) (by decide +kernel) (by decide +kernel) ?_
    repeat' (first | (apply Wl.extract; exact rfl; exact rfl; exact rfl) | (apply Wl.nilM) | (apply Wl.splitP; exact rfl; exact rfl; all_goals (intros; try (exfalso; omega))) | (apply Wl.splitB; exact rfl; exact rfl; all_goals intros) | (apply St.condP; exact rfl; all_goals (intros; try (exfalso; omega))) | (apply St.condB; exact rfl; all_goals intros))
    apply Mt.back
    refine Mt.pure 8 (by decide +kernel) (by exact rfl) (by exact rfl) (by decide +kernel) (by decide +kernel) ?_
    repeat' (first | (apply Wl.extract; exact rfl; exact rfl; exact rfl) | (apply Wl.nilM) | (apply Wl.splitP; exact rfl; exact rfl; all_goals (intros; try (exfalso; omega))) | (apply Wl.splitB; exact rfl; exact rfl; all_goals intros) | (apply St.condP; exact rfl; all_goals (intros; try (exfalso; omega))) | (apply St.condB; exact rfl; all_goals intros))
    apply Mt.back
    refine Mt.eff1 (i := 9) (by decide +kernel) (by exact rfl) ?_
    repeat' (first | (apply Wl.storeW; exact rfl; exact rfl; (repeat (first | apply HSet.here | apply HSet.there)); exact rfl; (first | exact cellsN_len _ _ _ | exact rfl)) | (apply Wl.nil) | (apply Wl.splitP; exact rfl; exact rfl; all_goals (intros; try (exfalso; omega))) | (apply Wl.splitB; exact rfl; exact rfl; all_goals intros) | (apply St.condP; exact rfl; all_goals (intros; try (exfalso; omega))) | (apply St.condB; exact rfl; all_goals intros))
    refine Mt.backE (fun _ h => by first | exact h | exact hpPop h (by simp only; omega)) ?_
    refine Mt.toGt (by decide +kernel) ?_
    repeat' (first | (apply Gt.outN; exact rfl; infer_instance; exact rfl; (repeat (first | exact List.Mem.head _ | apply List.Mem.tail)); exact rfl; intro w' hp) | (apply Wl.loadW; exact rfl; exact rfl; (repeat (first | exact List.Mem.head _ | apply List.Mem.tail)); exact rfl) | (apply Wl.storeW; exact rfl; exact rfl; (repeat (first | apply HSet.here | apply HSet.there)); exact rfl; (first | exact cellsN_len _ _ _ | exact rfl)) | (apply Wl.nil) | (apply St.seq) | (apply St.region) | (apply St.ret) | (apply Gt.next) | (apply Wl.splitP; exact rfl; exact rfl; all_goals (intros; try (exfalso; omega))) | (apply Wl.splitB; exact rfl; exact rfl; all_goals intros) | (apply St.condP; exact rfl; all_goals (intros; try (exfalso; omega))) | (apply St.condB; exact rfl; all_goals intros))
    exact ⟨rfl, hp.drop (by simp; omega)⟩
  · have e1 : (x + W256 - y) % W256 = (x + m - y) % m := by
      rw [show x + W256 - y = (x - y) + W256 by omega, Nat.add_mod_right, Nat.mod_eq_of_lt (by omega), show x + m - y = (x - y) + m by omega, Nat.add_mod_right, Nat.mod_eq_of_lt (by omega)]
    rw [if_neg hxy, e1]
    repeat' (first | (apply Gt.outN; exact rfl; infer_instance; exact rfl; (repeat (first | exact List.Mem.head _ | apply List.Mem.tail)); exact rfl; intro w' hp) | (apply Wl.loadW; exact rfl; exact rfl; (repeat (first | exact List.Mem.head _ | apply List.Mem.tail)); exact rfl) | (apply Wl.storeW; exact rfl; exact rfl; (repeat (first | apply HSet.here | apply HSet.there)); exact rfl; (first | exact cellsN_len _ _ _ | exact rfl)) | (apply Wl.allocN; exact rfl; (first | exact z8 | exact z16 | exact z17 | exact z33 | exact z10); intro c hc ho) | (apply Wl.move; exact rfl; exact rfl) | (apply Wl.assign; exact rfl; exact rfl) | (apply Wl.extract; exact rfl; exact rfl; exact rfl) | (apply Wl.gtr; exact rfl; exact rfl; exact rfl) | (apply Wl.nil) | (apply St.seq) | (apply St.region) | (apply St.condF; exact rfl; (first | with_reducible rfl | with_reducible assumption | decide)) | (apply St.ret) | (apply St.skip) | (apply Gt.next) | (apply Wl.splitP; exact rfl; exact rfl; all_goals (intros; try (exfalso; omega))) | (apply Wl.splitB; exact rfl; exact rfl; all_goals intros) | (apply St.condP; exact rfl; all_goals (intros; try (exfalso; omega))) | (apply St.condB; exact rfl; all_goals intros))
    exact ⟨rfl, hp.drop (by simp; omega)⟩
end Go.Proofs.YtfaobdakpbpkbaaDoor
end
section
/-
  mont.Mod.Times: Montgomery's product. Conditions: the second factor is below the modulus.
-/
namespace Go.Pt
open Go.RowKit
theorem hpHead {w0 w : World} {x : Blk} {H : List Blk} (h : Hp w0 (x :: H) w) (hH : ∀ y ∈ H, w0.heap.size ≤ y.b) : Hp w0 [x] w :=
  ⟨h.upd.mono fun k hk hs ho => hs ⟨ho.1, Off.of fun y hy e => by have := hH y hy; omega⟩, ⟨h.own.1, trivial⟩, ⟨trivial, trivial⟩⟩
section
variable {P : Program} {md : Md} {N : Nat} {ops : Array Oper} {rest : List Oper} {Γ : Env} {C : World → Prop} {Q : Exit → Act → World → Prop} {d : Nat} {ty : TypeId} {pos : String} {af : Array Edge} {t : TypeId} {x y : Operand}
theorem Wl.predI {t u : TypeId} {n : Nat} (hd : Nat.blt d N = true) (hx : ev Γ x = some (.int .i64 ((n + 1 : Nat) : Int))) (hy : ev Γ y = some (.int .i64 1)) (hb : n < 9223372036854775807) (h : Wl rest P md ops N ((d, .int .i64 (n : Int)) :: Γ) C Q) : Wl (⟨some d, .binOp .sub t x y u, ty, pos, af, none⟩ :: rest) P md ops N Γ C Q :=
  Wl.subI hd hx hy (by omega) (by rw [show ((n + 1 : Nat) : Int) - 1 = (n : Int) by omega]; exact h)
theorem Wl.sliceToArr {n e : Nat} [ht : TyD P t (.array n e)] {a : Addr} {l c : Nat} (hd : Nat.blt d N = true) (hx : ev Γ x = some (.slice (some a) l c)) (hn : n ≤ l) (h : Wl rest P md ops N ((d, .pointer (some a)) :: Γ) C Q) : Wl (⟨some d, .sliceToArrayPointer t x, ty, pos, af, none⟩ :: rest) P md ops N Γ C Q :=
  Wl.val hd (fun a' w ha _ => by simp [execOp, ha.ev hx, Instr.arrayAt, run_underlying ht.out, show ¬ l < n by omega]) h
theorem Wl.sliceArrF {e sz by_ n : Nat} [ht : TyD P t (.array n e)] [TyS P e sz by_] {b o h' : Nat} {z : Operand} {k : IntKind} (hd : Nat.blt d N = true) (hx : ev Γ x = some (.pointer (some ⟨b, o, none⟩))) (hz : ev Γ z = some (.int k (h' : Int))) (h2 : h' ≤ n) (hn : n ≠ 0)
    (h : Wl rest P md ops N ((d, .slice (some ⟨b, o, none⟩) h' n) :: Γ) C Q) : Wl (⟨some d, .slice t x none (some z) none, ty, pos, af, none⟩ :: rest) P md ops N Γ C Q :=
  Wl.val hd (fun a w ha _ => by
    have e2 : ∀ c, (Instr.sliceBound (.int k (h' : Int)) n c).run P w = .ok h' w := fun c => by
      simp only [Instr.sliceBound, asIntOf, pure_bind]
      rw [if_pos (by omega)]
      simp
    simp [execOp, ha.ev hx, ha.ev hz, Instr.sliceAt, run_underlying ht.out, Instr.sureAddr, Instr.sliceBounds, e2, run_size (P := P) (t := e), Addr.add, hn]) h
/-- the first n cells of a longer array -/
theorem cellsN_take {k : IntKind} {n m : Nat} {f : Nat → Nat} (h : n ≤ m) : LSub (cellsN k m f) 0 n (cellsN k n f) := by
  have key : ∀ (l : List Value) n, n ≤ l.length → LSub l 0 n (l.take n) := by
    intro l
    induction l with
    | nil => intro n hn; have : n = 0 := by simpa using hn
             subst this; exact .z
    | cons x r ih =>
      intro n hn
      cases n with
      | zero => exact .z
      | succ n => exact .t (ih n (by simpa using hn))
  have e : (cellsN k m f).take n = cellsN k n f := by
    unfold cellsN
    rw [← List.map_take, List.take_range, Nat.min_eq_left h]
  rw [← e]
  exact key _ _ (by rw [cellsN_len]; exact h)
theorem Wl.loadT {w0 : World} {H : List Blk} {n m bt : Nat} [TyA P t n] {c : Nat} {k : IntKind} {f : Nat → Nat} (hd : Nat.blt d N = true) (hx : ev Γ x = some (.pointer (some ⟨c, 0, none⟩))) (hm : (⟨c, cellsN k m f, bt⟩ : Blk) ∈ H) (hn : n ≤ m)
    (h : Wl rest P md ops N ((d, .agg (cellsN k n f).toArray) :: Γ) (Hp w0 H) Q) : Wl (⟨some d, .load t x, ty, pos, af, none⟩ :: rest) P md ops N Γ (Hp w0 H) Q :=
  Wl.loadAH hd hx hm (cellsN_take hn) h
end
end Go.Pt
namespace Go.Proofs.YtfaobdakpbpkbaaDoor
open Go.RowKit Go.Pt
/-- nine words of T, and one that is left over -/
def t9 (T u : Nat) : Nat → Nat := fun j => if j < 9 then dg W32 T j else u
theorem t9_lo {T u j : Nat} (h : j < 9) : t9 T u j = dg W32 T j := if_pos h
theorem hi_div (B n i : Nat) : hi B (n / B) i = hi B n (i + 1) := by unfold hi; rw [Nat.div_div_eq_div_mul, ← Nat.pow_succ']
set_option maxHeartbeats 4000000 in
theorem modTimes (b m neg x y : Nat) (w : World) (hM : ArrAt w b 0 .u32 8 (dg W32 m)) (hN : w.cell? ⟨b, 8, none⟩ = some (.int .u32 neg)) (hneg : (m * neg + 1) % 4294967296 = 0) (hm : m < W256) (hodd : m % 2 = 1) (hx : x < W256) (hy : y < m) :
    Calls Tryd.prog 27 #[mp b, numV x, numV y] w fun e w' => e = .returned (numV (x * y * rinv m % m)) ∧ Hp w [] w' := by
  have hb := hM.lt (by decide)
  refine enter (args := [_, _, _]) (Γ := [(0, _), (1, _), (2, _)]) Tryd.func27 Tryd.ntmps27 rfl (of_decide_eq_true rfl) (.cons rfl (.cons rfl (.cons rfl .nil))) ?_
  repeat' (first | (apply Wl.boxN; exact rfl; exact rfl; intro c hc ho) | (apply Wl.allocN; exact rfl; (first | exact z8 | exact z16 | exact z17 | exact z33 | exact z10); intro c hc ho) | (apply Wl.move; exact rfl; exact rfl) | (apply Wl.eqlPN; exact rfl; exact rfl; exact rfl) | (apply Wl.nil) | (apply St.seq) | (apply St.block) | (apply St.region) | (apply St.condF; exact rfl; (first | with_reducible rfl | with_reducible assumption | decide)) | (apply St.skip) | (apply Gt.next) | (apply Wl.splitP; exact rfl; exact rfl; all_goals (intros; try (exfalso; omega))) | (apply Wl.splitB; exact rfl; exact rfl; all_goals intros) | (apply St.condP; exact rfl; all_goals (intros; try (exfalso; omega))) | (apply St.condB; exact rfl; all_goals intros))
  rename_i ca hca hoa cb hcb hob cr hcr hor
  generalize c = ct at *
  refine St.loop (σ := Nat × Nat × Nat) (fun τ => τ.1 ≤ 8 ∧ τ.2.1 < 2 * m ∧ τ.2.1 * W32 ^ τ.1 % m = (x % W32 ^ τ.1) * y % m)
    (fun τ => [(0, mp b), (4, mp ca), (5, mp cb), (6, mp cr), (7, mp ct), (16, .int .i64 τ.1)])
    (fun τ => Hp w [⟨ct, cellsN .u32 10 (t9 τ.2.1 τ.2.2), 102⟩, ⟨cr, cellsN .u32 8 fun _ => 0, 30⟩, ⟨cb, cellsN .u32 8 (dg W32 y), 30⟩, ⟨ca, cellsN .u32 8 (dg W32 x), 30⟩])
    (fun τ => 8 - τ.1) (0, 0, 0) ⟨by simp, by simp; omega, by simp [Nat.mod_one]⟩ (by (repeat (first | exact Sub.nil | apply Sub.cons rfl))) (fun _ h => by
      have e : cellsN .u32 10 (t9 0 0) = cellsN .u32 10 (fun _ => 0) := cellsN_congr fun j _ => by unfold t9 dg hi; split <;> simp
      show Hp w [⟨ct, cellsN .u32 10 (t9 0 0), _⟩, _, _, _] _
      rw [e]; exact h) ?_
  rintro ⟨i, T, u⟩ ⟨hi8, hT, hTm⟩
  simp only at hi8 hT hTm ⊢
  by_cases hlt : i < 8
  · have hxi := dlt x i
    repeat' (first | (apply Wl.move; exact rfl; exact rfl) | (apply Wl.assign; exact rfl; exact rfl) | (apply Wl.lss; exact rfl; exact rfl; exact rfl) | (apply Wl.nil) | (apply St.seq) | (apply St.block) | (apply St.region) | (apply St.skip) | (apply Gt.next) | (apply Wl.splitP; exact rfl; exact rfl; all_goals (intros; try (exfalso; omega))) | (apply Wl.splitB; exact rfl; exact rfl; all_goals intros) | (apply St.condP; exact rfl; all_goals (intros; try (exfalso; omega))) | (apply St.condB; exact rfl; all_goals intros))
    refine St.loop (σ := Nat × Nat) (fun τ => τ.1 ≤ 8 ∧ τ.2 < W32 ∧ hi W32 (T + dg W32 x i * y) τ.1 = hi W32 T τ.1 + dg W32 x i * hi W32 y τ.1 + τ.2)
      (fun τ => [(0, mp b), (4, mp ca), (5, mp cb), (6, mp cr), (7, mp ct), (8, .int .i64 i), (9, .int .u64 τ.2), (16, .int .i64 i), (19, .int .i64 τ.1)])
      (fun τ => Hp w [⟨ct, cellsN .u32 10 (fillN (t9 T u) (dg W32 (T + dg W32 x i * y)) τ.1), 102⟩, ⟨cr, cellsN .u32 8 fun _ => 0, 30⟩, ⟨cb, cellsN .u32 8 (dg W32 y), 30⟩, ⟨ca, cellsN .u32 8 (dg W32 x), 30⟩])
      (fun τ => 8 - τ.1) (0, 0) ⟨by simp, by decide, by simp [hi_zero]⟩ (by (repeat (first | exact Sub.nil | apply Sub.cons rfl))) (fun _ h => by simpa only [fillN_zero] using h) ?_
    rintro ⟨k, c⟩ ⟨hk8, hc32, hk⟩
    simp only at hk8 hc32 hk ⊢
    by_cases hkl : k < 8
    · have hyk := dlt y k
      have hTk := dlt T k
      have hf : fillN (t9 T u) (dg W32 (T + dg W32 x i * y)) k k = dg W32 T k := (fillN_at (Nat.le_refl _)).trans (t9_lo (by omega))
      obtain ⟨p1, p2, p3, p4⟩ := mul_step hxi hc32 hk
      rw [← hf] at p1 hTk
      have q1 : dg W32 x i * dg W32 y k + fillN (t9 T u) (dg W32 (T + dg W32 x i * y)) k k < 18446744073709551616 := by omega
      have q2 : dg W32 x i * dg W32 y k < 18446744073709551616 := by omega
      repeat' (first | (apply Wl.indexA; exact rfl; exact rfl; exact rfl; (omega)) | (apply Wl.loadN; exact rfl; exact rfl; (repeat (first | exact List.Mem.head _ | apply List.Mem.tail)); (omega)) | (apply Wl.storeN; exact rfl; exact rfl; (repeat (first | apply HSet.here | apply HSet.there)); (omega)) | (apply Wl.addNU; exact rfl; exact rfl; exact rfl; (first | assumption | omega)) | (apply Wl.mulNU; exact rfl; exact rfl; exact rfl; (first | assumption | omega)) | (apply Wl.shr32; exact rfl; exact rfl; exact rfl) | (apply Wl.convN32 (k := .u64); exact rfl; exact rfl) | (apply Wl.move; exact rfl; exact rfl) | (apply Wl.assign; exact rfl; exact rfl) | (apply Wl.lss; exact rfl; exact rfl; exact rfl) | (apply Wl.addI; exact rfl; exact rfl; exact rfl; (constructor <;> omega)) | (apply Wl.convU64; exact rfl; exact rfl; (constructor <;> omega)) | (apply Wl.nil) | (apply Wl.nilQ) | (apply St.seq) | (apply St.block) | (apply St.region) | (apply St.draw; exact mixed; (kernel_rfl); exact (fun _ h => Hp.drew h)) | (apply St.skip) | (apply Gt.next) | (apply Gt.inNormal) | (apply Wl.splitP; exact rfl; exact rfl; all_goals (intros; try (exfalso; omega))) | (apply Wl.splitB; exact rfl; exact rfl; all_goals intros) | (apply St.condP; exact rfl; all_goals (intros; try (exfalso; omega))) | (apply St.condB; exact rfl; all_goals intros))
      rw [hf, p2]
      apply Gt.round (k + 1, (c + (dg W32 x i * dg W32 y k + dg W32 T k)) / 4294967296)
      rotate_left
      · simp only; omega
      · (repeat (first | exact Sub.nil | apply Sub.cons rfl))
      · exact fun _ h => by rw [fillN_step] at h; exact h
      · exact ⟨by simp only; omega, p4, p3⟩
    have hke : k = 8 := by omega
    subst hke
    obtain ⟨ms1, ms2, ms3⟩ := mont_step hneg hy hT hTm
    generalize hSe : T + dg W32 x i * y = S at *
    have hT8 : hi W32 T 8 < 2 := by rw [hi8_eq]; exact Nat.div_lt_of_lt_mul (by omega)
    have hd8 : dg W32 T 8 = hi W32 T 8 := Nat.mod_eq_of_lt (Nat.lt_of_lt_of_le hT8 (by decide))
    have hS8 : c + dg W32 T 8 = hi W32 S 8 := by rw [hk, hi8_lt (show y < W256 by omega), Nat.mul_zero, hd8]; omega
    have hf8 : fillN (t9 T u) (dg W32 S) 8 8 = dg W32 T 8 := (fillN_at (Nat.le_refl _)).trans (t9_lo (by omega))
    have hF8 := dlt T 8
    rw [← hf8] at hF8
    have hc32' : c < 4294967296 := hc32
    have hS9 : hi W32 S 9 = dg W32 S 9 := by
      have h9 : hi W32 S 9 = hi W32 S 8 / 4294967296 := hi_succ _ _ _
      exact (Nat.mod_eq_of_lt (by unfold W32 at *; omega)).symm
    repeat' (first | (apply Wl.indexA (j := 8); exact rfl; exact rfl; exact rfl; (decide)) | (apply Wl.indexA (j := 9); exact rfl; exact rfl; exact rfl; (decide)) | (apply Wl.loadN; exact rfl; exact rfl; (repeat (first | exact List.Mem.head _ | apply List.Mem.tail)); (omega)) | (apply Wl.storeN; exact rfl; exact rfl; (repeat (first | apply HSet.here | apply HSet.there)); (omega)) | (apply Wl.addNU; exact rfl; exact rfl; exact rfl; (first | assumption | omega)) | (apply Wl.shr32; exact rfl; exact rfl; exact rfl) | (apply Wl.convN32 (k := .u64); exact rfl; exact rfl) | (apply Wl.move; exact rfl; exact rfl) | (apply Wl.assign; exact rfl; exact rfl) | (apply Wl.lss; exact rfl; exact rfl; exact rfl) | (apply Wl.convU64; exact rfl; exact rfl; (constructor <;> omega)) | (apply Wl.nil) | (apply St.seq) | (apply St.region) | (apply St.condF; exact rfl; (first | with_reducible rfl | with_reducible assumption | decide)) | (apply St.exit) | (apply Gt.next) | (apply Gt.thenExit) | (apply Gt.inExit) | (apply Wl.splitP; exact rfl; exact rfl; all_goals (intros; try (exfalso; omega))) | (apply Wl.splitB; exact rfl; exact rfl; all_goals intros) | (apply St.condP; exact rfl; all_goals (intros; try (exfalso; omega))) | (apply St.condB; exact rfl; all_goals intros))
    have ec : cellsN .u32 10 (updN (updN (fillN (t9 T u) (dg W32 S) 8) 8 ((c + fillN (t9 T u) (dg W32 S) 8 8) % 4294967296)) 9 ((c + fillN (t9 T u) (dg W32 S) 8 8) / 4294967296 % 4294967296)) = cellsN .u32 10 (dg W32 S) := by
      rw [hf8, hS8]
      refine cellsN_congr fun j hj => ?_
      unfold updN
      split
      · rename_i e; subst e; show _ = hi W32 S (8 + 1) % W32; rw [hi_succ W32 S 8]
      · split
        · rename_i e; subst e; rfl
        · exact fillN_lo (by omega)
    refine St.cls (C' := Hp w [⟨ct, cellsN .u32 10 (dg W32 S), 102⟩, ⟨cr, cellsN .u32 8 fun _ => 0, 30⟩, ⟨cb, cellsN .u32 8 (dg W32 y), 30⟩, ⟨ca, cellsN .u32 8 (dg W32 x), 30⟩]) (fun _ h => by rw [ec] at h; exact h) ?_
    clear ec hf8 hF8 hk hc32 hc32'
    have hS0 : dg W32 S 0 = S % 4294967296 := by unfold dg; rw [hi_zero]
    rw [← hS0] at ms1 ms2 ms3
    generalize hQ : dg W32 S 0 * neg % 4294967296 = q at *
    have hq32 : q < 4294967296 := by rw [← hQ]; exact Nat.mod_lt _ (by decide)
    have hm0 := dlt m 0
    have hs0 := dlt S 0
    obtain ⟨p1, p2, p3, p4⟩ := mul_step (t := S) (x := q) (y := m) (c := 0) (i := 0) hq32 (by decide) (by simp [hi_zero])
    simp only [Nat.zero_add] at p1 p2 p3 p4
    have q2 : q * dg W32 m 0 < 18446744073709551616 := by omega
    apply St.draw
    · exact mixed
    · kernel_rfl
    · exact fun _ h => Hp.drew h
    repeat' (first | (apply Wl.indexA (j := 0); exact rfl; exact rfl; exact rfl; (decide)) | (apply Wl.loadO; exact rfl; exact rfl; exact hN; (apply Off.of; simp; omega)) | (apply Wl.loadN; exact rfl; exact rfl; (repeat (first | exact List.Mem.head _ | apply List.Mem.tail)); (omega)) | (apply Wl.mulN32; exact rfl; exact rfl; exact rfl) | (apply Wl.move; exact rfl; exact rfl) | (apply Wl.assign; exact rfl; exact rfl) | (apply Wl.nilCheck; exact rfl; exact rfl) | (apply Wl.fieldAddrZ; exact rfl; exact rfl) | (apply Wl.nilQ) | (apply St.seq) | (apply Gt.next) | (apply Wl.splitP; exact rfl; exact rfl; all_goals (intros; try (exfalso; omega))) | (apply Wl.splitB; exact rfl; exact rfl; all_goals intros) | (apply St.condP; exact rfl; all_goals (intros; try (exfalso; omega))) | (apply St.condB; exact rfl; all_goals intros))
    rw [hQ]
    apply St.draw
    · exact mixed
    · kernel_rfl
    · exact fun _ h => Hp.drew h
    repeat' (first | (apply Wl.indexA (j := 0); exact rfl; exact rfl; exact rfl; (decide)) | (apply Wl.loadME; exact rfl; exact rfl; exact hM; (apply Off.of; simp; omega); (decide)) | (apply Wl.loadN; exact rfl; exact rfl; (repeat (first | exact List.Mem.head _ | apply List.Mem.tail)); (omega)) | (apply Wl.addNU; exact rfl; exact rfl; exact rfl; (first | assumption | omega)) | (apply Wl.mulNU; exact rfl; exact rfl; exact rfl; (first | assumption | omega)) | (apply Wl.shr32; exact rfl; exact rfl; exact rfl) | (apply Wl.move; exact rfl; exact rfl) | (apply Wl.assign; exact rfl; exact rfl) | (apply Wl.nilCheck; exact rfl; exact rfl) | (apply Wl.fieldAddr0; exact rfl; exact rfl) | (apply Wl.convU64; exact rfl; exact rfl; (constructor <;> omega)) | (apply Wl.nil) | (apply Wl.nilQ) | (apply St.seq) | (apply St.block) | (apply St.region) | (apply Gt.next) | (apply Wl.splitP; exact rfl; exact rfl; all_goals (intros; try (exfalso; omega))) | (apply Wl.splitB; exact rfl; exact rfl; all_goals intros) | (apply St.condP; exact rfl; all_goals (intros; try (exfalso; omega))) | (apply St.condB; exact rfl; all_goals intros))
    generalize hS2 : S + q * m = S2 at *
    have hR (j : Nat) : hi W32 (S2 / 4294967296) j = hi W32 S2 (j + 1) := hi_div W32 S2 j
    refine St.loop (σ := Nat × Nat) (fun τ => τ.1 ≤ 7 ∧ τ.2 < W32 ∧ hi W32 S2 (τ.1 + 1) = hi W32 S (τ.1 + 1) + q * hi W32 m (τ.1 + 1) + τ.2)
      (fun τ => [(0, mp b), (4, mp ca), (5, mp cb), (6, mp cr), (7, mp ct), (8, .int .i64 i), (9, .int .u64 τ.2), (11, .int .u32 q), (12, .int .i64 (τ.1 + 1 : Nat)), (16, .int .i64 i)])
      (fun τ => Hp w [⟨ct, cellsN .u32 10 (fillN (dg W32 S) (dg W32 (S2 / 4294967296)) τ.1), 102⟩, ⟨cr, cellsN .u32 8 fun _ => 0, 30⟩, ⟨cb, cellsN .u32 8 (dg W32 y), 30⟩, ⟨ca, cellsN .u32 8 (dg W32 x), 30⟩])
      (fun τ => 7 - τ.1) (0, (q * dg W32 m 0 + dg W32 S 0) / 4294967296) ⟨by simp, p4, p3⟩ (by (repeat (first | exact Sub.nil | apply Sub.cons rfl))) (fun _ h => by simpa only [fillN_zero] using h) ?_
    clear p1 p2 p3 p4 q2
    rintro ⟨k, c⟩ ⟨hk7, hc32, hk⟩
    simp only at hk7 hc32 hk ⊢
    by_cases hkl : k < 7
    · have hmk := dlt m (k + 1)
      have hSk := dlt S (k + 1)
      have hf : fillN (dg W32 S) (dg W32 (S2 / 4294967296)) k (k + 1) = dg W32 S (k + 1) := fillN_at (by omega)
      rw [← hS2] at hk
      obtain ⟨p1, p2, p3, p4⟩ := mul_step hq32 hc32 hk
      rw [hS2] at p2 p3
      have p2' : (c + (q * dg W32 m (k + 1) + dg W32 S (k + 1))) % 4294967296 = dg W32 (S2 / 4294967296) k := by rw [p2]; unfold dg; rw [hR]
      rw [← hf] at p1 hSk
      have q1 : q * dg W32 m (k + 1) + fillN (dg W32 S) (dg W32 (S2 / 4294967296)) k (k + 1) < 18446744073709551616 := by omega
      have q2 : q * dg W32 m (k + 1) < 18446744073709551616 := by omega
      repeat' (first | (apply Wl.predI; exact rfl; exact rfl; exact rfl; (omega)) | (apply Wl.loadME; exact rfl; exact rfl; exact hM; (apply Off.of; simp; omega); (omega)) | (apply Wl.indexA; exact rfl; exact rfl; exact rfl; (omega)) | (apply Wl.loadN; exact rfl; exact rfl; (repeat (first | exact List.Mem.head _ | apply List.Mem.tail)); (omega)) | (apply Wl.storeN; exact rfl; exact rfl; (repeat (first | apply HSet.here | apply HSet.there)); (omega)) | (apply Wl.addNU; exact rfl; exact rfl; exact rfl; (first | assumption | omega)) | (apply Wl.mulNU; exact rfl; exact rfl; exact rfl; (first | assumption | omega)) | (apply Wl.shr32; exact rfl; exact rfl; exact rfl) | (apply Wl.convN32 (k := .u64); exact rfl; exact rfl) | (apply Wl.move; exact rfl; exact rfl) | (apply Wl.assign; exact rfl; exact rfl) | (apply Wl.nilCheck; exact rfl; exact rfl) | (apply Wl.fieldAddr0; exact rfl; exact rfl) | (apply Wl.lss; exact rfl; exact rfl; exact rfl) | (apply Wl.addI; exact rfl; exact rfl; exact rfl; (constructor <;> omega)) | (apply Wl.convU64; exact rfl; exact rfl; (constructor <;> omega)) | (apply Wl.nil) | (apply Wl.nilQ) | (apply St.seq) | (apply St.block) | (apply St.region) | (apply St.draw; exact mixed; (kernel_rfl); exact (fun _ h => Hp.drew h)) | (apply St.skip) | (apply Gt.next) | (apply Gt.inNormal) | (apply Wl.splitP; exact rfl; exact rfl; all_goals (intros; try (exfalso; omega))) | (apply Wl.splitB; exact rfl; exact rfl; all_goals intros) | (apply St.condP; exact rfl; all_goals (intros; try (exfalso; omega))) | (apply St.condB; exact rfl; all_goals intros))
      rw [hf, p2']
      apply Gt.round (k + 1, (c + (q * dg W32 m (k + 1) + dg W32 S (k + 1))) / 4294967296)
      rotate_left
      · simp only; omega
      · (repeat (first | exact Sub.nil | apply Sub.cons rfl))
      · exact fun _ h => by rw [fillN_step] at h; exact h
      · exact ⟨by simp only; omega, p4, p3⟩
    · have hke : k = 7 := by omega
      subst hke
      have hc32' : c < 4294967296 := hc32
      have f8 : fillN (dg W32 S) (dg W32 (S2 / 4294967296)) 7 8 = dg W32 S 8 := fillN_at (by omega)
      have f9 : fillN (dg W32 S) (dg W32 (S2 / 4294967296)) 7 9 = dg W32 S 9 := fillN_at (by omega)
      have h8 := dlt S 8
      have h9 := dlt S 9
      have h8' := h8
      have h9' := h9
      rw [← f8] at h8'
      rw [← f9] at h9'
      repeat' (first | (apply Wl.indexA (j := 7); exact rfl; exact rfl; exact rfl; (decide)) | (apply Wl.indexA (j := 8); exact rfl; exact rfl; exact rfl; (decide)) | (apply Wl.indexA (j := 9); exact rfl; exact rfl; exact rfl; (decide)) | (apply Wl.loadN; exact rfl; exact rfl; (repeat (first | exact List.Mem.head _ | apply List.Mem.tail)); (omega)) | (apply Wl.storeN; exact rfl; exact rfl; (repeat (first | apply HSet.here | apply HSet.there)); (omega)) | (apply Wl.addNU; exact rfl; exact rfl; exact rfl; (first | assumption | omega)) | (apply Wl.shr32; exact rfl; exact rfl; exact rfl) | (apply Wl.convN32 (k := .u64); exact rfl; exact rfl) | (apply Wl.addN32; exact rfl; exact rfl; exact rfl) | (apply Wl.move; exact rfl; exact rfl) | (apply Wl.assign; exact rfl; exact rfl) | (apply Wl.lss; exact rfl; exact rfl; exact rfl) | (apply Wl.addI; exact rfl; exact rfl; exact rfl; (constructor <;> omega)) | (apply Wl.convU64; exact rfl; exact rfl; (constructor <;> omega)) | (apply Wl.nil) | (apply St.seq) | (apply St.region) | (apply St.condF; exact rfl; (first | with_reducible rfl | with_reducible assumption | decide)) | (apply St.exit) | (apply Gt.next) | (apply Gt.thenExit) | (apply Gt.inNormal) | (apply Gt.inExit) | (apply Wl.splitP; exact rfl; exact rfl; all_goals (intros; try (exfalso; omega))) | (apply Wl.splitB; exact rfl; exact rfl; all_goals intros) | (apply St.condP; exact rfl; all_goals (intros; try (exfalso; omega))) | (apply St.condB; exact rfl; all_goals intros))
      have hR8 : hi W32 (S2 / 4294967296) 8 < 2 := by rw [hi8_eq]; exact Nat.div_lt_of_lt_mul (by omega)
      have hs := hi_eq W32 S 8
      rw [hS9] at hs
      have hs : hi W32 S 8 = 4294967296 * dg W32 S 9 + dg W32 S 8 := hs
      have hk' : hi W32 S2 8 = c + dg W32 S 8 + 4294967296 * dg W32 S 9 := by
        rw [hk, hs, hi8_lt hm, Nat.mul_zero]
        omega
      have hR7 : dg W32 (S2 / 4294967296) 7 = (c + dg W32 S 8) % 4294967296 := by
        show hi W32 (S2 / 4294967296) 7 % 4294967296 = _
        rw [hR, hk']; omega
      have hR8' : hi W32 (S2 / 4294967296) 8 = (c + dg W32 S 8) / 4294967296 + dg W32 S 9 := by
        rw [hR, hi_succ W32 S2 8, hk']
        show (c + dg W32 S 8 + 4294967296 * dg W32 S 9) / 4294967296 = _
        omega
      have hR8d : dg W32 (S2 / 4294967296) 8 = (dg W32 S 9 + (c + dg W32 S 8) / 4294967296 % 4294967296) % 4294967296 := by
        show hi W32 (S2 / 4294967296) 8 % 4294967296 = _
        rw [hR8'] at hR8 ⊢
        omega
      have ec : cellsN .u32 10 (updN (updN (fillN (dg W32 S) (dg W32 (S2 / 4294967296)) 7) 7 ((c + dg W32 S 8) % 4294967296)) 8 ((dg W32 S 9 + (c + dg W32 S 8) / 4294967296 % 4294967296) % 4294967296)) = cellsN .u32 10 (t9 (S2 / 4294967296) (dg W32 S 9)) := by
        refine cellsN_congr fun j hj => ?_
        unfold updN t9
        by_cases e8 : j = 8
        · subst e8; simp [hR8d]
        · by_cases e7 : j = 7
          · subst e7; simp [hR7]
          · rw [if_neg e8, if_neg e7]
            by_cases e9 : j < 9
            · rw [if_pos e9]; exact fillN_lo (by omega)
            · have : j = 9 := by omega
              subst this
              rw [if_neg e9]; exact f9
      rw [f8, f9]
      apply Gt.round (i + 1, S2 / 4294967296, dg W32 S 9)
      rotate_left
      · simp only; omega
      · (repeat (first | exact Sub.nil | apply Sub.cons rfl))
      · exact fun _ h => by rw [ec] at h; exact h
      · exact ⟨by simp only; omega, ms2, ms3⟩
  · have : i = 8 := by omega
    subst this
    have e8 : cellsN .u32 8 (t9 T u) = cellsN .u32 8 (dg W32 (T % W256)) := by rw [d8_mod]; exact cellsN_congr fun j hj => t9_lo (by omega)
    have hT8 : hi W32 T 8 < 2 := by rw [hi8_eq]; exact Nat.div_lt_of_lt_mul (by omega)
    have e9 : t9 T u 8 = T / W256 := by rw [t9_lo (by decide), ← hi8_eq]; exact Nat.mod_eq_of_lt (Nat.lt_of_lt_of_le hT8 (by decide))
    have hfin : T % m = x * y * rinv m % m := unW hodd (by
      rw [two56, Nat.mod_eq_of_lt hx] at hTm
      exact hTm)
    repeat' (first | (apply Wl.lss; exact rfl; exact rfl; exact rfl) | (apply Wl.nil) | (apply St.seq) | (apply St.region) | (apply St.condF; exact rfl; (first | with_reducible rfl | with_reducible assumption | decide)) | (apply St.exit) | (apply Gt.next) | (apply Gt.thenExit) | (apply Gt.inExit) | (apply Wl.splitP; exact rfl; exact rfl; all_goals (intros; try (exfalso; omega))) | (apply Wl.splitB; exact rfl; exact rfl; all_goals intros) | (apply St.condP; exact rfl; all_goals (intros; try (exfalso; omega))) | (apply St.condB; exact rfl; all_goals intros))
    refine St.tree (Hp w [_]) mixed (fun _ h => ⟨Hp.drew h, hpHead (Hp.drew h) (by simp; omega)⟩) ?_
    refine Mt.pure 0 (by decide +kernel) (by exact rfl) (by exact rfl) (by decide +kernel) (by decide +kernel) ?_
    repeat' (first | (apply Wl.move; exact rfl; exact rfl) | (apply Wl.nilM) | (apply Wl.splitP; exact rfl; exact rfl; all_goals (intros; try (exfalso; omega))) | (apply Wl.splitB; exact rfl; exact rfl; all_goals intros) | (apply St.condP; exact rfl; all_goals (intros; try (exfalso; omega))) | (apply St.condB; exact rfl; all_goals intros))
    apply Mt.back
    refine Mt.pure 1 (by decide +kernel) (by exact rfl) (by exact rfl) (by decide +kernel) (by decide +kernel) ?_
    repeat' (first | (apply Wl.sliceArrF (h' := 8); exact rfl; exact rfl; exact rfl; (decide); (decide)) | (apply Wl.nilM) | (apply Wl.splitP; exact rfl; exact rfl; all_goals (intros; try (exfalso; omega))) | (apply Wl.splitB; exact rfl; exact rfl; all_goals intros) | (apply St.condP; exact rfl; all_goals (intros; try (exfalso; omega))) | (apply St.condB; exact rfl; all_goals intros))
    apply Mt.back
    refine Mt.pure 2 (by decide +kernel) (by exact rfl) (by exact rfl) (by decide +kernel) (by decide +kernel) ?_
    repeat' (first | (apply Wl.sliceToArr; exact rfl; exact rfl; (decide)) | (apply Wl.nilM) | (apply Wl.splitP; exact rfl; exact rfl; all_goals (intros; try (exfalso; omega))) | (apply Wl.splitB; exact rfl; exact rfl; all_goals intros) | (apply St.condP; exact rfl; all_goals (intros; try (exfalso; omega))) | (apply St.condB; exact rfl; all_goals intros))
    apply Mt.back
    refine Mt.pure 3 (by decide +kernel) (by exact rfl) (by exact rfl) (by decide +kernel) (by decide +kernel) ?_
    repeat' (first | (apply Wl.loadT; exact rfl; exact rfl; (repeat (first | exact List.Mem.head _ | apply List.Mem.tail)); (decide)) | (apply Wl.nilM) | (apply Wl.splitP; exact rfl; exact rfl; all_goals (intros; try (exfalso; omega))) | (apply Wl.splitB; exact rfl; exact rfl; all_goals intros) | (apply St.condP; exact rfl; all_goals (intros; try (exfalso; omega))) | (apply St.condB; exact rfl; all_goals intros))
    apply Mt.back
    refine Mt.pure 4 (by decide +kernel) (by exact rfl) (by exact rfl) (by decide +kernel) (by decide +kernel) ?_
    repeat' (first | (apply Wl.indexA (j := 8); exact rfl; exact rfl; exact rfl; (decide)) | (apply Wl.nilM) | (apply Wl.splitP; exact rfl; exact rfl; all_goals (intros; try (exfalso; omega))) | (apply Wl.splitB; exact rfl; exact rfl; all_goals intros) | (apply St.condP; exact rfl; all_goals (intros; try (exfalso; omega))) | (apply St.condB; exact rfl; all_goals intros))
    apply Mt.back
    refine Mt.pure 5 (by decide +kernel) (by exact rfl) (by exact rfl) (by decide +kernel) (by decide +kernel) ?_
    repeat' (first | (apply Wl.loadN; exact rfl; exact rfl; (repeat (first | exact List.Mem.head _ | apply List.Mem.tail)); (omega)) | (apply Wl.nilM) | (apply Wl.splitP; exact rfl; exact rfl; all_goals (intros; try (exfalso; omega))) | (apply Wl.splitB; exact rfl; exact rfl; all_goals intros) | (apply St.condP; exact rfl; all_goals (intros; try (exfalso; omega))) | (apply St.condB; exact rfl; all_goals intros))
    apply Mt.back
    rw [e8, e9]
    refine Mt.eff1 (i := 6) (by decide +kernel) (by exact rfl) ?_
    apply Wl.callQ
    exact rfl
    (repeat (first | exact Evs.nil | apply Evs.cons rfl))
    · intro wq hq
      refine (modFit b m (T % W256) (T / W256) wq (hM.hp hq (by apply Off.of; simp; omega)) hm (Nat.mod_lt _ (by decide)) (by rw [← hi8_eq]; omega) (by rw [Nat.mod_add_div]; exact hT)).mono ?_
      rintro e wr ⟨rfl, hr⟩
      exact ⟨rfl, hq.keep hr⟩
    rw [Nat.mod_add_div, hfin]
    repeat' (first | (apply Wl.nil) | (apply Wl.splitP; exact rfl; exact rfl; all_goals (intros; try (exfalso; omega))) | (apply Wl.splitB; exact rfl; exact rfl; all_goals intros) | (apply St.condP; exact rfl; all_goals (intros; try (exfalso; omega))) | (apply St.condB; exact rfl; all_goals intros))
    refine Mt.backE (fun _ h => hpHead h (by simp; omega)) ?_
    refine Mt.eff1 (i := 7) (by decide +kernel) (by exact rfl) ?_
    repeat' (first | (apply Wl.storeW; exact rfl; exact rfl; (repeat (first | apply HSet.here | apply HSet.there)); exact rfl; (first | exact cellsN_len _ _ _ | exact rfl)) | (apply Wl.nil) | (apply Wl.splitP; exact rfl; exact rfl; all_goals (intros; try (exfalso; omega))) | (apply Wl.splitB; exact rfl; exact rfl; all_goals intros) | (apply St.condP; exact rfl; all_goals (intros; try (exfalso; omega))) | (apply St.condB; exact rfl; all_goals intros))
    refine Mt.backE (fun _ h => hpHead h (by simp; omega)) ?_
    refine Mt.toGt (by decide +kernel) ?_
    repeat' (first | (apply Gt.outN; exact rfl; infer_instance; exact rfl; (repeat (first | exact List.Mem.head _ | apply List.Mem.tail)); exact rfl; intro w' hp) | (apply St.ret) | (apply Gt.next) | (apply Wl.splitP; exact rfl; exact rfl; all_goals (intros; try (exfalso; omega))) | (apply Wl.splitB; exact rfl; exact rfl; all_goals intros) | (apply St.condP; exact rfl; all_goals (intros; try (exfalso; omega))) | (apply St.condB; exact rfl; all_goals intros))
    exact ⟨rfl, hp.drop (by simp; omega)⟩
end Go.Proofs.YtfaobdakpbpkbaaDoor
end
section
/-
  mont.Mod: low, In, Out, One, Reduce, Modulus, Mul, Pow, Inv. Conditions: the receiver is a modulus that New made.
-/
namespace Go.Proofs.YtfaobdakpbpkbaaDoor
open Go.RowKit Go.Pt
structure ModV (w : World) (b m : Nat) : Prop where
  neg : ∃ neg : Nat, w.cell? ⟨b, 8, none⟩ = some (.int .u32 neg) ∧ (m * neg + 1) % 4294967296 = 0
  mod : ArrAt w b 0 .u32 8 (dg W32 m)
  one : ArrAt w b 9 .u32 8 (dg W32 (W256 % m))
  two : ArrAt w b 17 .u32 8 (dg W32 (W256 * W256 % m))
  lt : m < W256
  odd : m % 2 = 1
  gt : 1 < m
theorem ModV.upd {S : Nat → Prop} {w w' : World} {b m : Nat} (h : ModV w b m) (u : Upd S w w') (hs : ¬ S b) : ModV w' b m := by
  obtain ⟨⟨neg, h1, h2⟩, h3, h4, h5, h6, h7, h8⟩ := h
  exact ⟨⟨neg, u.cell h1 hs, h2⟩, h3.upd u hs, h4.upd u hs, h5.upd u hs, h6, h7, h8⟩
theorem ModV.hp {w w' : World} {H : List Blk} {b m : Nat} (h : ModV w b m) (u : Hp w H w') (hs : Off H b) : ModV w' b m := h.upd u.upd fun y => y hs
theorem ModV.blk {w : World} {b m : Nat} (h : ModV w b m) : b < w.heap.size := h.mod.lt (by decide)
theorem modTimes' {b m x y : Nat} {w : World} (h : ModV w b m) (hx : x < W256) (hy : y < m) :
    Calls Tryd.prog 27 #[mp b, numV x, numV y] w fun e w' => e = .returned (numV (x * y * rinv m % m)) ∧ Hp w [] w' := by
  obtain ⟨⟨neg, h1, h2⟩, h3, _, _, h6, h7, _⟩ := h
  exact modTimes b m neg x y w h3 h1 h2 h6 h7 hx hy
theorem z0 : cellsN .u32 8 (fun _ => 0) = cellsN .u32 8 (dg W32 0) := cellsN_congr fun j _ => by unfold dg hi; simp
set_option maxHeartbeats 1000000 in
theorem modLow (b m a : Nat) (w : World) (hM : ArrAt w b 0 .u32 8 (dg W32 m)) (hm : m < W256) (h1 : 1 < m) (ha : a < W256) :
    Calls Tryd.prog 61 #[mp b, numV a] w fun e w' => e = .returned (numV (a % m)) ∧ Hp w [] w' := by
  have hb := hM.lt (by decide)
  refine enter (args := [_, _]) (Γ := [(0, _), (1, _)]) Tryd.func61 Tryd.ntmps61 rfl (of_decide_eq_true rfl) (.cons rfl (.cons rfl .nil)) ?_
  repeat' (first | (apply Wl.loadM; exact rfl; exact rfl; exact hM; (apply Off.of; simp; omega); exact rfl) | (apply Wl.loadW; exact rfl; exact rfl; (repeat (first | exact List.Mem.head _ | apply List.Mem.tail)); exact rfl) | (apply Wl.boxN; exact rfl; exact rfl; intro c hc ho) | (apply Wl.allocN; exact rfl; (first | exact z8 | exact z16 | exact z17 | exact z33 | exact z10); intro c hc ho) | (apply Wl.move; exact rfl; exact rfl) | (apply Wl.nilCheck; exact rfl; exact rfl) | (apply Wl.fieldAddr0; exact rfl; exact rfl) | (apply Wl.nil) | (apply St.seq) | (apply St.region) | (apply St.draw; exact mixed; (kernel_rfl); exact (fun _ h => Hp.drew h)) | (apply Gt.next) | (apply Wl.splitP; exact rfl; exact rfl; all_goals (intros; try (exfalso; omega))) | (apply Wl.splitB; exact rfl; exact rfl; all_goals intros) | (apply St.condP; exact rfl; all_goals (intros; try (exfalso; omega))) | (apply St.condB; exact rfl; all_goals intros))
  apply Wl.callQQ
  exact rfl
  (repeat (first | exact Evs.nil | apply Evs.cons rfl))
  · intro wq hq
    refine (limbCompare a m ha hm wq).mono ?_
    rintro e wr ⟨rfl, hr⟩
    exact ⟨rfl, hq.keep hr⟩
  by_cases hlt : a < m
  · have e : cmpN a m = -1 := if_pos hlt
    rw [e]
    repeat' (first | (apply Gt.outN; exact rfl; infer_instance; exact rfl; (repeat (first | exact List.Mem.head _ | apply List.Mem.tail)); exact rfl; intro w' hp) | (apply Wl.loadW; exact rfl; exact rfl; (repeat (first | exact List.Mem.head _ | apply List.Mem.tail)); exact rfl) | (apply Wl.storeW; exact rfl; exact rfl; (repeat (first | apply HSet.here | apply HSet.there)); exact rfl; (first | exact cellsN_len _ _ _ | exact rfl)) | (apply Wl.lss; exact rfl; exact rfl; exact rfl) | (apply Wl.nil) | (apply Wl.nilQ) | (apply St.seq) | (apply St.region) | (apply St.condT; exact rfl; (first | with_reducible rfl | with_reducible assumption | decide)) | (apply St.ret) | (apply Gt.next) | (apply Gt.thenRet) | (apply Wl.splitP; exact rfl; exact rfl; all_goals (intros; try (exfalso; omega))) | (apply Wl.splitB; exact rfl; exact rfl; all_goals intros) | (apply St.condP; exact rfl; all_goals (intros; try (exfalso; omega))) | (apply St.condB; exact rfl; all_goals intros))
    refine ⟨?_, hp.drop (by simp; omega)⟩
    rw [Nat.mod_eq_of_lt hlt]
  have e : ¬ cmpN a m < 0 := by unfold cmpN; rw [if_neg hlt]; split <;> decide
  repeat' (first | (apply Wl.allocN; exact rfl; (first | exact z8 | exact z16 | exact z17 | exact z33 | exact z10); intro c hc ho) | (apply Wl.assign; exact rfl; exact rfl) | (apply Wl.lss; exact rfl; exact rfl; exact rfl) | (apply Wl.nil) | (apply Wl.nilQ) | (apply St.seq) | (apply St.block) | (apply St.region) | (apply St.skip) | (apply Gt.next) | (apply Wl.splitP; exact rfl; exact rfl; all_goals (intros; try (exfalso; omega))) | (apply Wl.splitB; exact rfl; exact rfl; all_goals intros) | (apply St.condP; exact rfl; all_goals (intros; try (exfalso; omega))) | (apply St.condB; exact rfl; all_goals intros))
  rename_i ca hca hoa cr hcr hor _ _
  generalize c = cx at *
  have e256 : a / 2 ^ 256 % m = 0 := by
    rw [Nat.div_eq_of_lt (Nat.lt_of_lt_of_eq ha (by decide)), Nat.zero_mod]
  refine St.loop (σ := Nat) (fun n => n ≤ 256)
    (fun n => [(0, mp b), (3, mp ca), (4, mp cr), (5, mp cx), (6, .int .i64 ((n : Int) - 1))])
    (fun n => Hp w [⟨cx, cellsN .u32 8 (dg W32 (a / 2 ^ n % m)), 30⟩, ⟨cr, cellsN .u32 8 fun _ => 0, 30⟩, ⟨ca, cellsN .u32 8 (dg W32 a), 30⟩])
    (fun n => n) 256 (Nat.le_refl _) (by (repeat (first | exact Sub.nil | apply Sub.cons rfl))) (fun _ h => by
      show Hp w [⟨cx, cellsN .u32 8 (dg W32 (a / 2 ^ 256 % m)), _⟩, _, _] _
      rw [e256, ← z0]; exact h) ?_
  intro n hn
  cases n with
  | zero =>
    rw [Nat.pow_zero, Nat.div_one]
    repeat' (first | (apply Gt.outN; exact rfl; infer_instance; exact rfl; (repeat (first | exact List.Mem.head _ | apply List.Mem.tail)); exact rfl; intro w' hp) | (apply Wl.loadW; exact rfl; exact rfl; (repeat (first | exact List.Mem.head _ | apply List.Mem.tail)); exact rfl) | (apply Wl.storeW; exact rfl; exact rfl; (repeat (first | apply HSet.here | apply HSet.there)); exact rfl; (first | exact cellsN_len _ _ _ | exact rfl)) | (apply Wl.move; exact rfl; exact rfl) | (apply Wl.geq; exact rfl; exact rfl; exact rfl) | (apply Wl.nil) | (apply St.seq) | (apply St.region) | (apply St.condF; exact rfl; (first | with_reducible rfl | with_reducible assumption | decide)) | (apply St.ret) | (apply St.exit) | (apply Gt.next) | (apply Gt.thenExit) | (apply Gt.inExit) | (apply Wl.splitP; exact rfl; exact rfl; all_goals (intros; try (exfalso; omega))) | (apply Wl.splitB; exact rfl; exact rfl; all_goals intros) | (apply St.condP; exact rfl; all_goals (intros; try (exfalso; omega))) | (apply St.condB; exact rfl; all_goals intros))
    exact ⟨rfl, hp.drop (by simp; omega)⟩
  | succ i =>
    have ei : (((i + 1 : Nat) : Int) - 1) = (i : Int) := by omega
    rw [ei]
    have hr := Nat.mod_lt (a / 2 ^ (i + 1)) (show 0 < m by omega)
    have hh := horner a m i
    generalize hre : a / 2 ^ (i + 1) % m = r at *
    repeat' (first | (apply Wl.loadW; exact rfl; exact rfl; (repeat (first | exact List.Mem.head _ | apply List.Mem.tail)); exact rfl) | (apply Wl.move; exact rfl; exact rfl) | (apply Wl.geq; exact rfl; exact rfl; exact rfl) | (apply Wl.nil) | (apply St.seq) | (apply St.block) | (apply St.region) | (apply St.skip) | (apply Gt.next) | (apply Wl.splitP; exact rfl; exact rfl; all_goals (intros; try (exfalso; omega))) | (apply Wl.splitB; exact rfl; exact rfl; all_goals intros) | (apply St.condP; exact rfl; all_goals (intros; try (exfalso; omega))) | (apply St.condB; exact rfl; all_goals intros))
    apply Wl.callQ
    exact rfl
    (repeat (first | exact Evs.nil | apply Evs.cons rfl))
    · intro wq hq
      refine (modAdd b m r r wq (hM.hp hq (by apply Off.of; simp; omega)) hm hr hr).mono ?_
      rintro e wr ⟨rfl, hr⟩
      exact ⟨rfl, hq.keep hr⟩
    repeat' (first | (apply Wl.loadW; exact rfl; exact rfl; (repeat (first | exact List.Mem.head _ | apply List.Mem.tail)); exact rfl) | (apply Wl.storeW; exact rfl; exact rfl; (repeat (first | apply HSet.here | apply HSet.there)); exact rfl; (first | exact cellsN_len _ _ _ | exact rfl)) | (apply Wl.move; exact rfl; exact rfl) | (apply Wl.nil) | (apply St.seq) | (apply St.region) | (apply Gt.next) | (apply Wl.splitP; exact rfl; exact rfl; all_goals (intros; try (exfalso; omega))) | (apply Wl.splitB; exact rfl; exact rfl; all_goals intros) | (apply St.condP; exact rfl; all_goals (intros; try (exfalso; omega))) | (apply St.condB; exact rfl; all_goals intros))
    apply Wl.callQ
    exact rfl
    (repeat (first | exact Evs.nil | apply Evs.cons rfl))
    · intro wq hq
      refine (limbBit a i (by omega) wq).mono ?_
      rintro e wr ⟨rfl, hr⟩
      exact ⟨rfl, hq.keep hr⟩
    have hb2 := Nat.mod_lt (a / 2 ^ i) (show 0 < 2 by decide)
    by_cases hbit : a / 2 ^ i % 2 = 1
    · rw [hbit]
      repeat' (first | (apply Wl.loadW; exact rfl; exact rfl; (repeat (first | exact List.Mem.head _ | apply List.Mem.tail)); exact rfl) | (apply Wl.buildN; exact rfl; (repeat (first | exact Parts.nil | apply Parts.cons rfl)); (repeat (first | apply Fills.nil | (apply Fills.one; exact rfl; exact rfl; (repeat (first | apply LSet.z | apply LSet.s))) | (apply Fills.agg; exact rfl; exact rfl; (repeat (first | apply LPut.s | apply LPut.z | apply LOver.nil | apply LOver.cons))))); (first | exact one8 | exact zero8 | exact two8)) | (apply Wl.move; exact rfl; exact rfl) | (apply Wl.eql; exact rfl; exact rfl; exact rfl) | (apply Wl.nil) | (apply St.region) | (apply St.condT; exact rfl; (first | with_reducible rfl | with_reducible assumption | decide)) | (apply Gt.next) | (apply Wl.splitP; exact rfl; exact rfl; all_goals (intros; try (exfalso; omega))) | (apply Wl.splitB; exact rfl; exact rfl; all_goals intros) | (apply St.condP; exact rfl; all_goals (intros; try (exfalso; omega))) | (apply St.condB; exact rfl; all_goals intros))
      apply Wl.callQ
      exact rfl
      (repeat (first | exact Evs.nil | apply Evs.cons rfl))
      · intro wq hq
        refine (modAdd b m ((r + r) % m) 1 wq (hM.hp hq (by apply Off.of; simp; omega)) hm (Nat.mod_lt _ (by omega)) h1).mono ?_
        rintro e wr ⟨rfl, hr⟩
        exact ⟨rfl, hq.keep hr⟩
      have e2 : ((r + r) % m + 1) % m = a / 2 ^ i % m := by rw [← hh, hbit, Nat.mod_add_mod, Nat.two_mul]
      rw [e2]
      repeat' (first | (apply Wl.storeW; exact rfl; exact rfl; (repeat (first | apply HSet.here | apply HSet.there)); exact rfl; (first | exact cellsN_len _ _ _ | exact rfl)) | (apply Wl.move; exact rfl; exact rfl) | (apply Wl.assign; exact rfl; exact rfl) | (apply Wl.subI; exact rfl; exact rfl; exact rfl; (constructor <;> omega)) | (apply Wl.nil) | (apply St.region) | (apply Gt.next) | (apply Gt.inNormal) | (apply Wl.splitP; exact rfl; exact rfl; all_goals (intros; try (exfalso; omega))) | (apply Wl.splitB; exact rfl; exact rfl; all_goals intros) | (apply St.condP; exact rfl; all_goals (intros; try (exfalso; omega))) | (apply St.condB; exact rfl; all_goals intros))
      apply Gt.round i
      rotate_left
      · simp
      · (repeat (first | exact Sub.nil | apply Sub.cons rfl))
      · exact fun _ h => h
      · omega
    · have hbit0 : a / 2 ^ i % 2 = 0 := by omega
      have e2 : (r + r) % m = a / 2 ^ i % m := by rw [← hh, hbit0, Nat.add_zero, Nat.two_mul]
      rw [hbit0, e2]
      repeat' (first | (apply Wl.move; exact rfl; exact rfl) | (apply Wl.assign; exact rfl; exact rfl) | (apply Wl.eql; exact rfl; exact rfl; exact rfl) | (apply Wl.subI; exact rfl; exact rfl; exact rfl; (constructor <;> omega)) | (apply Wl.nil) | (apply St.region) | (apply St.condF; exact rfl; (first | with_reducible rfl | with_reducible assumption | decide)) | (apply St.skip) | (apply Gt.next) | (apply Gt.inNormal) | (apply Wl.splitP; exact rfl; exact rfl; all_goals (intros; try (exfalso; omega))) | (apply Wl.splitB; exact rfl; exact rfl; all_goals intros) | (apply St.condP; exact rfl; all_goals (intros; try (exfalso; omega))) | (apply St.condB; exact rfl; all_goals intros))
      apply Gt.round i
      rotate_left
      · simp
      · (repeat (first | exact Sub.nil | apply Sub.cons rfl))
      · exact fun _ h => h
      · omega
end Go.Proofs.YtfaobdakpbpkbaaDoor
end
section
/-
  mont.Mod: In, Out, One, Reduce, Modulus, Mul, Pow, Inv. Conditions: the receiver is a modulus that New made.
-/
namespace Go.Proofs.YtfaobdakpbpkbaaDoor
open Go.RowKit Go.Pt
theorem in_eq {m a : Nat} (ho : m % 2 = 1) : (a % m) * (W256 * W256 % m) * rinv m % m = a * W256 % m := by
  have e : (a % m) * (W256 * W256 % m) * rinv m % m = a * W256 * W256 * rinv m % m := by
    rw [Nat.mul_assoc a]
    simp only [Nat.mul_mod, Nat.mod_mod]
  rw [e]; exact inW ho
set_option maxHeartbeats 1000000 in
theorem modIn (b m a : Nat) (w : World) (h : ModV w b m) (ha : a < W256) :
    Calls Tryd.prog 25 #[mp b, numV a] w fun e w' => e = .returned (numV (a * W256 % m)) ∧ Hp w [] w' := by
  have hb := h.blk
  refine enter (args := [_, _]) (Γ := [(0, _), (1, _)]) Tryd.func25 Tryd.ntmps25 rfl (of_decide_eq_true rfl) (.cons rfl (.cons rfl .nil)) ?_
  repeat' (first | (apply Wl.boxN; exact rfl; exact rfl; intro c hc ho) | (apply Wl.allocN; exact rfl; (first | exact z8 | exact z16 | exact z17 | exact z33 | exact z10); intro c hc ho) | (apply Wl.move; exact rfl; exact rfl) | (apply Wl.eqlPN; exact rfl; exact rfl; exact rfl) | (apply Wl.nil) | (apply St.seq) | (apply St.region) | (apply St.condF; exact rfl; (first | with_reducible rfl | with_reducible assumption | decide)) | (apply St.skip) | (apply Gt.next) | (apply Wl.splitP; exact rfl; exact rfl; all_goals (intros; try (exfalso; omega))) | (apply Wl.splitB; exact rfl; exact rfl; all_goals intros) | (apply St.condP; exact rfl; all_goals (intros; try (exfalso; omega))) | (apply St.condB; exact rfl; all_goals intros))
  refine St.tree (Hp w [_]) mixed (fun _ h => ⟨Hp.drew h, hpPop (Hp.drew h) (by simp only; omega)⟩) ?_
  have h2 := h.two
  refine Mt.pure 0 (by decide +kernel) (by exact rfl) (by exact rfl) (by decide +kernel) (by decide +kernel) ?_
  repeat' (first | (apply Wl.move; exact rfl; exact rfl) | (apply Wl.nilM) | (apply Wl.splitP; exact rfl; exact rfl; all_goals (intros; try (exfalso; omega))) | (apply Wl.splitB; exact rfl; exact rfl; all_goals intros) | (apply St.condP; exact rfl; all_goals (intros; try (exfalso; omega))) | (apply St.condB; exact rfl; all_goals intros))
  apply Mt.back
  refine Mt.pure 1 (by decide +kernel) (by exact rfl) (by exact rfl) (by decide +kernel) (by decide +kernel) ?_
  repeat' (first | (apply Wl.move; exact rfl; exact rfl) | (apply Wl.nilM) | (apply Wl.splitP; exact rfl; exact rfl; all_goals (intros; try (exfalso; omega))) | (apply Wl.splitB; exact rfl; exact rfl; all_goals intros) | (apply St.condP; exact rfl; all_goals (intros; try (exfalso; omega))) | (apply St.condB; exact rfl; all_goals intros))
  apply Mt.back
  refine Mt.pure 2 (by decide +kernel) (by exact rfl) (by exact rfl) (by decide +kernel) (by decide +kernel) ?_
  repeat' (first | (apply Wl.loadW; exact rfl; exact rfl; (repeat (first | exact List.Mem.head _ | apply List.Mem.tail)); exact rfl) | (apply Wl.nilM) | (apply Wl.splitP; exact rfl; exact rfl; all_goals (intros; try (exfalso; omega))) | (apply Wl.splitB; exact rfl; exact rfl; all_goals intros) | (apply St.condP; exact rfl; all_goals (intros; try (exfalso; omega))) | (apply St.condB; exact rfl; all_goals intros))
  apply Mt.back
  refine Mt.pure 4 (by decide +kernel) (by exact rfl) (by exact rfl) (by decide +kernel) (by decide +kernel) ?_
  repeat' (first | (apply Wl.move; exact rfl; exact rfl) | (apply Wl.nilM) | (apply Wl.splitP; exact rfl; exact rfl; all_goals (intros; try (exfalso; omega))) | (apply Wl.splitB; exact rfl; exact rfl; all_goals intros) | (apply St.condP; exact rfl; all_goals (intros; try (exfalso; omega))) | (apply St.condB; exact rfl; all_goals intros))
  apply Mt.back
  refine Mt.pure 5 (by decide +kernel) (by exact rfl) (by exact rfl) (by decide +kernel) (by decide +kernel) ?_
  repeat' (first | (apply Wl.nilCheck; exact rfl; exact rfl) | (apply Wl.nilM) | (apply Wl.splitP; exact rfl; exact rfl; all_goals (intros; try (exfalso; omega))) | (apply Wl.splitB; exact rfl; exact rfl; all_goals intros) | (apply St.condP; exact rfl; all_goals (intros; try (exfalso; omega))) | (apply St.condB; exact rfl; all_goals intros))
  apply Mt.back
  refine Mt.pure 6 (by decide +kernel) (by exact rfl) (by exact rfl) (by decide +kernel) (by decide +kernel) ?_
  repeat' (first | (apply Wl.fieldAddrZ; exact rfl; exact rfl) | (apply Wl.nilM) | (apply Wl.splitP; exact rfl; exact rfl; all_goals (intros; try (exfalso; omega))) | (apply Wl.splitB; exact rfl; exact rfl; all_goals intros) | (apply St.condP; exact rfl; all_goals (intros; try (exfalso; omega))) | (apply St.condB; exact rfl; all_goals intros))
  apply Mt.back
  refine Mt.pure 7 (by decide +kernel) (by exact rfl) (by exact rfl) (by decide +kernel) (by decide +kernel) ?_
  repeat' (first | (apply Wl.loadM; exact rfl; exact rfl; exact h2; (apply Off.of; simp; omega); exact rfl) | (apply Wl.nilM) | (apply Wl.splitP; exact rfl; exact rfl; all_goals (intros; try (exfalso; omega))) | (apply Wl.splitB; exact rfl; exact rfl; all_goals intros) | (apply St.condP; exact rfl; all_goals (intros; try (exfalso; omega))) | (apply St.condB; exact rfl; all_goals intros))
  apply Mt.back
  refine Mt.eff1 (i := 3) (by decide +kernel) (by exact rfl) ?_
  apply Wl.callQ
  exact rfl
  (repeat (first | exact Evs.nil | apply Evs.cons rfl))
  · intro wq hq
    refine (modLow b m a wq (h.mod.hp hq (by apply Off.of; simp; omega)) h.lt h.gt ha).mono ?_
    rintro e wr ⟨rfl, hr⟩
    exact ⟨rfl, hq.keep hr⟩
  repeat' (first | (apply Wl.nil) | (apply Wl.splitP; exact rfl; exact rfl; all_goals (intros; try (exfalso; omega))) | (apply Wl.splitB; exact rfl; exact rfl; all_goals intros) | (apply St.condP; exact rfl; all_goals (intros; try (exfalso; omega))) | (apply St.condB; exact rfl; all_goals intros))
  refine Mt.backE (fun _ h => by first | exact h | exact hpPop h (by simp only; omega)) ?_
  refine Mt.eff1 (i := 8) (by decide +kernel) (by exact rfl) ?_
  have hm0 : 0 < m := by have := h.gt; omega
  apply Wl.callQ
  exact rfl
  (repeat (first | exact Evs.nil | apply Evs.cons rfl))
  · intro wq hq
    refine (modTimes' (h.hp hq (by apply Off.of; simp; omega)) (Nat.lt_trans (Nat.mod_lt a hm0) h.lt) (Nat.mod_lt (W256 * W256) hm0)).mono ?_
    rintro e wr ⟨rfl, hr⟩
    exact ⟨rfl, hq.keep hr⟩
  rw [in_eq h.odd]
  repeat' (first | (apply Wl.nil) | (apply Wl.splitP; exact rfl; exact rfl; all_goals (intros; try (exfalso; omega))) | (apply Wl.splitB; exact rfl; exact rfl; all_goals intros) | (apply St.condP; exact rfl; all_goals (intros; try (exfalso; omega))) | (apply St.condB; exact rfl; all_goals intros))
  refine Mt.backE (fun _ h => by first | exact h | exact hpPop h (by simp only; omega)) ?_
  refine Mt.eff1 (i := 9) (by decide +kernel) (by exact rfl) ?_
  repeat' (first | (apply Wl.storeW; exact rfl; exact rfl; (repeat (first | apply HSet.here | apply HSet.there)); exact rfl; (first | exact cellsN_len _ _ _ | exact rfl)) | (apply Wl.nil) | (apply Wl.splitP; exact rfl; exact rfl; all_goals (intros; try (exfalso; omega))) | (apply Wl.splitB; exact rfl; exact rfl; all_goals intros) | (apply St.condP; exact rfl; all_goals (intros; try (exfalso; omega))) | (apply St.condB; exact rfl; all_goals intros))
  refine Mt.backE (fun _ h => by first | exact h | exact hpPop h (by simp only; omega)) ?_
  refine Mt.toGt (by decide +kernel) ?_
  repeat' (first | (apply Gt.outN; exact rfl; infer_instance; exact rfl; (repeat (first | exact List.Mem.head _ | apply List.Mem.tail)); exact rfl; intro w' hp) | (apply St.ret) | (apply Gt.next) | (apply Wl.splitP; exact rfl; exact rfl; all_goals (intros; try (exfalso; omega))) | (apply Wl.splitB; exact rfl; exact rfl; all_goals intros) | (apply St.condP; exact rfl; all_goals (intros; try (exfalso; omega))) | (apply St.condB; exact rfl; all_goals intros))
  exact ⟨rfl, hp.drop (by simp; omega)⟩
set_option maxHeartbeats 1000000 in
theorem modOut (b m a : Nat) (w : World) (h : ModV w b m) (ha : a < W256) :
    Calls Tryd.prog 26 #[mp b, numV a] w fun e w' => e = .returned (numV (a * rinv m % m)) ∧ Hp w [] w' := by
  have hb := h.blk
  refine enter (args := [_, _]) (Γ := [(0, _), (1, _)]) Tryd.func26 Tryd.ntmps26 rfl (of_decide_eq_true rfl) (.cons rfl (.cons rfl .nil)) ?_
  repeat' (first | (apply Wl.loadW; exact rfl; exact rfl; (repeat (first | exact List.Mem.head _ | apply List.Mem.tail)); exact rfl) | (apply Wl.boxN; exact rfl; exact rfl; intro c hc ho) | (apply Wl.buildN; exact rfl; (repeat (first | exact Parts.nil | apply Parts.cons rfl)); (repeat (first | apply Fills.nil | (apply Fills.one; exact rfl; exact rfl; (repeat (first | apply LSet.z | apply LSet.s))) | (apply Fills.agg; exact rfl; exact rfl; (repeat (first | apply LPut.s | apply LPut.z | apply LOver.nil | apply LOver.cons))))); (first | exact one8 | exact zero8 | exact two8)) | (apply Wl.allocN; exact rfl; (first | exact z8 | exact z16 | exact z17 | exact z33 | exact z10); intro c hc ho) | (apply Wl.move; exact rfl; exact rfl) | (apply Wl.nil) | (apply St.seq) | (apply St.region) | (apply Gt.next) | (apply Wl.splitP; exact rfl; exact rfl; all_goals (intros; try (exfalso; omega))) | (apply Wl.splitB; exact rfl; exact rfl; all_goals intros) | (apply St.condP; exact rfl; all_goals (intros; try (exfalso; omega))) | (apply St.condB; exact rfl; all_goals intros))
  apply Wl.callQ
  exact rfl
  (repeat (first | exact Evs.nil | apply Evs.cons rfl))
  · intro wq hq
    refine (modTimes' (h.hp hq (by apply Off.of; simp; omega)) ha h.gt).mono ?_
    rintro e wr ⟨rfl, hr⟩
    exact ⟨rfl, hq.keep hr⟩
  rw [Nat.mul_one]
  repeat' (first | (apply Gt.outN; exact rfl; infer_instance; exact rfl; (repeat (first | exact List.Mem.head _ | apply List.Mem.tail)); exact rfl; intro w' hp) | (apply Wl.storeW; exact rfl; exact rfl; (repeat (first | apply HSet.here | apply HSet.there)); exact rfl; (first | exact cellsN_len _ _ _ | exact rfl)) | (apply Wl.nil) | (apply St.ret) | (apply Gt.next) | (apply Wl.splitP; exact rfl; exact rfl; all_goals (intros; try (exfalso; omega))) | (apply Wl.splitB; exact rfl; exact rfl; all_goals intros) | (apply St.condP; exact rfl; all_goals (intros; try (exfalso; omega))) | (apply St.condB; exact rfl; all_goals intros))
  exact ⟨rfl, hp.drop (by simp; omega)⟩
set_option maxHeartbeats 1000000 in
theorem modOne (b m : Nat) (w : World) (h : ModV w b m) :
    Calls Tryd.prog 65 #[mp b] w fun e w' => e = .returned (numV (W256 % m)) ∧ Hp w [] w' := by
  have hb := h.blk
  refine enter (args := [_]) (Γ := [(0, _)]) Tryd.func65 Tryd.ntmps65 rfl (of_decide_eq_true rfl) (.cons rfl .nil) ?_
  have h1 := h.one
  repeat' (first | (apply Wl.loadM; exact rfl; exact rfl; exact h1; (apply Off.of; simp; omega); exact rfl) | (apply Gt.outN; exact rfl; infer_instance; exact rfl; (repeat (first | exact List.Mem.head _ | apply List.Mem.tail)); exact rfl; intro w' hp) | (apply Wl.storeW; exact rfl; exact rfl; (repeat (first | apply HSet.here | apply HSet.there)); exact rfl; (first | exact cellsN_len _ _ _ | exact rfl)) | (apply Wl.allocN; exact rfl; (first | exact z8 | exact z16 | exact z17 | exact z33 | exact z10); intro c hc ho) | (apply Wl.move; exact rfl; exact rfl) | (apply Wl.nilCheck; exact rfl; exact rfl) | (apply Wl.fieldAddrZ; exact rfl; exact rfl) | (apply Wl.eqlPN; exact rfl; exact rfl; exact rfl) | (apply Wl.nil) | (apply St.seq) | (apply St.region) | (apply St.condF; exact rfl; (first | with_reducible rfl | with_reducible assumption | decide)) | (apply St.ret) | (apply St.skip) | (apply Gt.next) | (apply Wl.splitP; exact rfl; exact rfl; all_goals (intros; try (exfalso; omega))) | (apply Wl.splitB; exact rfl; exact rfl; all_goals intros) | (apply St.condP; exact rfl; all_goals (intros; try (exfalso; omega))) | (apply St.condB; exact rfl; all_goals intros))
  exact ⟨rfl, hp.drop (by simp; omega)⟩
set_option maxHeartbeats 1000000 in
theorem modModulus (b m : Nat) (w : World) (h : ModV w b m) :
    Calls Tryd.prog 59 #[mp b] w fun e w' => e = .returned (numV m) ∧ Hp w [] w' := by
  have hb := h.blk
  refine enter (args := [_]) (Γ := [(0, _)]) Tryd.func59 Tryd.ntmps59 rfl (of_decide_eq_true rfl) (.cons rfl .nil) ?_
  have h1 := h.mod
  repeat' (first | (apply Wl.loadM; exact rfl; exact rfl; exact h1; (apply Off.of; simp; omega); exact rfl) | (apply Gt.outN; exact rfl; infer_instance; exact rfl; (repeat (first | exact List.Mem.head _ | apply List.Mem.tail)); exact rfl; intro w' hp) | (apply Wl.storeW; exact rfl; exact rfl; (repeat (first | apply HSet.here | apply HSet.there)); exact rfl; (first | exact cellsN_len _ _ _ | exact rfl)) | (apply Wl.allocN; exact rfl; (first | exact z8 | exact z16 | exact z17 | exact z33 | exact z10); intro c hc ho) | (apply Wl.move; exact rfl; exact rfl) | (apply Wl.nilCheck; exact rfl; exact rfl) | (apply Wl.fieldAddr0; exact rfl; exact rfl) | (apply Wl.eqlPN; exact rfl; exact rfl; exact rfl) | (apply Wl.nil) | (apply St.seq) | (apply St.region) | (apply St.condF; exact rfl; (first | with_reducible rfl | with_reducible assumption | decide)) | (apply St.ret) | (apply St.skip) | (apply Gt.next) | (apply Wl.splitP; exact rfl; exact rfl; all_goals (intros; try (exfalso; omega))) | (apply Wl.splitB; exact rfl; exact rfl; all_goals intros) | (apply St.condP; exact rfl; all_goals (intros; try (exfalso; omega))) | (apply St.condB; exact rfl; all_goals intros))
  exact ⟨rfl, hp.drop (by simp; omega)⟩
set_option maxHeartbeats 1000000 in
theorem modReduce (b m a : Nat) (w : World) (h : ModV w b m) (ha : a < W256) :
    Calls Tryd.prog 31 #[mp b, numV a] w fun e w' => e = .returned (numV (a % m)) ∧ Hp w [] w' := by
  have hb := h.blk
  refine enter (args := [_, _]) (Γ := [(0, _), (1, _)]) Tryd.func31 Tryd.ntmps31 rfl (of_decide_eq_true rfl) (.cons rfl (.cons rfl .nil)) ?_
  repeat' (first | (apply Wl.loadW; exact rfl; exact rfl; (repeat (first | exact List.Mem.head _ | apply List.Mem.tail)); exact rfl) | (apply Wl.boxN; exact rfl; exact rfl; intro c hc ho) | (apply Wl.allocN; exact rfl; (first | exact z8 | exact z16 | exact z17 | exact z33 | exact z10); intro c hc ho) | (apply Wl.move; exact rfl; exact rfl) | (apply Wl.eqlPN; exact rfl; exact rfl; exact rfl) | (apply Wl.nil) | (apply St.seq) | (apply St.region) | (apply St.condF; exact rfl; (first | with_reducible rfl | with_reducible assumption | decide)) | (apply St.skip) | (apply Gt.next) | (apply Wl.splitP; exact rfl; exact rfl; all_goals (intros; try (exfalso; omega))) | (apply Wl.splitB; exact rfl; exact rfl; all_goals intros) | (apply St.condP; exact rfl; all_goals (intros; try (exfalso; omega))) | (apply St.condB; exact rfl; all_goals intros))
  apply Wl.callQ
  exact rfl
  (repeat (first | exact Evs.nil | apply Evs.cons rfl))
  · intro wq hq
    refine (modLow b m a wq (h.mod.hp hq (by apply Off.of; simp; omega)) h.lt h.gt ha).mono ?_
    rintro e wr ⟨rfl, hr⟩
    exact ⟨rfl, hq.keep hr⟩
  repeat' (first | (apply Gt.outN; exact rfl; infer_instance; exact rfl; (repeat (first | exact List.Mem.head _ | apply List.Mem.tail)); exact rfl; intro w' hp) | (apply Wl.storeW; exact rfl; exact rfl; (repeat (first | apply HSet.here | apply HSet.there)); exact rfl; (first | exact cellsN_len _ _ _ | exact rfl)) | (apply Wl.nil) | (apply St.ret) | (apply Gt.next) | (apply Wl.splitP; exact rfl; exact rfl; all_goals (intros; try (exfalso; omega))) | (apply Wl.splitB; exact rfl; exact rfl; all_goals intros) | (apply St.condP; exact rfl; all_goals (intros; try (exfalso; omega))) | (apply St.condB; exact rfl; all_goals intros))
  exact ⟨rfl, hp.drop (by simp; omega)⟩
theorem mul_eq {m a c : Nat} (ho : m % 2 = 1) : (a * W256 % m) * (c * W256 % m) * rinv m % m * rinv m % m = a * c % m := by
  have e : (a * W256 % m) * (c * W256 % m) * rinv m % m * rinv m % m = a * c * W256 * rinv m * (W256 * rinv m) % m := by
    rw [Nat.mod_mul_mod]
    have : a * c * W256 * rinv m * (W256 * rinv m) = (a * W256) * (c * W256) * rinv m * rinv m := by
      simp only [Nat.mul_assoc, Nat.mul_left_comm, Nat.mul_comm]
    rw [this]
    simp only [Nat.mul_mod, Nat.mod_mod]
  rw [e, ← Nat.mul_assoc]
  rw [show a * c * W256 * rinv m * W256 * rinv m = (a * c * W256 * rinv m) * W256 * rinv m from rfl, inW ho, inW ho]
set_option maxHeartbeats 4000000 in
theorem modMul (b m a a2 : Nat) (w : World) (h : ModV w b m) (ha : a < W256) (ha2 : a2 < W256) :
    Calls Tryd.prog 85 #[mp b, numV a, numV a2] w fun e w' => e = .returned (numV (a * a2 % m)) ∧ Hp w [] w' := by
  have hb := h.blk
  refine enter (args := [_, _, _]) (Γ := [(0, _), (1, _), (2, _)]) Tryd.func85 Tryd.ntmps85 rfl (of_decide_eq_true rfl) (.cons rfl (.cons rfl (.cons rfl .nil))) ?_
  have hm0 : 0 < m := by have := h.gt; omega
  have hlt := h.lt
  repeat' (first | (apply Wl.boxN; exact rfl; exact rfl; intro c hc ho) | (apply Wl.allocN; exact rfl; (first | exact z8 | exact z16 | exact z17 | exact z33 | exact z10); intro c hc ho) | (apply Wl.nil) | (apply St.seq) | (apply St.region) | (apply Gt.next) | (apply Wl.splitP; exact rfl; exact rfl; all_goals (intros; try (exfalso; omega))) | (apply Wl.splitB; exact rfl; exact rfl; all_goals intros) | (apply St.condP; exact rfl; all_goals (intros; try (exfalso; omega))) | (apply St.condB; exact rfl; all_goals intros))
  refine St.tree (Hp w [_, _]) mixed (fun _ h => ⟨Hp.drew h, hpPop (Hp.drew h) (by simp only; omega)⟩) ?_
  refine Mt.pure 0 (by decide +kernel) (by exact rfl) (by exact rfl) (by decide +kernel) (by decide +kernel) ?_
  repeat' (first | (apply Wl.move; exact rfl; exact rfl) | (apply Wl.nilM) | (apply Wl.splitP; exact rfl; exact rfl; all_goals (intros; try (exfalso; omega))) | (apply Wl.splitB; exact rfl; exact rfl; all_goals intros) | (apply St.condP; exact rfl; all_goals (intros; try (exfalso; omega))) | (apply St.condB; exact rfl; all_goals intros))
  apply Mt.back
  refine Mt.pure 1 (by decide +kernel) (by exact rfl) (by exact rfl) (by decide +kernel) (by decide +kernel) ?_
  repeat' (first | (apply Wl.move; exact rfl; exact rfl) | (apply Wl.nilM) | (apply Wl.splitP; exact rfl; exact rfl; all_goals (intros; try (exfalso; omega))) | (apply Wl.splitB; exact rfl; exact rfl; all_goals intros) | (apply St.condP; exact rfl; all_goals (intros; try (exfalso; omega))) | (apply St.condB; exact rfl; all_goals intros))
  apply Mt.back
  refine Mt.pure 2 (by decide +kernel) (by exact rfl) (by exact rfl) (by decide +kernel) (by decide +kernel) ?_
  repeat' (first | (apply Wl.move; exact rfl; exact rfl) | (apply Wl.nilM) | (apply Wl.splitP; exact rfl; exact rfl; all_goals (intros; try (exfalso; omega))) | (apply Wl.splitB; exact rfl; exact rfl; all_goals intros) | (apply St.condP; exact rfl; all_goals (intros; try (exfalso; omega))) | (apply St.condB; exact rfl; all_goals intros))
  apply Mt.back
  refine Mt.pure 3 (by decide +kernel) (by exact rfl) (by exact rfl) (by decide +kernel) (by decide +kernel) ?_
  repeat' (first | (apply Wl.loadW; exact rfl; exact rfl; (repeat (first | exact List.Mem.head _ | apply List.Mem.tail)); exact rfl) | (apply Wl.nilM) | (apply Wl.splitP; exact rfl; exact rfl; all_goals (intros; try (exfalso; omega))) | (apply Wl.splitB; exact rfl; exact rfl; all_goals intros) | (apply St.condP; exact rfl; all_goals (intros; try (exfalso; omega))) | (apply St.condB; exact rfl; all_goals intros))
  apply Mt.back
  refine Mt.pure 5 (by decide +kernel) (by exact rfl) (by exact rfl) (by decide +kernel) (by decide +kernel) ?_
  repeat' (first | (apply Wl.move; exact rfl; exact rfl) | (apply Wl.nilM) | (apply Wl.splitP; exact rfl; exact rfl; all_goals (intros; try (exfalso; omega))) | (apply Wl.splitB; exact rfl; exact rfl; all_goals intros) | (apply St.condP; exact rfl; all_goals (intros; try (exfalso; omega))) | (apply St.condB; exact rfl; all_goals intros))
  apply Mt.back
  refine Mt.pure 6 (by decide +kernel) (by exact rfl) (by exact rfl) (by decide +kernel) (by decide +kernel) ?_
  repeat' (first | (apply Wl.loadW; exact rfl; exact rfl; (repeat (first | exact List.Mem.head _ | apply List.Mem.tail)); exact rfl) | (apply Wl.nilM) | (apply Wl.splitP; exact rfl; exact rfl; all_goals (intros; try (exfalso; omega))) | (apply Wl.splitB; exact rfl; exact rfl; all_goals intros) | (apply St.condP; exact rfl; all_goals (intros; try (exfalso; omega))) | (apply St.condB; exact rfl; all_goals intros))
  apply Mt.back
  refine Mt.eff1 (i := 4) (by decide +kernel) (by exact rfl) ?_
  apply Wl.callQ
  exact rfl
  (repeat (first | exact Evs.nil | apply Evs.cons rfl))
  · intro wq hq
    refine (modIn b m a wq (h.hp hq (by apply Off.of; simp; omega)) ha).mono ?_
    rintro e wr ⟨rfl, hr⟩
    exact ⟨rfl, hq.keep hr⟩
  repeat' (first | (apply Wl.nil) | (apply Wl.splitP; exact rfl; exact rfl; all_goals (intros; try (exfalso; omega))) | (apply Wl.splitB; exact rfl; exact rfl; all_goals intros) | (apply St.condP; exact rfl; all_goals (intros; try (exfalso; omega))) | (apply St.condB; exact rfl; all_goals intros))
  refine Mt.backE (fun _ h => by first | exact h | exact hpPop h (by simp only; omega)) ?_
  refine Mt.eff1 (i := 7) (by decide +kernel) (by exact rfl) ?_
  apply Wl.callQ
  exact rfl
  (repeat (first | exact Evs.nil | apply Evs.cons rfl))
  · intro wq hq
    refine (modIn b m a2 wq (h.hp hq (by apply Off.of; simp; omega)) ha2).mono ?_
    rintro e wr ⟨rfl, hr⟩
    exact ⟨rfl, hq.keep hr⟩
  repeat' (first | (apply Wl.nil) | (apply Wl.splitP; exact rfl; exact rfl; all_goals (intros; try (exfalso; omega))) | (apply Wl.splitB; exact rfl; exact rfl; all_goals intros) | (apply St.condP; exact rfl; all_goals (intros; try (exfalso; omega))) | (apply St.condB; exact rfl; all_goals intros))
  refine Mt.backE (fun _ h => by first | exact h | exact hpPop h (by simp only; omega)) ?_
  refine Mt.eff1 (i := 8) (by decide +kernel) (by exact rfl) ?_
  apply Wl.callQ
  exact rfl
  (repeat (first | exact Evs.nil | apply Evs.cons rfl))
  · intro wq hq
    refine (modTimes' (h.hp hq (by apply Off.of; simp; omega)) (Nat.lt_trans (Nat.mod_lt _ hm0) hlt) (Nat.mod_lt _ hm0)).mono ?_
    rintro e wr ⟨rfl, hr⟩
    exact ⟨rfl, hq.keep hr⟩
  repeat' (first | (apply Wl.nil) | (apply Wl.splitP; exact rfl; exact rfl; all_goals (intros; try (exfalso; omega))) | (apply Wl.splitB; exact rfl; exact rfl; all_goals intros) | (apply St.condP; exact rfl; all_goals (intros; try (exfalso; omega))) | (apply St.condB; exact rfl; all_goals intros))
  refine Mt.backE (fun _ h => by first | exact h | exact hpPop h (by simp only; omega)) ?_
  refine Mt.eff1 (i := 9) (by decide +kernel) (by exact rfl) ?_
  apply Wl.callQ
  exact rfl
  (repeat (first | exact Evs.nil | apply Evs.cons rfl))
  · intro wq hq
    refine (modOut b m _ wq (h.hp hq (by apply Off.of; simp; omega)) (Nat.lt_trans (Nat.mod_lt _ hm0) hlt)).mono ?_
    rintro e wr ⟨rfl, hr⟩
    exact ⟨rfl, hq.keep hr⟩
  rw [mul_eq h.odd]
  repeat' (first | (apply Wl.nil) | (apply Wl.splitP; exact rfl; exact rfl; all_goals (intros; try (exfalso; omega))) | (apply Wl.splitB; exact rfl; exact rfl; all_goals intros) | (apply St.condP; exact rfl; all_goals (intros; try (exfalso; omega))) | (apply St.condB; exact rfl; all_goals intros))
  refine Mt.backE (fun _ h => by first | exact h | exact hpPop h (by simp only; omega)) ?_
  refine Mt.eff1 (i := 10) (by decide +kernel) (by exact rfl) ?_
  repeat' (first | (apply Wl.storeW; exact rfl; exact rfl; (repeat (first | apply HSet.here | apply HSet.there)); exact rfl; (first | exact cellsN_len _ _ _ | exact rfl)) | (apply Wl.nil) | (apply Wl.splitP; exact rfl; exact rfl; all_goals (intros; try (exfalso; omega))) | (apply Wl.splitB; exact rfl; exact rfl; all_goals intros) | (apply St.condP; exact rfl; all_goals (intros; try (exfalso; omega))) | (apply St.condB; exact rfl; all_goals intros))
  refine Mt.backE (fun _ h => by first | exact h | exact hpPop h (by simp only; omega)) ?_
  refine Mt.toGt (by decide +kernel) ?_
  repeat' (first | (apply Gt.outN; exact rfl; infer_instance; exact rfl; (repeat (first | exact List.Mem.head _ | apply List.Mem.tail)); exact rfl; intro w' hp) | (apply St.ret) | (apply Gt.next) | (apply Wl.splitP; exact rfl; exact rfl; all_goals (intros; try (exfalso; omega))) | (apply Wl.splitB; exact rfl; exact rfl; all_goals intros) | (apply St.condP; exact rfl; all_goals (intros; try (exfalso; omega))) | (apply St.condB; exact rfl; all_goals intros))
  exact ⟨rfl, hp.drop (by simp; omega)⟩
/-- a to the k-th, in -/
def pw (m a k : Nat) : Nat := (a * rinv m) ^ k * W256 % m
theorem pw_zero (m a : Nat) : pw m a 0 = W256 % m := by simp [pw]
theorem pw_dbl {m a k : Nat} (ho : m % 2 = 1) : pw m a k * pw m a k * rinv m % m = pw m a (2 * k) := by
  unfold pw
  have e : (a * rinv m) ^ k * W256 % m * ((a * rinv m) ^ k * W256 % m) * rinv m % m = (a * rinv m) ^ (2 * k) * W256 * W256 * rinv m % m := by
    have : (a * rinv m) ^ (2 * k) * W256 * W256 * rinv m = ((a * rinv m) ^ k * W256) * ((a * rinv m) ^ k * W256) * rinv m := by
      rw [Nat.two_mul, Nat.pow_add]
      simp only [Nat.mul_assoc, Nat.mul_left_comm, Nat.mul_comm]
    rw [this]
    simp only [Nat.mul_mod, Nat.mod_mod]
  rw [e]; exact inW ho
theorem pw_one {m a k : Nat} : pw m a k * a * rinv m % m = pw m a (k + 1) := by
  unfold pw
  have : (a * rinv m) ^ (k + 1) * W256 = (a * rinv m) ^ k * W256 * a * rinv m := by
    rw [Nat.pow_succ]
    simp only [Nat.mul_assoc, Nat.mul_left_comm, Nat.mul_comm]
  rw [this]
  simp only [Nat.mul_mod, Nat.mod_mod]
set_option maxHeartbeats 1000000 in
theorem modPow (b m a n : Nat) (w : World) (h : ModV w b m) (ha : a < m) (hn : n < W256) :
    Calls Tryd.prog 60 #[mp b, numV a, numV n] w fun e w' => e = .returned (numV (pw m a n)) ∧ Hp w [] w' := by
  have hb := h.blk
  refine enter (args := [_, _, _]) (Γ := [(0, _), (1, _), (2, _)]) Tryd.func60 Tryd.ntmps60 rfl (of_decide_eq_true rfl) (.cons rfl (.cons rfl (.cons rfl .nil))) ?_
  have hm0 : 0 < m := by have := h.gt; omega
  have hlt := h.lt
  repeat' (first | (apply Wl.boxN; exact rfl; exact rfl; intro c hc ho) | (apply Wl.allocN; exact rfl; (first | exact z8 | exact z16 | exact z17 | exact z33 | exact z10); intro c hc ho) | (apply Wl.move; exact rfl; exact rfl) | (apply Wl.nil) | (apply St.seq) | (apply St.region) | (apply Gt.next) | (apply Wl.splitP; exact rfl; exact rfl; all_goals (intros; try (exfalso; omega))) | (apply Wl.splitB; exact rfl; exact rfl; all_goals intros) | (apply St.condP; exact rfl; all_goals (intros; try (exfalso; omega))) | (apply St.condB; exact rfl; all_goals intros))
  apply Wl.callQ
  exact rfl
  (repeat (first | exact Evs.nil | apply Evs.cons rfl))
  · intro wq hq
    refine (modOne b m wq (h.hp hq (by apply Off.of; simp; omega))).mono ?_
    rintro e wr ⟨rfl, hr⟩
    exact ⟨rfl, hq.keep hr⟩
  repeat' (first | (apply Wl.storeW; exact rfl; exact rfl; (repeat (first | apply HSet.here | apply HSet.there)); exact rfl; (first | exact cellsN_len _ _ _ | exact rfl)) | (apply Wl.allocN; exact rfl; (first | exact z8 | exact z16 | exact z17 | exact z33 | exact z10); intro c hc ho) | (apply Wl.assign; exact rfl; exact rfl) | (apply Wl.nil) | (apply St.seq) | (apply St.block) | (apply St.region) | (apply Gt.next) | (apply Wl.splitP; exact rfl; exact rfl; all_goals (intros; try (exfalso; omega))) | (apply Wl.splitB; exact rfl; exact rfl; all_goals intros) | (apply St.condP; exact rfl; all_goals (intros; try (exfalso; omega))) | (apply St.condB; exact rfl; all_goals intros))
  rename_i ca hca hoa cb hcb hob cr hcr hor
  generalize c = cx at *
  have e256 : n / 2 ^ 256 = 0 := Nat.div_eq_of_lt (Nat.lt_of_lt_of_eq hn (by decide))
  refine St.loop (σ := Nat) (fun k => k ≤ 256)
    (fun k => [(0, mp b), (4, mp ca), (5, mp cb), (6, mp cr), (7, mp cx), (8, .int .i64 ((k : Int) - 1))])
    (fun k => Hp w [⟨cx, cellsN .u32 8 (dg W32 (pw m a (n / 2 ^ k))), 30⟩, ⟨cr, cellsN .u32 8 fun _ => 0, 30⟩, ⟨cb, cellsN .u32 8 (dg W32 n), 30⟩, ⟨ca, cellsN .u32 8 (dg W32 a), 30⟩])
    (fun k => k) 256 (Nat.le_refl _) (by (repeat (first | exact Sub.nil | apply Sub.cons rfl))) (fun _ h => by
      show Hp w [⟨cx, cellsN .u32 8 (dg W32 (pw m a (n / 2 ^ 256))), _⟩, _, _, _] _
      rw [e256, pw_zero]; exact h) ?_
  intro k hk
  cases k with
  | zero =>
    rw [Nat.pow_zero, Nat.div_one]
    repeat' (first | (apply Gt.outN; exact rfl; infer_instance; exact rfl; (repeat (first | exact List.Mem.head _ | apply List.Mem.tail)); exact rfl; intro w' hp) | (apply Wl.loadW; exact rfl; exact rfl; (repeat (first | exact List.Mem.head _ | apply List.Mem.tail)); exact rfl) | (apply Wl.storeW; exact rfl; exact rfl; (repeat (first | apply HSet.here | apply HSet.there)); exact rfl; (first | exact cellsN_len _ _ _ | exact rfl)) | (apply Wl.move; exact rfl; exact rfl) | (apply Wl.geq; exact rfl; exact rfl; exact rfl) | (apply Wl.nil) | (apply St.seq) | (apply St.region) | (apply St.condF; exact rfl; (first | with_reducible rfl | with_reducible assumption | decide)) | (apply St.ret) | (apply St.exit) | (apply Gt.next) | (apply Gt.thenExit) | (apply Gt.inExit) | (apply Wl.splitP; exact rfl; exact rfl; all_goals (intros; try (exfalso; omega))) | (apply Wl.splitB; exact rfl; exact rfl; all_goals intros) | (apply St.condP; exact rfl; all_goals (intros; try (exfalso; omega))) | (apply St.condB; exact rfl; all_goals intros))
    exact ⟨rfl, hp.drop (by simp; omega)⟩
  | succ i =>
    have ei : (((i + 1 : Nat) : Int) - 1) = (i : Int) := by omega
    rw [ei]
    have hr (k : Nat) : pw m a k < m := Nat.mod_lt _ hm0
    have hst := bit_step n i
    generalize hre : n / 2 ^ (i + 1) = q at *
    repeat' (first | (apply Wl.loadW; exact rfl; exact rfl; (repeat (first | exact List.Mem.head _ | apply List.Mem.tail)); exact rfl) | (apply Wl.move; exact rfl; exact rfl) | (apply Wl.geq; exact rfl; exact rfl; exact rfl) | (apply Wl.nil) | (apply St.seq) | (apply St.block) | (apply St.region) | (apply St.skip) | (apply Gt.next) | (apply Wl.splitP; exact rfl; exact rfl; all_goals (intros; try (exfalso; omega))) | (apply Wl.splitB; exact rfl; exact rfl; all_goals intros) | (apply St.condP; exact rfl; all_goals (intros; try (exfalso; omega))) | (apply St.condB; exact rfl; all_goals intros))
    apply Wl.callQ
    exact rfl
    (repeat (first | exact Evs.nil | apply Evs.cons rfl))
    · intro wq hq
      refine (modTimes' (h.hp hq (by apply Off.of; simp; omega)) (Nat.lt_trans (hr q) hlt) (hr q)).mono ?_
      rintro e wr ⟨rfl, hr⟩
      exact ⟨rfl, hq.keep hr⟩
    rw [pw_dbl h.odd]
    repeat' (first | (apply Wl.loadW; exact rfl; exact rfl; (repeat (first | exact List.Mem.head _ | apply List.Mem.tail)); exact rfl) | (apply Wl.storeW; exact rfl; exact rfl; (repeat (first | apply HSet.here | apply HSet.there)); exact rfl; (first | exact cellsN_len _ _ _ | exact rfl)) | (apply Wl.move; exact rfl; exact rfl) | (apply Wl.nil) | (apply St.seq) | (apply St.region) | (apply Gt.next) | (apply Wl.splitP; exact rfl; exact rfl; all_goals (intros; try (exfalso; omega))) | (apply Wl.splitB; exact rfl; exact rfl; all_goals intros) | (apply St.condP; exact rfl; all_goals (intros; try (exfalso; omega))) | (apply St.condB; exact rfl; all_goals intros))
    apply Wl.callQ
    exact rfl
    (repeat (first | exact Evs.nil | apply Evs.cons rfl))
    · intro wq hq
      refine (limbBit n i (by omega) wq).mono ?_
      rintro e wr ⟨rfl, hr⟩
      exact ⟨rfl, hq.keep hr⟩
    have hb2 := Nat.mod_lt (n / 2 ^ i) (show 0 < 2 by decide)
    by_cases hbit : n / 2 ^ i % 2 = 1
    · rw [hbit] at hst
      rw [hbit]
      repeat' (first | (apply Wl.loadW; exact rfl; exact rfl; (repeat (first | exact List.Mem.head _ | apply List.Mem.tail)); exact rfl) | (apply Wl.move; exact rfl; exact rfl) | (apply Wl.eql; exact rfl; exact rfl; exact rfl) | (apply Wl.nil) | (apply St.region) | (apply St.condT; exact rfl; (first | with_reducible rfl | with_reducible assumption | decide)) | (apply Gt.next) | (apply Wl.splitP; exact rfl; exact rfl; all_goals (intros; try (exfalso; omega))) | (apply Wl.splitB; exact rfl; exact rfl; all_goals intros) | (apply St.condP; exact rfl; all_goals (intros; try (exfalso; omega))) | (apply St.condB; exact rfl; all_goals intros))
      apply Wl.callQ
      exact rfl
      (repeat (first | exact Evs.nil | apply Evs.cons rfl))
      · intro wq hq
        refine (modTimes' (h.hp hq (by apply Off.of; simp; omega)) (Nat.lt_trans (hr (2 * q)) hlt) ha).mono ?_
        rintro e wr ⟨rfl, hr⟩
        exact ⟨rfl, hq.keep hr⟩
      rw [pw_one, ← hst]
      repeat' (first | (apply Wl.storeW; exact rfl; exact rfl; (repeat (first | apply HSet.here | apply HSet.there)); exact rfl; (first | exact cellsN_len _ _ _ | exact rfl)) | (apply Wl.move; exact rfl; exact rfl) | (apply Wl.assign; exact rfl; exact rfl) | (apply Wl.subI; exact rfl; exact rfl; exact rfl; (constructor <;> omega)) | (apply Wl.nil) | (apply St.region) | (apply Gt.next) | (apply Gt.inNormal) | (apply Wl.splitP; exact rfl; exact rfl; all_goals (intros; try (exfalso; omega))) | (apply Wl.splitB; exact rfl; exact rfl; all_goals intros) | (apply St.condP; exact rfl; all_goals (intros; try (exfalso; omega))) | (apply St.condB; exact rfl; all_goals intros))
      apply Gt.round i
      rotate_left
      · simp
      · (repeat (first | exact Sub.nil | apply Sub.cons rfl))
      · exact fun _ h => h
      · omega
    · have hbit0 : n / 2 ^ i % 2 = 0 := by omega
      rw [hbit0, Nat.add_zero] at hst
      rw [hbit0, ← hst]
      repeat' (first | (apply Wl.move; exact rfl; exact rfl) | (apply Wl.assign; exact rfl; exact rfl) | (apply Wl.eql; exact rfl; exact rfl; exact rfl) | (apply Wl.subI; exact rfl; exact rfl; exact rfl; (constructor <;> omega)) | (apply Wl.nil) | (apply St.region) | (apply St.condF; exact rfl; (first | with_reducible rfl | with_reducible assumption | decide)) | (apply St.skip) | (apply Gt.next) | (apply Gt.inNormal) | (apply Wl.splitP; exact rfl; exact rfl; all_goals (intros; try (exfalso; omega))) | (apply Wl.splitB; exact rfl; exact rfl; all_goals intros) | (apply St.condP; exact rfl; all_goals (intros; try (exfalso; omega))) | (apply St.condB; exact rfl; all_goals intros))
      apply Gt.round i
      rotate_left
      · simp
      · (repeat (first | exact Sub.nil | apply Sub.cons rfl))
      · exact fun _ h => h
      · omega
end Go.Proofs.YtfaobdakpbpkbaaDoor
end
section
/-
  mont.New. Conditions: none.
-/
namespace Go.Pt
theorem LOver.app {l xs r : List Value} (h : l.length = xs.length) : LOver (l ++ r) xs (xs ++ r) := by
  induction xs generalizing l with
  | nil => cases l with
    | nil => exact .nil
    | cons _ _ => simp at h
  | cons x s ih => cases l with
    | nil => simp at h
    | cons y t => exact .cons (ih (by simpa using h))
theorem LPut.app {p l xs r : List Value} {n : Nat} (hn : p.length = n) (h : l.length = xs.length) : LPut (p ++ (l ++ r)) n xs (p ++ (xs ++ r)) := by
  subst hn
  induction p with
  | nil => exact .z (LOver.app h)
  | cons x s ih => exact .s ih
theorem LSet.app {p r : List Value} {x v : Value} {n : Nat} (hn : p.length = n) : LSet (p ++ x :: r) n v (p ++ v :: r) := by
  subst hn
  induction p with
  | nil => exact .z
  | cons y s ih => exact .s ih
end Go.Pt
namespace Go.Proofs.YtfaobdakpbpkbaaDoor
open Go.RowKit Go.Pt
/-- the cells of a modulus -/
def modC (m neg : Nat) (f g : Nat → Nat) : List Value := cellsN .u32 8 (dg W32 m) ++ (.int .u32 neg :: (cellsN .u32 8 f ++ cellsN .u32 8 g))
theorem modC_neg (m n n' : Nat) (f g : Nat → Nat) : LSet (modC m n f g) 8 (.int .u32 n') (modC m n' f g) := LSet.app (cellsN_len _ _ _)
theorem modC_one (m n : Nat) (f g f' : Nat → Nat) : LPut (modC m n f g) 9 (cellsN .u32 8 f') (modC m n f' g) := by
  have := LPut.app (p := cellsN .u32 8 (dg W32 m) ++ [.int .u32 n]) (l := cellsN .u32 8 f) (xs := cellsN .u32 8 f') (r := cellsN .u32 8 g) (n := 9) (by simp [cellsN_len]) (by simp [cellsN_len])
  simpa [modC] using this
theorem modC_two (m n : Nat) (f g g' : Nat → Nat) : LPut (modC m n f g) 17 (cellsN .u32 8 g') (modC m n f g') := by
  have := LPut.app (p := cellsN .u32 8 (dg W32 m) ++ (.int .u32 n :: cellsN .u32 8 f)) (l := cellsN .u32 8 g) (xs := cellsN .u32 8 g') (r := []) (n := 17) (by simp [cellsN_len]) (by simp [cellsN_len])
  simpa [modC] using this
theorem modC_put (m : Nat) : LPut [Value.int .u32 0, .int .u32 0, .int .u32 0, .int .u32 0, .int .u32 0, .int .u32 0, .int .u32 0, .int .u32 0, .int .u32 0, .int .u32 0, .int .u32 0, .int .u32 0, .int .u32 0, .int .u32 0, .int .u32 0, .int .u32 0, .int .u32 0, .int .u32 0, .int .u32 0, .int .u32 0, .int .u32 0, .int .u32 0, .int .u32 0, .int .u32 0, .int .u32 0] 0 (cellsN .u32 8 (dg W32 m)) (modC m 0 (dg W32 0) (dg W32 0)) := by
  have h := LPut.app (p := []) (l := [Value.int .u32 0, .int .u32 0, .int .u32 0, .int .u32 0, .int .u32 0, .int .u32 0, .int .u32 0, .int .u32 0]) (xs := cellsN .u32 8 (dg W32 m)) (r := Value.int .u32 0 :: ([Value.int .u32 0, .int .u32 0, .int .u32 0, .int .u32 0, .int .u32 0, .int .u32 0, .int .u32 0, .int .u32 0] ++ [Value.int .u32 0, .int .u32 0, .int .u32 0, .int .u32 0, .int .u32 0, .int .u32 0, .int .u32 0, .int .u32 0])) (n := 0) rfl (by rw [cellsN_len]; rfl)
  unfold modC
  rw [zero8] at h
  rw [← zero8] at h ⊢
  exact h
theorem modC_get {m n : Nat} {f g : Nat → Nat} {j : Nat} (h : j < 8) : (modC m n f g)[j]? = some (.int .u32 (dg W32 m j)) ∧ (modC m n f g)[8]? = some (.int .u32 n) ∧ (modC m n f g)[9 + j]? = some (.int .u32 (f j)) ∧ (modC m n f g)[17 + j]? = some (.int .u32 (g j)) := by
  unfold modC
  refine ⟨?_, ?_, ?_, ?_⟩
  · rw [List.getElem?_append_left (by rw [cellsN_len]; exact h)]; exact cellsN_get h
  · rw [List.getElem?_append_right (by rw [cellsN_len]; decide), cellsN_len]; rfl
  · rw [List.getElem?_append_right (by rw [cellsN_len]; omega), cellsN_len, show 9 + j - 8 = j + 1 by omega, List.getElem?_cons_succ, List.getElem?_append_left (by rw [cellsN_len]; exact h)]; exact cellsN_get h
  · rw [List.getElem?_append_right (by rw [cellsN_len]; omega), cellsN_len, show 17 + j - 8 = (8 + j) + 1 by omega, List.getElem?_cons_succ, List.getElem?_append_right (by rw [cellsN_len]; omega), cellsN_len, show 8 + j - 8 = j by omega]; exact cellsN_get h
theorem sq_pow {n k : Nat} (h : n + n = k) : 2 ^ n * 2 ^ n = 2 ^ k := by subst h; rw [← Nat.pow_add]
def pw2 (m i : Nat) : Nat := 2 ^ i % m
theorem pw2_dbl (m n k : Nat) (h : n + n = k) : pw2 m k = 2 ^ n * 2 ^ n % m := by rw [sq_pow h, pw2]
def D2 (k : Nat) : Nat := 2 ^ 2 ^ k
theorem D2_succ (k : Nat) : D2 (k + 1) = D2 k * D2 k := by unfold D2; rw [Nat.pow_succ, Nat.mul_two, Nat.pow_add]
theorem D2_dvd {k : Nat} (h : k < 5) : D2 k * D2 k ∣ 4294967296 := by
  have : k = 0 ∨ k = 1 ∨ k = 2 ∨ k = 3 ∨ k = 4 := by omega
  rcases this with rfl | rfl | rfl | rfl | rfl <;> decide
theorem dg0_mod (m : Nat) : dg W32 m 0 = m % 4294967296 := by unfold dg; rw [hi_zero]
def NewPost (m : Nat) (w : World) (e : Ending) (w' : World) : Prop :=
  (m % 2 = 1 ∧ m ≠ 1 ∧ ∃ b, e = .returned (.tuple #[mp b, .int .i64 0]) ∧ w.heap.size ≤ b ∧ ModV w' b m ∧ Hp w [] w') ∨ (¬ (m % 2 = 1 ∧ m ≠ 1) ∧ e = .returned (.tuple #[.pointer none, .int .i64 1]) ∧ Hp w [] w')
set_option maxHeartbeats 2000000 in
theorem modNew (m : Nat) (hm : m < W256) (w : World) : Calls Tryd.prog 21 #[numV m] w (NewPost m w) := by
  refine enter (args := [_]) (Γ := [(0, _)]) Tryd.func21 Tryd.ntmps21 rfl (of_decide_eq_true rfl) (.cons rfl .nil) ?_
  have hd0 : dg W32 m 0 % 2 = m % 2 := by rw [dg0_mod]; omega
  have h0l := dlt m 0
  by_cases hodd : m % 2 = 1
  · by_cases h1 : m = 1
    · repeat' (first | (apply Wl.indexA (j := 0); exact rfl; exact rfl; exact rfl; (decide)) | (apply Wl.eqlA (b := decide (m = 1)); exact rfl; exact rfl; exact rfl; kernel_rfl; kernel_rfl; kernel_rfl; kernel_rfl; exact cell32 _ (dlt _); exact cell32 _ (dlt _); exact d8_inj hm (by decide)) | (apply Wl.loadN; exact rfl; exact rfl; (repeat (first | exact List.Mem.head _ | apply List.Mem.tail)); (omega)) | (apply Wl.loadW; exact rfl; exact rfl; (repeat (first | exact List.Mem.head _ | apply List.Mem.tail)); exact rfl) | (apply Wl.boxN; exact rfl; exact rfl; intro c hc ho) | (apply Wl.buildN; exact rfl; (repeat (first | exact Parts.nil | apply Parts.cons rfl)); (repeat (first | apply Fills.nil | (apply Fills.one; exact rfl; exact rfl; (repeat (first | apply LSet.z | apply LSet.s))) | (apply Fills.agg; exact rfl; exact rfl; (repeat (first | apply LPut.s | apply LPut.z | apply LOver.nil | apply LOver.cons))))); (first | exact one8 | exact zero8 | exact two8 | exact one16)) | (apply Wl.and1; exact rfl; exact rfl; exact rfl; exact rfl; (first | exact wrap2_u32 | exact wrap2_u64 | exact wrap2_i64)) | (apply Wl.move; exact rfl; exact rfl) | (apply Wl.assign; exact rfl; exact rfl) | (apply Wl.on; exact rfl; exact rfl; (first | with_reducible rfl | with_reducible assumption | decide)) | (apply Wl.pickF; exact rfl; exact rfl; (first | with_reducible rfl | with_reducible assumption | decide); exact rfl) | (apply Wl.eql; exact rfl; exact rfl; exact rfl) | (apply Wl.nil) | (apply St.seq) | (apply St.region) | (apply St.ret) | (apply Gt.next) | (apply Gt.thenRet) | (apply Gt.out2; exact rfl; exact rfl; exact rfl; intro w' hp) | (apply Wl.splitP; exact rfl; exact rfl; all_goals (intros; try (exfalso; omega))) | (apply Wl.splitB; exact rfl; exact rfl; all_goals intros) | (apply St.condP; exact rfl; all_goals (intros; try (exfalso; omega))) | (apply St.condB; exact rfl; all_goals intros))
      exact .inr ⟨fun h => h.2 h1, rfl, hp.drop (by simp; omega)⟩
    · repeat' (first | (apply Wl.indexA (j := 0); exact rfl; exact rfl; exact rfl; (decide)) | (apply Wl.eqlA (b := decide (m = 1)); exact rfl; exact rfl; exact rfl; kernel_rfl; kernel_rfl; kernel_rfl; kernel_rfl; exact cell32 _ (dlt _); exact cell32 _ (dlt _); exact d8_inj hm (by decide)) | (apply Wl.buildS; exact rfl; (repeat (first | exact Parts.nil | apply Parts.cons rfl)); exact Fills.agg rfl (by rw [cellsN_len]; rfl) (modC_put m) .nil) | (apply Wl.loadN; exact rfl; exact rfl; (repeat (first | exact List.Mem.head _ | apply List.Mem.tail)); (omega)) | (apply Wl.loadW; exact rfl; exact rfl; (repeat (first | exact List.Mem.head _ | apply List.Mem.tail)); exact rfl) | (apply Wl.boxN; exact rfl; exact rfl; intro c hc ho) | (apply Wl.buildN; exact rfl; (repeat (first | exact Parts.nil | apply Parts.cons rfl)); (repeat (first | apply Fills.nil | (apply Fills.one; exact rfl; exact rfl; (repeat (first | apply LSet.z | apply LSet.s))) | (apply Fills.agg; exact rfl; exact rfl; (repeat (first | apply LPut.s | apply LPut.z | apply LOver.nil | apply LOver.cons))))); (first | exact one8 | exact zero8 | exact two8 | exact one16)) | (apply Wl.and1; exact rfl; exact rfl; exact rfl; exact rfl; (first | exact wrap2_u32 | exact wrap2_u64 | exact wrap2_i64)) | (apply Wl.move; exact rfl; exact rfl) | (apply Wl.assign; exact rfl; exact rfl) | (apply Wl.on; exact rfl; exact rfl; (first | with_reducible rfl | with_reducible assumption | decide)) | (apply Wl.pickF; exact rfl; exact rfl; (first | with_reducible rfl | with_reducible assumption | decide); exact rfl) | (apply Wl.eql; exact rfl; exact rfl; exact rfl) | (apply Wl.boxA; exact rfl; exact rfl; intro c hc ho) | (apply Wl.nil) | (apply St.seq) | (apply St.block) | (apply St.region) | (apply St.skip) | (apply Gt.next) | (apply Wl.splitP; exact rfl; exact rfl; all_goals (intros; try (exfalso; omega))) | (apply Wl.splitB; exact rfl; exact rfl; all_goals intros) | (apply St.condP; exact rfl; all_goals (intros; try (exfalso; omega))) | (apply St.condB; exact rfl; all_goals intros))
      rename_i ca hca hoa _ _ _ _
      generalize c = cm at *
      refine St.loop (σ := Nat × Nat) (fun τ => τ.1 ≤ 5 ∧ τ.2 < 4294967296 ∧ ((D2 τ.1 : Nat) : Int) ∣ (dg W32 m 0 : Int) * τ.2 - 1)
        (fun τ => [(1, mp ca), (3, .int .i64 0), (4, mp cm), (5, .int .u32 τ.2), (20, .int .i64 τ.1)])
        (fun τ => Hp w [⟨cm, modC m 0 (dg W32 0) (dg W32 0), 99⟩, ⟨ca, cellsN .u32 8 (dg W32 m), 30⟩])
        (fun τ => 5 - τ.1) (0, 1) ⟨by simp, by simp, ⟨((dg W32 m 0 / 2 : Nat) : Int), by show (dg W32 m 0 : Int) * ((1 : Nat) : Int) - 1 = ((2 : Nat) : Int) * _; omega⟩⟩ (by (repeat (first | exact Sub.nil | apply Sub.cons rfl))) (fun _ h => h) ?_
      rintro ⟨k, x⟩ ⟨hk5, hx32, hk⟩
      simp only at hk5 hx32 hk ⊢
      by_cases hkl : k < 5
      · have hr := inv_round (D2_dvd hkl) hk
        rw [← D2_succ] at hr
        repeat' (first | (apply Wl.indexA (j := 0); exact rfl; exact rfl; exact rfl; (decide)) | (apply Wl.loadN; exact rfl; exact rfl; (repeat (first | exact List.Mem.head _ | apply List.Mem.tail)); (omega)) | (apply Wl.subN32 (m := 2); exact rfl; exact rfl; exact rfl; (omega)) | (apply Wl.mulN32; exact rfl; exact rfl; exact rfl) | (apply Wl.move; exact rfl; exact rfl) | (apply Wl.assign; exact rfl; exact rfl) | (apply Wl.lss; exact rfl; exact rfl; exact rfl) | (apply Wl.addI; exact rfl; exact rfl; exact rfl; (constructor <;> omega)) | (apply Wl.nil) | (apply St.seq) | (apply St.block) | (apply St.region) | (apply St.skip) | (apply Gt.next) | (apply Gt.inNormal) | (apply Wl.splitP; exact rfl; exact rfl; all_goals (intros; try (exfalso; omega))) | (apply Wl.splitB; exact rfl; exact rfl; all_goals intros) | (apply St.condP; exact rfl; all_goals (intros; try (exfalso; omega))) | (apply St.condB; exact rfl; all_goals intros))
        apply Gt.round (k + 1, x * ((2 + 4294967296 - dg W32 m 0 * x % 4294967296) % 4294967296) % 4294967296)
        rotate_left
        · simp only; omega
        · (repeat (first | exact Sub.nil | apply Sub.cons rfl))
        · exact fun _ h => h
        · exact ⟨by simp only; omega, Nat.mod_lt _ (by decide), hr⟩
      have hke : k = 5 := by omega
      subst hke
      have hneg := neg_ok (show ((4294967296 : Nat) : Int) ∣ (dg W32 m 0 : Int) * x - 1 from hk)
      have hneg' : (m * ((4294967296 - x % 4294967296) % 4294967296) + 1) % 4294967296 = 0 := by
        rw [dg0_mod] at hneg
        rw [Nat.add_mod, Nat.mod_mul_mod, ← Nat.add_mod] at hneg
        exact hneg
      generalize hne : (4294967296 - x % 4294967296) % 4294967296 = neg at *
      repeat' (first | (apply Wl.store; exact rfl; exact rfl; exact rfl; (repeat (first | apply HSet.here | apply HSet.there)); exact modC_neg _ _ _ _ _) | (apply Wl.storeW; exact rfl; exact rfl; (repeat (first | apply HSet.here | apply HSet.there)); exact rfl; (first | exact cellsN_len _ _ _ | exact rfl)) | (apply Wl.buildN; exact rfl; (repeat (first | exact Parts.nil | apply Parts.cons rfl)); (repeat (first | apply Fills.nil | (apply Fills.one; exact rfl; exact rfl; (repeat (first | apply LSet.z | apply LSet.s))) | (apply Fills.agg; exact rfl; exact rfl; (repeat (first | apply LPut.s | apply LPut.z | apply LOver.nil | apply LOver.cons))))); (first | exact one8 | exact zero8 | exact two8 | exact one16)) | (apply Wl.allocN; exact rfl; (first | exact z8 | exact z16 | exact z17 | exact z33 | exact z10); intro c hc ho) | (apply Wl.negN32; exact rfl; exact rfl) | (apply Wl.move; exact rfl; exact rfl) | (apply Wl.nilCheck; exact rfl; exact rfl) | (apply Wl.fieldAddrZ; exact rfl; exact rfl) | (apply Wl.lss; exact rfl; exact rfl; exact rfl) | (apply Wl.nil) | (apply St.seq) | (apply St.block) | (apply St.region) | (apply St.condF; exact rfl; (first | with_reducible rfl | with_reducible assumption | decide)) | (apply St.exit) | (apply Gt.next) | (apply Gt.thenExit) | (apply Gt.inExit) | (apply Wl.splitP; exact rfl; exact rfl; all_goals (intros; try (exfalso; omega))) | (apply Wl.splitB; exact rfl; exact rfl; all_goals intros) | (apply St.condP; exact rfl; all_goals (intros; try (exfalso; omega))) | (apply St.condB; exact rfl; all_goals intros))
      rw [hne]
      generalize c = cx at *
      have hcx : w.heap.size ≤ cx := hc
      have hm1 : 1 < m := by omega
      refine St.loop (σ := Nat × (Nat → Nat)) (fun τ => τ.1 ≤ 512 ∧ (256 < τ.1 → τ.2 = dg W32 (W256 % m)))
        (fun τ => [(3, .int .i64 0), (4, mp cm), (6, mp cx), (36, .int .i64 τ.1)])
        (fun τ => Hp w [⟨cx, cellsN .u32 8 (dg W32 (pw2 m τ.1)), 30⟩, ⟨cm, modC m neg τ.2 (dg W32 0), 99⟩, ⟨ca, cellsN .u32 8 (dg W32 m), 30⟩])
        (fun τ => 512 - τ.1) (0, dg W32 0) ⟨by simp, fun h => by simp at h⟩ (by (repeat (first | exact Sub.nil | apply Sub.cons rfl))) (fun _ h => by
          show Hp w [⟨cx, cellsN .u32 8 (dg W32 (pw2 m 0)), _⟩, _, _] _
          rw [pw2, Nat.pow_zero, Nat.mod_eq_of_lt hm1]
          exact h) ?_
      rintro ⟨i, f⟩ ⟨hi5, hf⟩
      simp only at hi5 hf ⊢
      have hmod {wq : World} {H : List Blk} {f g : Nat → Nat} (hq : Hp w H wq) (hmem : (⟨cm, modC m neg f g, 99⟩ : Blk) ∈ H) : ArrAt wq cm 0 .u32 8 (dg W32 m) := fun j hj => by
        rw [Nat.zero_add]
        exact hq.cell hmem (modC_get hj).1
      have hr : pw2 m i < m := Nat.mod_lt _ (by omega)
      have e2 : (pw2 m i + pw2 m i) % m = pw2 m (i + 1) := by rw [pw2, pw2, Nat.pow_succ, Nat.mul_two, ← Nat.add_mod]
      by_cases hil : i < 512
      · by_cases h256 : i = 256
        · subst h256
          repeat' (first | (apply Wl.storeA; exact rfl; exact rfl; exact cellsN_len _ _ _; exact cellsN_one _ _ _; (repeat (first | apply HSet.here | apply HSet.there)); exact modC_one _ _ _ _ _) | (apply Wl.loadW; exact rfl; exact rfl; (repeat (first | exact List.Mem.head _ | apply List.Mem.tail)); exact rfl) | (apply Wl.move; exact rfl; exact rfl) | (apply Wl.assign; exact rfl; exact rfl) | (apply Wl.nilCheck; exact rfl; exact rfl) | (apply Wl.fieldAddrZ; exact rfl; exact rfl) | (apply Wl.eql; exact rfl; exact rfl; exact rfl) | (apply Wl.lss; exact rfl; exact rfl; exact rfl) | (apply Wl.nil) | (apply St.seq) | (apply St.block) | (apply St.region) | (apply St.condT; exact rfl; (first | with_reducible rfl | with_reducible assumption | decide)) | (apply St.skip) | (apply Gt.next) | (apply Wl.splitP; exact rfl; exact rfl; all_goals (intros; try (exfalso; omega))) | (apply Wl.splitB; exact rfl; exact rfl; all_goals intros) | (apply St.condP; exact rfl; all_goals (intros; try (exfalso; omega))) | (apply St.condB; exact rfl; all_goals intros))
          apply Wl.callQ
          exact rfl
          (repeat (first | exact Evs.nil | apply Evs.cons rfl))
          · intro wq hq
            refine (modAdd cm m (pw2 m 256) (pw2 m 256) wq (hmod hq (.tail _ (.head _))) hm hr hr).mono ?_
            rintro e wr ⟨rfl, hr⟩
            exact ⟨rfl, hq.keep hr⟩
          rw [e2]
          repeat' (first | (apply Wl.storeW; exact rfl; exact rfl; (repeat (first | apply HSet.here | apply HSet.there)); exact rfl; (first | exact cellsN_len _ _ _ | exact rfl)) | (apply Wl.move; exact rfl; exact rfl) | (apply Wl.addI; exact rfl; exact rfl; exact rfl; (constructor <;> omega)) | (apply Wl.nil) | (apply St.region) | (apply Gt.next) | (apply Gt.inNormal) | (apply Wl.splitP; exact rfl; exact rfl; all_goals (intros; try (exfalso; omega))) | (apply Wl.splitB; exact rfl; exact rfl; all_goals intros) | (apply St.condP; exact rfl; all_goals (intros; try (exfalso; omega))) | (apply St.condB; exact rfl; all_goals intros))
          apply Gt.round (256 + 1, dg W32 (pw2 m 256))
          rotate_left
          · simp
          · (repeat (first | exact Sub.nil | apply Sub.cons rfl))
          · exact fun _ h => h
          · exact ⟨by simp, fun _ => by rw [pw2, show W256 = 2 ^ 256 by decide]⟩
        · repeat' (first | (apply Wl.loadW; exact rfl; exact rfl; (repeat (first | exact List.Mem.head _ | apply List.Mem.tail)); exact rfl) | (apply Wl.move; exact rfl; exact rfl) | (apply Wl.assign; exact rfl; exact rfl) | (apply Wl.eql; exact rfl; exact rfl; exact rfl) | (apply Wl.lss; exact rfl; exact rfl; exact rfl) | (apply Wl.nil) | (apply St.seq) | (apply St.block) | (apply St.region) | (apply St.skip) | (apply Gt.next) | (apply Wl.splitP; exact rfl; exact rfl; all_goals (intros; try (exfalso; omega))) | (apply Wl.splitB; exact rfl; exact rfl; all_goals intros) | (apply St.condP; exact rfl; all_goals (intros; try (exfalso; omega))) | (apply St.condB; exact rfl; all_goals intros))
          apply Wl.callQ
          exact rfl
          (repeat (first | exact Evs.nil | apply Evs.cons rfl))
          · intro wq hq
            refine (modAdd cm m (pw2 m i) (pw2 m i) wq (hmod hq (.tail _ (.head _))) hm hr hr).mono ?_
            rintro e wr ⟨rfl, hr⟩
            exact ⟨rfl, hq.keep hr⟩
          rw [e2]
          repeat' (first | (apply Wl.storeW; exact rfl; exact rfl; (repeat (first | apply HSet.here | apply HSet.there)); exact rfl; (first | exact cellsN_len _ _ _ | exact rfl)) | (apply Wl.move; exact rfl; exact rfl) | (apply Wl.addI; exact rfl; exact rfl; exact rfl; (constructor <;> omega)) | (apply Wl.nil) | (apply St.region) | (apply Gt.next) | (apply Gt.inNormal) | (apply Wl.splitP; exact rfl; exact rfl; all_goals (intros; try (exfalso; omega))) | (apply Wl.splitB; exact rfl; exact rfl; all_goals intros) | (apply St.condP; exact rfl; all_goals (intros; try (exfalso; omega))) | (apply St.condB; exact rfl; all_goals intros))
          apply Gt.round (i + 1, f)
          rotate_left
          · simp only; omega
          · (repeat (first | exact Sub.nil | apply Sub.cons rfl))
          · exact fun _ h => h
          · exact ⟨by simp only; omega, fun h => hf (by simp only at h; omega)⟩
      · have hie : i = 512 := by omega
        subst hie
        have hff := hf (by decide)
        subst hff
        have e512 : pw2 m 512 = W256 * W256 % m := by rw [show W256 = 2 ^ 256 by decide]; exact pw2_dbl m 256 512 rfl
        rw [e512]
        repeat' (first | (apply Wl.storeA; exact rfl; exact rfl; exact cellsN_len _ _ _; exact cellsN_one _ _ _; (repeat (first | apply HSet.here | apply HSet.there)); exact modC_two _ _ _ _ _) | (apply Wl.loadW; exact rfl; exact rfl; (repeat (first | exact List.Mem.head _ | apply List.Mem.tail)); exact rfl) | (apply Wl.move; exact rfl; exact rfl) | (apply Wl.assign; exact rfl; exact rfl) | (apply Wl.nilCheck; exact rfl; exact rfl) | (apply Wl.fieldAddrZ; exact rfl; exact rfl) | (apply Wl.lss; exact rfl; exact rfl; exact rfl) | (apply Wl.nil) | (apply St.seq) | (apply St.region) | (apply St.condF; exact rfl; (first | with_reducible rfl | with_reducible assumption | decide)) | (apply St.ret) | (apply St.exit) | (apply Gt.next) | (apply Gt.thenExit) | (apply Gt.inExit) | (apply Gt.out2; exact rfl; exact rfl; exact rfl; intro w' hp) | (apply Wl.splitP; exact rfl; exact rfl; all_goals (intros; try (exfalso; omega))) | (apply Wl.splitB; exact rfl; exact rfl; all_goals intros) | (apply St.condP; exact rfl; all_goals (intros; try (exfalso; omega))) | (apply St.condB; exact rfl; all_goals intros))
        refine .inl ⟨hodd, h1, cm, rfl, by assumption, ?_, hp.drop (by simp; omega)⟩
        have hg {j : Nat} (hj : j < 8) := modC_get (m := m) (n := neg) (f := dg W32 (W256 % m)) (g := dg W32 (W256 * W256 % m)) hj
        exact ⟨⟨neg, hp.cell (.tail _ (.head _)) (hg (j := 0) (by decide)).2.1, hneg'⟩, hmod hp (.tail _ (.head _)), fun j hj => hp.cell (.tail _ (.head _)) (hg hj).2.2.1, fun j hj => hp.cell (.tail _ (.head _)) (hg hj).2.2.2, hm, hodd, hm1⟩
  · repeat' (first | (apply Wl.indexA (j := 0); exact rfl; exact rfl; exact rfl; (decide)) | (apply Wl.loadN; exact rfl; exact rfl; (repeat (first | exact List.Mem.head _ | apply List.Mem.tail)); (omega)) | (apply Wl.boxN; exact rfl; exact rfl; intro c hc ho) | (apply Wl.and1; exact rfl; exact rfl; exact rfl; exact rfl; (first | exact wrap2_u32 | exact wrap2_u64 | exact wrap2_i64)) | (apply Wl.move; exact rfl; exact rfl) | (apply Wl.assign; exact rfl; exact rfl) | (apply Wl.off; exact rfl; exact rfl; exact rfl; (first | with_reducible rfl | (show _ = false; with_reducible assumption) | (show _ = true; with_reducible assumption) | decide)) | (apply Wl.pickT; exact rfl; exact rfl; (first | with_reducible rfl | with_reducible assumption | decide); exact rfl) | (apply Wl.eql; exact rfl; exact rfl; exact rfl) | (apply Wl.nil) | (apply St.seq) | (apply St.region) | (apply St.condT; exact rfl; (first | with_reducible rfl | with_reducible assumption | decide)) | (apply St.ret) | (apply Gt.next) | (apply Gt.thenRet) | (apply Gt.out2; exact rfl; exact rfl; exact rfl; intro w' hp) | (apply Wl.splitP; exact rfl; exact rfl; all_goals (intros; try (exfalso; omega))) | (apply Wl.splitB; exact rfl; exact rfl; all_goals intros) | (apply St.condP; exact rfl; all_goals (intros; try (exfalso; omega))) | (apply St.condB; exact rfl; all_goals intros))
    exact .inr ⟨fun h => hodd h.1, rfl, hp.drop (by simp; omega)⟩
end Go.Proofs.YtfaobdakpbpkbaaDoor
end
section
/-
  Plain arithmetic of digits of 16 bits: the reference's sums, differences, products, halves.
-/
namespace Go.Proofs.YtfaobdakpbpkbaaDoor
abbrev D16 : Nat := 65536
theorem dlt16 (n i : Nat) : dg D16 n i < 65536 := dg_lt (by decide) n i
theorem W256_eq16 : W256 = D16 ^ 16 := by decide
end Go.Proofs.YtfaobdakpbpkbaaDoor
end
section
/-
  porticoref03: numbers of sixteen digits. Conditions: numbers are below 2^256, and below the modulus where the document says so.
-/
namespace Go.Proofs.YtfaobdakpbpkbaaDoor
open Go.RowKit Go.Pt
end Go.Proofs.YtfaobdakpbpkbaaDoor
end
section
/-
  porticoref03: take, twice, Add, Sub, Reduce, R. Conditions: numbers are below 2^256, and below the modulus where the document says so.
-/
namespace Go.Proofs.YtfaobdakpbpkbaaDoor
open Go.RowKit Go.Pt
end Go.Proofs.YtfaobdakpbpkbaaDoor
end
section
/-
  porticoref03: Add, Reduce, R, Half, Over. Conditions: numbers are below 2^256, and below the modulus where the document says so.
-/
namespace Go.Proofs.YtfaobdakpbpkbaaDoor
open Go.RowKit Go.Pt
end Go.Proofs.YtfaobdakpbpkbaaDoor
end
section
/-
  porticoref03: Sub, Half, Over. Conditions: numbers are below 2^256, and below the modulus where the document says so.
-/
namespace Go.Pt
end Go.Pt
namespace Go.Proofs.YtfaobdakpbpkbaaDoor
open Go.RowKit Go.Pt
end Go.Proofs.YtfaobdakpbpkbaaDoor
end
section
/-
  porticoref03.Mul; porticolaw03.like. Conditions: numbers are below 2^256.
-/
namespace Go.Proofs.YtfaobdakpbpkbaaDoor
open Go.RowKit Go.Pt
end Go.Proofs.YtfaobdakpbpkbaaDoor
end
section
/-
  porticolaw03: fit and MontMults. Conditions: none.
-/
namespace Go.Pt
theorem hpRb {w0 w : World} {H : List Blk} (h : Hp w0 H w) : Hp w H w := ⟨Upd.refl _ _, h.own, h.apart⟩
theorem hpNewer {w0 w w' : World} {H : List Blk} (h : Hp w0 H w) (u : Upd (fun k => w.heap.size ≤ k) w w') : Hp w0 H w' :=
  h.step u (fun x hx hle => by have := h.own.lt hx; omega) (fun k hk hle => by have := h.upd.size; omega)
theorem hpOn {w w1 w2 : World} {H : List Blk} (h : Hp w1 H w2) (hu : Upd (fun k => w.heap.size ≤ k) w w1) (hH : ∀ x ∈ H, w.heap.size ≤ x.b) : Upd (fun k => w.heap.size ≤ k) w w2 :=
  hu.comp h.upd fun j _ hs => hs.elim id fun y => Classical.byContradiction fun hlt => y (Off.of fun x hx e => by have := hH x hx; omega)
theorem hpFin {w w1 w' : World} {H : List Blk} (hp : Hp w1 H w') (hu : Upd (fun k => w.heap.size ≤ k) w w1) (hH : ∀ x ∈ H, w.heap.size ≤ x.b) : Hp w [] w' := hpNewer (hpNil w) (hpOn hp hu hH)
end Go.Pt
namespace Go.Proofs.YtfaobdakpbpkbaaDoor
open Go.RowKit Go.Pt
theorem outIn {m a : Nat} (h : m % 2 = 1) : a * W256 % m * rinv m % m = a % m := by rw [Nat.mod_mul_mod]; exact inW h
end Go.Proofs.YtfaobdakpbpkbaaDoor
end
section
/-
  P-256's two primes: certificates (Pratt), checked by the kernel; Fermat's little theorem for both. Conditions: none.
-/
namespace Go.Proofs.YtfaobdakpbpkbaaDoor.Prim
theorem pigeon : ∀ (n : Nat) (f : Nat → Nat), (∀ i, i < n → f i < n) → (∀ i j, i < n → j < n → f i = f j → i = j) → ∀ y, y < n → ∃ i, i < n ∧ f i = y := by
  intro n
  induction n with
  | zero => intro f _ _ y hy; omega
  | succ n ih =>
    intro f hr hi y hy
    by_cases hn : ∃ i, i < n ∧ f i = n
    · obtain ⟨k, hk, hfk⟩ := hn
      have hfn : f n < n := by
        have h1 := hr n (by omega)
        have h2 : f n ≠ n := fun h => by
          have := hi k n (by omega) (by omega) (by rw [hfk, h])
          omega
        omega
      by_cases hyn : y = n
      · exact ⟨k, by omega, by rw [hfk, hyn]⟩
      · have := ih (fun i => if i = k then f n else f i)
          (fun i hin => by
            split
            · exact hfn
            · have h1 := hr i (by omega)
              have h2 : f i ≠ n := fun h => by
                have := hi i k (by omega) (by omega) (by rw [h, hfk])
                omega
              omega)
          (fun i j hin hjn h => by
            split at h <;> split at h
            · omega
            · have := hi n j (by omega) (by omega) h
              omega
            · have := hi i n (by omega) (by omega) h
              omega
            · exact hi i j (by omega) (by omega) h)
          y (by omega)
        obtain ⟨i, hin, h⟩ := this
        split at h
        · exact ⟨n, by omega, h⟩
        · exact ⟨i, by omega, h⟩
    · have hlt : ∀ i, i < n → f i < n := fun i hin => by
        have h1 := hr i (by omega)
        have h2 : f i ≠ n := fun h => hn ⟨i, hin, h⟩
        omega
      have hsur := ih f hlt (fun i j hin hjn h => hi i j (by omega) (by omega) h)
      by_cases hfn : f n < n
      · obtain ⟨i, hin, h⟩ := hsur (f n) hfn
        have := hi i n (by omega) (by omega) h
        omega
      · have hfn' : f n = n := by have := hr n (by omega); omega
        by_cases hyn : y = n
        · exact ⟨n, by omega, by rw [hfn', hyn]⟩
        · obtain ⟨i, hin, h⟩ := hsur y (by omega)
          exact ⟨i, by omega, h⟩
/-- no proper divisor -/
def Pr (q : Nat) : Prop := 1 < q ∧ ∀ d, d ∣ q → d = 1 ∨ d = q
def prodL : List Nat → Nat
  | [] => 1
  | q :: r => q * prodL r
theorem prime_in {L : List Nat} (h : ∀ q, q ∈ L → Pr q) : ∀ e, e ∣ prodL L → e ≠ 1 → ∃ q, q ∈ L ∧ q ∣ e := by
  induction L with
  | nil => intro e he h1; exact absurd (Nat.dvd_one.mp he) h1
  | cons q r ih =>
    intro e he h1
    by_cases hq : q ∣ e
    · exact ⟨q, .head _, hq⟩
    · have hc : Nat.Coprime e q := by
        have hp := (h q (.head _)).2 (Nat.gcd e q) (Nat.gcd_dvd_right _ _)
        rcases hp with hp | hp
        · exact hp
        · exact absurd (hp ▸ Nat.gcd_dvd_left e q) hq
      obtain ⟨x, hx, hd⟩ := ih (fun q hq => h q (.tail _ hq)) e (hc.dvd_of_dvd_mul_left he) h1
      exact ⟨x, .tail _ hx, hd⟩
theorem one_pow_mod {g m k : Nat} (n : Nat) (h : g ^ k % m = 1 % m) : g ^ (k * n) % m = 1 % m := by
  rw [Nat.pow_mul, Nat.pow_mod, h, ← Nat.pow_mod, Nat.one_pow]
theorem gcd_one {g m : Nat} (a b : Nat) : g ^ a % m = 1 % m → g ^ b % m = 1 % m → g ^ (Nat.gcd a b) % m = 1 % m := by
  induction a, b using Nat.gcd.induction with
  | H0 n => intro _ h; rw [Nat.gcd_zero_left]; exact h
  | H1 a b ha ih =>
    intro h1 h2
    rw [Nat.gcd_rec]
    refine ih ?_ h1
    have e : b = b % a + a * (b / a) := (Nat.mod_add_div b a).symm
    rw [e, Nat.pow_add, Nat.mul_mod, one_pow_mod _ h1, ← Nat.mul_mod, Nat.mul_one] at h2
    exact h2
/-- powers by digits of base 256, from the top -/
def powL (g m : Nat) : List Nat → Nat → Nat
  | [], x => x
  | d :: r, x => powL g m r (x ^ 256 * g ^ d % m)
def valL : List Nat → Nat → Nat
  | [], x => x
  | d :: r, x => valL r (x * 256 + d)
theorem powL_val (g m : Nat) : ∀ (l : List Nat) (e : Nat), powL g m l (g ^ e % m) = g ^ valL l e % m := by
  intro l
  induction l with
  | nil => intro e; rfl
  | cons d r ih =>
    intro e
    rw [powL, valL, ← ih]
    congr 1
    rw [Nat.mul_mod, ← Nat.pow_mod, ← Nat.mul_mod, ← Nat.pow_mul, ← Nat.pow_add]
/-- the multiplicative order of g is m - 1 -/
def Gen (g m : Nat) : Prop := 1 < m ∧ g ^ (m - 1) % m = 1 ∧ ∀ k, 0 < k → k < m - 1 → g ^ k % m ≠ 1
theorem gen_of {g m : Nat} {L : List Nat} (h1 : 1 < m) (hL : ∀ q, q ∈ L → Pr q) (hp : prodL L = m - 1) (hf : g ^ (m - 1) % m = 1) (hn : ∀ q, q ∈ L → g ^ ((m - 1) / q) % m ≠ 1) : Gen g m := by
  refine ⟨h1, hf, fun k hk hkm h => ?_⟩
  have e1 : 1 % m = 1 := Nat.mod_eq_of_lt h1
  have hg := gcd_one (g := g) (m := m) k (m - 1) (by rw [h, e1]) (by rw [hf, e1])
  have hd : Nat.gcd k (m - 1) ∣ m - 1 := Nat.gcd_dvd_right _ _
  have hle : Nat.gcd k (m - 1) ≤ k := Nat.gcd_le_left _ hk
  generalize Nat.gcd k (m - 1) = d at *
  obtain ⟨e, he⟩ := hd
  have hd0 : 0 < d := Nat.pos_of_ne_zero fun h0 => by rw [h0, Nat.zero_mul] at he; omega
  have he1 : e ≠ 1 := fun h0 => by rw [h0, Nat.mul_one] at he; omega
  obtain ⟨q, hq, x, hx⟩ := prime_in hL e (by rw [hp, he]; exact Nat.dvd_mul_left _ _) he1
  have hq1 := (hL q hq).1
  apply hn q hq
  have e2 : (m - 1) / q = d * x := by rw [he, hx, show d * (q * x) = q * (d * x) by rw [Nat.mul_left_comm], Nat.mul_div_cancel_left _ (by omega)]
  rw [e2, one_pow_mod _ hg, e1]
theorem gen_all {g m : Nat} (h : Gen g m) (a : Nat) (ha : 0 < a) (ham : a < m) : ∃ k, k < m - 1 ∧ g ^ k % m = a := by
  obtain ⟨h1, hf, hn⟩ := h
  have h1m : 1 % m = 1 := Nat.mod_eq_of_lt h1
  have hpos : ∀ i, i < m - 1 → 0 < g ^ i % m := fun i hi => Nat.pos_of_ne_zero fun h0 => by
    have e : g ^ (m - 1) = g ^ i * g ^ (m - 1 - i) := by rw [← Nat.pow_add]; congr 1; omega
    rw [e, Nat.mul_mod, h0, Nat.zero_mul, Nat.zero_mod] at hf
    omega
  have hinj : ∀ i j, i < j → j < m - 1 → g ^ i % m = g ^ j % m → False := fun i j hij hj h => by
    apply hn (m - 1 - j + i) (by omega) (by omega)
    rw [Nat.pow_add, Nat.mul_mod, h, ← Nat.mul_mod, ← Nat.pow_add, show m - 1 - j + j = m - 1 by omega, hf]
  obtain ⟨k, hk, hka⟩ := pigeon (m - 1) (fun i => g ^ i % m - 1)
    (fun i hi => by have := Nat.mod_lt (g ^ i) (show 0 < m by omega); omega)
    (fun i j hi hj h => by
      have hp1 := hpos i hi
      have hp2 := hpos j hj
      rcases Nat.lt_trichotomy i j with hlt | heq | hgt
      · exact (hinj i j hlt hj (by omega)).elim
      · exact heq
      · exact (hinj j i hgt hi (by omega)).elim)
    (a - 1) (by omega)
  have := hpos k hk
  exact ⟨k, hk, by omega⟩
theorem gen_prime {g m : Nat} (h : Gen g m) : Pr m := by
  refine ⟨h.1, fun d hd => ?_⟩
  by_cases hdm : d = m
  · exact .inr hdm
  · left
    have h1 := h.1
    have hd0 : 0 < d := Nat.pos_of_dvd_of_pos hd (by omega)
    have hle := Nat.le_of_dvd (by omega) hd
    obtain ⟨k, hk, hka⟩ := gen_all h d hd0 (by omega)
    have e : g ^ (m - 1) = g ^ k * g ^ (m - 1 - k) := by rw [← Nat.pow_add]; congr 1; omega
    have hf := h.2.1
    rw [e, Nat.mul_mod, hka] at hf
    have hdd : d ∣ d * (g ^ (m - 1 - k) % m) % m := (Nat.dvd_mod_iff hd).mpr (Nat.dvd_mul_right _ _)
    rw [hf] at hdd
    exact Nat.dvd_one.mp hdd
/-- Fermat's little theorem, from a generator -/
theorem gen_fermat {g m : Nat} (h : Gen g m) (a : Nat) (ha : a % m ≠ 0) : a ^ (m - 1) % m = 1 := by
  have h1 := h.1
  have h1m : 1 % m = 1 := Nat.mod_eq_of_lt h1
  obtain ⟨k, _, hk⟩ := gen_all h (a % m) (by omega) (Nat.mod_lt _ (by omega))
  rw [Nat.pow_mod, ← hk, ← Nat.pow_mod, ← Nat.pow_mul, Nat.mul_comm, one_pow_mod _ (by rw [h.2.1, h1m]), h1m]
/-- a certificate as a check: digits of m - 1 and of its parts -/
def certOk (g m : Nat) (top : List Nat) (L : List (Nat × List Nat)) : Bool :=
  Nat.blt 1 m && Nat.beq (valL top 0) (m - 1) && Nat.beq (powL g m top (1 % m)) 1 &&
  L.all fun x => Nat.beq (valL x.2 0) ((m - 1) / x.1) && !(Nat.beq (powL g m x.2 (1 % m)) 1)
theorem cert {g m : Nat} {top : List Nat} {L : List (Nat × List Nat)} {F : List Nat} (h : certOk g m top L = true) (hF : ∀ q, q ∈ F → Pr q) (hL : ∀ q, q ∈ F → q ∈ L.map Prod.fst) (hp : prodL F = m - 1) : Gen g m := by
  simp only [certOk, Bool.and_eq_true, List.all_eq_true, Bool.not_eq_true', Nat.blt_eq] at h
  obtain ⟨⟨⟨h1, hv⟩, ht⟩, ha⟩ := h
  have e0 : ∀ l, powL g m l (1 % m) = g ^ valL l 0 % m := fun l => by rw [← powL_val, Nat.pow_zero]
  refine gen_of h1 hF hp (by rw [← Nat.eq_of_beq_eq_true hv, ← e0, Nat.eq_of_beq_eq_true ht]) (fun q hq => ?_)
  obtain ⟨⟨q', l⟩, hm, rfl⟩ := List.mem_map.mp (hL q hq)
  have := ha _ hm
  simp only at this ⊢
  rw [← Nat.eq_of_beq_eq_true this.1, ← e0]
  exact Nat.ne_of_beq_eq_false this.2
theorem pn : ∀ q, q ∈ ([] : List Nat) → Pr q := fun _ h => nomatch h
theorem pc {a : Nat} {r : List Nat} (h : Pr a) (hr : ∀ q, q ∈ r → Pr q) : ∀ q, q ∈ a :: r → Pr q := fun q hq => (List.mem_cons.mp hq).elim (fun e => e ▸ h) (hr q)
theorem p2 : Pr 2 := ⟨by decide, fun d hd => by
  have := Nat.le_of_dvd (by decide) hd
  have h0 : 0 < d := Nat.pos_of_dvd_of_pos hd (by decide)
  omega⟩
theorem g3 : Gen 2 3 := cert (top := [2]) (L := [(2, [1])]) (F := [2]) (by decide +kernel) (pc p2 pn) (by decide +kernel) (by decide +kernel)
theorem p3 : Pr 3 := gen_prime g3
theorem g5 : Gen 2 5 := cert (top := [4]) (L := [(2, [2])]) (F := [2, 2]) (by decide +kernel) (pc p2 (pc p2 pn)) (by decide +kernel) (by decide +kernel)
theorem p5 : Pr 5 := gen_prime g5
theorem g17 : Gen 3 17 := cert (top := [16]) (L := [(2, [8])]) (F := [2, 2, 2, 2]) (by decide +kernel) (pc p2 (pc p2 (pc p2 (pc p2 pn)))) (by decide +kernel) (by decide +kernel)
theorem p17 : Pr 17 := gen_prime g17
theorem g257 : Gen 3 257 := cert (top := [1, 0]) (L := [(2, [128])]) (F := [2, 2, 2, 2, 2, 2, 2, 2]) (by decide +kernel) (pc p2 (pc p2 (pc p2 (pc p2 (pc p2 (pc p2 (pc p2 (pc p2 pn)))))))) (by decide +kernel) (by decide +kernel)
theorem p257 : Pr 257 := gen_prime g257
theorem g641 : Gen 3 641 := cert (top := [2, 128]) (L := [(2, [1, 64]), (5, [128])]) (F := [2, 2, 2, 2, 2, 2, 2, 5]) (by decide +kernel) (pc p2 (pc p2 (pc p2 (pc p2 (pc p2 (pc p2 (pc p2 (pc p5 pn)))))))) (by decide +kernel) (by decide +kernel)
theorem p641 : Pr 641 := gen_prime g641
theorem g1531 : Gen 2 1531 := cert (top := [5, 250]) (L := [(2, [2, 253]), (3, [1, 254]), (5, [1, 50]), (17, [90])]) (F := [2, 3, 3, 5, 17]) (by decide +kernel) (pc p2 (pc p3 (pc p3 (pc p5 (pc p17 pn))))) (by decide +kernel) (by decide +kernel)
theorem p1531 : Pr 1531 := gen_prime g1531
theorem g65537 : Gen 3 65537 := cert (top := [1, 0, 0]) (L := [(2, [128, 0])]) (F := [2, 2, 2, 2, 2, 2, 2, 2, 2, 2, 2, 2, 2, 2, 2, 2]) (by decide +kernel) (pc p2 (pc p2 (pc p2 (pc p2 (pc p2 (pc p2 (pc p2 (pc p2 (pc p2 (pc p2 (pc p2 (pc p2 (pc p2 (pc p2 (pc p2 (pc p2 pn)))))))))))))))) (by decide +kernel) (by decide +kernel)
theorem p65537 : Pr 65537 := gen_prime g65537
theorem g7 : Gen 3 7 := cert (top := [6]) (L := [(2, [3]), (3, [2])]) (F := [2, 3]) (by decide +kernel) (pc p2 (pc p3 pn)) (by decide +kernel) (by decide +kernel)
theorem p7 : Pr 7 := gen_prime g7
theorem g13 : Gen 2 13 := cert (top := [12]) (L := [(2, [6]), (3, [4])]) (F := [2, 2, 3]) (by decide +kernel) (pc p2 (pc p2 (pc p3 pn))) (by decide +kernel) (by decide +kernel)
theorem p13 : Pr 13 := gen_prime g13
theorem g53 : Gen 2 53 := cert (top := [52]) (L := [(2, [26]), (13, [4])]) (F := [2, 2, 13]) (by decide +kernel) (pc p2 (pc p2 (pc p13 pn))) (by decide +kernel) (by decide +kernel)
theorem p53 : Pr 53 := gen_prime g53
theorem g11 : Gen 2 11 := cert (top := [10]) (L := [(2, [5]), (5, [2])]) (F := [2, 5]) (by decide +kernel) (pc p2 (pc p5 pn)) (by decide +kernel) (by decide +kernel)
theorem p11 : Pr 11 := gen_prime g11
theorem g661 : Gen 2 661 := cert (top := [2, 148]) (L := [(2, [1, 74]), (3, [220]), (5, [132]), (11, [60])]) (F := [2, 2, 3, 5, 11]) (by decide +kernel) (pc p2 (pc p2 (pc p3 (pc p5 (pc p11 pn))))) (by decide +kernel) (by decide +kernel)
theorem p661 : Pr 661 := gen_prime g661
theorem g490463 : Gen 14 490463 := cert (top := [7, 123, 222]) (L := [(2, [3, 189, 239]), (7, [1, 17, 178]), (53, [36, 38]), (661, [2, 230])]) (F := [2, 7, 53, 661]) (by decide +kernel) (pc p2 (pc p7 (pc p53 (pc p661 pn)))) (by decide +kernel) (by decide +kernel)
theorem p490463 : Pr 490463 := gen_prime g490463
theorem g727 : Gen 5 727 := cert (top := [2, 214]) (L := [(2, [1, 107]), (3, [242]), (11, [66])]) (F := [2, 3, 11, 11]) (by decide +kernel) (pc p2 (pc p3 (pc p11 (pc p11 pn)))) (by decide +kernel) (by decide +kernel)
theorem p727 : Pr 727 := gen_prime g727
theorem g17449 : Gen 14 17449 := cert (top := [68, 40]) (L := [(2, [34, 20]), (3, [22, 184]), (727, [24])]) (F := [2, 2, 2, 3, 727]) (by decide +kernel) (pc p2 (pc p2 (pc p2 (pc p3 (pc p727 pn))))) (by decide +kernel) (by decide +kernel)
theorem p17449 : Pr 17449 := gen_prime g17449
theorem g6700417 : Gen 5 6700417 := cert (top := [102, 61, 128]) (L := [(2, [51, 30, 192]), (3, [34, 20, 128]), (17449, [1, 128])]) (F := [2, 2, 2, 2, 2, 2, 2, 3, 17449]) (by decide +kernel) (pc p2 (pc p2 (pc p2 (pc p2 (pc p2 (pc p2 (pc p2 (pc p3 (pc p17449 pn))))))))) (by decide +kernel) (by decide +kernel)
theorem p6700417 : Pr 6700417 := gen_prime g6700417
theorem g241 : Gen 7 241 := cert (top := [240]) (L := [(2, [120]), (3, [80]), (5, [48])]) (F := [2, 2, 2, 2, 3, 5]) (by decide +kernel) (pc p2 (pc p2 (pc p2 (pc p2 (pc p3 (pc p5 pn)))))) (by decide +kernel) (by decide +kernel)
theorem p241 : Pr 241 := gen_prime g241
theorem g2411 : Gen 6 2411 := cert (top := [9, 106]) (L := [(2, [4, 181]), (5, [1, 226]), (241, [10])]) (F := [2, 5, 241]) (by decide +kernel) (pc p2 (pc p5 (pc p241 pn))) (by decide +kernel) (by decide +kernel)
theorem p2411 : Pr 2411 := gen_prime g2411
theorem g23 : Gen 5 23 := cert (top := [22]) (L := [(2, [11]), (11, [2])]) (F := [2, 11]) (by decide +kernel) (pc p2 (pc p11 pn)) (by decide +kernel) (by decide +kernel)
theorem p23 : Pr 23 := gen_prime g23
theorem g107 : Gen 2 107 := cert (top := [106]) (L := [(2, [53]), (53, [2])]) (F := [2, 53]) (by decide +kernel) (pc p2 (pc p53 pn)) (by decide +kernel) (by decide +kernel)
theorem p107 : Pr 107 := gen_prime g107
theorem g157 : Gen 5 157 := cert (top := [156]) (L := [(2, [78]), (3, [52]), (13, [12])]) (F := [2, 2, 3, 13]) (by decide +kernel) (pc p2 (pc p2 (pc p3 (pc p13 pn)))) (by decide +kernel) (by decide +kernel)
theorem p157 : Pr 157 := gen_prime g157
theorem g3769 : Gen 7 3769 := cert (top := [14, 184]) (L := [(2, [7, 92]), (3, [4, 232]), (157, [24])]) (F := [2, 2, 2, 3, 157]) (by decide +kernel) (pc p2 (pc p2 (pc p2 (pc p3 (pc p157 pn))))) (by decide +kernel) (by decide +kernel)
theorem p3769 : Pr 3769 := gen_prime g3769
theorem g204061199 : Gen 11 204061199 := cert (top := [12, 41, 186, 14]) (L := [(2, [6, 20, 221, 7]), (11, [1, 27, 16, 234]), (23, [135, 97, 34]), (107, [29, 25, 170]), (3769, [211, 126])]) (F := [2, 11, 23, 107, 3769]) (by decide +kernel) (pc p2 (pc p11 (pc p23 (pc p107 (pc p3769 pn))))) (by decide +kernel) (by decide +kernel)
theorem p204061199 : Pr 204061199 := gen_prime g204061199
theorem g34282281433 : Gen 17 34282281433 := cert (top := [7, 251, 98, 25, 216]) (L := [(2, [3, 253, 177, 12, 236]), (3, [2, 169, 32, 179, 72]), (7, [1, 35, 233, 113, 104]), (204061199, [168])]) (F := [2, 2, 2, 3, 7, 204061199]) (by decide +kernel) (pc p2 (pc p2 (pc p2 (pc p3 (pc p7 (pc p204061199 pn)))))) (by decide +kernel) (by decide +kernel)
theorem p34282281433 : Pr 34282281433 := gen_prime g34282281433
theorem g43 : Gen 3 43 := cert (top := [42]) (L := [(2, [21]), (3, [14]), (7, [6])]) (F := [2, 3, 7]) (by decide +kernel) (pc p2 (pc p3 (pc p7 pn))) (by decide +kernel) (by decide +kernel)
theorem p43 : Pr 43 := gen_prime g43
theorem g173 : Gen 2 173 := cert (top := [172]) (L := [(2, [86]), (43, [4])]) (F := [2, 2, 43]) (by decide +kernel) (pc p2 (pc p2 (pc p43 pn))) (by decide +kernel) (by decide +kernel)
theorem p173 : Pr 173 := gen_prime g173
theorem g197 : Gen 2 197 := cert (top := [196]) (L := [(2, [98]), (7, [28])]) (F := [2, 2, 7, 7]) (by decide +kernel) (pc p2 (pc p2 (pc p7 (pc p7 pn)))) (by decide +kernel) (by decide +kernel)
theorem p197 : Pr 197 := gen_prime g197
theorem g919 : Gen 7 919 := cert (top := [3, 150]) (L := [(2, [1, 203]), (3, [1, 50]), (17, [54])]) (F := [2, 3, 3, 3, 17]) (by decide +kernel) (pc p2 (pc p3 (pc p3 (pc p3 (pc p17 pn))))) (by decide +kernel) (by decide +kernel)
theorem p919 : Pr 919 := gen_prime g919
theorem g3677 : Gen 2 3677 := cert (top := [14, 92]) (L := [(2, [7, 46]), (919, [4])]) (F := [2, 2, 919]) (by decide +kernel) (pc p2 (pc p2 (pc p919 pn))) (by decide +kernel) (by decide +kernel)
theorem p3677 : Pr 3677 := gen_prime g3677
theorem g66417393611 : Gen 6 66417393611 := cert (top := [15, 118, 200, 255, 202]) (L := [(2, [7, 187, 100, 127, 229]), (5, [3, 23, 193, 204, 194]), (53, [74, 177, 173, 226]), (173, [22, 226, 22, 50]), (197, [20, 24, 105, 66]), (3677, [1, 19, 158, 82])]) (F := [2, 5, 53, 173, 197, 3677]) (by decide +kernel) (pc p2 (pc p5 (pc p53 (pc p173 (pc p197 (pc p3677 pn)))))) (by decide +kernel) (by decide +kernel)
theorem p66417393611 : Pr 66417393611 := gen_prime g66417393611
theorem g11290956913871 : Gen 13 11290956913871 := cert (top := [10, 68, 225, 121, 220, 206]) (L := [(2, [5, 34, 112, 188, 238, 103]), (5, [2, 13, 198, 177, 248, 246]), (17, [154, 163, 217, 253, 238]), (66417393611, [170])]) (F := [2, 5, 17, 66417393611]) (by decide +kernel) (pc p2 (pc p5 (pc p17 (pc p66417393611 pn)))) (by decide +kernel) (by decide +kernel)
theorem p11290956913871 : Pr 11290956913871 := gen_prime g11290956913871
theorem g757 : Gen 2 757 := cert (top := [2, 244]) (L := [(2, [1, 122]), (3, [252]), (7, [108])]) (F := [2, 2, 3, 3, 3, 7]) (by decide +kernel) (pc p2 (pc p2 (pc p3 (pc p3 (pc p3 (pc p7 pn)))))) (by decide +kernel) (by decide +kernel)
theorem p757 : Pr 757 := gen_prime g757
theorem g18169 : Gen 11 18169 := cert (top := [70, 248]) (L := [(2, [35, 124]), (3, [23, 168]), (757, [24])]) (F := [2, 2, 2, 3, 757]) (by decide +kernel) (pc p2 (pc p2 (pc p2 (pc p3 (pc p757 pn))))) (by decide +kernel) (by decide +kernel)
theorem p18169 : Pr 18169 := gen_prime g18169
theorem g181 : Gen 2 181 := cert (top := [180]) (L := [(2, [90]), (3, [60]), (5, [36])]) (F := [2, 2, 3, 3, 5]) (by decide +kernel) (pc p2 (pc p2 (pc p3 (pc p3 (pc p5 pn))))) (by decide +kernel) (by decide +kernel)
theorem p181 : Pr 181 := gen_prime g181
theorem g1087 : Gen 3 1087 := cert (top := [4, 62]) (L := [(2, [2, 31]), (3, [1, 106]), (181, [6])]) (F := [2, 3, 181]) (by decide +kernel) (pc p2 (pc p3 (pc p181 pn))) (by decide +kernel) (by decide +kernel)
theorem p1087 : Pr 1087 := gen_prime g1087
theorem g4349 : Gen 2 4349 := cert (top := [16, 252]) (L := [(2, [8, 126]), (1087, [4])]) (F := [2, 2, 1087]) (by decide +kernel) (pc p2 (pc p2 (pc p1087 pn))) (by decide +kernel) (by decide +kernel)
theorem p4349 : Pr 4349 := gen_prime g4349
theorem g78283 : Gen 3 78283 := cert (top := [1, 49, 202]) (L := [(2, [152, 229]), (3, [101, 238]), (4349, [18])]) (F := [2, 3, 3, 4349]) (by decide +kernel) (pc p2 (pc p3 (pc p3 (pc p4349 pn)))) (by decide +kernel) (by decide +kernel)
theorem p78283 : Pr 78283 := gen_prime g78283
theorem g313 : Gen 10 313 := cert (top := [1, 56]) (L := [(2, [156]), (3, [104]), (13, [24])]) (F := [2, 2, 2, 3, 13]) (by decide +kernel) (pc p2 (pc p2 (pc p2 (pc p3 (pc p13 pn))))) (by decide +kernel) (by decide +kernel)
theorem p313 : Pr 313 := gen_prime g313
theorem g704251 : Gen 2 704251 := cert (top := [10, 190, 250]) (L := [(2, [5, 95, 125]), (3, [3, 148, 254]), (5, [2, 38, 50]), (313, [8, 202])]) (F := [2, 3, 3, 5, 5, 5, 313]) (by decide +kernel) (pc p2 (pc p3 (pc p3 (pc p5 (pc p5 (pc p5 (pc p313 pn))))))) (by decide +kernel) (by decide +kernel)
theorem p704251 : Pr 704251 := gen_prime g704251
theorem g46076956964474543 : Gen 5 46076956964474543 := cert (top := [163, 178, 191, 140, 50, 206, 174]) (L := [(2, [81, 217, 95, 198, 25, 103, 87]), (23, [7, 30, 8, 84, 2, 53, 130]), (18169, [2, 78, 118, 154, 73, 158]), (78283, [137, 10, 249, 254, 74]), (704251, [15, 59, 191, 52, 170])]) (F := [2, 23, 18169, 78283, 704251]) (by decide +kernel) (pc p2 (pc p23 (pc p18169 (pc p78283 (pc p704251 pn))))) (by decide +kernel) (by decide +kernel)
theorem p46076956964474543 : Pr 46076956964474543 := gen_prime g46076956964474543
theorem g774023187263532362759620327192479577272145303 : Gen 3 774023187263532362759620327192479577272145303 := cert (top := [34, 181, 89, 181, 200, 22, 174, 0, 242, 55, 142, 24, 223, 56, 197, 65, 14, 213, 150]) (L := [(2, [17, 90, 172, 218, 228, 11, 87, 0, 121, 27, 199, 12, 111, 156, 98, 160, 135, 106, 203]), (3, [11, 145, 200, 145, 237, 92, 228, 170, 251, 103, 218, 8, 74, 104, 65, 192, 90, 71, 50]), (2411, [3, 175, 114, 83, 56, 208, 210, 114, 252, 187, 65, 25, 65, 218, 235, 55, 56, 66]), (34282281433, [4, 89, 45, 160, 193, 233, 52, 17, 102, 185, 160, 172, 144, 254, 134]), (11290956913871, [3, 97, 65, 8, 239, 192, 5, 57, 229, 53, 197, 4, 210, 138]), (46076956964474543, [54, 71, 98, 26, 12, 133, 177, 21, 10, 208, 25, 74])]) (F := [2, 3, 3, 2411, 34282281433, 11290956913871, 46076956964474543]) (by decide +kernel) (pc p2 (pc p3 (pc p3 (pc p2411 (pc p34282281433 (pc p11290956913871 (pc p46076956964474543 pn))))))) (by decide +kernel) (by decide +kernel)
theorem p774023187263532362759620327192479577272145303 : Pr 774023187263532362759620327192479577272145303 := gen_prime g774023187263532362759620327192479577272145303
theorem g835945042244614951780389953367877943453916927241 : Gen 11 835945042244614951780389953367877943453916927241 := cert (top := [146, 109, 18, 118, 228, 31, 174, 19, 253, 218, 95, 120, 237, 183, 128, 42, 118, 149, 21, 8]) (L := [(2, [73, 54, 137, 59, 114, 15, 215, 9, 254, 237, 47, 188, 118, 219, 192, 21, 59, 74, 138, 132]), (3, [48, 207, 6, 39, 161, 95, 228, 177, 84, 158, 31, 210, 249, 231, 213, 99, 124, 220, 92, 88]), (5, [29, 73, 3, 177, 96, 211, 34, 208, 204, 94, 223, 228, 252, 87, 230, 110, 228, 132, 55, 104]), (774023187263532362759620327192479577272145303, [4, 56])]) (F := [2, 2, 2, 3, 3, 3, 5, 774023187263532362759620327192479577272145303]) (by decide +kernel) (pc p2 (pc p2 (pc p2 (pc p3 (pc p3 (pc p3 (pc p5 (pc p774023187263532362759620327192479577272145303 pn)))))))) (by decide +kernel) (by decide +kernel)
theorem p835945042244614951780389953367877943453916927241 : Pr 835945042244614951780389953367877943453916927241 := gen_prime g835945042244614951780389953367877943453916927241
theorem g115792089210356248762697446949407573530086143415290314195533631308867097853951 : Gen 6 115792089210356248762697446949407573530086143415290314195533631308867097853951 := cert (top := [255, 255, 255, 255, 0, 0, 0, 1, 0, 0, 0, 0, 0, 0, 0, 0, 0, 0, 0, 0, 255, 255, 255, 255, 255, 255, 255, 255, 255, 255, 255, 254]) (L := [(2, [127, 255, 255, 255, 128, 0, 0, 0, 128, 0, 0, 0, 0, 0, 0, 0, 0, 0, 0, 0, 127, 255, 255, 255, 255, 255, 255, 255, 255, 255, 255, 255]), (3, [85, 85, 85, 85, 0, 0, 0, 0, 85, 85, 85, 85, 85, 85, 85, 85, 85, 85, 85, 85, 170, 170, 170, 170, 170, 170, 170, 170, 170, 170, 170, 170]), (5, [51, 51, 51, 51, 0, 0, 0, 0, 51, 51, 51, 51, 51, 51, 51, 51, 51, 51, 51, 51, 102, 102, 102, 102, 102, 102, 102, 102, 102, 102, 102, 102]), (17, [15, 15, 15, 15, 0, 0, 0, 0, 15, 15, 15, 15, 15, 15, 15, 15, 15, 15, 15, 15, 30, 30, 30, 30, 30, 30, 30, 30, 30, 30, 30, 30]), (257, [255, 0, 255, 0, 0, 0, 0, 0, 255, 0, 255, 0, 255, 0, 255, 0, 255, 0, 255, 1, 254, 1, 254, 1, 254, 1, 254, 1, 254, 1, 254]), (641, [102, 61, 128, 255, 51, 132, 254, 1, 50, 184, 130, 254, 205, 71, 125, 1, 50, 184, 130, 255, 51, 132, 254, 0, 204, 123, 1, 255, 51, 132, 254]), (1531, [42, 206, 86, 157, 88, 116, 96, 251, 167, 11, 52, 0, 171, 57, 90, 118, 13, 10, 222, 100, 40, 204, 170, 142, 33, 27, 150, 253, 211, 133, 154]), (65537, [255, 255, 0, 0, 0, 0, 0, 0, 255, 255, 0, 0, 255, 255, 0, 0, 255, 255, 0, 1, 255, 254, 0, 1, 255, 254, 0, 1, 255, 254]), (490463, [34, 52, 247, 6, 66, 62, 222, 156, 141, 98, 162, 179, 111, 217, 181, 150, 59, 232, 46, 22, 78, 37, 107, 205, 20, 128, 56, 47, 255, 194]), (6700417, [2, 128, 255, 255, 250, 254, 0, 0, 7, 130, 255, 255, 248, 125, 0, 0, 7, 130, 255, 255, 250, 254, 0, 0, 5, 1, 255, 255, 250, 254]), (835945042244614951780389953367877943453916927241, [1, 191, 146, 18, 113, 255, 255, 255, 254, 64, 109, 237, 142])]) (F := [2, 3, 5, 5, 17, 257, 641, 1531, 65537, 490463, 6700417, 835945042244614951780389953367877943453916927241]) (by decide +kernel) (pc p2 (pc p3 (pc p5 (pc p5 (pc p17 (pc p257 (pc p641 (pc p1531 (pc p65537 (pc p490463 (pc p6700417 (pc p835945042244614951780389953367877943453916927241 pn)))))))))))) (by decide +kernel) (by decide +kernel)
theorem g71 : Gen 7 71 := cert (top := [70]) (L := [(2, [35]), (5, [14]), (7, [10])]) (F := [2, 5, 7]) (by decide +kernel) (pc p2 (pc p5 (pc p7 pn))) (by decide +kernel) (by decide +kernel)
theorem p71 : Pr 71 := gen_prime g71
theorem g131 : Gen 2 131 := cert (top := [130]) (L := [(2, [65]), (5, [26]), (13, [10])]) (F := [2, 5, 13]) (by decide +kernel) (pc p2 (pc p5 (pc p13 pn))) (by decide +kernel) (by decide +kernel)
theorem p131 : Pr 131 := gen_prime g131
theorem g31 : Gen 3 31 := cert (top := [30]) (L := [(2, [15]), (3, [10]), (5, [6])]) (F := [2, 3, 5]) (by decide +kernel) (pc p2 (pc p3 (pc p5 pn))) (by decide +kernel) (by decide +kernel)
theorem p31 : Pr 31 := gen_prime g31
theorem g373 : Gen 2 373 := cert (top := [1, 116]) (L := [(2, [186]), (3, [124]), (31, [12])]) (F := [2, 2, 3, 31]) (by decide +kernel) (pc p2 (pc p2 (pc p3 (pc p31 pn)))) (by decide +kernel) (by decide +kernel)
theorem p373 : Pr 373 := gen_prime g373
theorem g3407 : Gen 5 3407 := cert (top := [13, 78]) (L := [(2, [6, 167]), (13, [1, 6]), (131, [26])]) (F := [2, 13, 131]) (by decide +kernel) (pc p2 (pc p13 (pc p131 pn))) (by decide +kernel) (by decide +kernel)
theorem p3407 : Pr 3407 := gen_prime g3407
theorem g37 : Gen 2 37 := cert (top := [36]) (L := [(2, [18]), (3, [12])]) (F := [2, 2, 3, 3]) (by decide +kernel) (pc p2 (pc p2 (pc p3 (pc p3 pn)))) (by decide +kernel) (by decide +kernel)
theorem p37 : Pr 37 := gen_prime g37
theorem g9547 : Gen 2 9547 := cert (top := [37, 74]) (L := [(2, [18, 165]), (3, [12, 110]), (37, [1, 2]), (43, [222])]) (F := [2, 3, 37, 43]) (by decide +kernel) (pc p2 (pc p3 (pc p37 (pc p43 pn)))) (by decide +kernel) (by decide +kernel)
theorem p9547 : Pr 9547 := gen_prime g9547
theorem g38189 : Gen 2 38189 := cert (top := [149, 44]) (L := [(2, [74, 150]), (9547, [4])]) (F := [2, 2, 9547]) (by decide +kernel) (pc p2 (pc p2 (pc p9547 pn))) (by decide +kernel) (by decide +kernel)
theorem p38189 : Pr 38189 := gen_prime g38189
theorem g19 : Gen 2 19 := cert (top := [18]) (L := [(2, [9]), (3, [6])]) (F := [2, 3, 3]) (by decide +kernel) (pc p2 (pc p3 (pc p3 pn))) (by decide +kernel) (by decide +kernel)
theorem p19 : Pr 19 := gen_prime g19
theorem g229 : Gen 6 229 := cert (top := [228]) (L := [(2, [114]), (3, [76]), (19, [12])]) (F := [2, 2, 3, 19]) (by decide +kernel) (pc p2 (pc p2 (pc p3 (pc p19 pn)))) (by decide +kernel) (by decide +kernel)
theorem p229 : Pr 229 := gen_prime g229
theorem g1201 : Gen 11 1201 := cert (top := [4, 176]) (L := [(2, [2, 88]), (3, [1, 144]), (5, [240])]) (F := [2, 2, 2, 2, 3, 5, 5]) (by decide +kernel) (pc p2 (pc p2 (pc p2 (pc p2 (pc p3 (pc p5 (pc p5 pn))))))) (by decide +kernel) (by decide +kernel)
theorem p1201 : Pr 1201 := gen_prime g1201
theorem g9350987 : Gen 2 9350987 := cert (top := [142, 175, 74]) (L := [(2, [71, 87, 165]), (17, [8, 100, 170]), (229, [159, 130]), (1201, [30, 106])]) (F := [2, 17, 229, 1201]) (by decide +kernel) (pc p2 (pc p17 (pc p229 (pc p1201 pn)))) (by decide +kernel) (by decide +kernel)
theorem p9350987 : Pr 9350987 := gen_prime g9350987
theorem g187019741 : Gen 2 187019741 := cert (top := [11, 37, 177, 220]) (L := [(2, [5, 146, 216, 238]), (5, [2, 58, 189, 44]), (9350987, [20])]) (F := [2, 2, 5, 9350987]) (by decide +kernel) (pc p2 (pc p2 (pc p5 (pc p9350987 pn)))) (by decide +kernel) (by decide +kernel)
theorem p187019741 : Pr 187019741 := gen_prime g187019741
theorem g29 : Gen 2 29 := cert (top := [28]) (L := [(2, [14]), (7, [4])]) (F := [2, 2, 7]) (by decide +kernel) (pc p2 (pc p2 (pc p7 pn))) (by decide +kernel) (by decide +kernel)
theorem p29 : Pr 29 := gen_prime g29
theorem g311 : Gen 17 311 := cert (top := [1, 54]) (L := [(2, [155]), (5, [62]), (31, [10])]) (F := [2, 5, 31]) (by decide +kernel) (pc p2 (pc p5 (pc p31 pn))) (by decide +kernel) (by decide +kernel)
theorem p311 : Pr 311 := gen_prime g311
theorem g311245691 : Gen 2 311245691 := cert (top := [18, 141, 59, 122]) (L := [(2, [9, 70, 157, 189]), (5, [3, 181, 216, 178]), (7, [2, 166, 118, 54]), (17, [1, 23, 93, 218]), (29, [163, 196, 66]), (311, [15, 69, 86])]) (F := [2, 5, 7, 17, 29, 29, 311]) (by decide +kernel) (pc p2 (pc p5 (pc p7 (pc p17 (pc p29 (pc p29 (pc p311 pn))))))) (by decide +kernel) (by decide +kernel)
theorem p311245691 : Pr 311245691 := gen_prime g311245691
theorem g622491383 : Gen 5 622491383 := cert (top := [37, 26, 118, 246]) (L := [(2, [18, 141, 59, 123]), (311245691, [2])]) (F := [2, 311245691]) (by decide +kernel) (pc p2 (pc p311245691 pn)) (by decide +kernel) (by decide +kernel)
theorem p622491383 : Pr 622491383 := gen_prime g622491383
theorem g263 : Gen 5 263 := cert (top := [1, 6]) (L := [(2, [131]), (131, [2])]) (F := [2, 131]) (by decide +kernel) (pc p2 (pc p131 pn)) (by decide +kernel) (by decide +kernel)
theorem p263 : Pr 263 := gen_prime g263
theorem g126241 : Gen 7 126241 := cert (top := [1, 237, 32]) (L := [(2, [246, 144]), (3, [164, 96]), (5, [98, 160]), (263, [1, 224])]) (F := [2, 2, 2, 2, 2, 3, 5, 263]) (by decide +kernel) (pc p2 (pc p2 (pc p2 (pc p2 (pc p2 (pc p3 (pc p5 (pc p263 pn)))))))) (by decide +kernel) (by decide +kernel)
theorem p126241 : Pr 126241 := gen_prime g126241
theorem g337 : Gen 10 337 := cert (top := [1, 80]) (L := [(2, [168]), (3, [112]), (7, [48])]) (F := [2, 2, 2, 2, 3, 7]) (by decide +kernel) (pc p2 (pc p2 (pc p2 (pc p2 (pc p3 (pc p7 pn)))))) (by decide +kernel) (by decide +kernel)
theorem p337 : Pr 337 := gen_prime g337
theorem g104471 : Gen 11 104471 := cert (top := [1, 152, 22]) (L := [(2, [204, 11]), (5, [81, 158]), (31, [13, 42]), (337, [1, 54])]) (F := [2, 5, 31, 337]) (by decide +kernel) (pc p2 (pc p5 (pc p31 (pc p337 pn)))) (by decide +kernel) (by decide +kernel)
theorem p104471 : Pr 104471 := gen_prime g104471
theorem g3969899 : Gen 2 3969899 := cert (top := [60, 147, 106]) (L := [(2, [30, 73, 181]), (19, [3, 48, 46]), (104471, [38])]) (F := [2, 19, 104471]) (by decide +kernel) (pc p2 (pc p19 (pc p104471 pn))) (by decide +kernel) (by decide +kernel)
theorem p3969899 : Pr 3969899 := gen_prime g3969899
theorem g1002328039319 : Gen 19 1002328039319 := cert (top := [233, 95, 104, 31, 150]) (L := [(2, [116, 175, 180, 15, 203]), (126241, [121, 38, 214]), (3969899, [3, 218, 66])]) (F := [2, 126241, 3969899]) (by decide +kernel) (pc p2 (pc p126241 (pc p3969899 pn))) (by decide +kernel) (by decide +kernel)
theorem p1002328039319 : Pr 1002328039319 := gen_prime g1002328039319
theorem g1297 : Gen 10 1297 := cert (top := [5, 16]) (L := [(2, [2, 136]), (3, [1, 176])]) (F := [2, 2, 2, 2, 3, 3, 3, 3]) (by decide +kernel) (pc p2 (pc p2 (pc p2 (pc p2 (pc p3 (pc p3 (pc p3 (pc p3 pn)))))))) (by decide +kernel) (by decide +kernel)
theorem p1297 : Pr 1297 := gen_prime g1297
theorem g97 : Gen 5 97 := cert (top := [96]) (L := [(2, [48]), (3, [32])]) (F := [2, 2, 2, 2, 2, 3]) (by decide +kernel) (pc p2 (pc p2 (pc p2 (pc p2 (pc p2 (pc p3 pn)))))) (by decide +kernel) (by decide +kernel)
theorem p97 : Pr 97 := gen_prime g97
theorem g16879 : Gen 3 16879 := cert (top := [65, 238]) (L := [(2, [32, 247]), (3, [21, 250]), (29, [2, 70]), (97, [174])]) (F := [2, 3, 29, 97]) (by decide +kernel) (pc p2 (pc p3 (pc p29 (pc p97 pn)))) (by decide +kernel) (by decide +kernel)
theorem p16879 : Pr 16879 := gen_prime g16879
theorem g127 : Gen 3 127 := cert (top := [126]) (L := [(2, [63]), (3, [42]), (7, [18])]) (F := [2, 3, 3, 7]) (by decide +kernel) (pc p2 (pc p3 (pc p3 (pc p7 pn)))) (by decide +kernel) (by decide +kernel)
theorem p127 : Pr 127 := gen_prime g127
theorem g151 : Gen 6 151 := cert (top := [150]) (L := [(2, [75]), (3, [50]), (5, [30])]) (F := [2, 3, 5, 5]) (by decide +kernel) (pc p2 (pc p3 (pc p5 (pc p5 pn)))) (by decide +kernel) (by decide +kernel)
theorem p151 : Pr 151 := gen_prime g151
theorem g1511 : Gen 11 1511 := cert (top := [5, 230]) (L := [(2, [2, 243]), (5, [1, 46]), (151, [10])]) (F := [2, 5, 151]) (by decide +kernel) (pc p2 (pc p5 (pc p151 pn))) (by decide +kernel) (by decide +kernel)
theorem p1511 : Pr 1511 := gen_prime g1511
theorem g3023 : Gen 5 3023 := cert (top := [11, 206]) (L := [(2, [5, 231]), (1511, [2])]) (F := [2, 1511]) (by decide +kernel) (pc p2 (pc p1511 pn)) (by decide +kernel) (by decide +kernel)
theorem p3023 : Pr 3023 := gen_prime g3023
theorem g41 : Gen 6 41 := cert (top := [40]) (L := [(2, [20]), (5, [8])]) (F := [2, 2, 2, 5]) (by decide +kernel) (pc p2 (pc p2 (pc p2 (pc p5 pn)))) (by decide +kernel) (by decide +kernel)
theorem p41 : Pr 41 := gen_prime g41
theorem g155317 : Gen 5 155317 := cert (top := [2, 94, 180]) (L := [(2, [1, 47, 90]), (3, [202, 60]), (7, [86, 172]), (43, [14, 28])]) (F := [2, 2, 3, 7, 43, 43]) (by decide +kernel) (pc p2 (pc p2 (pc p3 (pc p7 (pc p43 (pc p43 pn)))))) (by decide +kernel) (by decide +kernel)
theorem p155317 : Pr 155317 := gen_prime g155317
theorem g191039911 : Gen 3 191039911 := cert (top := [11, 99, 9, 166]) (L := [(2, [5, 177, 132, 211]), (3, [3, 203, 173, 226]), (5, [2, 71, 1, 238]), (41, [71, 25, 54]), (155317, [4, 206])]) (F := [2, 3, 5, 41, 155317]) (by decide +kernel) (pc p2 (pc p3 (pc p5 (pc p41 (pc p155317 pn))))) (by decide +kernel) (by decide +kernel)
theorem p191039911 : Pr 191039911 := gen_prime g191039911
theorem g208150935158385979 : Gen 2 208150935158385979 := cert (top := [2, 227, 128, 44, 53, 199, 237, 58]) (L := [(2, [1, 113, 192, 22, 26, 227, 246, 157]), (3, [246, 128, 14, 188, 151, 249, 190]), (11, [67, 58, 50, 144, 134, 137, 238]), (43, [17, 50, 155, 209, 159, 112, 174]), (127, [5, 210, 165, 163, 178, 245, 198]), (3023, [62, 159, 186, 147, 171, 166]), (191039911, [64, 241, 124, 54])]) (F := [2, 3, 11, 43, 127, 3023, 191039911]) (by decide +kernel) (pc p2 (pc p3 (pc p11 (pc p43 (pc p127 (pc p3023 (pc p191039911 pn))))))) (by decide +kernel) (by decide +kernel)
theorem p208150935158385979 : Pr 208150935158385979 := gen_prime g208150935158385979
theorem g2624747550333869278416773953 : Gen 7 2624747550333869278416773953 := cert (top := [8, 123, 35, 233, 208, 157, 62, 99, 123, 42, 163, 64]) (L := [(2, [4, 61, 145, 244, 232, 78, 159, 49, 189, 149, 81, 160]), (3, [2, 211, 182, 163, 69, 137, 191, 118, 126, 99, 139, 192]), (1297, [1, 172, 137, 91, 190, 151, 111, 253, 135, 111, 64]), (16879, [32, 237, 223, 215, 248, 18, 76, 9, 208, 192]), (208150935158385979, [2, 239, 154, 181, 192])]) (F := [2, 2, 2, 2, 2, 2, 3, 3, 1297, 16879, 208150935158385979]) (by decide +kernel) (pc p2 (pc p2 (pc p2 (pc p2 (pc p2 (pc p2 (pc p3 (pc p3 (pc p1297 (pc p16879 (pc p208150935158385979 pn))))))))))) (by decide +kernel) (by decide +kernel)
theorem p2624747550333869278416773953 : Pr 2624747550333869278416773953 := gen_prime g2624747550333869278416773953
theorem g115792089210356248762697446949407573529996955224135760342422259061068512044369 : Gen 7 115792089210356248762697446949407573529996955224135760342422259061068512044369 := cert (top := [255, 255, 255, 255, 0, 0, 0, 0, 255, 255, 255, 255, 255, 255, 255, 255, 188, 230, 250, 173, 167, 23, 158, 132, 243, 185, 202, 194, 252, 99, 37, 80]) (L := [(2, [127, 255, 255, 255, 128, 0, 0, 0, 127, 255, 255, 255, 255, 255, 255, 255, 222, 115, 125, 86, 211, 139, 207, 66, 121, 220, 229, 97, 126, 49, 146, 168]), (3, [85, 85, 85, 85, 0, 0, 0, 0, 85, 85, 85, 85, 85, 85, 85, 85, 62, 247, 168, 228, 141, 7, 223, 129, 166, 147, 67, 150, 84, 33, 12, 112]), (71, [3, 155, 10, 209, 28, 216, 86, 137, 7, 54, 21, 162, 64, 230, 194, 180, 71, 42, 234, 74, 142, 249, 31, 19, 230, 150, 114, 161, 100, 232, 40, 48]), (131, [1, 244, 70, 89, 226, 175, 224, 187, 156, 85, 252, 23, 115, 76, 54, 183, 177, 81, 226, 165, 122, 111, 145, 210, 29, 56, 34, 196, 232, 133, 164, 112]), (373, [175, 179, 33, 160, 153, 188, 189, 109, 207, 245, 4, 205, 229, 235, 105, 1, 225, 12, 86, 241, 89, 73, 44, 247, 187, 45, 215, 87, 215, 22, 16]), (3407, [19, 60, 86, 66, 127, 150, 52, 37, 165, 20, 208, 73, 86, 8, 221, 207, 189, 165, 1, 45, 149, 98, 84, 49, 246, 207, 248, 100, 156, 81, 176]), (17449, [3, 193, 128, 9, 95, 254, 151, 112, 0, 60, 24, 0, 150, 60, 1, 119, 149, 7, 168, 123, 22, 92, 70, 237, 199, 10, 184, 192, 166, 36, 208]), (38189, [1, 183, 82, 21, 151, 139, 201, 193, 91, 20, 153, 144, 85, 68, 190, 145, 46, 195, 81, 220, 106, 93, 117, 41, 27, 5, 29, 6, 73, 172, 144]), (187019741, [22, 247, 30, 229, 27, 184, 56, 105, 224, 200, 75, 60, 78, 24, 217, 161, 150, 83, 58, 160, 72, 51, 205, 200, 207, 191, 4, 109, 144]), (622491383, [6, 230, 78, 229, 125, 85, 146, 26, 65, 57, 122, 235, 220, 230, 8, 158, 219, 56, 6, 184, 115, 254, 168, 70, 24, 169, 225, 33, 48]), (1002328039319, [1, 24, 210, 59, 17, 154, 58, 188, 131, 250, 229, 106, 80, 85, 243, 30, 34, 14, 40, 121, 247, 95, 7, 237, 103, 131, 175, 48]), (2624747550333869278416773953, [30, 47, 96, 24, 229, 213, 123, 95, 152, 187, 199, 157, 195, 133, 135, 251, 48, 164, 148, 225, 80])]) (F := [2, 2, 2, 2, 3, 71, 131, 373, 3407, 17449, 38189, 187019741, 622491383, 1002328039319, 2624747550333869278416773953]) (by decide +kernel) (pc p2 (pc p2 (pc p2 (pc p2 (pc p3 (pc p71 (pc p131 (pc p373 (pc p3407 (pc p17449 (pc p38189 (pc p187019741 (pc p622491383 (pc p1002328039319 (pc p2624747550333869278416773953 pn))))))))))))))) (by decide +kernel) (by decide +kernel)
def P256 : Nat := 115792089210356248762697446949407573530086143415290314195533631308867097853951
def N256 : Nat := 115792089210356248762697446949407573529996955224135760342422259061068512044369
theorem gen_p : Gen 6 P256 := g115792089210356248762697446949407573530086143415290314195533631308867097853951
theorem gen_n : Gen 7 N256 := g115792089210356248762697446949407573529996955224135760342422259061068512044369
theorem fermat_p (a : Nat) (h : a % P256 ≠ 0) : a ^ (P256 - 1) % P256 = 1 := gen_fermat gen_p a h
theorem fermat_n (a : Nat) (h : a % N256 ≠ 0) : a ^ (N256 - 1) % N256 = 1 := gen_fermat gen_n a h
end Go.Proofs.YtfaobdakpbpkbaaDoor.Prim
end
section
/-
  MontInverts: mont.Inv, limbs.Zero, porticolaw03.Prime, and the walk. Conditions: numbers are below 2^256.
-/
namespace Go.Proofs.YtfaobdakpbpkbaaDoor
open Go.RowKit Go.Pt
theorem pw_in {m a k : Nat} (h : m % 2 = 1) : pw m (a * W256 % m) k = a ^ k * W256 % m := by
  unfold pw
  rw [Nat.mul_mod, Nat.pow_mod, outIn h, ← Nat.pow_mod, ← Nat.mul_mod]
theorem in_mul {m a c : Nat} (h : m % 2 = 1) : a * W256 % m * (c * W256 % m) * rinv m % m = a * c * W256 % m := by
  have e : a * W256 % m * (c * W256 % m) * rinv m % m = a * c * W256 * W256 * rinv m % m := by
    rw [show a * c * W256 * W256 = a * W256 * (c * W256) by rw [Nat.mul_assoc a c, Nat.mul_assoc a, Nat.mul_assoc a, Nat.mul_comm (c * W256)]]
    simp only [Nat.mul_mod, Nat.mod_mod]
  rw [e]; exact inW h
/-- Fermat's law holds for it -/
def Ferm (m : Nat) : Prop := ∀ a, a % m ≠ 0 → a ^ (m - 1) % m = 1
theorem pw_lt {m a k : Nat} (h : 0 < m) : pw m a k < m := Nat.mod_lt _ h
theorem limbZero (a : Nat) (w : World) (ha : a < W256) : Calls Tryd.prog 55 #[numV a] w fun e w' => e = .returned (.bool (decide (a = 0))) ∧ Hp w [] w' := by
  refine enter (args := [_]) (Γ := [(0, _)]) Tryd.func55 Tryd.ntmps55 rfl (of_decide_eq_true rfl) (.cons rfl .nil) ?_
  repeat' (first | (apply Wl.eqlA (b := decide (a = 0)); exact rfl; exact rfl; exact rfl; kernel_rfl; kernel_rfl; kernel_rfl; kernel_rfl; exact cell32 _ (dlt _); exact cell32 _ (dlt _); exact d8_inj ha (by decide)) | (apply Wl.loadW; exact rfl; exact rfl; (repeat (first | exact List.Mem.head _ | apply List.Mem.tail)); exact rfl) | (apply Wl.boxN; exact rfl; exact rfl; intro c hc ho) | (apply Wl.buildN; exact rfl; (repeat (first | exact Parts.nil | apply Parts.cons rfl)); (repeat (first | apply Fills.nil | (apply Fills.one; exact rfl; exact rfl; (repeat (first | apply LSet.z | apply LSet.s))) | (apply Fills.agg; exact rfl; exact rfl; (repeat (first | apply LPut.s | apply LPut.z | apply LOver.nil | apply LOver.cons))))); (first | exact one8 | exact zero8 | exact two8 | exact one16)) | (apply Wl.assign; exact rfl; exact rfl) | (apply Wl.nil) | (apply St.seq) | (apply St.region) | (apply St.ret) | (apply Gt.next) | (apply Gt.out1; exact rfl; exact rfl; intro w' hp) | (apply Wl.splitP; exact rfl; exact rfl; all_goals (intros; try (exfalso; omega))) | (apply Wl.splitB; exact rfl; exact rfl; all_goals intros) | (apply St.condP; exact rfl; all_goals (intros; try (exfalso; omega))) | (apply St.condB; exact rfl; all_goals intros))
  exact ⟨rfl, hp.drop (by simp; omega)⟩
theorem modInv {b m a : Nat} {w : World} (h : ModV w b m) (ha : a < m) (hm : m < W256) (h2 : 2 < m) :
    Calls Tryd.prog 24 #[mp b, numV a] w fun e w' => e = .returned (numV (pw m a (m - 2))) ∧ Hp w [] w' := by
  have hb := h.blk
  refine enter (args := [_, _]) (Γ := [(0, _), (1, _)]) Tryd.func24 Tryd.ntmps24 rfl (of_decide_eq_true rfl) (.cons rfl (.cons rfl .nil)) ?_
  have e2 : (m + W256 - 2) % W256 = m - 2 := by rw [show m + W256 - 2 = m - 2 + W256 by omega, Nat.add_mod_right, Nat.mod_eq_of_lt (by omega)]
  repeat' (first | (apply Wl.boxN; exact rfl; exact rfl; intro c hc ho) | (apply Wl.allocN; exact rfl; (first | exact z8 | exact z16 | exact z17 | exact z33 | exact z10); intro c hc ho) | (apply Wl.move; exact rfl; exact rfl) | (apply Wl.nil) | (apply St.seq) | (apply St.region) | (apply Gt.next) | (apply Wl.splitP; exact rfl; exact rfl; all_goals (intros; try (exfalso; omega))) | (apply Wl.splitB; exact rfl; exact rfl; all_goals intros) | (apply St.condP; exact rfl; all_goals (intros; try (exfalso; omega))) | (apply St.condB; exact rfl; all_goals intros))
  apply Wl.callQ
  exact rfl
  (repeat (first | exact Evs.nil | apply Evs.cons rfl))
  · intro wq hq
    refine (modModulus b m wq (h.hp hq (by apply Off.of; simp <;> omega))).mono ?_
    rintro e wr ⟨rfl, hr⟩
    exact ⟨rfl, hq.keep hr⟩
  repeat' (first | (apply Wl.buildN; exact rfl; (repeat (first | exact Parts.nil | apply Parts.cons rfl)); (repeat (first | apply Fills.nil | (apply Fills.one; exact rfl; exact rfl; (repeat (first | apply LSet.z | apply LSet.s))) | (apply Fills.agg; exact rfl; exact rfl; (repeat (first | apply LPut.s | apply LPut.z | apply LOver.nil | apply LOver.cons))))); (first | exact one8 | exact zero8 | exact two8 | exact one16)) | (apply Wl.splitP; exact rfl; exact rfl; all_goals (intros; try (exfalso; omega))) | (apply Wl.splitB; exact rfl; exact rfl; all_goals intros) | (apply St.condP; exact rfl; all_goals (intros; try (exfalso; omega))) | (apply St.condB; exact rfl; all_goals intros))
  apply Wl.callQ
  exact rfl
  (repeat (first | exact Evs.nil | apply Evs.cons rfl))
  · intro wq hq
    refine (limbSub m 2 hm (by decide) wq).mono ?_
    rintro e wr ⟨rfl, hr⟩
    exact ⟨rfl, hq.keep hr⟩
  rw [e2]
  repeat' (first | (apply Wl.loadW; exact rfl; exact rfl; (repeat (first | exact List.Mem.head _ | apply List.Mem.tail)); exact rfl) | (apply Wl.storeW; exact rfl; exact rfl; (repeat (first | apply HSet.here | apply HSet.there)); exact rfl; (first | exact cellsN_len _ _ _ | exact rfl)) | (apply Wl.allocN; exact rfl; (first | exact z8 | exact z16 | exact z17 | exact z33 | exact z10); intro c hc ho) | (apply Wl.move; exact rfl; exact rfl) | (apply Wl.assign; exact rfl; exact rfl) | (apply Wl.extract; exact rfl; exact rfl; exact rfl) | (apply Wl.nil) | (apply St.seq) | (apply St.region) | (apply Gt.next) | (apply Wl.splitP; exact rfl; exact rfl; all_goals (intros; try (exfalso; omega))) | (apply Wl.splitB; exact rfl; exact rfl; all_goals intros) | (apply St.condP; exact rfl; all_goals (intros; try (exfalso; omega))) | (apply St.condB; exact rfl; all_goals intros))
  apply Wl.callQ
  exact rfl
  (repeat (first | exact Evs.nil | apply Evs.cons rfl))
  · intro wq hq
    refine (modPow b m a (m - 2) wq (h.hp hq (by apply Off.of; simp <;> omega)) ha (by omega)).mono ?_
    rintro e wr ⟨rfl, hr⟩
    exact ⟨rfl, hq.keep hr⟩
  repeat' (first | (apply Gt.outN; exact rfl; infer_instance; exact rfl; (repeat (first | exact List.Mem.head _ | apply List.Mem.tail)); exact rfl; intro w' hp) | (apply Wl.storeW; exact rfl; exact rfl; (repeat (first | apply HSet.here | apply HSet.there)); exact rfl; (first | exact cellsN_len _ _ _ | exact rfl)) | (apply Wl.nil) | (apply St.ret) | (apply Gt.next) | (apply Wl.splitP; exact rfl; exact rfl; all_goals (intros; try (exfalso; omega))) | (apply Wl.splitB; exact rfl; exact rfl; all_goals intros) | (apply St.condP; exact rfl; all_goals (intros; try (exfalso; omega))) | (apply St.condB; exact rfl; all_goals intros))
  exact ⟨rfl, hp.drop (by simp; omega)⟩
theorem ferm_n : Ferm Prim.N256 := Prim.fermat_n
theorem p8 : [Value.int .u32 4294967295, .int .u32 4294967295, .int .u32 4294967295, .int .u32 0, .int .u32 0, .int .u32 0, .int .u32 1, .int .u32 4294967295] = cellsN .u32 8 (dg W32 Prim.P256) := by kernel_rfl
theorem n8 : [Value.int .u32 4234356049, .int .u32 4089039554, .int .u32 2803342980, .int .u32 3169254061, .int .u32 4294967295, .int .u32 4294967295, .int .u32 0, .int .u32 4294967295] = cellsN .u32 8 (dg W32 Prim.N256) := by kernel_rfl
end Go.Proofs.YtfaobdakpbpkbaaDoor
end
section
/-
  The group law of a curve y^2 = x^3 + ax + b over P-256's field, in plain Lean: sums are commutative and associative on the curve's points. Conditions: the discriminant is not 0.
-/
namespace Go.Proofs.YtfaobdakpbpkbaaDoor.Ec
open Go.Proofs.YtfaobdakpbpkbaaDoor.Prim (P256 fermat_p)
instance nzP : NeZero P256 := ⟨by decide +kernel⟩
abbrev F := Fin P256
attribute [local irreducible] Prim.P256
theorem p3 : (3:Nat) < P256 := by unfold P256; decide
def finv (x : F) : F := Fin.ofNat P256 (x.val ^ (P256 - 2))
theorem mul_finv {x : F} (h : x ≠ 0) : x * finv x = 1 := by
  have h3 := p3
  have hx : x.val % P256 ≠ 0 := by
    rw [Nat.mod_eq_of_lt x.isLt]
    intro e
    exact h (Fin.ext (by rw [e]; rfl))
  have := fermat_p x.val hx
  apply Fin.ext
  unfold finv
  rw [Fin.val_mul]
  simp only [Fin.ofNat]
  rw [Nat.mul_mod_mod, ← Nat.pow_succ', show (P256 - 2).succ = P256 - 1 by omega, this]
  symm
  exact Nat.mod_eq_of_lt (Nat.lt_trans (by decide : 1 < 3) h3)
theorem canc {x y z : F} (h : x ≠ 0) (e : x * y = x * z) : y = z := by
  have := mul_finv h
  grobner
theorem two_ne : (2 : F) ≠ 0 := by
  have h3 := p3
  intro e
  have := congrArg Fin.val e
  have e2 : ((2 : F)).val = 2 % P256 := rfl
  have e0 : ((0 : F)).val = 0 % P256 := rfl
  rw [e2, e0, Nat.mod_eq_of_lt (Nat.lt_trans (by decide : 2 < 3) h3), Nat.zero_mod] at this
  cases this
theorem nz_mul {x y : F} (hx : x ≠ 0) (hy : y ≠ 0) : x * y ≠ 0 := by
  have := mul_finv hx
  intro e
  apply hy
  grobner
section
variable {a b : F}
def Onc (a b x y : F) : Prop := y * y = x * x * x + a * x + b
/-- l is the slope of the line through both (the tangent, if they are one) -/
def Sl (a x1 y1 x2 y2 l : F) : Prop := l * (x2 - x1) = y2 - y1 ∧ a = 2 * l * (y1 - l * x1) + x1 * x2 + (x1 + x2) * (l * l - x1 - x2)
theorem Sl.chord {x1 y1 x2 y2 l : F} (h1 : Onc a b x1 y1) (h2 : Onc a b x2 y2) (hx : x2 - x1 ≠ 0) (hl : l * (x2 - x1) = y2 - y1) : Sl a x1 y1 x2 y2 l := by
  refine ⟨hl, canc hx ?_⟩
  unfold Onc at *
  grobner
theorem Sl.tang {x1 y1 l : F} (hl : l * (2 * y1) = 3 * (x1 * x1) + a) : Sl a x1 y1 x1 y1 l := by
  refine ⟨by grobner, by grobner⟩
/-- the third point of the line, mirrored -/
def tx (x1 x2 l : F) : F := l * l - x1 - x2
def ty (x1 y1 x2 l : F) : F := l * (x1 - tx x1 x2 l) - y1
theorem Sl.on {x1 y1 x2 y2 l : F} (h : Sl a x1 y1 x2 y2 l) (h1 : Onc a b x1 y1) : Onc a b (tx x1 x2 l) (ty x1 y1 x2 l) := by
  obtain ⟨h2, h3⟩ := h
  unfold Onc ty tx at *
  grobner
/-- u times the sum of both slopes is 1 -/
theorem key {x1 y1 x2 y2 x3 y3 l m s u : F} (h12 : Sl a x1 y1 x2 y2 l) (h13 : Sl a x1 y1 x3 y3 m) (hu : u * (x3 - x2) = m - l) (h23 : x3 - x2 ≠ 0)
    (hs : s * (x3 - tx x1 x2 l) = y3 - ty x1 y1 x2 l) (hne : x3 - tx x1 x2 l ≠ 0) : u * (l + s) = 1 := by
  obtain ⟨k1, k2⟩ := h12
  obtain ⟨k3, k4⟩ := h13
  have e1 : (m - l) * (y3 + (y1 + l * (x3 - x1))) = (x3 - x2) * (x3 - tx x1 x2 l) := by
    unfold tx; grobner
  have e2 : u * (y3 + (y1 + l * (x3 - x1))) = x3 - tx x1 x2 l := canc h23 (by rw [← e1, ← hu]; grobner)
  refine canc hne ?_
  clear e1 k2 k4 hu k1 k3 h23
  unfold ty at hs
  generalize tx x1 x2 l = x4 at *
  grobner
theorem keyT {x1 y1 x2 y2 x3 y3 l m s u : F} (h12 : Sl a x1 y1 x2 y2 l) (h13 : Sl a x1 y1 x3 y3 m) (hu : u * (x3 - x2) = m - l) (hx : x3 = tx x1 x2 l) (hy : y3 = ty x1 y1 x2 l)
    (hs : s * (2 * y3) = 3 * (x3 * x3) + a) (hne : 2 * y3 ≠ 0) : u * (l + s) = 1 := by
  obtain ⟨k1, k2⟩ := h12
  obtain ⟨k3, k4⟩ := h13
  have e1 : 3 * (x3 * x3) + a + 2 * y3 * l = (x3 - x1) * (x3 - x2) := by
    clear k1 k3 k4 hs hne hu
    unfold ty tx at *; grobner
  have e2 : u * ((x3 - x1) * (x3 - x2)) = 2 * y3 := by
    clear k2 k4 hs hne e1
    unfold ty at hy
    rw [← hx] at hy
    clear hx
    grobner
  refine canc hne ?_
  rw [← e1, ← hs] at e2
  clear k1 k2 k3 k4 hx hy hs e1 hu
  grobner
/-- both ways end in one point -/
theorem both {x1 y1 x2 y2 x3 y3 l m s t u : F} (h12 : Sl a x1 y1 x2 y2 l) (h13 : Sl a x1 y1 x3 y3 m) (hu : u * (x3 - x2) = m - l) (e1 : u * (l + s) = 1) (e2 : u * (m + t) = 1) :
    tx (tx x1 x2 l) x3 s = tx (tx x1 x3 m) x2 t ∧ ty (tx x1 x2 l) (ty x1 y1 x2 l) x3 s = ty (tx x1 x3 m) (ty x1 y1 x3 m) x2 t := by
  have k1 := h12.1
  have k3 := h13.1
  clear h12 h13
  have e3 : s = t + (m - l) := by
    have : u * (l + s) = u * (m + t) := by rw [e1, e2]
    have hu0 : u ≠ 0 := by
      intro h
      rw [h] at e1
      exact two_ne (by clear hu k1 k3 e2 this; grobner)
    have := canc hu0 this
    clear hu k1 k3
    grobner
  have e5 : (m + t) * (m - l) = x3 - x2 := by clear k1 k3 e1 e3; rw [← hu]; grobner
  clear hu e1 e2
  subst e3
  have hx : tx (tx x1 x2 l) x3 (t + (m - l)) = tx (tx x1 x3 m) x2 t := by
    clear k1 k3
    unfold tx
    grobner
  refine ⟨hx, ?_⟩
  unfold ty
  rw [← hx]
  clear hx
  unfold tx
  clear k1 k3
  grobner
abbrev Pt := Option (F × F)
def OnC (a b : F) : Pt → Prop
  | none => True
  | some (x, y) => Onc a b x y
def neg : Pt → Pt
  | none => none
  | some (x, y) => some (x, -y)
def slope (a x1 y1 x2 y2 : F) : F := if x1 = x2 then (3 * (x1 * x1) + a) * finv (2 * y1) else (y2 - y1) * finv (x2 - x1)
def padd (a : F) : Pt → Pt → Pt
  | none, q => q
  | some p, none => some p
  | some (x1, y1), some (x2, y2) => if x1 = x2 ∧ (y1 ≠ y2 ∨ y1 = 0) then none else some (tx x1 x2 (slope a x1 y1 x2 y2), ty x1 y1 x2 (slope a x1 y1 x2 y2))
theorem padd_ss {x1 y1 x2 y2 : F} : padd a (some (x1, y1)) (some (x2, y2)) = if x1 = x2 ∧ (y1 ≠ y2 ∨ y1 = 0) then none else some (tx x1 x2 (slope a x1 y1 x2 y2), ty x1 y1 x2 (slope a x1 y1 x2 y2)) := rfl
theorem sub_ne {x y : F} (h : x ≠ y) : y - x ≠ 0 := fun e => h (by grobner)
theorem onc_eq {x y z : F} (h1 : Onc a b x y) (h2 : Onc a b x z) : y = z ∨ z = -y := by
  unfold Onc at *
  by_cases h : y - z = 0
  · left; grobner
  · right
    have : (y - z) * (y + z) = (y - z) * 0 := by grobner
    have := canc h this
    grobner
theorem padd_zero (p : Pt) : padd a p none = p := by cases p <;> rfl
theorem zero_padd (p : Pt) : padd a none p = p := rfl
/-- two points of the curve: opposite, or joined by a line -/
theorem join {x1 y1 x2 y2 : F} (h1 : Onc a b x1 y1) (h2 : Onc a b x2 y2) :
    (x2 = x1 ∧ y2 = -y1 ∧ padd a (some (x1, y1)) (some (x2, y2)) = none) ∨
    (¬ (x2 = x1 ∧ y2 = -y1) ∧ ∃ l, Sl a x1 y1 x2 y2 l ∧ padd a (some (x1, y1)) (some (x2, y2)) = some (tx x1 x2 l, ty x1 y1 x2 l) ∧
      (x1 = x2 → y1 = y2 ∧ 2 * y1 ≠ 0 ∧ l * (2 * y1) = 3 * (x1 * x1) + a)) := by
  by_cases hx : x1 = x2
  · subst hx
    by_cases hy : y2 = -y1
    · left
      refine ⟨rfl, hy, ?_⟩
      rw [padd_ss]
      rw [if_pos]
      refine ⟨rfl, ?_⟩
      by_cases h0 : y1 = 0
      · exact .inr h0
      · left
        intro e
        have : 2 * y1 = 0 := by grobner
        exact nz_mul two_ne h0 this
    · right
      have e := (onc_eq h1 h2).resolve_right hy
      subst e
      have h0 : y1 ≠ 0 := fun e => hy (by rw [e]; grobner)
      have h20 := nz_mul two_ne h0
      have hi := mul_finv h20
      have hl : (3 * (x1 * x1) + a) * finv (2 * y1) * (2 * y1) = 3 * (x1 * x1) + a := by
        generalize finv (2 * y1) = i at *
        grobner
      refine ⟨fun h => hy h.2, (3 * (x1 * x1) + a) * finv (2 * y1), Sl.tang hl, ?_, fun _ => ⟨rfl, h20, hl⟩⟩
      rw [padd_ss]
      unfold slope
      rw [if_neg, if_pos rfl]
      rintro ⟨_, h | h⟩
      · exact h rfl
      · exact h0 h
  · right
    have h21 := sub_ne hx
    have hi := mul_finv h21
    have hl : (y2 - y1) * finv (x2 - x1) * (x2 - x1) = y2 - y1 := by
      generalize finv (x2 - x1) = i at *
      grobner
    refine ⟨fun h => hx h.1.symm, (y2 - y1) * finv (x2 - x1), Sl.chord h1 h2 h21 hl, ?_, fun h => absurd h hx⟩
    rw [padd_ss]
    unfold slope
    rw [if_neg (fun h => hx h.1), if_neg hx]
theorem padd_on {p q : Pt} (hp : OnC a b p) (hq : OnC a b q) : OnC a b (padd a p q) := by
  match p, q with
  | none, q => exact hq
  | some p, none => exact hp
  | some (x1, y1), some (x2, y2) =>
    rcases join hp hq with ⟨_, _, h⟩ | ⟨_, l, hs, h, _⟩
    · rw [h]; trivial
    · rw [h]; exact hs.on hp
theorem neg_on {p : Pt} (hp : OnC a b p) : OnC a b (neg p) := by
  match p with
  | none => trivial
  | some (x, y) => simp only [neg, OnC, Onc] at *; grobner
theorem neg_neg' (p : Pt) : neg (neg p) = p := by
  match p with
  | none => rfl
  | some (x, y) => simp only [neg]; congr 2; grobner
theorem padd_comm (p q : Pt) : padd a p q = padd a q p := by
  match p, q with
  | none, none => rfl
  | none, some q => rfl
  | some p, none => rfl
  | some (x1, y1), some (x2, y2) =>
    rw [padd_ss, padd_ss]
    by_cases h : x1 = x2 ∧ (y1 ≠ y2 ∨ y1 = 0)
    · rw [if_pos h, if_pos]
      obtain ⟨rfl, h⟩ := h
      refine ⟨rfl, ?_⟩
      by_cases e : y2 = y1
      · subst e
        exact .inr (h.resolve_left fun h => h rfl)
      · exact .inl e
    · rw [if_neg h, if_neg]
      · by_cases hx : x1 = x2
        · subst hx
          by_cases e : y1 = y2
          · subst e; rfl
          · exact absurd ⟨rfl, .inl e⟩ h
        · have h21 := mul_finv (sub_ne hx)
          have h12 := mul_finv (sub_ne (Ne.symm hx))
          unfold slope
          rw [if_neg hx, if_neg (Ne.symm hx)]
          have hi : finv (x1 - x2) = - finv (x2 - x1) := by
            refine canc (sub_ne (Ne.symm hx)) ?_
            rw [h12]
            generalize finv (x2 - x1) = i at *
            grobner
          have hs : (y1 - y2) * finv (x1 - x2) = (y2 - y1) * finv (x2 - x1) := by rw [hi]; grobner
          rw [hs]
          have hl : (y2 - y1) * finv (x2 - x1) * (x2 - x1) = y2 - y1 := by
            generalize finv (x2 - x1) = i at *
            grobner
          generalize (y2 - y1) * finv (x2 - x1) = l at *
          clear hs hi h12 h21
          have e1 : tx x1 x2 l = tx x2 x1 l := by unfold tx; grobner
          rw [e1]
          congr 2
          unfold ty
          rw [e1]
          grobner
      · rintro ⟨rfl, h'⟩
        apply h
        refine ⟨rfl, ?_⟩
        by_cases e : y1 = y2
        · subst e
          exact .inr (h'.resolve_left fun h => h rfl)
        · exact .inl e
theorem neg_cancel (p : Pt) : padd a p (neg p) = none := by
  match p with
  | none => rfl
  | some (x, y) =>
    simp only [neg]
    rw [padd_ss]
    rw [if_pos]
    refine ⟨rfl, ?_⟩
    by_cases h0 : y = 0
    · exact .inr h0
    · left
      intro e
      exact nz_mul two_ne h0 (by grobner)
theorem cancel (hD : 4 * (a * a * a) + 27 * (b * b) ≠ 0) {p q : Pt} (hp : OnC a b p) (hq : OnC a b q) : padd a (padd a p q) (neg p) = q := by
  match p, q with
  | none, q => exact padd_zero q
  | some (x1, y1), none => rw [padd_zero]; exact neg_cancel _
  | some (x1, y1), some (x3, y3) =>
    have hn := neg_on hp
    rcases join hp hq with ⟨e1, e2, h⟩ | ⟨_, l, hs, h, _⟩
    · rw [h, zero_padd]
      simp only [neg]
      rw [e1, e2]
    · rw [h]
      have h4 := hs.on hp
      obtain ⟨k1, k2⟩ := hs
      simp only [neg] at hn ⊢
      rcases join h4 hn with ⟨e1, e2, _⟩ | ⟨hne, s, hs2, h2, ht⟩
      · exfalso
        have e3 : y1 = ty x1 y1 x3 l := by grobner
        simp only [OnC] at hp
        unfold Onc at hp
        unfold ty at e3
        rw [← e1] at e3
        have y0 : 2 * y1 = 2 * 0 := by grobner
        have y0 := canc two_ne y0
        subst y0
        unfold tx at e1
        have a0 : a = -3 * (x1 * x1) := by grobner
        apply hD
        have b0 : b = 2 * (x1 * x1 * x1) := by grobner
        rw [a0, b0]
        grobner
      · rw [h2]
        obtain ⟨k3, k4⟩ := hs2
        have hsl : s = -l := by
          by_cases hx : tx x1 x3 l = x1
          · obtain ⟨g1, g2, g3⟩ := ht hx
            unfold ty at *
            rw [hx] at g1 g2 g3
            refine canc g2 ?_
            have g4 : l * (x1 - x1) - y1 = -y1 := g1
            rw [g4] at g3 ⊢
            clear g1 g4 g2 ht h2 h k4 k3 hne h4 hn hp hq k1 hD
            unfold tx at hx
            grobner
          · refine canc (sub_ne hx) ?_
            unfold ty at k3
            clear ht h2 h k4 k2 hp hq hn hD h4 hne
            grobner
        subst hsl
        have e1 : tx (tx x1 x3 l) x1 (-l) = x3 := by unfold tx; grobner
        unfold ty
        rw [e1]
        congr 2
        clear ht h2 h k4 k2 hp hq hn hD h4 hne e1 k3
        grobner
theorem swap (hD : 4 * (a * a * a) + 27 * (b * b) ≠ 0) {p q r : Pt} (hp : OnC a b p) (hq : OnC a b q) (hr : OnC a b r) : padd a (padd a p q) r = padd a (padd a p r) q := by
  have cn : ∀ {p q : Pt}, OnC a b p → OnC a b q → padd a (padd a q p) (neg p) = q := fun {p q} hp hq => by rw [padd_comm (a := a) q p]; exact cancel hD hp hq
  have opp : ∀ {q r : Pt}, OnC a b q → OnC a b r → padd a p q = neg r → padd a p r = neg q := fun {q r} hq hr h => by
    have := cn hq hp
    rw [h] at this
    rw [← this]
    have := cancel hD (neg_on hr) (neg_on hq)
    rw [neg_neg'] at this
    exact this
  by_cases e1 : padd a p q = neg r
  · rw [e1, opp hq hr e1, padd_comm (a := a) (neg r), neg_cancel, padd_comm (a := a) (neg q), neg_cancel]
  by_cases e2 : padd a p r = neg q
  · exact absurd (opp hr hq e2) e1
  by_cases e3 : q = r
  · rw [e3]
  by_cases e4 : q = neg p
  · rw [e4, neg_cancel, zero_padd, cancel hD hp hr]
  by_cases e5 : r = neg p
  · rw [e5, neg_cancel, zero_padd, cancel hD hp hq]
  by_cases e6 : r = neg q
  · have := cn (neg_on hq) hp
    rw [neg_neg'] at this
    rw [e6, this, cn hq hp]
  match p, q, r with
  | none, q, r => rw [zero_padd, zero_padd, padd_comm]
  | some p, none, r => rw [padd_zero, padd_zero]
  | some p, some q, none => rw [padd_zero, padd_zero]
  | some (x1, y1), some (x2, y2), some (x3, y3) =>
    have h23 : x2 ≠ x3 := by
      intro e
      subst e
      rcases onc_eq hq hr with e | e
      · exact e3 (by rw [e])
      · exact e6 (by rw [e]; rfl)
    rcases join hp hq with ⟨g1, g2, _⟩ | ⟨_, l, hl, h12, _⟩
    · exact absurd (by rw [g1, g2]; rfl) e4
    rcases join hp hr with ⟨g1, g2, _⟩ | ⟨_, m, hm, h13, _⟩
    · exact absurd (by rw [g1, g2]; rfl) e5
    have h32 := sub_ne h23
    have hi := mul_finv h32
    obtain ⟨u, hu⟩ : ∃ u, u * (x3 - x2) = m - l := ⟨(m - l) * finv (x3 - x2), by
      generalize finv (x3 - x2) = i at *
      grobner⟩
    have hu' : u * (x2 - x3) = l - m := by grobner
    rw [h12] at e1 ⊢
    rw [h13] at e2 ⊢
    have o4 := hl.on hp
    have o5 := hm.on hp
    rcases join o4 hr with ⟨g1, g2, _⟩ | ⟨_, s, hs, hS, hs'⟩
    · refine absurd ?_ e1
      simp only [neg]
      rw [g1, g2]
      congr 2
      grobner
    rcases join o5 hq with ⟨g1, g2, _⟩ | ⟨_, t, ht, hT, ht'⟩
    · refine absurd ?_ e2
      simp only [neg]
      rw [g1, g2]
      congr 2
      grobner
    have a1 : u * (l + s) = 1 := by
      by_cases hx : tx x1 x2 l = x3
      · obtain ⟨j1, j2, j3⟩ := hs' hx
        rw [hx, j1] at j3
        rw [j1] at j2
        exact keyT hl hm hu hx.symm j1.symm j3 j2
      · exact key hl hm hu h32 hs.1 (sub_ne hx)
    have a2 : u * (m + t) = 1 := by
      by_cases hx : tx x1 x3 m = x2
      · obtain ⟨j1, j2, j3⟩ := ht' hx
        rw [hx, j1] at j3
        rw [j1] at j2
        exact keyT hm hl hu' hx.symm j1.symm j3 j2
      · exact key hm hl hu' (sub_ne (Ne.symm h23)) ht.1 (sub_ne hx)
    obtain ⟨b1, b2⟩ := both hl hm hu a1 a2
    rw [hS, hT, b1, b2]
end
section
variable {a b : F} (hD : 4 * (a * a * a) + 27 * (b * b) ≠ 0)
include hD
theorem assoc {p q r : Pt} (hp : OnC a b p) (hq : OnC a b q) (hr : OnC a b r) : padd a (padd a p q) r = padd a p (padd a q r) := by
  rw [padd_comm (a := a) p q, swap hD hq hp hr, padd_comm]
omit hD
/-- so often by itself -/
def sm (a : F) : Nat → Pt → Pt
  | 0, _ => none
  | n + 1, p => padd a (sm a n p) p
theorem sm_on {p : Pt} (hp : OnC a b p) : ∀ n, OnC a b (sm a n p)
  | 0 => trivial
  | n + 1 => padd_on (sm_on hp n) hp
theorem sm_none : ∀ n, sm a n none = none
  | 0 => rfl
  | n + 1 => by rw [sm, sm_none n]; rfl
theorem sm_one (p : Pt) : sm a 1 p = p := by cases p <;> rfl
include hD
theorem sm_add {p : Pt} (hp : OnC a b p) (m : Nat) : ∀ n, sm a (m + n) p = padd a (sm a m p) (sm a n p)
  | 0 => (padd_zero _).symm
  | n + 1 => by
    rw [← Nat.add_assoc, sm, sm, sm_add hp m n, assoc hD (sm_on hp m) (sm_on hp n) hp]
theorem sm_two {p : Pt} (hp : OnC a b p) (n : Nat) : sm a (2 * n) p = padd a (sm a n p) (sm a n p) := by
  rw [Nat.two_mul, sm_add hD hp]
theorem sm_mul {p : Pt} (hp : OnC a b p) (n : Nat) : ∀ m, sm a (m * n) p = sm a m (sm a n p)
  | 0 => by rw [Nat.zero_mul]; rfl
  | m + 1 => by rw [Nat.succ_mul, sm_add hD hp, sm, sm_mul hp n m]
theorem padd4 {p q r s : Pt} (hp : OnC a b p) (hq : OnC a b q) (hr : OnC a b r) (hs : OnC a b s) : padd a (padd a p q) (padd a r s) = padd a (padd a p r) (padd a q s) := by
  rw [assoc hD hp hq (padd_on hr hs), ← assoc hD hq hr hs, padd_comm (a := a) q r, assoc hD hr hq hs, ← assoc hD hp hr (padd_on hq hs)]
end
end Go.Proofs.YtfaobdakpbpkbaaDoor.Ec
end
section
/-
  The formulas of the program (x/z^2, y/z^3) and of the document (x/z, y/z) compute the sums of XGrp, in plain Lean. Conditions: a is -3.
-/
namespace Go.Proofs.YtfaobdakpbpkbaaDoor.Ec
open Go.Proofs.YtfaobdakpbpkbaaDoor.Prim (P256 fermat_p)
attribute [local irreducible] Prim.P256
def jac (x y z : F) : Pt := if z = 0 then none else some (x * (finv z * finv z), y * (finv z * finv z * finv z))
theorem jac_zero (x y : F) : jac x y 0 = none := if_pos rfl
theorem jac_of {x y z : F} (hz : z ≠ 0) : jac (x * (z * z)) (y * (z * z * z)) z = some (x, y) := by
  have := mul_finv hz
  unfold jac
  rw [if_neg hz]
  generalize finv z = i at *
  congr 2
  · grobner
  · grobner
theorem jac_par (x y : F) {z : F} (hz : z ≠ 0) : ∃ X Y, x = X * (z * z) ∧ y = Y * (z * z * z) := by
  have := mul_finv hz
  generalize finv z = i at *
  exact ⟨x * (i * i), y * (i * i * i), by grobner, by grobner⟩
theorem zz_zero {x y : F} : x * y = 0 ↔ x = 0 ∨ y = 0 := by
  constructor
  · intro h
    by_cases hx : x = 0
    · exact .inl hx
    · exact .inr (Classical.byContradiction fun hy => nz_mul hx hy h)
  · rintro (h | h) <;> rw [h] <;> grobner
/-- the program's doubling -/
def jdbl (p : F × F × F) : F × F × F :=
  if p.2.2 = 0 then p else
  let x := p.1; let y := p.2.1; let z := p.2.2
  let s2 := x * (y * y) + x * (y * y)
  let s := s2 + s2
  let t := (x - z * z) * (x + z * z)
  let m := t + t + t
  let x' := m * m - (s + s)
  let e0 := y * y * (y * y)
  let e1 := e0 + e0
  let e2 := e1 + e1
  let e := e2 + e2
  let yz := y * z
  (x', m * (s - x') - e, yz + yz)
/-- .. its sum -/
def jadd (p q : F × F × F) : F × F × F :=
  if p.2.2 = 0 then q else if q.2.2 = 0 then p else
  let az := p.2.2 * p.2.2; let bz := q.2.2 * q.2.2
  let u := p.1 * bz; let v := q.1 * az
  let s := p.2.1 * (bz * q.2.2); let t := q.2.1 * (az * p.2.2)
  let h := v - u; let r := t - s
  if h = 0 then (if r = 0 then jdbl p else (1, 1, 0)) else
  let hh := h * h
  let hhh := hh * h; let w := u * hh
  let x := r * r - hhh - (w + w)
  (x, r * (w - x) - s * hhh, h * (p.2.2 * q.2.2))
def jpt (p : F × F × F) : Pt := jac p.1 p.2.1 p.2.2
def A3 : F := -3
theorem tang_l {X Y : F} (hY : 2 * Y ≠ 0) : ∃ l, l * (2 * Y) = 3 * (X * X) + A3 ∧ padd A3 (some (X, Y)) (some (X, Y)) = some (tx X X l, ty X Y X l) := by
  have hi := mul_finv hY
  refine ⟨(3 * (X * X) + A3) * finv (2 * Y), ?_, ?_⟩
  · generalize finv (2 * Y) = i at *
    grobner
  · rw [padd_ss]
    unfold slope
    rw [if_neg, if_pos rfl]
    rintro ⟨_, h | h⟩
    · exact h rfl
    · exact hY (by rw [h]; grobner)
theorem tang_0 (X : F) : padd A3 (some (X, 0)) (some (X, 0)) = none := by
  rw [padd_ss, if_pos ⟨rfl, .inr rfl⟩]
theorem chord_l (a : F) {X1 Y1 X2 Y2 : F} (hx : X1 ≠ X2) : ∃ l, l * (X2 - X1) = Y2 - Y1 ∧ padd a (some (X1, Y1)) (some (X2, Y2)) = some (tx X1 X2 l, ty X1 Y1 X2 l) := by
  have hi := mul_finv (sub_ne hx)
  refine ⟨(Y2 - Y1) * finv (X2 - X1), ?_, ?_⟩
  · generalize finv (X2 - X1) = i at *
    grobner
  · rw [padd_ss]
    unfold slope
    rw [if_neg (fun h => hx h.1), if_neg hx]
theorem jdbl_pt (p : F × F × F) : jpt (jdbl p) = padd A3 (jpt p) (jpt p) := by
  obtain ⟨x, y, z⟩ := p
  unfold jdbl
  by_cases hz : z = 0
  · simp only [hz, if_true]
    unfold jpt
    rw [jac_zero]
    rfl
  · simp only [hz, if_false]
    obtain ⟨X, Y, rfl, rfl⟩ := jac_par x y hz
    unfold jpt
    simp only
    rw [jac_of hz]
    by_cases hY : Y = 0
    · subst hY
      rw [tang_0, show (0 : F) * (z * z * z) * z + 0 * (z * z * z) * z = 0 by grobner, jac_zero]
    · obtain ⟨l, hl, hp⟩ := tang_l (X := X) (nz_mul two_ne hY)
      rw [hp]
      have hZ : Y * (z * z * z) * z + Y * (z * z * z) * z ≠ 0 := by
        have := nz_mul two_ne (nz_mul hY (nz_mul (nz_mul hz hz) (nz_mul hz hz)))
        intro e
        exact this (by grobner)
      generalize hm : (X * (z * z) - z * z) * (X * (z * z) + z * z) = t
      have hm' : t + t + t = l * (Y * (z * z * z) * z + Y * (z * z * z) * z) := by
        rw [← hm]
        unfold A3 at hl
        clear hm hp hZ
        grobner
      rw [hm']
      clear hm hm' hl hp
      rw [← jac_of (x := tx X X l) (y := ty X Y X l) hZ]
      have e1 : l * (Y * (z * z * z) * z + Y * (z * z * z) * z) * (l * (Y * (z * z * z) * z + Y * (z * z * z) * z)) -
            (X * (z * z) * (Y * (z * z * z) * (Y * (z * z * z))) + X * (z * z) * (Y * (z * z * z) * (Y * (z * z * z))) + (X * (z * z) * (Y * (z * z * z) * (Y * (z * z * z))) + X * (z * z) * (Y * (z * z * z) * (Y * (z * z * z)))) +
              (X * (z * z) * (Y * (z * z * z) * (Y * (z * z * z))) + X * (z * z) * (Y * (z * z * z) * (Y * (z * z * z))) + (X * (z * z) * (Y * (z * z * z) * (Y * (z * z * z))) + X * (z * z) * (Y * (z * z * z) * (Y * (z * z * z)))))) =
          tx X X l * ((Y * (z * z * z) * z + Y * (z * z * z) * z) * (Y * (z * z * z) * z + Y * (z * z * z) * z)) := by
        unfold tx
        clear hZ
        grobner
      rw [e1]
      unfold ty
      generalize tx X X l = T
      congr 1
      clear hZ e1
      grobner
theorem jadd_pt (p q : F × F × F) : jpt (jadd p q) = padd A3 (jpt p) (jpt q) := by
  obtain ⟨x1, y1, z1⟩ := p
  obtain ⟨x2, y2, z2⟩ := q
  unfold jadd
  by_cases hz1 : z1 = 0
  · simp only [hz1, if_true]
    have : jpt (x1, y1, 0) = none := jac_zero _ _
    rw [this, zero_padd]
  by_cases hz2 : z2 = 0
  · simp only [hz1, hz2, if_true, if_false]
    have : jpt (x2, y2, 0) = none := jac_zero _ _
    rw [this, padd_zero]
  simp only [hz1, hz2, if_false]
  obtain ⟨X1, Y1, rfl, rfl⟩ := jac_par x1 y1 hz1
  obtain ⟨X2, Y2, rfl, rfl⟩ := jac_par x2 y2 hz2
  have p1 : jpt (X1 * (z1 * z1), Y1 * (z1 * z1 * z1), z1) = some (X1, Y1) := jac_of hz1
  have p2 : jpt (X2 * (z2 * z2), Y2 * (z2 * z2 * z2), z2) = some (X2, Y2) := jac_of hz2
  have hzz := nz_mul hz1 hz2
  have eh : X2 * (z2 * z2) * (z1 * z1) - X1 * (z1 * z1) * (z2 * z2) = (X2 - X1) * (z1 * z2 * (z1 * z2)) := by grobner
  have er : Y2 * (z2 * z2 * z2) * (z1 * z1 * z1) - Y1 * (z1 * z1 * z1) * (z2 * z2 * z2) = (Y2 - Y1) * (z1 * z2 * (z1 * z2) * (z1 * z2)) := by grobner
  rw [eh, er]
  have h0 : (X2 - X1) * (z1 * z2 * (z1 * z2)) = 0 ↔ X1 = X2 := by
    rw [zz_zero]
    constructor
    · rintro (h | h)
      · grobner
      · exact absurd h (nz_mul hzz hzz)
    · rintro rfl; left; grobner
  have r0 : (Y2 - Y1) * (z1 * z2 * (z1 * z2) * (z1 * z2)) = 0 ↔ Y1 = Y2 := by
    rw [zz_zero]
    constructor
    · rintro (h | h)
      · grobner
      · exact absurd h (nz_mul (nz_mul hzz hzz) hzz)
    · rintro rfl; left; grobner
  simp only [h0, r0]
  by_cases hx : X1 = X2
  · subst hx
    simp only [if_true]
    by_cases hy : Y1 = Y2
    · subst hy
      simp only [if_true]
      rw [jdbl_pt, p1, p2]
    · simp only [hy, if_false]
      rw [p1, p2, padd_ss, if_pos ⟨rfl, .inl hy⟩]
      exact jac_zero _ _
  · simp only [hx, if_false]
    obtain ⟨l, hl, hp⟩ := chord_l A3 (Y1 := Y1) (Y2 := Y2) hx
    rw [p1, p2, hp]
    have hZ : (X2 - X1) * (z1 * z2 * (z1 * z2)) * (z1 * z2) ≠ 0 := nz_mul (fun e => hx (h0.1 e)) hzz
    unfold jpt
    simp only
    rw [← jac_of (x := tx X1 X2 l) (y := ty X1 Y1 X2 l) hZ, ← hl]
    clear hl hp r0 h0 er eh p1 p2 hZ hzz hx hz1 hz2
    have e1 : l * (X2 - X1) * (z1 * z2 * (z1 * z2) * (z1 * z2)) * (l * (X2 - X1) * (z1 * z2 * (z1 * z2) * (z1 * z2))) -
          (X2 - X1) * (z1 * z2 * (z1 * z2)) * ((X2 - X1) * (z1 * z2 * (z1 * z2))) * ((X2 - X1) * (z1 * z2 * (z1 * z2))) -
        (X1 * (z1 * z1) * (z2 * z2) * ((X2 - X1) * (z1 * z2 * (z1 * z2)) * ((X2 - X1) * (z1 * z2 * (z1 * z2)))) + X1 * (z1 * z1) * (z2 * z2) * ((X2 - X1) * (z1 * z2 * (z1 * z2)) * ((X2 - X1) * (z1 * z2 * (z1 * z2))))) =
        tx X1 X2 l * ((X2 - X1) * (z1 * z2 * (z1 * z2)) * (z1 * z2) * ((X2 - X1) * (z1 * z2 * (z1 * z2)) * (z1 * z2))) := by
      unfold tx
      grobner
    rw [e1]
    unfold ty
    generalize tx X1 X2 l = T
    congr 1
    grobner
end Go.Proofs.YtfaobdakpbpkbaaDoor.Ec
end
section
/-
  A region in any order: which operations are ready; operations that come one behind the other.
-/
namespace Go.Pt
open Go.RowKit

/-- the operation o waits for the j-th -/
def waits (o : Oper) (j : Nat) : Bool := o.after.toList.any fun e => Nat.beq e.on j && Region.binds .any e
/-- each of the first m is awaited by a later one up to the m-th; from the m-th on each awaits the one before; none awaits a later one -/
def chainB (l : List Oper) (m : Nat) : Bool :=
  Nat.blt m l.length &&
  ((List.range m).all fun i => (List.range (m + 1)).any fun j => Nat.blt i j && (match l[j]? with | some o => waits o i | none => false)) &&
  ((List.range l.length).all fun i => Nat.ble i m || (match l[i]? with | some o => waits o (i - 1) | none => false)) &&
  ((List.range l.length).all fun i => match l[i]? with | some o => o.after.toList.all (fun e => !(Region.binds .any e) || Nat.blt e.on i) | none => true)
theorem waits_out {o : Oper} {j : Nat} (h : waits o j = true) : ∃ e ∈ o.after.toList, e.on = j ∧ Region.binds .any e = true := by
  obtain ⟨e, h1, h2⟩ := List.any_eq_true.1 h
  rw [Bool.and_eq_true] at h2
  exact ⟨e, h1, Nat.eq_of_beq_eq_true h2.1, h2.2⟩
structure Chain (l : List Oper) (m : Nat) : Prop where
  lt : m < l.length
  pre : ∀ i, i < m → ∃ (j : Nat) (o : Oper), i < j ∧ j ≤ m ∧ l[j]? = some o ∧ ∃ e ∈ o.after.toList, e.on = i ∧ Region.binds .any e = true
  next : ∀ (i : Nat) (o : Oper), m < i → l[i]? = some o → ∃ e ∈ o.after.toList, e.on = i - 1 ∧ Region.binds .any e = true
  back : ∀ (i : Nat) (o : Oper), l[i]? = some o → ∀ e ∈ o.after.toList, Region.binds .any e = true → e.on < i
theorem chainB_out {l : List Oper} {m : Nat} (h : chainB l m = true) : Chain l m := by
  unfold chainB at h
  simp only [Bool.and_eq_true] at h
  obtain ⟨⟨⟨h0, h1⟩, h2⟩, h3⟩ := h
  refine ⟨Nat.le_of_ble_eq_true h0, fun i hi => ?_, fun i o hi ho => ?_, fun i o ho e he hb => ?_⟩
  · have := List.all_eq_true.1 h1 i (List.mem_range.2 hi)
    obtain ⟨j, hj, hj2⟩ := List.any_eq_true.1 this
    rw [Bool.and_eq_true] at hj2
    have hjm := List.mem_range.1 hj
    cases ho : l[j]? with
    | none => rw [ho] at hj2; cases hj2.2
    | some o =>
      rw [ho] at hj2
      exact ⟨j, o, Nat.le_of_ble_eq_true hj2.1, by omega, ho, waits_out hj2.2⟩
  · have hil := (List.getElem?_eq_some_iff.1 ho).1
    have := List.all_eq_true.1 h2 i (List.mem_range.2 hil)
    rw [ho, Bool.or_eq_true] at this
    rcases this with h | h
    · have := Nat.le_of_ble_eq_true h; omega
    · exact waits_out h
  · have hil := (List.getElem?_eq_some_iff.1 ho).1
    have := List.all_eq_true.1 h3 i (List.mem_range.2 hil)
    rw [ho] at this
    have := List.all_eq_true.1 this e he
    rw [hb, Bool.not_true, Bool.false_or] at this
    exact Nat.le_of_ble_eq_true this
theorem getD_tf {x : Array Bool} {i : Nat} (h : i < x.size) : x.getD i true = x.getD i false := by
  simp [Array.getD_eq_getD_getElem?, h]
theorem ready_iff {l : List Oper} {listed : Array Bool} {i : Nat} {o : Oper} (ho : l[i]? = some o) : i ∈ Region.ready .any l.toArray listed ↔ listed.getD i true = false ∧ ∀ e ∈ o.after.toList, Region.binds .any e = true → listed.getD e.on false = true := by
  have hil := (List.getElem?_eq_some_iff.1 ho).1
  have hoa : l.toArray[i]? = some o := by simpa using ho
  unfold Region.ready
  rw [List.mem_filter]
  simp only [List.size_toArray, List.mem_range, hoa, Option.map_some, Option.getD_some, Bool.and_eq_true, Bool.not_eq_true', Array.all_eq_true', Bool.or_eq_true]
  constructor
  · rintro ⟨_, h1, h2⟩
    exact ⟨h1, fun e he hb => (h2 e (by simpa using he)).elim (fun y => by rw [hb] at y; cases y) id⟩
  · rintro ⟨h1, h2⟩
    refine ⟨hil, h1, fun e he => ?_⟩
    cases hb : Region.binds .any e with
    | false => exact .inl rfl
    | true => exact .inr (h2 e (by simpa using he) hb)
theorem ready_lt {l : List Oper} {listed : Array Bool} {i : Nat} (h : i ∈ Region.ready .any l.toArray listed) : i < l.length := by
  unfold Region.ready at h
  rw [List.mem_filter] at h
  simpa using h.1
/-- from the m-th on: one behind the other -/
theorem tail_run {P : Program} {l : List Oper} {m : Nat} {Q : Exit → Act → World → Prop} (hch : Chain l m) : ∀ (rest : List Oper) (k : Nat), l.drop k = rest → m ≤ k → ∀ n (listed : Array Bool) a w, listed.size = l.length → (∀ j, j < k → j < l.length → listed.getD j true = true) →
    (∀ j, k ≤ j → j < l.length → listed.getD j true = false) → n = l.length - k → wpList P l.toArray Q rest a w → wpAny P .any l.toArray Q n listed a w := by
  intro rest
  induction rest with
  | nil =>
    intro k hk hmk n listed a w hsz h1 h2 hn h
    have hl : l.length ≤ k := by simpa using hk
    have hr : Region.ready .any l.toArray listed = [] := by
      rw [List.eq_nil_iff_forall_not_mem]
      intro i hi
      have hil := ready_lt hi
      have := ((ready_iff (List.getElem?_eq_getElem hil)).1 hi).1
      rw [h1 i (by omega) hil] at this
      cases this
    have hn0 : n = 0 := by omega
    subst hn0
    exact ⟨hr, h⟩
  | cons o rest ih =>
    intro k hk hmk n listed a w hsz h1 h2 hn h
    have hkl : k < l.length := by
      rcases Nat.lt_or_ge k l.length with h | h
      · exact h
      · rw [List.drop_eq_nil_of_le h] at hk; cases hk
    have ho : l[k]? = some o := by
      have := List.getElem?_drop (xs := l) (i := k) (j := 0)
      rw [hk] at this
      simpa using this.symm
    have hrk : k ∈ Region.ready .any l.toArray listed := (ready_iff ho).2 ⟨h2 k (Nat.le_refl _) hkl, fun e he hb => by
      have hek := hch.back k o ho e he hb
      rw [← getD_tf (by omega)]
      exact h1 e.on hek (by omega)⟩
    have hn' : n = (l.length - (k + 1)) + 1 := by omega
    subst hn'
    refine ⟨fun hr => (by rw [hr] at hrk; cases hrk), fun i hi => ?_⟩
    have hil := ready_lt hi
    have hio := (ready_iff (List.getElem?_eq_getElem hil)).1 hi
    have hik : i = k := by
      rcases Nat.lt_trichotomy i k with h | h | h
      · rw [h1 i h hil] at hio; cases hio.1
      · exact h
      · obtain ⟨e, he, he1, he2⟩ := hch.next i _ (by omega) (List.getElem?_eq_getElem hil)
        have := hio.2 e he he2
        rw [← getD_tf (by omega), he1, h2 (i - 1) (by omega) (by omega)] at this
        cases this
    subst hik
    have hoa : l.toArray[i]? = some o := by simpa using ho
    have hK : ∀ a' w', wpList P l.toArray Q rest a' w' → wpAny P .any l.toArray Q (l.length - (i + 1)) (listed.setIfInBounds i true) a' w' := fun a' w' h' => by
      refine ih (i + 1) ?_ (by omega) _ _ a' w' (by simp [hsz]) (fun j hj hjl => ?_) (fun j hj hjl => ?_) rfl h'
      · rw [← List.drop_drop, hk]; rfl
      · by_cases e : i = j
        · subst e; simp [Array.getD_eq_getD_getElem?, hsz, hil]
        · rw [getD_set e]; exact h1 j (by omega) hjl
      · rw [getD_set (by omega)]; exact h2 j (by omega) hjl
    unfold wpOp
    simp only [hoa]
    simp only [wpList] at h
    split
    · rename_i hw
      rw [if_pos hw] at h
      exact h.imp (fun h => Oper.wp_mono hK h) id
    · rename_i hw
      rw [if_neg hw] at h
      exact hK _ _ h
end Go.Pt
end
