/-
  porticoref04.Field.Mul. Conditions: numbers are below the modulus.
-/
import Derived.Test.YtfaobdakpbpkbaaRef4b
namespace Go.Proofs.Ytfaobdakpbpkbaa
open Go.RowKit Go.Pt
def Bq : Nat := 4294836225
theorem Bq16 {i : Nat} (h : i ≤ 16) : i * Bq ≤ 68717379600 := Nat.le_trans (Nat.mul_le_mul_right _ h) (by decide)
theorem Bq_lt : Bq < 4294967296 := by decide
theorem mulBq {a b : Nat} (ha : a < 65536) (hb : b < 65536) : a * b ≤ Bq := Nat.le_trans (Nat.mul_le_mul (Nat.le_of_lt_succ ha) (Nat.le_of_lt_succ hb)) (by decide)
theorem prod_step (X y d i k : Nat) : X + d * D16 ^ i * (y % D16 ^ k) + d * dg D16 y k * D16 ^ (i + k) = X + d * D16 ^ i * (y % D16 ^ (k + 1)) := by
  rw [mod_succ, Nat.mul_add, Nat.pow_add, ← Nat.add_assoc]
  congr 1
  ac_rfl
theorem prod_row (x y i : Nat) (hy : y < W256) : x % D16 ^ i * y + dg D16 x i * D16 ^ i * (y % D16 ^ 16) = x % D16 ^ (i + 1) * y := by
  rw [mod_succ D16 x i, Nat.add_mul, ← W256_eq16, Nat.mod_eq_of_lt hy]
  congr 1
  ac_rfl
theorem row_step (X r d i : Nat) : X + d * (r % D16 ^ i) + d * dg D16 r i * D16 ^ i = X + d * (r % D16 ^ (i + 1)) := by
  rw [mod_succ, Nat.mul_add, ← Nat.add_assoc]
  congr 1
  ac_rfl
theorem hs_low (U : Nat) : hs (fillN (fun _ => 0) (dg D16 U) 16) 0 33 = U % W256 := by
  rw [show 33 = 16 + 17 from rfl, hs_split, hs_zeros 17 (0 + 16) (fun j h1 _ => fillN_at (by omega)), Nat.mul_zero, Nat.add_zero, hs_congr (g := dg D16 U) 16 0 (fun j _ h => fillN_lo (by omega)), hs_dg, hi_zero, W256_eq16]
set_option maxHeartbeats 16000000 in
theorem refFMul (b m x y : Nat) (w : World) (hF : FldV w b m) (hx : x < m) (hy : y < m) :
    Calls Try.prog 44 #[mp b, num16 x, num16 y] w fun e w' => e = .returned (num16 (x * y % m)) ∧ Hp w [] w' := by
  have hb := hF.blk
  have hm := hF.lt
  have hm0 : 0 < m := by omega
  have hxW : x < W256 := Nat.lt_trans hx hm
  have hyW : y < W256 := Nat.lt_trans hy hm
  refine enter (args := [_, _, _]) (Γ := [(0, _), (1, _), (2, _)]) Try.func44 Try.ntmps44 rfl (of_decide_eq_true rfl) (.cons rfl (.cons rfl (.cons rfl .nil))) ?_
  repeat' (first | (apply Wl.boxN; exact rfl; exact rfl; intro c hc ho) | (apply Wl.allocN; exact rfl; (first | exact z8 | exact z16 | exact z17 | exact z33 | exact z10); intro c hc ho) | (apply Wl.assign; exact rfl; exact rfl) | (apply Wl.nil) | (apply St.seq) | (apply St.block) | (apply St.region) | (apply Gt.next) | (apply Wl.splitP; exact rfl; exact rfl; all_goals (intros; try (exfalso; omega))) | (apply Wl.splitB; exact rfl; exact rfl; all_goals intros) | (apply St.condP; exact rfl; all_goals (intros; try (exfalso; omega))) | (apply St.condB; exact rfl; all_goals intros))
  rename_i cx hcx hox cy hcy hoy cr hcr hor
  generalize c = ct at *
  refine St.loop (σ := Nat × (Nat → Nat)) (fun τ => τ.1 ≤ 16 ∧ hs τ.2 0 33 = x % D16 ^ τ.1 * y ∧ ∀ j, τ.2 j ≤ τ.1 * Bq)
    (fun τ => [(0, mp b), (4, mp cx), (5, mp cy), (6, mp cr), (7, mp ct), (8, .int .i64 τ.1)])
    (fun τ => Hp w [⟨ct, cellsN .u64 33 τ.2, 94⟩, ⟨cr, cellsN .u64 16 fun _ => 0, 32⟩, ⟨cy, cellsN .u64 16 (dg D16 y), 32⟩, ⟨cx, cellsN .u64 16 (dg D16 x), 32⟩])
    (fun τ => 16 - τ.1) (0, fun _ => 0) ⟨by simp, by simp only [hs_zero, Nat.pow_zero, Nat.mod_one, Nat.zero_mul], fun _ => Nat.zero_le _⟩ (by (repeat (first | exact Sub.nil | apply Sub.cons rfl))) (fun _ h => h) ?_
  rintro ⟨i, f⟩ ⟨hi16, hf, hfb⟩
  simp only at hi16 hf hfb ⊢
  by_cases hlt : i < 16
  · have hxi := dlt16 x i
    have hiB := Bq16 (show i ≤ 16 by omega)
    have hsB : (i + 1) * Bq = i * Bq + Bq := Nat.succ_mul _ _
    have hBl := Bq_lt
    repeat' (first | (apply Wl.move; exact rfl; exact rfl) | (apply Wl.assign; exact rfl; exact rfl) | (apply Wl.lss; exact rfl; exact rfl; exact rfl) | (apply Wl.nil) | (apply St.seq) | (apply St.block) | (apply St.region) | (apply St.skip) | (apply Gt.next) | (apply Wl.splitP; exact rfl; exact rfl; all_goals (intros; try (exfalso; omega))) | (apply Wl.splitB; exact rfl; exact rfl; all_goals intros) | (apply St.condP; exact rfl; all_goals (intros; try (exfalso; omega))) | (apply St.condB; exact rfl; all_goals intros))
    refine St.loop (σ := Nat × (Nat → Nat)) (fun τ => τ.1 ≤ 16 ∧ hs τ.2 0 33 = x % D16 ^ i * y + dg D16 x i * D16 ^ i * (y % D16 ^ τ.1) ∧ ∀ j, τ.2 j ≤ (if j < i + τ.1 then i + 1 else i) * Bq)
      (fun τ => [(0, mp b), (4, mp cx), (5, mp cy), (6, mp cr), (7, mp ct), (8, .int .i64 i), (9, .int .i64 τ.1)])
      (fun τ => Hp w [⟨ct, cellsN .u64 33 τ.2, 94⟩, ⟨cr, cellsN .u64 16 fun _ => 0, 32⟩, ⟨cy, cellsN .u64 16 (dg D16 y), 32⟩, ⟨cx, cellsN .u64 16 (dg D16 x), 32⟩])
      (fun τ => 16 - τ.1) (0, f) ⟨by simp, by simp only [Nat.pow_zero, Nat.mod_one, Nat.mul_zero, Nat.add_zero]; exact hf, fun j => by
        have := hfb j
        simp only
        split <;> omega⟩ (by (repeat (first | exact Sub.nil | apply Sub.cons rfl))) (fun _ h => h) ?_
    rintro ⟨k, g⟩ ⟨hk16, hg, hgb⟩
    simp only at hk16 hg hgb ⊢
    by_cases hkl : k < 16
    · have hyk := dlt16 y k
      have hp := mulBq hxi hyk
      have hgk := hgb (i + k)
      rw [if_neg (by omega)] at hgk
      have q0 : dg D16 x i * dg D16 y k < 18446744073709551616 := by omega
      have q1 : g (i + k) + dg D16 x i * dg D16 y k < 18446744073709551616 := by omega
      have hik : i + k < 33 := by omega
      repeat' (first | (apply St.bagX 14 []; exact mixed; (decide +kernel); kernel_rfl) | (apply OpsX.nil) | (apply OpsX.v; (intro X hX; change Wl [_] _ _ _ _ _ _ _; apply Wl.catX; (repeat (first | apply CatB.nil | apply CatB.cons)))) | (apply Gt.endX; exact rfl) | (apply EndX.on; exact rfl) | (apply EndX.off; exact rfl) | (apply EndX.nil'; apply Wl.catE; (repeat (first | apply CatB.nil | apply CatB.cons))) | (apply Wl.indexA; exact rfl; exact rfl; exact rfl; (omega)) | (apply Wl.loadN; exact rfl; exact rfl; (repeat (first | exact List.Mem.head _ | apply List.Mem.tail)); (omega)) | (apply Wl.storeN; exact rfl; exact rfl; (repeat (first | apply HSet.here | apply HSet.there)); (omega)) | (apply Wl.addNU; exact rfl; exact rfl; exact rfl; (first | assumption | omega)) | (apply Wl.mulNU; exact rfl; exact rfl; exact rfl; (first | assumption | omega)) | (apply Wl.addNI; exact rfl; exact rfl; exact rfl; (omega)) | (apply Wl.move; exact rfl; exact rfl) | (apply Wl.assign; exact rfl; exact rfl) | (apply Wl.lss; exact rfl; exact rfl; exact rfl) | (apply Wl.addI; exact rfl; exact rfl; exact rfl; (constructor <;> omega)) | (apply Wl.nil) | (apply St.seq) | (apply St.block) | (apply St.region) | (apply St.skip) | (apply Gt.next) | (apply Gt.inNormal) | (apply Wl.splitP; exact rfl; exact rfl; all_goals (intros; try (exfalso; omega))) | (apply Wl.splitB; exact rfl; exact rfl; all_goals intros) | (apply St.condP; exact rfl; all_goals (intros; try (exfalso; omega))) | (apply St.condB; exact rfl; all_goals intros))
      apply Gt.round (k + 1, updN g (i + k) (g (i + k) + dg D16 x i * dg D16 y k))
      rotate_left
      · simp only; omega
      · (repeat (first | exact Sub.nil | apply Sub.cons rfl))
      · exact fun _ h => h
      · refine ⟨by simp only; omega, ?_, fun j => ?_⟩
        · simp only
          rw [hs_add _ _ hik, hg, prod_step]
        · simp only
          unfold updN
          by_cases hj : j = i + k
          · subst hj
            rw [if_pos rfl, if_pos (by omega)]
            omega
          · rw [if_neg hj]
            have := hgb j
            split at this <;> split <;> omega
    · have hke : k = 16 := by omega
      subst hke
      repeat' (first | (apply Wl.move; exact rfl; exact rfl) | (apply Wl.assign; exact rfl; exact rfl) | (apply Wl.lss; exact rfl; exact rfl; exact rfl) | (apply Wl.addI; exact rfl; exact rfl; exact rfl; (constructor <;> omega)) | (apply Wl.nil) | (apply St.seq) | (apply St.region) | (apply St.condF; exact rfl; (first | with_reducible rfl | with_reducible assumption | decide)) | (apply St.exit) | (apply Gt.next) | (apply Gt.thenExit) | (apply Gt.inNormal) | (apply Gt.inExit) | (apply Wl.splitP; exact rfl; exact rfl; all_goals (intros; try (exfalso; omega))) | (apply Wl.splitB; exact rfl; exact rfl; all_goals intros) | (apply St.condP; exact rfl; all_goals (intros; try (exfalso; omega))) | (apply St.condB; exact rfl; all_goals intros))
      apply Gt.round (i + 1, g)
      rotate_left
      · simp only; omega
      · (repeat (first | exact Sub.nil | apply Sub.cons rfl))
      · exact fun _ h => h
      · refine ⟨by simp only; omega, ?_, fun j => ?_⟩
        · simp only
          rw [hg, prod_row x y i hyW]
        · have := hgb j
          simp only
          split at this <;> omega
  · have hie : i = 16 := by omega
    subst hie
    rw [← W256_eq16, Nat.mod_eq_of_lt hxW] at hf
    generalize hV : x * y = V at *
    have hVb : V < W256 * W256 := by rw [← hV]; exact Nat.mul_lt_mul'' hxW hyW
    repeat' (first | (apply Wl.move; exact rfl; exact rfl) | (apply Wl.lss; exact rfl; exact rfl; exact rfl) | (apply Wl.nil) | (apply St.seq) | (apply St.region) | (apply St.condF; exact rfl; (first | with_reducible rfl | with_reducible assumption | decide)) | (apply St.exit) | (apply Gt.next) | (apply Gt.thenExit) | (apply Gt.inExit) | (apply Wl.splitP; exact rfl; exact rfl; all_goals (intros; try (exfalso; omega))) | (apply Wl.splitB; exact rfl; exact rfl; all_goals intros) | (apply St.condP; exact rfl; all_goals (intros; try (exfalso; omega))) | (apply St.condB; exact rfl; all_goals intros))
    apply Wl.callC
    exact rfl
    (repeat (first | exact Evs.nil | apply Evs.cons rfl))
    intro wq hq
    refine (refCarry ct f V wq (hq.own.at (.head _)) (fun j _ => by have := hfb j; have := Bq16 (Nat.le_refl 16); omega) hf).mono ?_
    rintro e wr ⟨rfl, hp⟩
    refine ⟨_, _, rfl, hq.callSet (by (repeat (first | apply HSet.here | apply HSet.there))) hp, ?_⟩
    clear hp hq wq wr
    repeat' (first | (apply Wl.nil) | (apply Gt.next) | (apply Wl.splitP; exact rfl; exact rfl; all_goals (intros; try (exfalso; omega))) | (apply Wl.splitB; exact rfl; exact rfl; all_goals intros) | (apply St.condP; exact rfl; all_goals (intros; try (exfalso; omega))) | (apply St.condB; exact rfl; all_goals intros))
    refine St.cut (σ := Nat) (fun U => U < W256 ∧ U % m = V % m) (fun _ => [(0, mp b), (6, mp cr), (7, mp ct)])
      (fun U => Hp w [⟨ct, cellsN .u64 33 (dg D16 U), 94⟩, ⟨cr, cellsN .u64 16 fun _ => 0, 32⟩, ⟨cy, cellsN .u64 16 (dg D16 y), 32⟩, ⟨cx, cellsN .u64 16 (dg D16 x), 32⟩]) ?_ ?_
    · repeat' (first | (apply Wl.assign; exact rfl; exact rfl) | (apply Wl.nil) | (apply St.seq) | (apply St.block) | (apply St.region) | (apply Gt.next) | (apply Wl.splitP; exact rfl; exact rfl; all_goals (intros; try (exfalso; omega))) | (apply Wl.splitB; exact rfl; exact rfl; all_goals intros) | (apply St.condP; exact rfl; all_goals (intros; try (exfalso; omega))) | (apply St.condB; exact rfl; all_goals intros))
      refine St.loop (σ := Nat × Nat) (fun τ => τ.1 ≤ 5 ∧ τ.2 < bnd τ.1 ∧ τ.2 % m = V % m)
        (fun τ => [(0, mp b), (6, mp cr), (7, mp ct), (10, .int .i64 τ.1)])
        (fun τ => Hp w [⟨ct, cellsN .u64 33 (dg D16 τ.2), 94⟩, ⟨cr, cellsN .u64 16 fun _ => 0, 32⟩, ⟨cy, cellsN .u64 16 (dg D16 y), 32⟩, ⟨cx, cellsN .u64 16 (dg D16 x), 32⟩])
        (fun τ => 5 - τ.1) (0, V) ⟨by simp, by simp only; rw [bnd_0]; exact hVb, rfl⟩ (by (repeat (first | exact Sub.nil | apply Sub.cons rfl))) (fun _ h => h) ?_
      rintro ⟨r, U⟩ ⟨hr5, hU, hUm⟩
      simp only at hr5 hU hUm ⊢
      by_cases hrl : r < 5
      · have hUs : U < W256 * W256 := Nat.lt_of_lt_of_le hU (bnd_le r)
        repeat' (first | (apply Wl.allocN; exact rfl; (first | exact z8 | exact z16 | exact z17 | exact z33 | exact z10); intro c hc ho) | (apply Wl.move; exact rfl; exact rfl) | (apply Wl.assign; exact rfl; exact rfl) | (apply Wl.lss; exact rfl; exact rfl; exact rfl) | (apply Wl.nil) | (apply St.seq) | (apply St.block) | (apply St.region) | (apply St.skip) | (apply Gt.next) | (apply Wl.splitP; exact rfl; exact rfl; all_goals (intros; try (exfalso; omega))) | (apply Wl.splitB; exact rfl; exact rfl; all_goals intros) | (apply St.condP; exact rfl; all_goals (intros; try (exfalso; omega))) | (apply St.condB; exact rfl; all_goals intros))
        generalize c = cs at *
        refine St.loop (σ := Nat) (fun i => i ≤ 16) (fun i => [(0, mp b), (6, mp cr), (7, mp ct), (10, .int .i64 r), (11, mp cs), (12, .int .i64 i)])
          (fun i => Hp w [⟨cs, cellsN .u64 33 (fillN (fun _ => 0) (dg D16 U) i), 94⟩, ⟨ct, cellsN .u64 33 (dg D16 U), 94⟩, ⟨cr, cellsN .u64 16 fun _ => 0, 32⟩, ⟨cy, cellsN .u64 16 (dg D16 y), 32⟩, ⟨cx, cellsN .u64 16 (dg D16 x), 32⟩])
          (fun i => 16 - i) 0 (by simp) (by (repeat (first | exact Sub.nil | apply Sub.cons rfl))) (fun _ h => by simpa only [fillN_zero] using h) ?_
        intro i hi16'
        by_cases hil : i < 16
        · repeat' (first | (apply Wl.indexA; exact rfl; exact rfl; exact rfl; (omega)) | (apply Wl.loadN; exact rfl; exact rfl; (repeat (first | exact List.Mem.head _ | apply List.Mem.tail)); (omega)) | (apply Wl.storeN; exact rfl; exact rfl; (repeat (first | apply HSet.here | apply HSet.there)); (omega)) | (apply Wl.move; exact rfl; exact rfl) | (apply Wl.assign; exact rfl; exact rfl) | (apply Wl.lss; exact rfl; exact rfl; exact rfl) | (apply Wl.addI; exact rfl; exact rfl; exact rfl; (constructor <;> omega)) | (apply Wl.nil) | (apply St.seq) | (apply St.block) | (apply St.region) | (apply St.skip) | (apply Gt.next) | (apply Gt.inNormal) | (apply Wl.splitP; exact rfl; exact rfl; all_goals (intros; try (exfalso; omega))) | (apply Wl.splitB; exact rfl; exact rfl; all_goals intros) | (apply St.condP; exact rfl; all_goals (intros; try (exfalso; omega))) | (apply St.condB; exact rfl; all_goals intros))
          apply Gt.round (i + 1)
          rotate_left
          · omega
          · (repeat (first | exact Sub.nil | apply Sub.cons rfl))
          · exact fun _ h => by rw [fillN_step] at h; exact h
          · omega
        have hie : i = 16 := by omega
        subst hie
        repeat' (first | (apply Wl.move; exact rfl; exact rfl) | (apply Wl.assign; exact rfl; exact rfl) | (apply Wl.lss; exact rfl; exact rfl; exact rfl) | (apply Wl.nil) | (apply St.seq) | (apply St.block) | (apply St.region) | (apply St.condF; exact rfl; (first | with_reducible rfl | with_reducible assumption | decide)) | (apply St.exit) | (apply Gt.next) | (apply Gt.thenExit) | (apply Gt.inExit) | (apply Wl.splitP; exact rfl; exact rfl; all_goals (intros; try (exfalso; omega))) | (apply Wl.splitB; exact rfl; exact rfl; all_goals intros) | (apply St.condP; exact rfl; all_goals (intros; try (exfalso; omega))) | (apply St.condB; exact rfl; all_goals intros))
        refine St.loop (σ := Nat × (Nat → Nat)) (fun τ => τ.1 ≤ 16 ∧ hs τ.2 0 33 = fs U m τ.1 ∧ ∀ j, τ.2 j ≤ 65535 + τ.1 * Bq) (fun τ => [(0, mp b), (6, mp cr), (7, mp ct), (10, .int .i64 r), (11, mp cs), (13, .int .i64 τ.1)])
          (fun τ => Hp w [⟨cs, cellsN .u64 33 τ.2, 94⟩, ⟨ct, cellsN .u64 33 (dg D16 U), 94⟩, ⟨cr, cellsN .u64 16 fun _ => 0, 32⟩, ⟨cy, cellsN .u64 16 (dg D16 y), 32⟩, ⟨cx, cellsN .u64 16 (dg D16 x), 32⟩])
          (fun τ => 16 - τ.1) (0, fillN (fun _ => 0) (dg D16 U) 16) ⟨by simp, by simp only; rw [hs_low, fs], fun j => by
            have := dlt16 U j
            show (if j < 16 then dg D16 U j else 0) ≤ 65535 + 0 * Bq
            split <;> omega⟩ (by (repeat (first | exact Sub.nil | apply Sub.cons rfl))) (fun _ h => h) ?_
        rintro ⟨k, g⟩ ⟨hk16, hg, hgb⟩
        simp only at hk16 hg hgb ⊢
        have hkB := Bq16 hk16
        have hBl := Bq_lt
        by_cases hkl : k < 16
        · have hd := dlt16 U (16 + k)
          have hsB : (k + 1) * Bq = k * Bq + Bq := Nat.succ_mul _ _
          by_cases hd0 : dg D16 U (16 + k) = 0
          · have hcond : ¬ (0 : Int) < ((dg D16 U (16 + k) : Nat) : Int) := by omega
            repeat' (first | (apply Wl.addNI (m := 16); exact rfl; exact rfl; exact rfl; (omega)) | (apply Wl.indexA; exact rfl; exact rfl; exact rfl; (omega)) | (apply Wl.loadN; exact rfl; exact rfl; (repeat (first | exact List.Mem.head _ | apply List.Mem.tail)); (omega)) | (apply Wl.move; exact rfl; exact rfl) | (apply Wl.assign; exact rfl; exact rfl) | (apply Wl.lss; exact rfl; exact rfl; exact rfl) | (apply Wl.gtr; exact rfl; exact rfl; exact rfl) | (apply Wl.addI; exact rfl; exact rfl; exact rfl; (constructor <;> omega)) | (apply Wl.nil) | (apply St.seq) | (apply St.block) | (apply St.region) | (apply St.skip) | (apply Gt.next) | (apply Gt.inNormal) | (apply Wl.splitP; exact rfl; exact rfl; all_goals (intros; try (exfalso; omega))) | (apply Wl.splitB; exact rfl; exact rfl; all_goals intros) | (apply St.condP; exact rfl; all_goals (intros; try (exfalso; omega))) | (apply St.condB; exact rfl; all_goals intros))
            apply Gt.round (k + 1, g)
            rotate_left
            · simp only; omega
            · (repeat (first | exact Sub.nil | apply Sub.cons rfl))
            · exact fun _ h => h
            · refine ⟨by simp only; omega, ?_, fun j => ?_⟩
              · simp only
                rw [fs, hd0, Nat.zero_mul, Nat.add_zero, hg]
              · have := hgb j
                simp only
                omega
          · have hcond : (0 : Int) < ((dg D16 U (16 + k) : Nat) : Int) := by omega
            repeat' (first | (apply Wl.addNI (m := 16); exact rfl; exact rfl; exact rfl; (omega)) | (apply Wl.indexA; exact rfl; exact rfl; exact rfl; (omega)) | (apply Wl.loadN; exact rfl; exact rfl; (repeat (first | exact List.Mem.head _ | apply List.Mem.tail)); (omega)) | (apply Wl.move; exact rfl; exact rfl) | (apply Wl.assign; exact rfl; exact rfl) | (apply Wl.lss; exact rfl; exact rfl; exact rfl) | (apply Wl.gtr; exact rfl; exact rfl; exact rfl) | (apply Wl.nil) | (apply St.seq) | (apply St.block) | (apply St.region) | (apply St.skip) | (apply Gt.next) | (apply Wl.splitP; exact rfl; exact rfl; all_goals (intros; try (exfalso; omega))) | (apply Wl.splitB; exact rfl; exact rfl; all_goals intros) | (apply St.condP; exact rfl; all_goals (intros; try (exfalso; omega))) | (apply St.condB; exact rfl; all_goals intros))
            refine St.loop (σ := Nat × (Nat → Nat)) (fun τ => τ.1 ≤ 16 ∧ hs τ.2 0 33 = fs U m k + dg D16 U (16 + k) * (rowR m k % D16 ^ τ.1) ∧ ∀ j, τ.2 j ≤ 65535 + (if j < τ.1 then k + 1 else k) * Bq)
              (fun τ => [(0, mp b), (6, mp cr), (7, mp ct), (10, .int .i64 r), (11, mp cs), (13, .int .i64 k), (14, .int .i64 τ.1)])
              (fun τ => Hp w [⟨cs, cellsN .u64 33 τ.2, 94⟩, ⟨ct, cellsN .u64 33 (dg D16 U), 94⟩, ⟨cr, cellsN .u64 16 fun _ => 0, 32⟩, ⟨cy, cellsN .u64 16 (dg D16 y), 32⟩, ⟨cx, cellsN .u64 16 (dg D16 x), 32⟩])
              (fun τ => 16 - τ.1) (0, g) ⟨by simp, by simp only [Nat.pow_zero, Nat.mod_one, Nat.mul_zero, Nat.add_zero]; exact hg, fun j => by
                have := hgb j
                simp only
                split <;> omega⟩ (by (repeat (first | exact Sub.nil | apply Sub.cons rfl))) (fun _ h => h) ?_
            rintro ⟨i, g'⟩ ⟨hi16', hg', hgb'⟩
            simp only at hi16' hg' hgb' ⊢
            by_cases hil : i < 16
            · have hri := dlt16 (rowR m k) i
              have hpB := mulBq hd hri
              have hgi := hgb' i
              rw [if_neg (by omega)] at hgi
              have q0 : dg D16 U (16 + k) * dg D16 (rowR m k) i < 18446744073709551616 := by omega
              have q1 : g' i + dg D16 U (16 + k) * dg D16 (rowR m k) i < 18446744073709551616 := by omega
              have hrow := hF.rows k i hkl hil
              repeat' (first | (apply St.bagX 18 []; exact mixed; (decide +kernel); kernel_rfl) | (apply OpsX.nil) | (apply OpsX.v; (intro X hX; change Wl [_] _ _ _ _ _ _ _; apply Wl.catX; (repeat (first | apply CatB.nil | apply CatB.cons)))) | (apply Gt.endX; exact rfl) | (apply EndX.on; exact rfl) | (apply EndX.off; exact rfl) | (apply EndX.nil'; apply Wl.catE; (repeat (first | apply CatB.nil | apply CatB.cons))) | (apply Wl.addNI (m := 16); exact rfl; exact rfl; exact rfl; (omega)) | (apply Wl.loadO; exact rfl; exact rfl; exact hrow; (repeat (first | exact trivial | exact hX.off (by omega) | refine ⟨by first | assumption | omega | (simp only; omega), ?_⟩))) | (apply Wl.indexA; exact rfl; exact rfl; exact rfl; (omega)) | (apply Wl.indexAo; exact rfl; exact rfl; exact rfl; (omega)) | (apply Wl.loadN; exact rfl; exact rfl; (repeat (first | exact List.Mem.head _ | apply List.Mem.tail)); (omega)) | (apply Wl.storeN; exact rfl; exact rfl; (repeat (first | apply HSet.here | apply HSet.there)); (omega)) | (apply Wl.addNU; exact rfl; exact rfl; exact rfl; (first | assumption | omega)) | (apply Wl.mulNU; exact rfl; exact rfl; exact rfl; (first | assumption | omega)) | (apply Wl.move; exact rfl; exact rfl) | (apply Wl.assign; exact rfl; exact rfl) | (apply Wl.nilCheck; exact rfl; exact rfl) | (apply Wl.fieldAddrZ; exact rfl; exact rfl) | (apply Wl.lss; exact rfl; exact rfl; exact rfl) | (apply Wl.addI; exact rfl; exact rfl; exact rfl; (constructor <;> omega)) | (apply Wl.indexArr; exact rfl; exact rfl; exact rfl; (constructor <;> omega)) | (apply Wl.nil) | (apply St.seq) | (apply St.block) | (apply St.region) | (apply St.skip) | (apply Gt.next) | (apply Gt.inNormal) | (apply Wl.splitP; exact rfl; exact rfl; all_goals (intros; try (exfalso; omega))) | (apply Wl.splitB; exact rfl; exact rfl; all_goals intros) | (apply St.condP; exact rfl; all_goals (intros; try (exfalso; omega))) | (apply St.condB; exact rfl; all_goals intros))
              apply Gt.round (i + 1, updN g' i (g' i + dg D16 U (16 + k) * dg D16 (rowR m k) i))
              rotate_left
              · simp only; omega
              · (repeat (first | exact Sub.nil | apply Sub.cons rfl))
              · exact fun _ h => h
              · refine ⟨by simp only; omega, ?_, fun j => ?_⟩
                · simp only
                  rw [hs_add _ _ (by omega), hg', row_step]
                · simp only
                  unfold updN
                  by_cases hj : j = i
                  · subst hj
                    rw [if_pos rfl, if_pos (by omega)]
                    omega
                  · rw [if_neg hj]
                    have := hgb' j
                    split at this <;> split <;> omega
            · have hie : i = 16 := by omega
              subst hie
              repeat' (first | (apply Wl.move; exact rfl; exact rfl) | (apply Wl.assign; exact rfl; exact rfl) | (apply Wl.lss; exact rfl; exact rfl; exact rfl) | (apply Wl.addI; exact rfl; exact rfl; exact rfl; (constructor <;> omega)) | (apply Wl.nil) | (apply St.seq) | (apply St.region) | (apply St.condF; exact rfl; (first | with_reducible rfl | with_reducible assumption | decide)) | (apply St.exit) | (apply Gt.next) | (apply Gt.thenExit) | (apply Gt.inNormal) | (apply Gt.inExit) | (apply Wl.splitP; exact rfl; exact rfl; all_goals (intros; try (exfalso; omega))) | (apply Wl.splitB; exact rfl; exact rfl; all_goals intros) | (apply St.condP; exact rfl; all_goals (intros; try (exfalso; omega))) | (apply St.condB; exact rfl; all_goals intros))
              apply Gt.round (k + 1, g')
              rotate_left
              · simp only; omega
              · (repeat (first | exact Sub.nil | apply Sub.cons rfl))
              · exact fun _ h => h
              · refine ⟨by simp only; omega, ?_, fun j => ?_⟩
                · simp only
                  rw [hg', fs, ← W256_eq16, Nat.mod_eq_of_lt (Nat.lt_trans (rowR_lt hm0 k) hm)]
                · have := hgb' j
                  simp only
                  split at this <;> omega
        · have hke : k = 16 := by omega
          subst hke
          have hU' := fs_bnd hm0 hm hF.r0 hF.r1 hU
          have hUm' := fs_same (m := m) hUs
          generalize hW : fs U m 16 = U' at *
          repeat' (first | (apply Wl.move; exact rfl; exact rfl) | (apply Wl.lss; exact rfl; exact rfl; exact rfl) | (apply Wl.nil) | (apply St.seq) | (apply St.region) | (apply St.condF; exact rfl; (first | with_reducible rfl | with_reducible assumption | decide)) | (apply St.exit) | (apply Gt.next) | (apply Gt.thenExit) | (apply Gt.inExit) | (apply Wl.splitP; exact rfl; exact rfl; all_goals (intros; try (exfalso; omega))) | (apply Wl.splitB; exact rfl; exact rfl; all_goals intros) | (apply St.condP; exact rfl; all_goals (intros; try (exfalso; omega))) | (apply St.condB; exact rfl; all_goals intros))
          apply Wl.callC
          exact rfl
          (repeat (first | exact Evs.nil | apply Evs.cons rfl))
          intro wq hq
          refine (refCarry cs g U' wq (hq.own.at (.head _)) (fun j _ => by have := hgb j; omega) hg).mono ?_
          rintro e wr ⟨rfl, hp⟩
          refine ⟨_, _, rfl, hq.callSet (by (repeat (first | apply HSet.here | apply HSet.there))) hp, ?_⟩
          clear hp hq wq wr
          by_cases h16 : dg D16 U' 16 = 0
          · by_cases h17 : dg D16 U' 17 = 0
            · repeat' (first | (apply Wl.indexA (j := 16); exact rfl; exact rfl; exact rfl; (decide)) | (apply Wl.indexA (j := 17); exact rfl; exact rfl; exact rfl; (decide)) | (apply Wl.loadN; exact rfl; exact rfl; (repeat (first | exact List.Mem.head _ | apply List.Mem.tail)); (omega)) | (apply Wl.loadW; exact rfl; exact rfl; (repeat (first | exact List.Mem.head _ | apply List.Mem.tail)); exact rfl) | (apply Wl.storeW; exact rfl; exact rfl; (repeat (first | apply HSet.here | apply HSet.there)); exact rfl; (first | exact cellsN_len _ _ _ | exact rfl)) | (apply Wl.move; exact rfl; exact rfl) | (apply Wl.on; exact rfl; exact rfl; (first | with_reducible rfl | with_reducible assumption | decide)) | (apply Wl.pickT; exact rfl; exact rfl; (first | with_reducible rfl | with_reducible assumption | decide); exact rfl) | (apply Wl.eql; exact rfl; exact rfl; exact rfl) | (apply Wl.nil) | (apply St.seq) | (apply St.region) | (apply St.exit) | (apply Gt.next) | (apply Gt.thenExit) | (apply Gt.inExit) | (apply Gt.inOther; exact rfl) | (apply Wl.splitP; exact rfl; exact rfl; all_goals (intros; try (exfalso; omega))) | (apply Wl.splitB; exact rfl; exact rfl; all_goals intros) | (apply St.condP; exact rfl; all_goals (intros; try (exfalso; omega))) | (apply St.condB; exact rfl; all_goals intros))
              exact Gt.meet U' ⟨small_of hU' h16 h17, hUm'.trans hUm⟩ (by (repeat (first | exact Sub.nil | apply Sub.cons rfl))) fun _ h => hpPop h (by simp only; omega)
            · repeat' (first | (apply Wl.indexA (j := 16); exact rfl; exact rfl; exact rfl; (decide)) | (apply Wl.indexA (j := 17); exact rfl; exact rfl; exact rfl; (decide)) | (apply Wl.loadN; exact rfl; exact rfl; (repeat (first | exact List.Mem.head _ | apply List.Mem.tail)); (omega)) | (apply Wl.loadW; exact rfl; exact rfl; (repeat (first | exact List.Mem.head _ | apply List.Mem.tail)); exact rfl) | (apply Wl.storeW; exact rfl; exact rfl; (repeat (first | apply HSet.here | apply HSet.there)); exact rfl; (first | exact cellsN_len _ _ _ | exact rfl)) | (apply Wl.move; exact rfl; exact rfl) | (apply Wl.assign; exact rfl; exact rfl) | (apply Wl.on; exact rfl; exact rfl; (first | with_reducible rfl | with_reducible assumption | decide)) | (apply Wl.pickT; exact rfl; exact rfl; (first | with_reducible rfl | with_reducible assumption | decide); exact rfl) | (apply Wl.eql; exact rfl; exact rfl; exact rfl) | (apply Wl.addI; exact rfl; exact rfl; exact rfl; (constructor <;> omega)) | (apply Wl.nil) | (apply St.seq) | (apply St.region) | (apply St.skip) | (apply Gt.next) | (apply Gt.inNormal) | (apply Wl.splitP; exact rfl; exact rfl; all_goals (intros; try (exfalso; omega))) | (apply Wl.splitB; exact rfl; exact rfl; all_goals intros) | (apply St.condP; exact rfl; all_goals (intros; try (exfalso; omega))) | (apply St.condB; exact rfl; all_goals intros))
              apply Gt.round (r + 1, U')
              rotate_left
              · simp only; omega
              · (repeat (first | exact Sub.nil | apply Sub.cons rfl))
              · exact fun _ h => hpPop h (by simp only; omega)
              · exact ⟨by simp only; omega, hU', hUm'.trans hUm⟩
          · repeat' (first | (apply Wl.indexA (j := 16); exact rfl; exact rfl; exact rfl; (decide)) | (apply Wl.loadN; exact rfl; exact rfl; (repeat (first | exact List.Mem.head _ | apply List.Mem.tail)); (omega)) | (apply Wl.loadW; exact rfl; exact rfl; (repeat (first | exact List.Mem.head _ | apply List.Mem.tail)); exact rfl) | (apply Wl.storeW; exact rfl; exact rfl; (repeat (first | apply HSet.here | apply HSet.there)); exact rfl; (first | exact cellsN_len _ _ _ | exact rfl)) | (apply Wl.move; exact rfl; exact rfl) | (apply Wl.assign; exact rfl; exact rfl) | (apply Wl.off; exact rfl; exact rfl; exact rfl; (first | with_reducible rfl | (show _ = false; with_reducible assumption) | (show _ = true; with_reducible assumption) | decide)) | (apply Wl.pickF; exact rfl; exact rfl; (first | with_reducible rfl | with_reducible assumption | decide); exact rfl) | (apply Wl.eql; exact rfl; exact rfl; exact rfl) | (apply Wl.addI; exact rfl; exact rfl; exact rfl; (constructor <;> omega)) | (apply Wl.nil) | (apply St.seq) | (apply St.region) | (apply St.condF; exact rfl; (first | with_reducible rfl | with_reducible assumption | decide)) | (apply St.skip) | (apply Gt.next) | (apply Gt.inNormal) | (apply Wl.splitP; exact rfl; exact rfl; all_goals (intros; try (exfalso; omega))) | (apply Wl.splitB; exact rfl; exact rfl; all_goals intros) | (apply St.condP; exact rfl; all_goals (intros; try (exfalso; omega))) | (apply St.condB; exact rfl; all_goals intros))
            apply Gt.round (r + 1, U')
            rotate_left
            · simp only; omega
            · (repeat (first | exact Sub.nil | apply Sub.cons rfl))
            · exact fun _ h => hpPop h (by simp only; omega)
            · exact ⟨by simp only; omega, hU', hUm'.trans hUm⟩
      · have hre : r = 5 := by omega
        subst hre
        repeat' (first | (apply Wl.move; exact rfl; exact rfl) | (apply Wl.lss; exact rfl; exact rfl; exact rfl) | (apply Wl.nil) | (apply St.seq) | (apply St.region) | (apply St.condF; exact rfl; (first | with_reducible rfl | with_reducible assumption | decide)) | (apply St.exit) | (apply Gt.next) | (apply Gt.thenExit) | (apply Gt.inExit) | (apply Wl.splitP; exact rfl; exact rfl; all_goals (intros; try (exfalso; omega))) | (apply Wl.splitB; exact rfl; exact rfl; all_goals intros) | (apply St.condP; exact rfl; all_goals (intros; try (exfalso; omega))) | (apply St.condB; exact rfl; all_goals intros))
        rw [bnd_5] at hU
        exact Gt.meet U ⟨hU, hUm⟩ (by (repeat (first | exact Sub.nil | apply Sub.cons rfl))) fun _ h => h
    · rintro U ⟨hU, hUm⟩
      repeat' (first | (apply Wl.allocN; exact rfl; (first | exact z8 | exact z16 | exact z17 | exact z33 | exact z10); intro c hc ho) | (apply Wl.assign; exact rfl; exact rfl) | (apply Wl.nil) | (apply St.seq) | (apply St.block) | (apply St.region) | (apply Gt.next) | (apply Wl.splitP; exact rfl; exact rfl; all_goals (intros; try (exfalso; omega))) | (apply Wl.splitB; exact rfl; exact rfl; all_goals intros) | (apply St.condP; exact rfl; all_goals (intros; try (exfalso; omega))) | (apply St.condB; exact rfl; all_goals intros))
      generalize c = co at *
      refine St.loop (σ := Nat) (fun i => i ≤ 16) (fun i => [(0, mp b), (6, mp cr), (7, mp ct), (15, mp co), (16, .int .i64 i)])
        (fun i => Hp w [⟨co, cellsN .u64 16 (fillN (fun _ => 0) (dg D16 U) i), 32⟩, ⟨ct, cellsN .u64 33 (dg D16 U), 94⟩, ⟨cr, cellsN .u64 16 fun _ => 0, 32⟩, ⟨cy, cellsN .u64 16 (dg D16 y), 32⟩, ⟨cx, cellsN .u64 16 (dg D16 x), 32⟩])
        (fun i => 16 - i) 0 (by simp) (by (repeat (first | exact Sub.nil | apply Sub.cons rfl))) (fun _ h => by simpa only [fillN_zero] using h) ?_
      intro i hi16'
      by_cases hil : i < 16
      · repeat' (first | (apply Wl.indexA; exact rfl; exact rfl; exact rfl; (omega)) | (apply Wl.loadN; exact rfl; exact rfl; (repeat (first | exact List.Mem.head _ | apply List.Mem.tail)); (omega)) | (apply Wl.storeN; exact rfl; exact rfl; (repeat (first | apply HSet.here | apply HSet.there)); (omega)) | (apply Wl.move; exact rfl; exact rfl) | (apply Wl.assign; exact rfl; exact rfl) | (apply Wl.lss; exact rfl; exact rfl; exact rfl) | (apply Wl.addI; exact rfl; exact rfl; exact rfl; (constructor <;> omega)) | (apply Wl.nil) | (apply St.seq) | (apply St.block) | (apply St.region) | (apply St.skip) | (apply Gt.next) | (apply Gt.inNormal) | (apply Wl.splitP; exact rfl; exact rfl; all_goals (intros; try (exfalso; omega))) | (apply Wl.splitB; exact rfl; exact rfl; all_goals intros) | (apply St.condP; exact rfl; all_goals (intros; try (exfalso; omega))) | (apply St.condB; exact rfl; all_goals intros))
        apply Gt.round (i + 1)
        rotate_left
        · omega
        · (repeat (first | exact Sub.nil | apply Sub.cons rfl))
        · exact fun _ h => by rw [fillN_step] at h; exact h
        · omega
      have hie : i = 16 := by omega
      subst hie
      rw [fillN_end]
      have hgt := hF.gt
      repeat' (first | (apply St.bagX 6 []; exact mixed; (decide +kernel); kernel_rfl) | (apply OpsX.nil) | (apply OpsX.v; (intro X hX; change Wl [_] _ _ _ _ _ _ _; apply Wl.catX; (repeat (first | apply CatB.nil | apply CatB.cons)))) | (apply Gt.endX; exact rfl) | (apply EndX.on; exact rfl) | (apply EndX.off; exact rfl) | (apply EndX.nil'; apply Wl.catE; (repeat (first | apply CatB.nil | apply CatB.cons))) | (apply Wl.loadM; exact rfl; exact rfl; exact hF.mod; (repeat (first | exact trivial | exact hX.off (by omega) | refine ⟨by first | assumption | omega | (simp only; omega), ?_⟩)); exact rfl) | (apply Wl.callQ (f := 59); exact rfl; (repeat (first | exact Evs.nil | apply Evs.cons rfl)); (intro wq hq; refine (refLow U m wq hU hm (by omega)).mono ?_; rintro e wr ⟨rfl, hr⟩; exact ⟨rfl, hq.keep hr⟩)) | (apply Gt.outN; exact rfl; infer_instance; exact rfl; (repeat (first | exact List.Mem.head _ | apply List.Mem.tail)); exact rfl; intro w' hp) | (apply Wl.loadW; exact rfl; exact rfl; (repeat (first | exact List.Mem.head _ | apply List.Mem.tail)); exact rfl) | (apply Wl.storeW; exact rfl; exact rfl; (repeat (first | apply HSet.here | apply HSet.there)); exact rfl; (first | exact cellsN_len _ _ _ | exact rfl)) | (apply Wl.move; exact rfl; exact rfl) | (apply Wl.nilCheck; exact rfl; exact rfl) | (apply Wl.fieldAddr0; exact rfl; exact rfl) | (apply Wl.lss; exact rfl; exact rfl; exact rfl) | (apply Wl.nil) | (apply St.seq) | (apply St.region) | (apply St.condF; exact rfl; (first | with_reducible rfl | with_reducible assumption | decide)) | (apply St.ret) | (apply St.exit) | (apply Gt.next) | (apply Gt.thenExit) | (apply Gt.inExit) | (apply Wl.splitP; exact rfl; exact rfl; all_goals (intros; try (exfalso; omega))) | (apply Wl.splitB; exact rfl; exact rfl; all_goals intros) | (apply St.condP; exact rfl; all_goals (intros; try (exfalso; omega))) | (apply St.condB; exact rfl; all_goals intros))
      rw [hUm] at hp ⊢
      exact ⟨rfl, hp.drop (by simp; omega)⟩
end Go.Proofs.Ytfaobdakpbpkbaa
