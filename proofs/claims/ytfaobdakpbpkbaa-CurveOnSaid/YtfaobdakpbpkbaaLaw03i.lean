/-
  MontInverts: mont.Inv, limbs.Zero, porticolaw03.Prime, and the walk. Conditions: numbers are below 2^256.
-/
import Derived.Test.YtfaobdakpbpkbaaLaw03
import Derived.Test.YtfaobdakpbpkbaaPrime
namespace Go.Proofs.Ytfaobdakpbpkbaa
open Go.RowKit Go.Pt
/-! ### the plain law -/
theorem pw_in {m a k : Nat} (h : m % 2 = 1) : pw m (a * W256 % m) k = a ^ k * W256 % m := by
  unfold pw
  rw [Nat.mul_mod, Nat.pow_mod, outIn h, ← Nat.pow_mod, ← Nat.mul_mod]
theorem in_mul {m a c : Nat} (h : m % 2 = 1) : a * W256 % m * (c * W256 % m) * rinv m % m = a * c * W256 % m := by
  have e : a * W256 % m * (c * W256 % m) * rinv m % m = a * c * W256 * W256 * rinv m % m := by
    rw [show a * c * W256 * W256 = a * W256 * (c * W256) by rw [Nat.mul_assoc a c, Nat.mul_assoc a, Nat.mul_assoc a, Nat.mul_comm (c * W256)]]
    simp only [Nat.mul_mod, Nat.mod_mod]
  rw [e]; exact inW h
/-- Fermat's law holds for it -/
def Ferm (m : Nat) : Prop := ∀ a, a % m ≠ 0 → a ^ (m - 1) % m = 1
theorem inv_mul {m a : Nat} (hF : Ferm m) (h2 : 2 < m) (ha : a % m ≠ 0) : a * a ^ (m - 2) * W256 % m = W256 % m := by
  rw [← Nat.pow_succ', show (m - 2).succ = m - 1 by omega, Nat.mul_mod, hF a ha, Nat.one_mul, Nat.mod_mod]
theorem inv_inv {m a : Nat} (hF : Ferm m) (h2 : 2 < m) (ha : a % m ≠ 0) : (a ^ (m - 2)) ^ (m - 2) * W256 % m = a * W256 % m := by
  have e : (a ^ (m - 2)) ^ (m - 2) % m = a % m := by
    rw [← Nat.pow_mul, show (m - 2) * (m - 2) = (m - 1) * (m - 3) + 1 by
      obtain ⟨k, rfl⟩ : ∃ k, m = k + 3 := ⟨m - 3, by omega⟩
      rw [show k + 3 - 2 = k + 1 by omega, show k + 3 - 1 = k + 2 by omega, show k + 3 - 3 = k by omega, Nat.add_mul, Nat.mul_add, Nat.add_mul]
      omega]
    rw [Nat.pow_succ, Nat.pow_mul, Nat.mul_mod, Nat.pow_mod, hF a ha, Nat.one_pow, Nat.mod_eq_of_lt (show 1 < m by omega), Nat.one_mul, Nat.mod_mod]
  rw [Nat.mul_mod, e, ← Nat.mul_mod]
theorem nz_of {m a : Nat} (h : a * W256 % m ≠ 0) : a % m ≠ 0 := fun e => h (by rw [Nat.mul_mod, e, Nat.zero_mul, Nat.zero_mod])
theorem inv_zero {m : Nat} (h2 : 2 < m) : pw m 0 (m - 2) = 0 := by
  unfold pw
  rw [Nat.zero_mul, Nat.zero_pow (by omega), Nat.zero_mul, Nat.zero_mod]
theorem pw_lt {m a k : Nat} (h : 0 < m) : pw m a k < m := Nat.mod_lt _ h
/-! ### the walks -/
theorem limbZero (a : Nat) (w : World) (ha : a < W256) : Calls Try.prog 55 #[numV a] w fun e w' => e = .returned (.bool (decide (a = 0))) ∧ Hp w [] w' := by
  refine enter (args := [_]) (Γ := [(0, _)]) Try.func55 Try.ntmps55 rfl (of_decide_eq_true rfl) (.cons rfl .nil) ?_
  repeat' (first | (apply Wl.eqlA (b := decide (a = 0)); exact rfl; exact rfl; exact rfl; kernel_rfl; kernel_rfl; kernel_rfl; kernel_rfl; exact cell32 _ (dlt _); exact cell32 _ (dlt _); exact d8_inj ha (by decide)) | (apply Wl.loadW; exact rfl; exact rfl; (repeat (first | exact List.Mem.head _ | apply List.Mem.tail)); exact rfl) | (apply Wl.boxN; exact rfl; exact rfl; intro c hc ho) | (apply Wl.buildN; exact rfl; (repeat (first | exact Parts.nil | apply Parts.cons rfl)); (repeat (first | apply Fills.nil | (apply Fills.one; exact rfl; exact rfl; (repeat (first | apply LSet.z | apply LSet.s))) | (apply Fills.agg; exact rfl; exact rfl; (repeat (first | apply LPut.s | apply LPut.z | apply LOver.nil | apply LOver.cons))))); (first | exact one8 | exact zero8 | exact two8 | exact one16)) | (apply Wl.assign; exact rfl; exact rfl) | (apply Wl.nil) | (apply St.seq) | (apply St.region) | (apply St.ret) | (apply Gt.next) | (apply Gt.out1; exact rfl; exact rfl; intro w' hp) | (apply Wl.splitP; exact rfl; exact rfl; all_goals (intros; try (exfalso; omega))) | (apply Wl.splitB; exact rfl; exact rfl; all_goals intros) | (apply St.condP; exact rfl; all_goals (intros; try (exfalso; omega))) | (apply St.condB; exact rfl; all_goals intros))
  exact ⟨rfl, hp.drop (by simp; omega)⟩
theorem modInv {b m a : Nat} {w : World} (h : ModV w b m) (ha : a < m) (hm : m < W256) (h2 : 2 < m) :
    Calls Try.prog 56 #[mp b, numV a] w fun e w' => e = .returned (numV (pw m a (m - 2))) ∧ Hp w [] w' := by
  have hb := h.blk
  refine enter (args := [_, _]) (Γ := [(0, _), (1, _)]) Try.func56 Try.ntmps56 rfl (of_decide_eq_true rfl) (.cons rfl (.cons rfl .nil)) ?_
  have e2 : (m + W256 - 2) % W256 = m - 2 := by rw [show m + W256 - 2 = m - 2 + W256 by omega, Nat.add_mod_right, Nat.mod_eq_of_lt (by omega)]
  repeat' (first | (apply Wl.boxN; exact rfl; exact rfl; intro c hc ho) | (apply Wl.allocN; exact rfl; (first | exact z8 | exact z16 | exact z17 | exact z33 | exact z10); intro c hc ho) | (apply Wl.move; exact rfl; exact rfl) | (apply Wl.nil) | (apply St.seq) | (apply St.region) | (apply Gt.next) | (apply Wl.splitP; exact rfl; exact rfl; all_goals (intros; try (exfalso; omega))) | (apply Wl.splitB; exact rfl; exact rfl; all_goals intros) | (apply St.condP; exact rfl; all_goals (intros; try (exfalso; omega))) | (apply St.condB; exact rfl; all_goals intros))
  apply Wl.callQ
  exact rfl
  (repeat (first | exact Evs.nil | apply Evs.cons rfl))
  · intro wq hq
    refine (modModulus b m wq (h.hp hq (by apply Off.of; simp <;> omega))).mono ?_
    rintro e wr ⟨rfl, hr⟩
    exact ⟨rfl, hq.keep hr⟩
  repeat' (first | (apply Wl.buildN; exact rfl; (repeat (first | exact Parts.nil | apply Parts.cons rfl)); (repeat (first | apply Fills.nil | (apply Fills.one; exact rfl; exact rfl; (repeat (first | apply LSet.z | apply LSet.s))) | (apply Fills.agg; exact rfl; exact rfl; (repeat (first | apply LPut.s | apply LPut.z | apply LOver.nil | apply LOver.cons))))); (first | exact one8 | exact zero8 | exact two8 | exact one16)) | (apply Wl.splitP; exact rfl; exact rfl; all_goals (intros; try (exfalso; omega))) | (apply Wl.splitB; exact rfl; exact rfl; all_goals intros) | (apply St.condP; exact rfl; all_goals (intros; try (exfalso; omega))) | (apply St.condB; exact rfl; all_goals intros))
  apply Wl.callQ
  exact rfl
  (repeat (first | exact Evs.nil | apply Evs.cons rfl))
  · intro wq hq
    refine (limbSub m 2 hm (by decide) wq).mono ?_
    rintro e wr ⟨rfl, hr⟩
    exact ⟨rfl, hq.keep hr⟩
  rw [e2]
  repeat' (first | (apply Wl.loadW; exact rfl; exact rfl; (repeat (first | exact List.Mem.head _ | apply List.Mem.tail)); exact rfl) | (apply Wl.storeW; exact rfl; exact rfl; (repeat (first | apply HSet.here | apply HSet.there)); exact rfl; (first | exact cellsN_len _ _ _ | exact rfl)) | (apply Wl.allocN; exact rfl; (first | exact z8 | exact z16 | exact z17 | exact z33 | exact z10); intro c hc ho) | (apply Wl.move; exact rfl; exact rfl) | (apply Wl.assign; exact rfl; exact rfl) | (apply Wl.extract; exact rfl; exact rfl; exact rfl) | (apply Wl.nil) | (apply St.seq) | (apply St.region) | (apply Gt.next) | (apply Wl.splitP; exact rfl; exact rfl; all_goals (intros; try (exfalso; omega))) | (apply Wl.splitB; exact rfl; exact rfl; all_goals intros) | (apply St.condP; exact rfl; all_goals (intros; try (exfalso; omega))) | (apply St.condB; exact rfl; all_goals intros))
  apply Wl.callQ
  exact rfl
  (repeat (first | exact Evs.nil | apply Evs.cons rfl))
  · intro wq hq
    refine (modPow b m a (m - 2) wq (h.hp hq (by apply Off.of; simp <;> omega)) ha (by omega)).mono ?_
    rintro e wr ⟨rfl, hr⟩
    exact ⟨rfl, hq.keep hr⟩
  repeat' (first | (apply Gt.outN; exact rfl; infer_instance; exact rfl; (repeat (first | exact List.Mem.head _ | apply List.Mem.tail)); exact rfl; intro w' hp) | (apply Wl.storeW; exact rfl; exact rfl; (repeat (first | apply HSet.here | apply HSet.there)); exact rfl; (first | exact cellsN_len _ _ _ | exact rfl)) | (apply Wl.nil) | (apply St.ret) | (apply Gt.next) | (apply Wl.splitP; exact rfl; exact rfl; all_goals (intros; try (exfalso; omega))) | (apply Wl.splitB; exact rfl; exact rfl; all_goals intros) | (apply St.condP; exact rfl; all_goals (intros; try (exfalso; omega))) | (apply St.condB; exact rfl; all_goals intros))
  exact ⟨rfl, hp.drop (by simp; omega)⟩
theorem modInvP {b m a y : Nat} {w : World} (h : ModV w b m) (ha : a < m) (hm : m < W256) (h2 : 2 < m) (hy : y = pw m a (m - 2)) :
    Calls Try.prog 56 #[mp b, numV a] w fun e w' => e = .returned (numV y) ∧ Hp w [] w' := hy ▸ modInv h ha hm h2
theorem modInI {b m a p : Nat} {w : World} (h : ModV w b m) (ha : a < W256) (hp : p = a * W256 % m) :
    Calls Try.prog 29 #[mp b, numV a] w fun e w' => e = .returned (numV p) ∧ Hp w [] w' := hp ▸ modIn b m a w h ha
theorem ferm_p : Ferm Prim.P256 := Prim.fermat_p
theorem ferm_n : Ferm Prim.N256 := Prim.fermat_n
theorem p8 : [Value.int .u32 4294967295, .int .u32 4294967295, .int .u32 4294967295, .int .u32 0, .int .u32 0, .int .u32 0, .int .u32 1, .int .u32 4294967295] = cellsN .u32 8 (dg W32 Prim.P256) := by kernel_rfl
theorem n8 : [Value.int .u32 4234356049, .int .u32 4089039554, .int .u32 2803342980, .int .u32 3169254061, .int .u32 4294967295, .int .u32 4294967295, .int .u32 0, .int .u32 4294967295] = cellsN .u32 8 (dg W32 Prim.N256) := by kernel_rfl
end Go.Proofs.Ytfaobdakpbpkbaa
