/-
  csr.File.Write: its answer is whether there is a register that may be written; the mode stays; the trap vector is what is written there. Conditions: the file lies in a block of its own.
-/
import Derived.Test.YtcefkbnachnciaaDoorCsrG
namespace Go.Proofs.YtcefkbnachnciaaDoor
open Go.RowKit Go.Pt
theorem low2 (x : Int) (h : 0 ≤ x ∧ x < 4294967296) : bits .andNot .u32 x 3 = x - x % 4 := by
  obtain ⟨n, rfl⟩ := Int.eq_ofNat_of_zero_le h.1
  have hn : n < 4294967296 := by omega
  have := u32_andNot_nat n 3 hn (by decide)
  rw [show ((3 : Nat) : Int) = 3 from rfl] at this
  have e : n &&& (4294967295 - 3) = n - n % 4 := by
    have h1 : n - n % 4 = 4 * (n / 4) := by omega
    rw [h1]
    apply Nat.eq_of_testBit_eq
    intro j
    rw [Nat.testBit_and, show 4 * (n / 4) = (n >>> 2) <<< 2 by rw [Nat.shiftRight_eq_div_pow, Nat.shiftLeft_eq]; omega, Nat.testBit_shiftLeft, Nat.testBit_shiftRight]
    by_cases hj : j < 2
    · have : j = 0 ∨ j = 1 := by omega
      rcases this with rfl | rfl <;> simp <;> (intro _; decide)
    · by_cases h32 : j < 32
      · have hb : ∀ k : Fin 32, 2 ≤ k.val → Nat.testBit (4294967295 - 3) k.val = true := by decide
        rw [hb ⟨j, h32⟩ (by simp only; omega)]
        simp only [Bool.and_true]
        rw [show 2 + (j - 2) = j by omega]
        simp; omega
      · have : n.testBit j = false := Nat.testBit_lt_two_pow (by calc n < 2 ^ 32 := hn
                                                                      _ ≤ 2 ^ j := Nat.pow_le_pow_right (by decide) (by omega))
        rw [show 2 + (j - 2) = j by omega, this]
        simp
  rw [e] at this
  rw [this]; omega
set_option maxHeartbeats 8000000 in
theorem fwrite (c : Nat) (n x md tv : Int) (w : World) (hn : 0 ≤ n ∧ n < 4294967296) (hx : 0 ≤ x ∧ x < 4294967296) (hF : FF w c md tv) :
    Calls Tryd.prog 32 #[.pointer (some ⟨c, 0, none⟩), .int .u32 n, .int .u32 x] w fun e w' => e = .returned (.bool (decide (IsReg n ∧ n < 3857))) ∧ FF w' c md (if n = 773 then x - x % 4 else tv) ∧ Upd (fun k => k = c) w w' := by
  obtain ⟨st, mie, mip, sc, ep, ca, tl, cs, hk, hc⟩ := hF
  refine enter (args := [_, _, _]) (Γ := [(0, _), (1, _), (2, _)]) Tryd.func32 Tryd.ntmps32 rfl (of_decide_eq_true rfl) (.cons rfl (.cons rfl (.cons rfl .nil))) ?_
  refine St.cls (C' := Hp w [⟨c, .int .i64 md :: .int .u32 st :: .int .u32 mie :: .int .u32 mip :: .int .u32 tv :: .int .u32 sc :: .int .u32 ep :: .int .u32 ca :: .int .u32 tl :: cs, 54⟩]) (fun _ h' => Hp.open h' hc) ?_
  repeat' (first | (apply Wl.move; exact rfl; exact rfl) | (apply Wl.assign; exact rfl; exact rfl) | (apply Wl.nil) | (apply St.seq) | (apply St.region) | (apply Gt.next) | (apply Wl.splitP; exact rfl; exact rfl; all_goals (intros; try (exfalso; omega))) | (apply Wl.splitB; exact rfl; exact rfl; all_goals intros) | (apply St.condP; exact rfl; all_goals (intros; try (exfalso; omega))) | (apply St.condB; exact rfl; all_goals intros))
  apply Wl.callC
  · exact rfl
  · (repeat (first | exact Evs.nil | apply Evs.cons rfl))
  intro wq hq
  refine (fread_any c n md st mie mip tv sc ep ca tl cs wq hn hk (hq.own.at (.head _))).mono ?_
  rintro e wr ⟨⟨v, rfl⟩, hr⟩
  refine ⟨_, _, rfl, hq.keep hr, ?_⟩
  clear hr hq wq wr
  by_cases hreg : IsReg n
  · rw [decide_eq_true hreg]
    by_cases h57 : n < 3857
    · rw [decide_eq_true (⟨hreg, h57⟩ : IsReg n ∧ n < 3857)]
      repeat' (first | (apply Wl.load9; exact rfl; exact rfl; (repeat (first | exact List.Mem.head _ | apply List.Mem.tail)); exact hk; omega; omega; (first | exact fkd8 (by omega) | exact fkd32 (by omega) (by omega) | exact fkd64 (by omega)); intro z) | (apply Wl.sub32; exact rfl; exact rfl; exact rfl; (constructor <;> omega)) | (apply Wl.move; exact rfl; exact rfl) | (apply Wl.assign; exact rfl; exact rfl) | (apply Wl.on; exact rfl; exact rfl; (first | with_reducible rfl | with_reducible assumption | decide)) | (apply Wl.off; exact rfl; exact rfl; exact rfl; (first | with_reducible rfl | (show _ = false; with_reducible assumption) | (show _ = true; with_reducible assumption) | decide)) | (apply Wl.extract; exact rfl; exact rfl; exact rfl) | (apply Wl.nilCheck; exact rfl; exact rfl) | (apply Wl.pickT; exact rfl; exact rfl; (first | with_reducible rfl | with_reducible assumption | decide); exact rfl) | (apply Wl.pickF; exact rfl; exact rfl; (first | with_reducible rfl | with_reducible assumption | decide); exact rfl) | (apply Wl.not; exact rfl; exact rfl) | (apply Wl.fieldAddrZ; exact rfl; exact rfl) | (apply Wl.loadH; exact rfl; exact rfl; (repeat (first | exact List.Mem.head _ | apply List.Mem.tail)); exact rfl) | (apply Wl.eqlIs; exact rfl; exact rfl; exact rfl; (first | with_reducible assumption | with_reducible rfl)) | (apply Wl.eql; exact rfl; exact rfl; exact rfl) | (apply Wl.lss; exact rfl; exact rfl; exact rfl) | (apply Wl.geq; exact rfl; exact rfl; exact rfl) | (apply Wl.and; exact rfl; exact rfl; exact rfl) | (apply Wl.andNot; exact rfl; exact rfl; exact rfl) | (apply Wl.shr; exact rfl; exact rfl; exact rfl; (omega)) | (apply Wl.convI64; exact rfl; exact rfl; (constructor <;> omega)) | (apply Wl.store; exact rfl; exact rfl; exact rfl; (repeat (first | apply HSet.here | apply HSet.there)); (repeat (first | apply LSet.z | apply LSet.s))) | (apply Wl.nil) | (apply St.seq) | (apply St.block) | (apply St.region) | (apply St.condT; exact rfl; (first | with_reducible rfl | with_reducible assumption | decide)) | (apply St.condF; exact rfl; (first | with_reducible rfl | with_reducible assumption | decide)) | (apply St.ret) | (apply St.skip) | (apply Gt.next) | (apply Gt.inNormal) | (apply Gt.out1; exact rfl; exact rfl; intro w' hp) | (apply Wl.splitP; exact rfl; exact rfl; all_goals (intros; try (exfalso; omega))) | (apply Wl.splitB; exact rfl; exact rfl; all_goals intros) | (apply St.condP; exact rfl; all_goals (intros; try (exfalso; omega))) | (apply St.condB; exact rfl; all_goals intros))
      · refine St.loop (σ := Int × List Value) (fun τ => 0 ≤ τ.1 ∧ τ.1 ≤ 4 ∧ Kd fkd 34 τ.2) (fun τ => [(32, .int .i64 τ.1), (0, .pointer (some ⟨c, 0, none⟩)), (1, .int .u32 n), (2, .int .u32 x)])
          (fun τ => Hp w [⟨c, .int .i64 md :: .int .u32 st :: .int .u32 mie :: .int .u32 mip :: .int .u32 tv :: .int .u32 sc :: .int .u32 ep :: .int .u32 ca :: .int .u32 tl :: τ.2, 54⟩]) (fun τ => (4 - τ.1).toNat) (0, cs) (by simpa using hk) (by (repeat (first | exact Sub.nil | apply Sub.cons rfl))) (fun _ h => h) ?_
        rintro ⟨i, cs1⟩ ⟨hi0, hi, hk1⟩
        simp only at hi0 hi hk1 ⊢
        repeat' (first | (apply Wl.store9; exact rfl; exact rfl; (intro cs'; (repeat (first | apply HSet.here | apply HSet.there))); exact hk1; omega; omega; (first | exact fkd8 (by omega) | exact fkd32 (by omega) (by omega) | exact fkd64 (by omega)); intro cs' hk') | (apply Wl.load9; exact rfl; exact rfl; (repeat (first | exact List.Mem.head _ | apply List.Mem.tail)); exact hk1; omega; omega; (first | exact fkd8 (by omega) | exact fkd32 (by omega) (by omega) | exact fkd64 (by omega)); intro z) | (apply Wl.sub32; exact rfl; exact rfl; exact rfl; (constructor <;> omega)) | (apply Wl.move; exact rfl; exact rfl) | (apply Wl.assign; exact rfl; exact rfl) | (apply Wl.nilCheck; exact rfl; exact rfl) | (apply Wl.fieldAddrZ; exact rfl; exact rfl) | (apply Wl.eql; exact rfl; exact rfl; exact rfl) | (apply Wl.lss; exact rfl; exact rfl; exact rfl) | (apply Wl.addI; exact rfl; exact rfl; exact rfl; (constructor <;> omega)) | (apply Wl.mulI; exact rfl; exact rfl; exact rfl; (constructor <;> omega)) | (apply Wl.and; exact rfl; exact rfl; exact rfl) | (apply Wl.andNot; exact rfl; exact rfl; exact rfl) | (apply Wl.shr; exact rfl; exact rfl; exact rfl; (omega)) | (apply Wl.convI64; exact rfl; exact rfl; (constructor <;> omega)) | (apply Wl.convI; exact rfl; exact rfl) | (apply Wl.indexArr; exact rfl; exact rfl; exact rfl; (constructor <;> omega)) | (apply Wl.nil) | (apply St.seq) | (apply St.block) | (apply St.region) | (apply St.ret) | (apply St.skip) | (apply St.exit) | (apply Gt.next) | (apply Gt.thenRet) | (apply Gt.thenExit) | (apply Gt.inNormal) | (apply Gt.inRet) | (apply Gt.inExit) | (apply Gt.out1; exact rfl; exact rfl; intro w' hp) | (apply Wl.splitP; exact rfl; exact rfl; all_goals (intros; try (exfalso; omega))) | (apply Wl.splitB; exact rfl; exact rfl; all_goals intros) | (apply St.condP; exact rfl; all_goals (intros; try (exfalso; omega))) | (apply St.condB; exact rfl; all_goals intros))
        all_goals first
          | (apply Gt.round (i + 1, cs')
             rotate_left
             · simp only; omega
             · (repeat (first | exact Sub.nil | apply Sub.cons rfl))
             · exact fun _ h => h
             · exact ⟨by simp only; omega, by simp only; omega, by simp only; assumption⟩)
          | (apply Gt.round (i + 1, cs1)
             rotate_left
             · simp only; omega
             · (repeat (first | exact Sub.nil | apply Sub.cons rfl))
             · exact fun _ h => h
             · exact ⟨by simp only; omega, by simp only; omega, by simp only; assumption⟩)
          | (rw [if_neg (by omega)]; exact ⟨rfl, FF.leaf (by assumption) hp⟩)
      · apply Wl.callC
        · exact rfl
        · (repeat (first | exact Evs.nil | apply Evs.cons rfl))
        intro wq hq
        refine (flocked c _ md st mie mip tv sc ep ca tl cs wq (by constructor <;> omega) hk (hq.own.at (.head _))).mono ?_
        rintro e wr ⟨⟨v, rfl⟩, hr⟩
        refine ⟨_, _, rfl, hq.keep hr, ?_⟩
        clear hr hq wq wr
        repeat' (first | (apply Wl.store9; exact rfl; exact rfl; (intro cs'; (repeat (first | apply HSet.here | apply HSet.there))); exact hk; omega; omega; (first | exact fkd8 (by omega) | exact fkd32 (by omega) (by omega) | exact fkd64 (by omega)); intro cs' hk') | (apply Wl.sub32; exact rfl; exact rfl; exact rfl; (constructor <;> omega)) | (apply Wl.move; exact rfl; exact rfl) | (apply Wl.assign; exact rfl; exact rfl) | (apply Wl.nilCheck; exact rfl; exact rfl) | (apply Wl.not; exact rfl; exact rfl) | (apply Wl.fieldAddrZ; exact rfl; exact rfl) | (apply Wl.indexArr; exact rfl; exact rfl; exact rfl; (constructor <;> omega)) | (apply Wl.nil) | (apply St.seq) | (apply St.region) | (apply St.ret) | (apply St.skip) | (apply Gt.next) | (apply Gt.thenRet) | (apply Gt.inRet) | (apply Gt.out1; exact rfl; exact rfl; intro w' hp) | (apply Wl.splitP; exact rfl; exact rfl; all_goals (intros; try (exfalso; omega))) | (apply Wl.splitB; exact rfl; exact rfl; all_goals intros) | (apply St.condP; exact rfl; all_goals (intros; try (exfalso; omega))) | (apply St.condB; exact rfl; all_goals intros))
        all_goals (rw [if_neg (by omega)]; exact ⟨rfl, FF.leaf (by assumption) hp⟩)
      iterate 4
        · apply Wl.callC
          · exact rfl
          · (repeat (first | exact Evs.nil | apply Evs.cons rfl))
          intro wq hq
          refine (fhalf _ x _ wq hx).mono ?_
          rintro e wr ⟨⟨v, rfl⟩, hr⟩
          refine ⟨_, _, rfl, hq.keep hr, ?_⟩
          clear hr hq wq wr
          repeat' (first | (apply Wl.store9; exact rfl; exact rfl; (intro cs'; (repeat (first | apply HSet.here | apply HSet.there))); exact hk; omega; omega; (first | exact fkd8 (by omega) | exact fkd32 (by omega) (by omega) | exact fkd64 (by omega)); intro cs' hk') | (apply Wl.assign; exact rfl; exact rfl) | (apply Wl.nilCheck; exact rfl; exact rfl) | (apply Wl.fieldAddrZ; exact rfl; exact rfl) | (apply Wl.nil) | (apply St.seq) | (apply St.region) | (apply St.ret) | (apply Gt.next) | (apply Gt.inNormal) | (apply Gt.out1; exact rfl; exact rfl; intro w' hp) | (apply Wl.splitP; exact rfl; exact rfl; all_goals (intros; try (exfalso; omega))) | (apply Wl.splitB; exact rfl; exact rfl; all_goals intros) | (apply St.condP; exact rfl; all_goals (intros; try (exfalso; omega))) | (apply St.condB; exact rfl; all_goals intros))
          all_goals (rw [if_neg (by omega)]; exact ⟨rfl, FF.leaf (by assumption) hp⟩)
      all_goals first
        | (rw [if_neg (by omega)]; exact ⟨rfl, FF.leaf (by assumption) hp⟩)
        | (rw [if_pos (by omega), ← low2 x (by omega)]; exact ⟨rfl, FF.leaf (by assumption) hp⟩)
    · rw [decide_eq_false (fun y => h57 y.2 : ¬ (IsReg n ∧ n < 3857))]
      repeat' (first | (apply Wl.move; exact rfl; exact rfl) | (apply Wl.assign; exact rfl; exact rfl) | (apply Wl.on; exact rfl; exact rfl; (first | with_reducible rfl | with_reducible assumption | decide)) | (apply Wl.extract; exact rfl; exact rfl; exact rfl) | (apply Wl.pickF; exact rfl; exact rfl; (first | with_reducible rfl | with_reducible assumption | decide); exact rfl) | (apply Wl.not; exact rfl; exact rfl) | (apply Wl.geq; exact rfl; exact rfl; exact rfl) | (apply Wl.nil) | (apply St.seq) | (apply St.region) | (apply St.ret) | (apply Gt.next) | (apply Gt.thenRet) | (apply Gt.out1; exact rfl; exact rfl; intro w' hp) | (apply Wl.splitP; exact rfl; exact rfl; all_goals (intros; try (exfalso; omega))) | (apply Wl.splitB; exact rfl; exact rfl; all_goals intros) | (apply St.condP; exact rfl; all_goals (intros; try (exfalso; omega))) | (apply St.condB; exact rfl; all_goals intros))
      rw [if_neg (by omega)]
      exact ⟨rfl, FF.leaf hk hp⟩
  · rw [decide_eq_false hreg, decide_eq_false (fun y => hreg y.1 : ¬ (IsReg n ∧ n < 3857))]
    repeat' (first | (apply Wl.move; exact rfl; exact rfl) | (apply Wl.assign; exact rfl; exact rfl) | (apply Wl.off; exact rfl; exact rfl; exact rfl; (first | with_reducible rfl | (show _ = false; with_reducible assumption) | (show _ = true; with_reducible assumption) | decide)) | (apply Wl.extract; exact rfl; exact rfl; exact rfl) | (apply Wl.pickT; exact rfl; exact rfl; (first | with_reducible rfl | with_reducible assumption | decide); exact rfl) | (apply Wl.not; exact rfl; exact rfl) | (apply Wl.nil) | (apply St.seq) | (apply St.region) | (apply St.condT; exact rfl; (first | with_reducible rfl | with_reducible assumption | decide)) | (apply St.ret) | (apply Gt.next) | (apply Gt.thenRet) | (apply Gt.out1; exact rfl; exact rfl; intro w' hp) | (apply Wl.splitP; exact rfl; exact rfl; all_goals (intros; try (exfalso; omega))) | (apply Wl.splitB; exact rfl; exact rfl; all_goals intros) | (apply St.condP; exact rfl; all_goals (intros; try (exfalso; omega))) | (apply St.condB; exact rfl; all_goals intros))
    rw [if_neg (by intro e; exact hreg (by unfold IsReg; omega))]
    exact ⟨rfl, FF.leaf hk hp⟩
end Go.Proofs.YtcefkbnachnciaaDoor
