/-
  csr.File.Timer, Tick, Trap, Protect (pmp.Byte): the file told by its mode and its trap vector alone. Conditions: the file lies in a block of its own; the entries lie in older blocks.
-/
import Derived.Test.YtcefkbnachnciaaDoorCsrW
namespace Go.Proofs.YtcefkbnachnciaaDoor
open Go.RowKit Go.Pt
set_option maxHeartbeats 4000000 in
theorem ftimer (c : Nat) (on : Bool) (md tv : Int) (w : World) (hF : FF w c md tv) :
    Calls Tryd.prog 14 #[.pointer (some ⟨c, 0, none⟩), .bool on] w fun e w' => e = .returned (.tuple #[]) ∧ FF w' c md tv ∧ Upd (fun k => k = c) w w' := by
  obtain ⟨st, mie, mip, sc, ep, ca, tl, cs, hk, hc⟩ := hF
  refine enter (args := [_, _]) (Γ := [(0, _), (1, _)]) Tryd.func14 Tryd.ntmps14 rfl (of_decide_eq_true rfl) (.cons rfl (.cons rfl .nil)) ?_
  refine St.cls (C' := Hp w [⟨c, .int .i64 md :: .int .u32 st :: .int .u32 mie :: .int .u32 mip :: .int .u32 tv :: .int .u32 sc :: .int .u32 ep :: .int .u32 ca :: .int .u32 tl :: cs, 54⟩]) (fun _ h' => Hp.open h' hc) ?_
  repeat' (first | (apply Wl.move; exact rfl; exact rfl) | (apply Wl.nilCheck; exact rfl; exact rfl) | (apply Wl.fieldAddrZ; exact rfl; exact rfl) | (apply Wl.loadH; exact rfl; exact rfl; (repeat (first | exact List.Mem.head _ | apply List.Mem.tail)); exact rfl) | (apply Wl.eqlPN; exact rfl; exact rfl; exact rfl) | (apply Wl.or; exact rfl; exact rfl; exact rfl) | (apply Wl.andNot; exact rfl; exact rfl; exact rfl) | (apply Wl.store; exact rfl; exact rfl; exact rfl; (repeat (first | apply HSet.here | apply HSet.there)); (repeat (first | apply LSet.z | apply LSet.s))) | (apply Wl.nil) | (apply St.seq) | (apply St.region) | (apply St.condF; exact rfl; (first | with_reducible rfl | with_reducible assumption | decide)) | (apply St.skip) | (apply Gt.next) | (apply Gt.out0n; exact rfl; intro w' hp) | (apply Wl.splitP; exact rfl; exact rfl; all_goals (intros; try (exfalso; omega))) | (apply Wl.splitB; exact rfl; exact rfl; all_goals intros) | (apply St.condP; exact rfl; all_goals (intros; try (exfalso; omega))) | (apply St.condB; exact rfl; all_goals intros))
  all_goals exact ⟨rfl, FF.leaf (by assumption) hp⟩
set_option maxHeartbeats 4000000 in
theorem ftick (c : Nat) (on : Bool) (md tv : Int) (w : World) (hF : FF w c md tv) :
    Calls Tryd.prog 39 #[.pointer (some ⟨c, 0, none⟩), .bool on] w fun e w' => e = .returned (.tuple #[]) ∧ FF w' c md tv ∧ Upd (fun k => k = c) w w' := by
  obtain ⟨st, mie, mip, sc, ep, ca, tl, cs, hk, hc⟩ := hF
  refine enter (args := [_, _]) (Γ := [(0, _), (1, _)]) Tryd.func39 Tryd.ntmps39 rfl (of_decide_eq_true rfl) (.cons rfl (.cons rfl .nil)) ?_
  refine St.cls (C' := Hp w [⟨c, .int .i64 md :: .int .u32 st :: .int .u32 mie :: .int .u32 mip :: .int .u32 tv :: .int .u32 sc :: .int .u32 ep :: .int .u32 ca :: .int .u32 tl :: cs, 54⟩]) (fun _ h' => Hp.open h' hc) ?_
  repeat' (first | (apply Wl.store9; exact rfl; exact rfl; (intro cs'; (repeat (first | apply HSet.here | apply HSet.there))); assumption; omega; omega; exact fkd64 (by omega); intro cs' hk') | (apply Wl.load9; exact rfl; exact rfl; (repeat (first | exact List.Mem.head _ | apply List.Mem.tail)); assumption; omega; omega; exact fkd64 (by omega); intro z) | (apply Wl.move; exact rfl; exact rfl) | (apply Wl.nilCheck; exact rfl; exact rfl) | (apply Wl.fieldAddrZ; exact rfl; exact rfl) | (apply Wl.eqlPN; exact rfl; exact rfl; exact rfl) | (apply Wl.add; exact rfl; exact rfl; exact rfl) | (apply Wl.nil) | (apply St.seq) | (apply St.region) | (apply St.condF; exact rfl; (first | with_reducible rfl | with_reducible assumption | decide)) | (apply St.skip) | (apply Gt.next) | (apply Gt.out0n; exact rfl; intro w' hp) | (apply Wl.splitP; exact rfl; exact rfl; all_goals (intros; try (exfalso; omega))) | (apply Wl.splitB; exact rfl; exact rfl; all_goals intros) | (apply St.condP; exact rfl; all_goals (intros; try (exfalso; omega))) | (apply St.condB; exact rfl; all_goals intros))
  all_goals exact ⟨rfl, FF.leaf (by assumption) hp⟩
set_option maxHeartbeats 4000000 in
theorem ftrap (c : Nat) (pc ca1 tl1 md tv : Int) (w : World) (hF : FF w c md tv) :
    Calls Tryd.prog 38 #[.pointer (some ⟨c, 0, none⟩), .int .u32 pc, .int .u32 ca1, .int .u32 tl1] w fun e w' => e = .returned (.int .u32 tv) ∧ FF w' c 3 tv ∧ Upd (fun k => k = c) w w' := by
  obtain ⟨st, mie, mip, sc, ep, ca, tl, cs, hk, hc⟩ := hF
  refine enter (args := [_, _, _, _]) (Γ := [(0, _), (1, _), (2, _), (3, _)]) Tryd.func38 Tryd.ntmps38 rfl (of_decide_eq_true rfl) (.cons rfl (.cons rfl (.cons rfl (.cons rfl .nil)))) ?_
  refine St.cls (C' := Hp w [⟨c, .int .i64 md :: .int .u32 st :: .int .u32 mie :: .int .u32 mip :: .int .u32 tv :: .int .u32 sc :: .int .u32 ep :: .int .u32 ca :: .int .u32 tl :: cs, 54⟩]) (fun _ h' => Hp.open h' hc) ?_
  repeat' (first | (apply Wl.move; exact rfl; exact rfl) | (apply Wl.assign; exact rfl; exact rfl) | (apply Wl.nilCheck; exact rfl; exact rfl) | (apply Wl.fieldAddr0; exact rfl; exact rfl) | (apply Wl.fieldAddrZ; exact rfl; exact rfl) | (apply Wl.loadH; exact rfl; exact rfl; (repeat (first | exact List.Mem.head _ | apply List.Mem.tail)); exact rfl) | (apply Wl.eqlPN; exact rfl; exact rfl; exact rfl) | (apply Wl.neq; exact rfl; exact rfl; exact rfl) | (apply Wl.and; exact rfl; exact rfl; exact rfl) | (apply Wl.or; exact rfl; exact rfl; exact rfl) | (apply Wl.andNot; exact rfl; exact rfl; exact rfl) | (apply Wl.shl; exact rfl; exact rfl; exact rfl; (omega)) | (apply Wl.convI; exact rfl; exact rfl) | (apply Wl.store; exact rfl; exact rfl; exact rfl; (repeat (first | apply HSet.here | apply HSet.there)); (repeat (first | apply LSet.z | apply LSet.s))) | (apply Wl.nil) | (apply St.seq) | (apply St.region) | (apply St.condF; exact rfl; (first | with_reducible rfl | with_reducible assumption | decide)) | (apply St.ret) | (apply St.skip) | (apply Gt.next) | (apply Gt.out1; exact rfl; exact rfl; intro w' hp) | (apply Wl.splitP; exact rfl; exact rfl; all_goals (intros; try (exfalso; omega))) | (apply Wl.splitB; exact rfl; exact rfl; all_goals intros) | (apply St.condP; exact rfl; all_goals (intros; try (exfalso; omega))) | (apply St.condB; exact rfl; all_goals intros))
  all_goals exact ⟨rfl, FF.leaf (by assumption) hp⟩
theorem fbyte (x y z : Int) (w : World) : Calls Tryd.prog 57 #[.agg #[.int .i64 x, .int .i64 y, .int .u32 z]] w fun e w' => (∃ v, e = .returned (.int .u8 v)) ∧ Hp w [] w' := by
  refine enter (args := [_]) (Γ := [(0, _)]) Tryd.func57 Tryd.ntmps57 rfl (of_decide_eq_true rfl) (.cons rfl .nil) ?_
  repeat' (first | (apply Wl.assign; exact rfl; exact rfl) | (apply Wl.fieldAddr0; exact rfl; exact rfl) | (apply Wl.fieldAddrZ; exact rfl; exact rfl) | (apply Wl.loadH; exact rfl; exact rfl; (repeat (first | exact List.Mem.head _ | apply List.Mem.tail)); exact rfl) | (apply Wl.and; exact rfl; exact rfl; exact rfl) | (apply Wl.or; exact rfl; exact rfl; exact rfl) | (apply Wl.shl; exact rfl; exact rfl; exact rfl; (omega)) | (apply Wl.convI; exact rfl; exact rfl) | (apply Wl.boxA; exact rfl; exact rfl; intro c hc ho) | (apply Wl.nil) | (apply St.seq) | (apply St.region) | (apply St.ret) | (apply Gt.next) | (apply Gt.out1; exact rfl; exact rfl; intro w' hp) | (apply Wl.splitP; exact rfl; exact rfl; all_goals (intros; try (exfalso; omega))) | (apply Wl.splitB; exact rfl; exact rfl; all_goals intros) | (apply St.condP; exact rfl; all_goals (intros; try (exfalso; omega))) | (apply St.condB; exact rfl; all_goals intros))
  exact ⟨⟨_, rfl⟩, hp.drop (by simp; omega)⟩
/-- a slice of n entries, in blocks that w holds -/
def EntS (w : World) (a : Option Addr) (n : Nat) : Prop := ∀ i : Nat, i < n → ∃ b o, a = some ⟨b, o, none⟩ ∧ ∃ x y z : Int, w.cell? ⟨b, o + i * 3, none⟩ = some (.int .i64 x) ∧ w.cell? ⟨b, o + i * 3 + 1, none⟩ = some (.int .i64 y) ∧ w.cell? ⟨b, o + i * 3 + 2, none⟩ = some (.int .u32 z)
theorem cell_old {w : World} {a : Addr} {v : Value} (h : w.cell? a = some v) : a.block < w.heap.size := World.block_lt_of_cell? w _ h
set_option maxHeartbeats 4000000 in
theorem fprotect (c n cap : Nat) (a : Option Addr) (md tv : Int) (w0 w : World) (hF : FF w c md tv) (hu : Upd (fun k => w0.heap.size ≤ k) w0 w) (hc0 : w0.heap.size ≤ c) (hS : EntS w0 a n) :
    Calls Tryd.prog 30 #[.pointer (some ⟨c, 0, none⟩), .slice a n cap] w fun e w' => e = .returned (.int .i64 (if 16 < n then 1 else 0)) ∧ FF w' c md tv ∧ Upd (fun k => k = c) w w' := by
  obtain ⟨st, mie, mip, sc, ep, ca, tl, cs, hk, hc⟩ := hF
  refine enter (args := [_, _]) (Γ := [(0, _), (1, _)]) Tryd.func30 Tryd.ntmps30 rfl (of_decide_eq_true rfl) (.cons rfl (.cons rfl .nil)) ?_
  refine St.cls (C' := Hp w [⟨c, .int .i64 md :: .int .u32 st :: .int .u32 mie :: .int .u32 mip :: .int .u32 tv :: .int .u32 sc :: .int .u32 ep :: .int .u32 ca :: .int .u32 tl :: cs, 54⟩]) (fun _ h' => Hp.open h' hc) ?_
  repeat' (first | (apply Wl.move; exact rfl; exact rfl) | (apply Wl.assign; exact rfl; exact rfl) | (apply Wl.on; exact rfl; exact rfl; (first | with_reducible rfl | with_reducible assumption | decide)) | (apply Wl.pickF; exact rfl; exact rfl; (first | with_reducible rfl | with_reducible assumption | decide); exact rfl) | (apply Wl.eqlPN; exact rfl; exact rfl; exact rfl) | (apply Wl.gtr; exact rfl; exact rfl; exact rfl) | (apply Wl.len; exact rfl; exact rfl) | (apply Wl.nil) | (apply St.seq) | (apply St.block) | (apply St.region) | (apply St.ret) | (apply St.skip) | (apply Gt.next) | (apply Gt.thenRet) | (apply Gt.out1; exact rfl; exact rfl; intro w' hp) | (apply Wl.splitP; exact rfl; exact rfl; all_goals (intros; try (exfalso; omega))) | (apply Wl.splitB; exact rfl; exact rfl; all_goals intros) | (apply St.condP; exact rfl; all_goals (intros; try (exfalso; omega))) | (apply St.condB; exact rfl; all_goals intros))
  · rw [if_pos (by omega)]; exact ⟨rfl, FF.leaf (by assumption) hp⟩
  have hup : ∀ cs w', Hp w [⟨c, .int .i64 md :: .int .u32 st :: .int .u32 mie :: .int .u32 mip :: .int .u32 tv :: .int .u32 sc :: .int .u32 ep :: .int .u32 ca :: .int .u32 tl :: cs, 54⟩] w' → Upd (fun k => w0.heap.size ≤ k) w0 w' :=
    fun cs w' h => hu.comp (Hp.turned h) fun k _ hs => hs.elim id fun e => by omega
  refine St.loop (σ := Nat × List Value) (fun τ => τ.1 ≤ 16 ∧ Kd fkd 34 τ.2) (fun τ => [(13, .int .i64 τ.1), (0, .pointer (some ⟨c, 0, none⟩)), (1, .slice a n cap)])
    (fun τ => Hp w [⟨c, .int .i64 md :: .int .u32 st :: .int .u32 mie :: .int .u32 mip :: .int .u32 tv :: .int .u32 sc :: .int .u32 ep :: .int .u32 ca :: .int .u32 tl :: τ.2, 54⟩]) (fun τ => 16 - τ.1) (0, cs) ⟨by simp, hk⟩ (by (repeat (first | exact Sub.nil | apply Sub.cons rfl))) (fun _ h => h) ?_
  rintro ⟨i, cs1⟩ ⟨hi, hk1⟩
  simp only at hi hk1 ⊢
  by_cases hlt : i < 16
  · repeat' (first | (apply Wl.move; exact rfl; exact rfl) | (apply Wl.assign; exact rfl; exact rfl) | (apply Wl.lss; exact rfl; exact rfl; exact rfl) | (apply Wl.nil) | (apply St.seq) | (apply St.block) | (apply St.region) | (apply St.skip) | (apply Gt.next) | (apply Wl.splitP; exact rfl; exact rfl; all_goals (intros; try (exfalso; omega))) | (apply Wl.splitB; exact rfl; exact rfl; all_goals intros) | (apply St.condP; exact rfl; all_goals (intros; try (exfalso; omega))) | (apply St.condB; exact rfl; all_goals intros))
    refine St.tree (fun w' => Upd (fun k => w0.heap.size ≤ k) w0 w') mixed (fun _ h => ⟨Hp.drew h, hup _ _ (Hp.drew h)⟩) ?_
    refine Mt.pure 0 (by decide +kernel) (by exact rfl) (by exact rfl) (by decide +kernel) (by decide +kernel) ?_
    repeat' (first | (apply Wl.move; exact rfl; exact rfl) | (apply Wl.nilM) | (apply Wl.splitP; exact rfl; exact rfl; all_goals (intros; try (exfalso; omega))) | (apply Wl.splitB; exact rfl; exact rfl; all_goals intros) | (apply St.condP; exact rfl; all_goals (intros; try (exfalso; omega))) | (apply St.condB; exact rfl; all_goals intros))
    apply Mt.back
    refine Mt.pure 1 (by decide +kernel) (by exact rfl) (by exact rfl) (by decide +kernel) (by decide +kernel) ?_
    repeat' (first | (apply Wl.move; exact rfl; exact rfl) | (apply Wl.nilM) | (apply Wl.splitP; exact rfl; exact rfl; all_goals (intros; try (exfalso; omega))) | (apply Wl.splitB; exact rfl; exact rfl; all_goals intros) | (apply St.condP; exact rfl; all_goals (intros; try (exfalso; omega))) | (apply St.condB; exact rfl; all_goals intros))
    apply Mt.back
    refine Mt.pure 2 (by decide +kernel) (by exact rfl) (by exact rfl) (by decide +kernel) (by decide +kernel) ?_
    repeat' (first | (apply Wl.move; exact rfl; exact rfl) | (apply Wl.nilM) | (apply Wl.splitP; exact rfl; exact rfl; all_goals (intros; try (exfalso; omega))) | (apply Wl.splitB; exact rfl; exact rfl; all_goals intros) | (apply St.condP; exact rfl; all_goals (intros; try (exfalso; omega))) | (apply St.condB; exact rfl; all_goals intros))
    apply Mt.back
    refine Mt.pure 3 (by decide +kernel) (by exact rfl) (by exact rfl) (by decide +kernel) (by decide +kernel) ?_
    repeat' (first | (apply Wl.move; exact rfl; exact rfl) | (apply Wl.nilM) | (apply Wl.splitP; exact rfl; exact rfl; all_goals (intros; try (exfalso; omega))) | (apply Wl.splitB; exact rfl; exact rfl; all_goals intros) | (apply St.condP; exact rfl; all_goals (intros; try (exfalso; omega))) | (apply St.condB; exact rfl; all_goals intros))
    apply Mt.back
    refine Mt.pure 4 (by decide +kernel) (by exact rfl) (by exact rfl) (by decide +kernel) (by decide +kernel) ?_
    repeat' (first | (apply Wl.nilCheck; exact rfl; exact rfl) | (apply Wl.nilM) | (apply Wl.splitP; exact rfl; exact rfl; all_goals (intros; try (exfalso; omega))) | (apply Wl.splitB; exact rfl; exact rfl; all_goals intros) | (apply St.condP; exact rfl; all_goals (intros; try (exfalso; omega))) | (apply St.condB; exact rfl; all_goals intros))
    apply Mt.back
    refine Mt.pure 5 (by decide +kernel) (by exact rfl) (by exact rfl) (by decide +kernel) (by decide +kernel) ?_
    repeat' (first | (apply Wl.fieldAddrZ; exact rfl; exact rfl) | (apply Wl.nilM) | (apply Wl.splitP; exact rfl; exact rfl; all_goals (intros; try (exfalso; omega))) | (apply Wl.splitB; exact rfl; exact rfl; all_goals intros) | (apply St.condP; exact rfl; all_goals (intros; try (exfalso; omega))) | (apply St.condB; exact rfl; all_goals intros))
    apply Mt.back
    refine Mt.pure 6 (by decide +kernel) (by exact rfl) (by exact rfl) (by decide +kernel) (by decide +kernel) ?_
    repeat' (first | (apply Wl.indexArr; exact rfl; exact rfl; exact rfl; (constructor <;> omega)) | (apply Wl.nilM) | (apply Wl.splitP; exact rfl; exact rfl; all_goals (intros; try (exfalso; omega))) | (apply Wl.splitB; exact rfl; exact rfl; all_goals intros) | (apply St.condP; exact rfl; all_goals (intros; try (exfalso; omega))) | (apply St.condB; exact rfl; all_goals intros))
    apply Mt.back
    refine Mt.pure 8 (by decide +kernel) (by exact rfl) (by exact rfl) (by decide +kernel) (by decide +kernel) ?_
    repeat' (first | (apply Wl.nilCheck; exact rfl; exact rfl) | (apply Wl.nilM) | (apply Wl.splitP; exact rfl; exact rfl; all_goals (intros; try (exfalso; omega))) | (apply Wl.splitB; exact rfl; exact rfl; all_goals intros) | (apply St.condP; exact rfl; all_goals (intros; try (exfalso; omega))) | (apply St.condB; exact rfl; all_goals intros))
    apply Mt.back
    refine Mt.pure 9 (by decide +kernel) (by exact rfl) (by exact rfl) (by decide +kernel) (by decide +kernel) ?_
    repeat' (first | (apply Wl.fieldAddrZ; exact rfl; exact rfl) | (apply Wl.nilM) | (apply Wl.splitP; exact rfl; exact rfl; all_goals (intros; try (exfalso; omega))) | (apply Wl.splitB; exact rfl; exact rfl; all_goals intros) | (apply St.condP; exact rfl; all_goals (intros; try (exfalso; omega))) | (apply St.condB; exact rfl; all_goals intros))
    apply Mt.back
    refine Mt.eff1 (i := 7) (by decide +kernel) (by exact rfl) ?_
    apply Wl.store9
    · exact rfl
    · exact rfl
    · intro cs'; (repeat (first | apply HSet.here | apply HSet.there))
    · exact hk1
    · omega
    · omega
    · exact fkd8 (by omega)
    intro cs2 hk2
    repeat' (first | (apply Wl.nil) | (apply Wl.splitP; exact rfl; exact rfl; all_goals (intros; try (exfalso; omega))) | (apply Wl.splitB; exact rfl; exact rfl; all_goals intros) | (apply St.condP; exact rfl; all_goals (intros; try (exfalso; omega))) | (apply St.condB; exact rfl; all_goals intros))
    refine Mt.backE (fun _ h => hup _ _ h) ?_
    refine Mt.pure 10 (by decide +kernel) (by exact rfl) (by exact rfl) (by decide +kernel) (by decide +kernel) ?_
    repeat' (first | (apply Wl.indexArr; exact rfl; exact rfl; exact rfl; (constructor <;> omega)) | (apply Wl.nilM) | (apply Wl.splitP; exact rfl; exact rfl; all_goals (intros; try (exfalso; omega))) | (apply Wl.splitB; exact rfl; exact rfl; all_goals intros) | (apply St.condP; exact rfl; all_goals (intros; try (exfalso; omega))) | (apply St.condB; exact rfl; all_goals intros))
    apply Mt.back
    refine Mt.eff1 (i := 11) (by decide +kernel) (by exact rfl) ?_
    apply Wl.store9
    · exact rfl
    · exact rfl
    · intro cs'; (repeat (first | apply HSet.here | apply HSet.there))
    · exact hk2
    · omega
    · omega
    · exact fkd32 (by omega) (by omega)
    intro cs3 hk3
    repeat' (first | (apply Wl.nil) | (apply Wl.splitP; exact rfl; exact rfl; all_goals (intros; try (exfalso; omega))) | (apply Wl.splitB; exact rfl; exact rfl; all_goals intros) | (apply St.condP; exact rfl; all_goals (intros; try (exfalso; omega))) | (apply St.condB; exact rfl; all_goals intros))
    refine Mt.backE (fun _ h => hup _ _ h) ?_
    refine Mt.toGt (by decide +kernel) ?_
    by_cases hin : i < n
    · obtain ⟨b, o, rfl, x, y, z, h1, h2, h3⟩ := hS i hin
      have hb := cell_old h1
      simp only at hb
      repeat' (first | (apply Wl.move; exact rfl; exact rfl) | (apply Wl.lss; exact rfl; exact rfl; exact rfl) | (apply Wl.len; exact rfl; exact rfl) | (apply Wl.nil) | (apply St.seq) | (apply St.region) | (apply Gt.next) | (apply Wl.splitP; exact rfl; exact rfl; all_goals (intros; try (exfalso; omega))) | (apply Wl.splitB; exact rfl; exact rfl; all_goals intros) | (apply St.condP; exact rfl; all_goals (intros; try (exfalso; omega))) | (apply St.condB; exact rfl; all_goals intros))
      refine St.tree (fun w' => Upd (fun k => w0.heap.size ≤ k) w0 w') mixed (fun _ h => ⟨Hp.drew h, hup _ _ (Hp.drew h)⟩) ?_
      refine Mt.pure 0 (by decide +kernel) (by exact rfl) (by exact rfl) (by decide +kernel) (by decide +kernel) ?_
      repeat' (first | (apply Wl.move; exact rfl; exact rfl) | (apply Wl.nilM) | (apply Wl.splitP; exact rfl; exact rfl; all_goals (intros; try (exfalso; omega))) | (apply Wl.splitB; exact rfl; exact rfl; all_goals intros) | (apply St.condP; exact rfl; all_goals (intros; try (exfalso; omega))) | (apply St.condB; exact rfl; all_goals intros))
      apply Mt.back
      refine Mt.pure 1 (by decide +kernel) (by exact rfl) (by exact rfl) (by decide +kernel) (by decide +kernel) ?_
      repeat' (first | (apply Wl.move; exact rfl; exact rfl) | (apply Wl.nilM) | (apply Wl.splitP; exact rfl; exact rfl; all_goals (intros; try (exfalso; omega))) | (apply Wl.splitB; exact rfl; exact rfl; all_goals intros) | (apply St.condP; exact rfl; all_goals (intros; try (exfalso; omega))) | (apply St.condB; exact rfl; all_goals intros))
      apply Mt.back
      refine Mt.pure 2 (by decide +kernel) (by exact rfl) (by exact rfl) (by decide +kernel) (by decide +kernel) ?_
      repeat' (first | (apply Wl.move; exact rfl; exact rfl) | (apply Wl.nilM) | (apply Wl.splitP; exact rfl; exact rfl; all_goals (intros; try (exfalso; omega))) | (apply Wl.splitB; exact rfl; exact rfl; all_goals intros) | (apply St.condP; exact rfl; all_goals (intros; try (exfalso; omega))) | (apply St.condB; exact rfl; all_goals intros))
      apply Mt.back
      refine Mt.pure 3 (by decide +kernel) (by exact rfl) (by exact rfl) (by decide +kernel) (by decide +kernel) ?_
      repeat' (first | (apply Wl.move; exact rfl; exact rfl) | (apply Wl.nilM) | (apply Wl.splitP; exact rfl; exact rfl; all_goals (intros; try (exfalso; omega))) | (apply Wl.splitB; exact rfl; exact rfl; all_goals intros) | (apply St.condP; exact rfl; all_goals (intros; try (exfalso; omega))) | (apply St.condB; exact rfl; all_goals intros))
      apply Mt.back
      refine Mt.pure 4 (by decide +kernel) (by exact rfl) (by exact rfl) (by decide +kernel) (by decide +kernel) ?_
      repeat' (first | (apply Wl.move; exact rfl; exact rfl) | (apply Wl.nilM) | (apply Wl.splitP; exact rfl; exact rfl; all_goals (intros; try (exfalso; omega))) | (apply Wl.splitB; exact rfl; exact rfl; all_goals intros) | (apply St.condP; exact rfl; all_goals (intros; try (exfalso; omega))) | (apply St.condB; exact rfl; all_goals intros))
      apply Mt.back
      refine Mt.pure 5 (by decide +kernel) (by exact rfl) (by exact rfl) (by decide +kernel) (by decide +kernel) ?_
      repeat' (first | (apply Wl.move; exact rfl; exact rfl) | (apply Wl.nilM) | (apply Wl.splitP; exact rfl; exact rfl; all_goals (intros; try (exfalso; omega))) | (apply Wl.splitB; exact rfl; exact rfl; all_goals intros) | (apply St.condP; exact rfl; all_goals (intros; try (exfalso; omega))) | (apply St.condB; exact rfl; all_goals intros))
      apply Mt.back
      refine Mt.pure 6 (by decide +kernel) (by exact rfl) (by exact rfl) (by decide +kernel) (by decide +kernel) ?_
      repeat' (first | (apply Wl.indexAddr; exact rfl; exact rfl; exact rfl; (constructor <;> omega)) | (apply Wl.nilM) | (apply Wl.splitP; exact rfl; exact rfl; all_goals (intros; try (exfalso; omega))) | (apply Wl.splitB; exact rfl; exact rfl; all_goals intros) | (apply St.condP; exact rfl; all_goals (intros; try (exfalso; omega))) | (apply St.condB; exact rfl; all_goals intros))
      apply Mt.back
      refine Mt.pure 7 (by decide +kernel) (by exact rfl) (by exact rfl) (by decide +kernel) (by decide +kernel) ?_
      apply Wl.loadAF (xs := [.int .i64 x, .int .i64 y, .int .u32 z])
      · exact rfl
      · exact rfl
      · exact rfl
      · intro w' h j v hj
        rw [addLit]
        match j, hj with
        | 0, hj => cases hj; exact h.cell h1 (by simp only; omega)
        | 1, hj => cases hj; exact h.cell h2 (by simp only; omega)
        | 2, hj => cases hj; exact h.cell h3 (by simp only; omega)
      repeat' (first | (apply Wl.nilM) | (apply Wl.splitP; exact rfl; exact rfl; all_goals (intros; try (exfalso; omega))) | (apply Wl.splitB; exact rfl; exact rfl; all_goals intros) | (apply St.condP; exact rfl; all_goals (intros; try (exfalso; omega))) | (apply St.condB; exact rfl; all_goals intros))
      apply Mt.back
      refine Mt.pure 9 (by decide +kernel) (by exact rfl) (by exact rfl) (by decide +kernel) (by decide +kernel) ?_
      repeat' (first | (apply Wl.move; exact rfl; exact rfl) | (apply Wl.nilM) | (apply Wl.splitP; exact rfl; exact rfl; all_goals (intros; try (exfalso; omega))) | (apply Wl.splitB; exact rfl; exact rfl; all_goals intros) | (apply St.condP; exact rfl; all_goals (intros; try (exfalso; omega))) | (apply St.condB; exact rfl; all_goals intros))
      apply Mt.back
      refine Mt.pure 10 (by decide +kernel) (by exact rfl) (by exact rfl) (by decide +kernel) (by decide +kernel) ?_
      repeat' (first | (apply Wl.move; exact rfl; exact rfl) | (apply Wl.nilM) | (apply Wl.splitP; exact rfl; exact rfl; all_goals (intros; try (exfalso; omega))) | (apply Wl.splitB; exact rfl; exact rfl; all_goals intros) | (apply St.condP; exact rfl; all_goals (intros; try (exfalso; omega))) | (apply St.condB; exact rfl; all_goals intros))
      apply Mt.back
      refine Mt.pure 11 (by decide +kernel) (by exact rfl) (by exact rfl) (by decide +kernel) (by decide +kernel) ?_
      repeat' (first | (apply Wl.indexAddr; exact rfl; exact rfl; exact rfl; (constructor <;> omega)) | (apply Wl.nilM) | (apply Wl.splitP; exact rfl; exact rfl; all_goals (intros; try (exfalso; omega))) | (apply Wl.splitB; exact rfl; exact rfl; all_goals intros) | (apply St.condP; exact rfl; all_goals (intros; try (exfalso; omega))) | (apply St.condB; exact rfl; all_goals intros))
      apply Mt.back
      refine Mt.pure 12 (by decide +kernel) (by exact rfl) (by exact rfl) (by decide +kernel) (by decide +kernel) ?_
      repeat' (first | (apply Wl.fieldAddr; exact rfl; exact rfl) | (apply Wl.nilM) | (apply Wl.splitP; exact rfl; exact rfl; all_goals (intros; try (exfalso; omega))) | (apply Wl.splitB; exact rfl; exact rfl; all_goals intros) | (apply St.condP; exact rfl; all_goals (intros; try (exfalso; omega))) | (apply St.condB; exact rfl; all_goals intros))
      apply Mt.back
      refine Mt.pure 13 (by decide +kernel) (by exact rfl) (by exact rfl) (by decide +kernel) (by decide +kernel) ?_
      apply Wl.loadF
      · exact rfl
      · exact rfl
      · intro w' h; exact h.cell h3 (by simp only; omega)
      repeat' (first | (apply Wl.nilM) | (apply Wl.splitP; exact rfl; exact rfl; all_goals (intros; try (exfalso; omega))) | (apply Wl.splitB; exact rfl; exact rfl; all_goals intros) | (apply St.condP; exact rfl; all_goals (intros; try (exfalso; omega))) | (apply St.condB; exact rfl; all_goals intros))
      apply Mt.back
      refine Mt.pure 14 (by decide +kernel) (by exact rfl) (by exact rfl) (by decide +kernel) (by decide +kernel) ?_
      repeat' (first | (apply Wl.nilCheck; exact rfl; exact rfl) | (apply Wl.nilM) | (apply Wl.splitP; exact rfl; exact rfl; all_goals (intros; try (exfalso; omega))) | (apply Wl.splitB; exact rfl; exact rfl; all_goals intros) | (apply St.condP; exact rfl; all_goals (intros; try (exfalso; omega))) | (apply St.condB; exact rfl; all_goals intros))
      apply Mt.back
      refine Mt.pure 15 (by decide +kernel) (by exact rfl) (by exact rfl) (by decide +kernel) (by decide +kernel) ?_
      repeat' (first | (apply Wl.fieldAddrZ; exact rfl; exact rfl) | (apply Wl.nilM) | (apply Wl.splitP; exact rfl; exact rfl; all_goals (intros; try (exfalso; omega))) | (apply Wl.splitB; exact rfl; exact rfl; all_goals intros) | (apply St.condP; exact rfl; all_goals (intros; try (exfalso; omega))) | (apply St.condB; exact rfl; all_goals intros))
      apply Mt.back
      refine Mt.pure 18 (by decide +kernel) (by exact rfl) (by exact rfl) (by decide +kernel) (by decide +kernel) ?_
      repeat' (first | (apply Wl.nilCheck; exact rfl; exact rfl) | (apply Wl.nilM) | (apply Wl.splitP; exact rfl; exact rfl; all_goals (intros; try (exfalso; omega))) | (apply Wl.splitB; exact rfl; exact rfl; all_goals intros) | (apply St.condP; exact rfl; all_goals (intros; try (exfalso; omega))) | (apply St.condB; exact rfl; all_goals intros))
      apply Mt.back
      refine Mt.pure 19 (by decide +kernel) (by exact rfl) (by exact rfl) (by decide +kernel) (by decide +kernel) ?_
      repeat' (first | (apply Wl.fieldAddrZ; exact rfl; exact rfl) | (apply Wl.nilM) | (apply Wl.splitP; exact rfl; exact rfl; all_goals (intros; try (exfalso; omega))) | (apply Wl.splitB; exact rfl; exact rfl; all_goals intros) | (apply St.condP; exact rfl; all_goals (intros; try (exfalso; omega))) | (apply St.condB; exact rfl; all_goals intros))
      apply Mt.back
      refine Mt.eff1 (i := 8) (by decide +kernel) (by exact rfl) ?_
      apply Wl.callC
      · exact rfl
      · (repeat (first | exact Evs.nil | apply Evs.cons rfl))
      intro wq hq
      refine (fbyte x y z wq).mono ?_
      rintro e wr ⟨⟨v, rfl⟩, hr⟩
      refine ⟨_, _, rfl, hq.keep hr, ?_⟩
      clear hr hq wq wr
      repeat' (first | (apply Wl.nil) | (apply Wl.splitP; exact rfl; exact rfl; all_goals (intros; try (exfalso; omega))) | (apply Wl.splitB; exact rfl; exact rfl; all_goals intros) | (apply St.condP; exact rfl; all_goals (intros; try (exfalso; omega))) | (apply St.condB; exact rfl; all_goals intros))
      refine Mt.backE (fun _ h => hup _ _ h) ?_
      refine Mt.pure 16 (by decide +kernel) (by exact rfl) (by exact rfl) (by decide +kernel) (by decide +kernel) ?_
      repeat' (first | (apply Wl.indexArr; exact rfl; exact rfl; exact rfl; (constructor <;> omega)) | (apply Wl.nilM) | (apply Wl.splitP; exact rfl; exact rfl; all_goals (intros; try (exfalso; omega))) | (apply Wl.splitB; exact rfl; exact rfl; all_goals intros) | (apply St.condP; exact rfl; all_goals (intros; try (exfalso; omega))) | (apply St.condB; exact rfl; all_goals intros))
      apply Mt.back
      refine Mt.eff1 (i := 17) (by decide +kernel) (by exact rfl) ?_
      apply Wl.store9
      · exact rfl
      · exact rfl
      · intro cs'; (repeat (first | apply HSet.here | apply HSet.there))
      · exact hk3
      · omega
      · omega
      · exact fkd8 (by omega)
      intro cs4 hk4
      repeat' (first | (apply Wl.nil) | (apply Wl.splitP; exact rfl; exact rfl; all_goals (intros; try (exfalso; omega))) | (apply Wl.splitB; exact rfl; exact rfl; all_goals intros) | (apply St.condP; exact rfl; all_goals (intros; try (exfalso; omega))) | (apply St.condB; exact rfl; all_goals intros))
      refine Mt.backE (fun _ h => hup _ _ h) ?_
      refine Mt.pure 20 (by decide +kernel) (by exact rfl) (by exact rfl) (by decide +kernel) (by decide +kernel) ?_
      repeat' (first | (apply Wl.indexArr; exact rfl; exact rfl; exact rfl; (constructor <;> omega)) | (apply Wl.nilM) | (apply Wl.splitP; exact rfl; exact rfl; all_goals (intros; try (exfalso; omega))) | (apply Wl.splitB; exact rfl; exact rfl; all_goals intros) | (apply St.condP; exact rfl; all_goals (intros; try (exfalso; omega))) | (apply St.condB; exact rfl; all_goals intros))
      apply Mt.back
      refine Mt.eff1 (i := 21) (by decide +kernel) (by exact rfl) ?_
      apply Wl.store9
      · exact rfl
      · exact rfl
      · intro cs'; (repeat (first | apply HSet.here | apply HSet.there))
      · exact hk4
      · omega
      · omega
      · exact fkd32 (by omega) (by omega)
      intro cs5 hk5
      repeat' (first | (apply Wl.nil) | (apply Wl.splitP; exact rfl; exact rfl; all_goals (intros; try (exfalso; omega))) | (apply Wl.splitB; exact rfl; exact rfl; all_goals intros) | (apply St.condP; exact rfl; all_goals (intros; try (exfalso; omega))) | (apply St.condB; exact rfl; all_goals intros))
      refine Mt.backE (fun _ h => hup _ _ h) ?_
      refine Mt.toGt (by decide +kernel) ?_
      repeat' (first | (apply Wl.move; exact rfl; exact rfl) | (apply Wl.addI; exact rfl; exact rfl; exact rfl; (constructor <;> omega)) | (apply Wl.nil) | (apply St.region) | (apply Gt.next) | (apply Gt.inNormal) | (apply Wl.splitP; exact rfl; exact rfl; all_goals (intros; try (exfalso; omega))) | (apply Wl.splitB; exact rfl; exact rfl; all_goals intros) | (apply St.condP; exact rfl; all_goals (intros; try (exfalso; omega))) | (apply St.condB; exact rfl; all_goals intros))
      apply Gt.round (i + 1, cs5)
      rotate_left
      · simp only; omega
      · (repeat (first | exact Sub.nil | apply Sub.cons rfl))
      · exact fun _ h => h
      · exact ⟨by simp only; omega, hk5⟩
    · repeat' (first | (apply Wl.move; exact rfl; exact rfl) | (apply Wl.lss; exact rfl; exact rfl; exact rfl) | (apply Wl.addI; exact rfl; exact rfl; exact rfl; (constructor <;> omega)) | (apply Wl.len; exact rfl; exact rfl) | (apply Wl.nil) | (apply St.seq) | (apply St.region) | (apply St.skip) | (apply Gt.next) | (apply Gt.inNormal) | (apply Wl.splitP; exact rfl; exact rfl; all_goals (intros; try (exfalso; omega))) | (apply Wl.splitB; exact rfl; exact rfl; all_goals intros) | (apply St.condP; exact rfl; all_goals (intros; try (exfalso; omega))) | (apply St.condB; exact rfl; all_goals intros))
      apply Gt.round (i + 1, cs3)
      rotate_left
      · simp only; omega
      · (repeat (first | exact Sub.nil | apply Sub.cons rfl))
      · exact fun _ h => h
      · exact ⟨by simp only; omega, hk3⟩
  · repeat' (first | (apply Wl.assign; exact rfl; exact rfl) | (apply Wl.lss; exact rfl; exact rfl; exact rfl) | (apply Wl.nil) | (apply St.seq) | (apply St.region) | (apply St.ret) | (apply St.exit) | (apply Gt.next) | (apply Gt.thenExit) | (apply Gt.inExit) | (apply Gt.out1; exact rfl; exact rfl; intro w' hp) | (apply Wl.splitP; exact rfl; exact rfl; all_goals (intros; try (exfalso; omega))) | (apply Wl.splitB; exact rfl; exact rfl; all_goals intros) | (apply St.condP; exact rfl; all_goals (intros; try (exfalso; omega))) | (apply St.condB; exact rfl; all_goals intros))
    rw [if_neg (by omega)]
    exact ⟨rfl, FF.leaf (by assumption) hp⟩
end Go.Proofs.YtcefkbnachnciaaDoor
