/-
  porticoref15.File.Trap, Protect. Conditions: the file and its map lie in blocks of their own; the entries lie in older blocks.
-/
import Derived.Test.YtcefkbnachnciaaDoorCsrM
namespace Go.Proofs.YtcefkbnachnciaaDoor
open Go.RowKit Go.Pt
theorem cell_of {w : World} {c i : Nat} {cs : List Value} {t : TypeId} {v : Value} (h : w.heap[c]? = some (.cells cs.toArray t (0, 0))) (hi : cs[i]? = some v) : w.cell? ⟨c, i, none⟩ = some v := by
  rw [cellAt h]; simpa using hi
set_option maxHeartbeats 4000000 in
theorem mprotect (c b n m cap : Nat) (a : Option Addr) (tv : Int) (w0 w : World) (hM : MM w c b n tv) (hn : n < 1000000) (hu : Upd (fun k => w0.heap.size ≤ k) w0 w) (hc0 : w0.heap.size ≤ c) (hb0 : w0.heap.size ≤ b) (hS : EntS w0 a m) :
    Calls Tryd.prog 31 #[.pointer (some ⟨c, 0, none⟩), .slice a m cap] w fun e w' => e = .returned (.tuple #[]) ∧ MM w' c b (n + 32) tv ∧ Upd (fun k => k = c ∨ k = b) w w' := by
  have hcb := hM.ne
  obtain ⟨md, cs, n', lk, hk, hc, hm, hn', hK⟩ := hM
  have hmax : n' + 40 < maxLen := by unfold maxLen; omega
  refine enter (args := [_, _]) (Γ := [(0, _), (1, _)]) Tryd.func31 Tryd.ntmps31 rfl (of_decide_eq_true rfl) (.cons rfl (.cons rfl .nil)) ?_
  refine St.cls (C' := Hp w [⟨c, .int .i64 md :: .map (some b) :: cs, 89⟩]) (fun _ h' => Hp.open h' hc) ?_
  repeat' (first | (apply Wl.assign; exact rfl; exact rfl) | (apply Wl.nil) | (apply St.seq) | (apply St.block) | (apply St.region) | (apply Gt.next) | (apply Wl.splitP; exact rfl; exact rfl; all_goals (intros; try (exfalso; omega))) | (apply Wl.splitB; exact rfl; exact rfl; all_goals intros) | (apply St.condP; exact rfl; all_goals (intros; try (exfalso; omega))) | (apply St.condB; exact rfl; all_goals intros))
  refine St.loop (σ := Nat × List Value × World) (fun τ => τ.1 ≤ 16 ∧ Kd mkd 18 τ.2.1 ∧ (∃ n1 lk1, MapI Tryd.prog 3 3 τ.2.2 b n1 lk1 ∧ n1 ≤ n' + 2 * τ.1 ∧ KeysOk lk1 tv) ∧ Upd (fun k => k = c ∨ k = b) w τ.2.2)
    (fun τ => [(4, .int .i64 τ.1), (0, .pointer (some ⟨c, 0, none⟩)), (1, .slice a m cap)])
    (fun τ => Hp τ.2.2 [⟨c, .int .i64 md :: .map (some b) :: τ.2.1, 89⟩]) (fun τ => 16 - τ.1) (0, cs, w) ⟨by simp, hk, ⟨n', lk, hm, by simp, hK⟩, Upd.refl _ _⟩ (by (repeat (first | exact Sub.nil | apply Sub.cons rfl))) (fun _ h => h) ?_
  rintro ⟨i, cs1, w1⟩ ⟨hi, hk1, ⟨n1, lk1, hm1, hn1, hK1⟩, hU1⟩
  simp only at hi hk1 hm1 hn1 hK1 hU1 ⊢
  have hup : ∀ w1 cs w', Upd (fun k => k = c ∨ k = b) w w1 → Hp w1 [⟨c, .int .i64 md :: .map (some b) :: cs, 89⟩] w' → Upd (fun k => w0.heap.size ≤ k) w0 w' :=
    fun w1 cs w' u h => (hu.comp u fun k _ hs => hs.elim id fun e => by rcases e with e | e <;> omega).comp (Hp.turned h) fun k _ hs => hs.elim id fun e => by omega
  by_cases hlt : i < 16
  · repeat' (first | (apply Wl.store2; exact rfl; exact rfl; (intro cs'; (repeat (first | apply HSet.here | apply HSet.there))); assumption; omega; omega; (first | exact mkdI (by omega) | exact mkdU (by omega)); intro cs' hk') | (apply Wl.move; exact rfl; exact rfl) | (apply Wl.nilCheck; exact rfl; exact rfl) | (apply Wl.fieldAddrZ; exact rfl; exact rfl) | (apply Wl.loadH; exact rfl; exact rfl; (repeat (first | exact List.Mem.head _ | apply List.Mem.tail)); exact rfl) | (apply Wl.lss; exact rfl; exact rfl; exact rfl) | (apply Wl.addI; exact rfl; exact rfl; exact rfl; (constructor <;> omega)) | (apply Wl.indexArr; exact rfl; exact rfl; exact rfl; (constructor <;> omega)) | (apply Wl.nil) | (apply St.seq) | (apply St.block) | (apply St.region) | (apply St.skip) | (apply Gt.next) | (apply Wl.splitP; exact rfl; exact rfl; all_goals (intros; try (exfalso; omega))) | (apply Wl.splitB; exact rfl; exact rfl; all_goals intros) | (apply St.condP; exact rfl; all_goals (intros; try (exfalso; omega))) | (apply St.condB; exact rfl; all_goals intros))
    apply Wl.storeI (k := 3) (e := 3) (hown := hm1)
    · exact rfl
    · exact rfl
    · exact rfl
    · unfold I64; omega
    · first | exact wrapI64 _ | (unfold I64; omega)
    · omega
    · exact ⟨hcb, trivial⟩
    intro w2 hm2 hu2
    have hU2 := offUpd hU1 hu2
    have hK2 : KeysOk _ tv := hK1.put (t := 944 + i) (v := 0) (by unfold IsKey; omega) (by omega)
    by_cases hin : i < m
    · obtain ⟨bb, o, rfl, x, y, z, e1, e2, e3⟩ := hS i hin
      have hbb := cell_old e1
      simp only at hbb
      repeat' (first | (apply Wl.move; exact rfl; exact rfl) | (apply Wl.lss; exact rfl; exact rfl; exact rfl) | (apply Wl.len; exact rfl; exact rfl) | (apply Wl.nil) | (apply St.seq) | (apply St.region) | (apply Gt.next) | (apply Wl.splitP; exact rfl; exact rfl; all_goals (intros; try (exfalso; omega))) | (apply Wl.splitB; exact rfl; exact rfl; all_goals intros) | (apply St.condP; exact rfl; all_goals (intros; try (exfalso; omega))) | (apply St.condB; exact rfl; all_goals intros))
      refine St.tree (fun w' => Upd (fun k => w0.heap.size ≤ k) w0 w') mixed (fun _ h => ⟨Hp.drew h, hup _ _ _ hU2 (Hp.drew h)⟩) ?_
      refine Mt.pure 0 (by decide +kernel) (by exact rfl) (by exact rfl) (by decide +kernel) (by decide +kernel) ?_
      repeat' (first | (apply Wl.move; exact rfl; exact rfl) | (apply Wl.nilM) | (apply Wl.splitP; exact rfl; exact rfl; all_goals (intros; try (exfalso; omega))) | (apply Wl.splitB; exact rfl; exact rfl; all_goals intros) | (apply St.condP; exact rfl; all_goals (intros; try (exfalso; omega))) | (apply St.condB; exact rfl; all_goals intros))
      apply Mt.back
      refine Mt.pure 1 (by decide +kernel) (by exact rfl) (by exact rfl) (by decide +kernel) (by decide +kernel) ?_
      repeat' (first | (apply Wl.move; exact rfl; exact rfl) | (apply Wl.nilM) | (apply Wl.splitP; exact rfl; exact rfl; all_goals (intros; try (exfalso; omega))) | (apply Wl.splitB; exact rfl; exact rfl; all_goals intros) | (apply St.condP; exact rfl; all_goals (intros; try (exfalso; omega))) | (apply St.condB; exact rfl; all_goals intros))
      apply Mt.back
      refine Mt.pure 2 (by decide +kernel) (by exact rfl) (by exact rfl) (by decide +kernel) (by decide +kernel) ?_
      repeat' (first | (apply Wl.move; exact rfl; exact rfl) | (apply Wl.nilM) | (apply Wl.splitP; exact rfl; exact rfl; all_goals (intros; try (exfalso; omega))) | (apply Wl.splitB; exact rfl; exact rfl; all_goals intros) | (apply St.condP; exact rfl; all_goals (intros; try (exfalso; omega))) | (apply St.condB; exact rfl; all_goals intros))
      apply Mt.back
      refine Mt.pure 3 (by decide +kernel) (by exact rfl) (by exact rfl) (by decide +kernel) (by decide +kernel) ?_
      repeat' (first | (apply Wl.move; exact rfl; exact rfl) | (apply Wl.nilM) | (apply Wl.splitP; exact rfl; exact rfl; all_goals (intros; try (exfalso; omega))) | (apply Wl.splitB; exact rfl; exact rfl; all_goals intros) | (apply St.condP; exact rfl; all_goals (intros; try (exfalso; omega))) | (apply St.condB; exact rfl; all_goals intros))
      apply Mt.back
      refine Mt.pure 4 (by decide +kernel) (by exact rfl) (by exact rfl) (by decide +kernel) (by decide +kernel) ?_
      repeat' (first | (apply Wl.indexAddr; exact rfl; exact rfl; exact rfl; (constructor <;> omega)) | (apply Wl.nilM) | (apply Wl.splitP; exact rfl; exact rfl; all_goals (intros; try (exfalso; omega))) | (apply Wl.splitB; exact rfl; exact rfl; all_goals intros) | (apply St.condP; exact rfl; all_goals (intros; try (exfalso; omega))) | (apply St.condB; exact rfl; all_goals intros))
      apply Mt.back
      refine Mt.pure 5 (by decide +kernel) (by exact rfl) (by exact rfl) (by decide +kernel) (by decide +kernel) ?_
      repeat' (first | (apply Wl.fieldAddr; exact rfl; exact rfl) | (apply Wl.nilM) | (apply Wl.splitP; exact rfl; exact rfl; all_goals (intros; try (exfalso; omega))) | (apply Wl.splitB; exact rfl; exact rfl; all_goals intros) | (apply St.condP; exact rfl; all_goals (intros; try (exfalso; omega))) | (apply St.condB; exact rfl; all_goals intros))
      apply Mt.back
      refine Mt.pure 6 (by decide +kernel) (by exact rfl) (by exact rfl) (by decide +kernel) (by decide +kernel) ?_
      repeat' (first | (apply Wl.loadF; exact rfl; exact rfl; (intro w' h; first | exact h.cell e1 (by simp only; omega) | exact h.cell e2 (by simp only; omega) | exact h.cell e3 (by simp only; omega))) | (apply Wl.nilM) | (apply Wl.splitP; exact rfl; exact rfl; all_goals (intros; try (exfalso; omega))) | (apply Wl.splitB; exact rfl; exact rfl; all_goals intros) | (apply St.condP; exact rfl; all_goals (intros; try (exfalso; omega))) | (apply St.condB; exact rfl; all_goals intros))
      apply Mt.back
      refine Mt.pure 7 (by decide +kernel) (by exact rfl) (by exact rfl) (by decide +kernel) (by decide +kernel) ?_
      repeat' (first | (apply Wl.and; exact rfl; exact rfl; exact rfl) | (apply Wl.nilM) | (apply Wl.splitP; exact rfl; exact rfl; all_goals (intros; try (exfalso; omega))) | (apply Wl.splitB; exact rfl; exact rfl; all_goals intros) | (apply St.condP; exact rfl; all_goals (intros; try (exfalso; omega))) | (apply St.condB; exact rfl; all_goals intros))
      apply Mt.back
      refine Mt.pure 8 (by decide +kernel) (by exact rfl) (by exact rfl) (by decide +kernel) (by decide +kernel) ?_
      repeat' (first | (apply Wl.move; exact rfl; exact rfl) | (apply Wl.nilM) | (apply Wl.splitP; exact rfl; exact rfl; all_goals (intros; try (exfalso; omega))) | (apply Wl.splitB; exact rfl; exact rfl; all_goals intros) | (apply St.condP; exact rfl; all_goals (intros; try (exfalso; omega))) | (apply St.condB; exact rfl; all_goals intros))
      apply Mt.back
      refine Mt.pure 9 (by decide +kernel) (by exact rfl) (by exact rfl) (by decide +kernel) (by decide +kernel) ?_
      repeat' (first | (apply Wl.move; exact rfl; exact rfl) | (apply Wl.nilM) | (apply Wl.splitP; exact rfl; exact rfl; all_goals (intros; try (exfalso; omega))) | (apply Wl.splitB; exact rfl; exact rfl; all_goals intros) | (apply St.condP; exact rfl; all_goals (intros; try (exfalso; omega))) | (apply St.condB; exact rfl; all_goals intros))
      apply Mt.back
      refine Mt.pure 10 (by decide +kernel) (by exact rfl) (by exact rfl) (by decide +kernel) (by decide +kernel) ?_
      repeat' (first | (apply Wl.indexAddr; exact rfl; exact rfl; exact rfl; (constructor <;> omega)) | (apply Wl.nilM) | (apply Wl.splitP; exact rfl; exact rfl; all_goals (intros; try (exfalso; omega))) | (apply Wl.splitB; exact rfl; exact rfl; all_goals intros) | (apply St.condP; exact rfl; all_goals (intros; try (exfalso; omega))) | (apply St.condB; exact rfl; all_goals intros))
      apply Mt.back
      refine Mt.pure 11 (by decide +kernel) (by exact rfl) (by exact rfl) (by decide +kernel) (by decide +kernel) ?_
      repeat' (first | (apply Wl.fieldAddr0; exact rfl; exact rfl) | (apply Wl.nilM) | (apply Wl.splitP; exact rfl; exact rfl; all_goals (intros; try (exfalso; omega))) | (apply Wl.splitB; exact rfl; exact rfl; all_goals intros) | (apply St.condP; exact rfl; all_goals (intros; try (exfalso; omega))) | (apply St.condB; exact rfl; all_goals intros))
      apply Mt.back
      refine Mt.pure 12 (by decide +kernel) (by exact rfl) (by exact rfl) (by decide +kernel) (by decide +kernel) ?_
      repeat' (first | (apply Wl.loadF; exact rfl; exact rfl; (intro w' h; first | exact h.cell e1 (by simp only; omega) | exact h.cell e2 (by simp only; omega) | exact h.cell e3 (by simp only; omega))) | (apply Wl.nilM) | (apply Wl.splitP; exact rfl; exact rfl; all_goals (intros; try (exfalso; omega))) | (apply Wl.splitB; exact rfl; exact rfl; all_goals intros) | (apply St.condP; exact rfl; all_goals (intros; try (exfalso; omega))) | (apply St.condB; exact rfl; all_goals intros))
      apply Mt.back
      refine Mt.pure 13 (by decide +kernel) (by exact rfl) (by exact rfl) (by decide +kernel) (by decide +kernel) ?_
      repeat' (first | (apply Wl.and; exact rfl; exact rfl; exact rfl) | (apply Wl.nilM) | (apply Wl.splitP; exact rfl; exact rfl; all_goals (intros; try (exfalso; omega))) | (apply Wl.splitB; exact rfl; exact rfl; all_goals intros) | (apply St.condP; exact rfl; all_goals (intros; try (exfalso; omega))) | (apply St.condB; exact rfl; all_goals intros))
      apply Mt.back
      refine Mt.pure 14 (by decide +kernel) (by exact rfl) (by exact rfl) (by decide +kernel) (by decide +kernel) ?_
      repeat' (first | (apply Wl.mul; exact rfl; exact rfl; exact rfl) | (apply Wl.nilM) | (apply Wl.splitP; exact rfl; exact rfl; all_goals (intros; try (exfalso; omega))) | (apply Wl.splitB; exact rfl; exact rfl; all_goals intros) | (apply St.condP; exact rfl; all_goals (intros; try (exfalso; omega))) | (apply St.condB; exact rfl; all_goals intros))
      apply Mt.back
      refine Mt.pure 15 (by decide +kernel) (by exact rfl) (by exact rfl) (by decide +kernel) (by decide +kernel) ?_
      repeat' (first | (apply Wl.add; exact rfl; exact rfl; exact rfl) | (apply Wl.nilM) | (apply Wl.splitP; exact rfl; exact rfl; all_goals (intros; try (exfalso; omega))) | (apply Wl.splitB; exact rfl; exact rfl; all_goals intros) | (apply St.condP; exact rfl; all_goals (intros; try (exfalso; omega))) | (apply St.condB; exact rfl; all_goals intros))
      apply Mt.back
      refine Mt.pure 16 (by decide +kernel) (by exact rfl) (by exact rfl) (by decide +kernel) (by decide +kernel) ?_
      repeat' (first | (apply Wl.nilCheck; exact rfl; exact rfl) | (apply Wl.nilM) | (apply Wl.splitP; exact rfl; exact rfl; all_goals (intros; try (exfalso; omega))) | (apply Wl.splitB; exact rfl; exact rfl; all_goals intros) | (apply St.condP; exact rfl; all_goals (intros; try (exfalso; omega))) | (apply St.condB; exact rfl; all_goals intros))
      apply Mt.back
      refine Mt.pure 17 (by decide +kernel) (by exact rfl) (by exact rfl) (by decide +kernel) (by decide +kernel) ?_
      repeat' (first | (apply Wl.fieldAddrZ; exact rfl; exact rfl) | (apply Wl.nilM) | (apply Wl.splitP; exact rfl; exact rfl; all_goals (intros; try (exfalso; omega))) | (apply Wl.splitB; exact rfl; exact rfl; all_goals intros) | (apply St.condP; exact rfl; all_goals (intros; try (exfalso; omega))) | (apply St.condB; exact rfl; all_goals intros))
      apply Mt.back
      refine Mt.pure 18 (by decide +kernel) (by exact rfl) (by exact rfl) (by decide +kernel) (by decide +kernel) ?_
      repeat' (first | (apply Wl.indexArr; exact rfl; exact rfl; exact rfl; (constructor <;> omega)) | (apply Wl.nilM) | (apply Wl.splitP; exact rfl; exact rfl; all_goals (intros; try (exfalso; omega))) | (apply Wl.splitB; exact rfl; exact rfl; all_goals intros) | (apply St.condP; exact rfl; all_goals (intros; try (exfalso; omega))) | (apply St.condB; exact rfl; all_goals intros))
      apply Mt.back
      refine Mt.eff1 (i := 19) (by decide +kernel) (by exact rfl) ?_
      apply Wl.store2
      · exact rfl
      · exact rfl
      · intro cs'; (repeat (first | apply HSet.here | apply HSet.there))
      · exact hk'
      · omega
      · omega
      · exact mkdI (by omega)
      intro cs3 hk3
      repeat' (first | (apply Wl.nil) | (apply Wl.splitP; exact rfl; exact rfl; all_goals (intros; try (exfalso; omega))) | (apply Wl.splitB; exact rfl; exact rfl; all_goals intros) | (apply St.condP; exact rfl; all_goals (intros; try (exfalso; omega))) | (apply St.condB; exact rfl; all_goals intros))
      refine Mt.backE (fun _ h => hup _ _ _ hU2 h) ?_
      refine Mt.toGt (by decide +kernel) ?_
      repeat' (first | (apply Gt.next) | (apply Wl.splitP; exact rfl; exact rfl; all_goals (intros; try (exfalso; omega))) | (apply Wl.splitB; exact rfl; exact rfl; all_goals intros) | (apply St.condP; exact rfl; all_goals (intros; try (exfalso; omega))) | (apply St.condB; exact rfl; all_goals intros))
      refine St.tree (fun w' => Upd (fun k => w0.heap.size ≤ k) w0 w' ∧ w'.heap[c]? = some (.cells (.int .i64 md :: .map (some b) :: cs3).toArray 89 (0, 0))) mixed (fun _ h => ⟨Hp.drew h, hup _ _ _ hU2 (Hp.drew h), (Hp.drew h).own.1⟩) ?_
      refine Mt.pure 0 (by decide +kernel) (by exact rfl) (by exact rfl) (by decide +kernel) (by decide +kernel) ?_
      repeat' (first | (apply Wl.move; exact rfl; exact rfl) | (apply Wl.nilM) | (apply Wl.splitP; exact rfl; exact rfl; all_goals (intros; try (exfalso; omega))) | (apply Wl.splitB; exact rfl; exact rfl; all_goals intros) | (apply St.condP; exact rfl; all_goals (intros; try (exfalso; omega))) | (apply St.condB; exact rfl; all_goals intros))
      apply Mt.back
      refine Mt.pure 1 (by decide +kernel) (by exact rfl) (by exact rfl) (by decide +kernel) (by decide +kernel) ?_
      repeat' (first | (apply Wl.nilCheck; exact rfl; exact rfl) | (apply Wl.nilM) | (apply Wl.splitP; exact rfl; exact rfl; all_goals (intros; try (exfalso; omega))) | (apply Wl.splitB; exact rfl; exact rfl; all_goals intros) | (apply St.condP; exact rfl; all_goals (intros; try (exfalso; omega))) | (apply St.condB; exact rfl; all_goals intros))
      apply Mt.back
      refine Mt.pure 2 (by decide +kernel) (by exact rfl) (by exact rfl) (by decide +kernel) (by decide +kernel) ?_
      repeat' (first | (apply Wl.fieldAddrZ; exact rfl; exact rfl) | (apply Wl.nilM) | (apply Wl.splitP; exact rfl; exact rfl; all_goals (intros; try (exfalso; omega))) | (apply Wl.splitB; exact rfl; exact rfl; all_goals intros) | (apply St.condP; exact rfl; all_goals (intros; try (exfalso; omega))) | (apply St.condB; exact rfl; all_goals intros))
      apply Mt.back
      refine Mt.pure 3 (by decide +kernel) (by exact rfl) (by exact rfl) (by decide +kernel) (by decide +kernel) ?_
      repeat' (first | (apply Wl.loadF; exact rfl; exact rfl; (intro w' h; first | exact cell_of h.2 rfl | exact h.1.cell e3 (by simp only; omega))) | (apply Wl.nilM) | (apply Wl.splitP; exact rfl; exact rfl; all_goals (intros; try (exfalso; omega))) | (apply Wl.splitB; exact rfl; exact rfl; all_goals intros) | (apply St.condP; exact rfl; all_goals (intros; try (exfalso; omega))) | (apply St.condB; exact rfl; all_goals intros))
      apply Mt.back
      refine Mt.pure 4 (by decide +kernel) (by exact rfl) (by exact rfl) (by decide +kernel) (by decide +kernel) ?_
      repeat' (first | (apply Wl.move; exact rfl; exact rfl) | (apply Wl.nilM) | (apply Wl.splitP; exact rfl; exact rfl; all_goals (intros; try (exfalso; omega))) | (apply Wl.splitB; exact rfl; exact rfl; all_goals intros) | (apply St.condP; exact rfl; all_goals (intros; try (exfalso; omega))) | (apply St.condB; exact rfl; all_goals intros))
      apply Mt.back
      refine Mt.pure 5 (by decide +kernel) (by exact rfl) (by exact rfl) (by decide +kernel) (by decide +kernel) ?_
      repeat' (first | (apply Wl.addI; exact rfl; exact rfl; exact rfl; (constructor <;> omega)) | (apply Wl.nilM) | (apply Wl.splitP; exact rfl; exact rfl; all_goals (intros; try (exfalso; omega))) | (apply Wl.splitB; exact rfl; exact rfl; all_goals intros) | (apply St.condP; exact rfl; all_goals (intros; try (exfalso; omega))) | (apply St.condB; exact rfl; all_goals intros))
      apply Mt.back
      refine Mt.pure 6 (by decide +kernel) (by exact rfl) (by exact rfl) (by decide +kernel) (by decide +kernel) ?_
      repeat' (first | (apply Wl.move; exact rfl; exact rfl) | (apply Wl.nilM) | (apply Wl.splitP; exact rfl; exact rfl; all_goals (intros; try (exfalso; omega))) | (apply Wl.splitB; exact rfl; exact rfl; all_goals intros) | (apply St.condP; exact rfl; all_goals (intros; try (exfalso; omega))) | (apply St.condB; exact rfl; all_goals intros))
      apply Mt.back
      refine Mt.pure 7 (by decide +kernel) (by exact rfl) (by exact rfl) (by decide +kernel) (by decide +kernel) ?_
      repeat' (first | (apply Wl.move; exact rfl; exact rfl) | (apply Wl.nilM) | (apply Wl.splitP; exact rfl; exact rfl; all_goals (intros; try (exfalso; omega))) | (apply Wl.splitB; exact rfl; exact rfl; all_goals intros) | (apply St.condP; exact rfl; all_goals (intros; try (exfalso; omega))) | (apply St.condB; exact rfl; all_goals intros))
      apply Mt.back
      refine Mt.pure 8 (by decide +kernel) (by exact rfl) (by exact rfl) (by decide +kernel) (by decide +kernel) ?_
      repeat' (first | (apply Wl.indexAddr; exact rfl; exact rfl; exact rfl; (constructor <;> omega)) | (apply Wl.nilM) | (apply Wl.splitP; exact rfl; exact rfl; all_goals (intros; try (exfalso; omega))) | (apply Wl.splitB; exact rfl; exact rfl; all_goals intros) | (apply St.condP; exact rfl; all_goals (intros; try (exfalso; omega))) | (apply St.condB; exact rfl; all_goals intros))
      apply Mt.back
      refine Mt.pure 9 (by decide +kernel) (by exact rfl) (by exact rfl) (by decide +kernel) (by decide +kernel) ?_
      repeat' (first | (apply Wl.fieldAddr; exact rfl; exact rfl) | (apply Wl.nilM) | (apply Wl.splitP; exact rfl; exact rfl; all_goals (intros; try (exfalso; omega))) | (apply Wl.splitB; exact rfl; exact rfl; all_goals intros) | (apply St.condP; exact rfl; all_goals (intros; try (exfalso; omega))) | (apply St.condB; exact rfl; all_goals intros))
      apply Mt.back
      refine Mt.pure 10 (by decide +kernel) (by exact rfl) (by exact rfl) (by decide +kernel) (by decide +kernel) ?_
      repeat' (first | (apply Wl.loadF; exact rfl; exact rfl; (intro w' h; first | exact cell_of h.2 rfl | exact h.1.cell e3 (by simp only; omega))) | (apply Wl.nilM) | (apply Wl.splitP; exact rfl; exact rfl; all_goals (intros; try (exfalso; omega))) | (apply Wl.splitB; exact rfl; exact rfl; all_goals intros) | (apply St.condP; exact rfl; all_goals (intros; try (exfalso; omega))) | (apply St.condB; exact rfl; all_goals intros))
      apply Mt.back
      refine Mt.pure 11 (by decide +kernel) (by exact rfl) (by exact rfl) (by decide +kernel) (by decide +kernel) ?_
      repeat' (first | (apply Wl.convI; exact rfl; exact rfl) | (apply Wl.nilM) | (apply Wl.splitP; exact rfl; exact rfl; all_goals (intros; try (exfalso; omega))) | (apply Wl.splitB; exact rfl; exact rfl; all_goals intros) | (apply St.condP; exact rfl; all_goals (intros; try (exfalso; omega))) | (apply St.condB; exact rfl; all_goals intros))
      apply Mt.back
      refine Mt.eff1 (i := 12) (by decide +kernel) (by exact rfl) ?_
      apply Wl.storeI (k := 3) (e := 3) (hown := hm2)
      · exact rfl
      · exact rfl
      · exact rfl
      · unfold I64; omega
      · first | exact wrapI64 _ | (unfold I64; omega)
      · omega
      · exact ⟨hcb, trivial⟩
      intro w3 hm3 hu3
      have hU3 := offUpd hU2 hu3
      repeat' (first | (apply Wl.nil) | (apply Wl.splitP; exact rfl; exact rfl; all_goals (intros; try (exfalso; omega))) | (apply Wl.splitB; exact rfl; exact rfl; all_goals intros) | (apply St.condP; exact rfl; all_goals (intros; try (exfalso; omega))) | (apply St.condB; exact rfl; all_goals intros))
      refine Mt.backE (fun _ h => ⟨hup _ _ _ hU3 h, h.own.1⟩) ?_
      refine Mt.toGt (by decide +kernel) ?_
      repeat' (first | (apply Wl.move; exact rfl; exact rfl) | (apply Wl.assign; exact rfl; exact rfl) | (apply Wl.addI; exact rfl; exact rfl; exact rfl; (constructor <;> omega)) | (apply Wl.nil) | (apply St.region) | (apply Gt.next) | (apply Gt.inNormal) | (apply Wl.splitP; exact rfl; exact rfl; all_goals (intros; try (exfalso; omega))) | (apply Wl.splitB; exact rfl; exact rfl; all_goals intros) | (apply St.condP; exact rfl; all_goals (intros; try (exfalso; omega))) | (apply St.condB; exact rfl; all_goals intros))
      apply Gt.round (i + 1, cs3, w3)
      rotate_left
      · simp only; omega
      · (repeat (first | exact Sub.nil | apply Sub.cons rfl))
      · exact fun _ h => h
      · exact ⟨by simp only; omega, hk3, ⟨_, _, hm3, by simp only; omega, hK2.put (by unfold IsKey; omega) (by omega)⟩, hU3⟩
    · repeat' (first | (apply Wl.move; exact rfl; exact rfl) | (apply Wl.assign; exact rfl; exact rfl) | (apply Wl.lss; exact rfl; exact rfl; exact rfl) | (apply Wl.addI; exact rfl; exact rfl; exact rfl; (constructor <;> omega)) | (apply Wl.len; exact rfl; exact rfl) | (apply Wl.nil) | (apply St.seq) | (apply St.region) | (apply St.skip) | (apply Gt.next) | (apply Gt.inNormal) | (apply Wl.splitP; exact rfl; exact rfl; all_goals (intros; try (exfalso; omega))) | (apply Wl.splitB; exact rfl; exact rfl; all_goals intros) | (apply St.condP; exact rfl; all_goals (intros; try (exfalso; omega))) | (apply St.condB; exact rfl; all_goals intros))
      apply Gt.round (i + 1, cs', w2)
      rotate_left
      · simp only; omega
      · (repeat (first | exact Sub.nil | apply Sub.cons rfl))
      · exact fun _ h => h
      · exact ⟨by simp only; omega, hk', ⟨_, _, hm2, by simp only; omega, hK2⟩, hU2⟩
  · repeat' (first | (apply Wl.move; exact rfl; exact rfl) | (apply Wl.lss; exact rfl; exact rfl; exact rfl) | (apply Wl.nil) | (apply St.seq) | (apply St.region) | (apply St.exit) | (apply Gt.next) | (apply Gt.thenExit) | (apply Gt.inExit) | (apply Gt.out0n; exact rfl; intro w' hp) | (apply Wl.splitP; exact rfl; exact rfl; all_goals (intros; try (exfalso; omega))) | (apply Wl.splitB; exact rfl; exact rfl; all_goals intros) | (apply St.condP; exact rfl; all_goals (intros; try (exfalso; omega))) | (apply St.condB; exact rfl; all_goals intros))
    exact ⟨rfl, MM.leaf hk1 hm1 hcb hU1 (by omega) hK1 hp⟩
end Go.Proofs.YtcefkbnachnciaaDoor
