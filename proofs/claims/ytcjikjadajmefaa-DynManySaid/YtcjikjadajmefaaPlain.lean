/-
  porticolaw08.Plain: a file of one segment. Conditions: at most 100000 bytes.
-/
import Derived.Test.YtcjikjadajmefaaFile
namespace Go.Proofs.Ytcjikjadajmefaa
open Go.RowKit Go.Pt

theorem and_not3 (x : Nat) (hx : x < 18446744073709551616) : x &&& 18446744073709551612 = x / 4 * 4 := by
  apply Nat.eq_of_testBit_eq
  intro i
  rw [Nat.testBit_and]
  match i with
  | 0 =>
    rw [Nat.testBit_zero, Nat.testBit_zero, Nat.testBit_zero]
    have : x / 4 * 4 % 2 = 0 := by omega
    simp [this]
  | 1 =>
    rw [Nat.testBit_succ, Nat.testBit_zero, Nat.testBit_succ, Nat.testBit_zero, Nat.testBit_succ, Nat.testBit_zero]
    have : x / 4 * 4 / 2 % 2 = 0 := by omega
    simp [this]
  | i + 2 =>
    rw [Nat.testBit_succ, Nat.testBit_succ, Nat.testBit_succ, Nat.testBit_succ, Nat.testBit_succ, Nat.testBit_succ, show 18446744073709551612 / 2 / 2 = 2 ^ 62 - 1 by decide, Nat.testBit_two_pow_sub_one,
      show x / 4 * 4 / 2 / 2 = x / 4 by omega, show x / 2 / 2 = x / 4 by omega]
    by_cases hi : i < 62
    · simp [hi]
    · have : (x / 4).testBit i = false := Nat.testBit_lt_two_pow (Nat.lt_of_lt_of_le (show x / 4 < 2 ^ 62 by omega) (Nat.pow_le_pow_right (by omega) (by omega)))
      simp [this]
theorem i64_andNot3 (x : Nat) (hx : x < 4611686018427387904) : bits .andNot .i64 (x : Int) 3 = ((x / 4 * 4 : Nat) : Int) := by
  show IntKind.i64.wrap ((BitVec.ofInt 64 (x : Int) &&& ~~~BitVec.ofInt 64 3).toNat : Int) = _
  have h1 : (BitVec.ofInt 64 3).toNat = 3 := by decide
  have h2 : (BitVec.ofInt 64 (x : Int)).toNat = x := by rw [BitVec.toNat_ofInt]; omega
  rw [BitVec.toNat_and, BitVec.toNat_not, h2, h1, show 2 ^ 64 - 1 - 3 = 18446744073709551612 by decide, and_not3 x (by omega), IntKind.wrap_i64]
  omega
theorem Sv.ofBlk {w : World} {c sz n : Nat} {cs : List Value} {t : TypeId} {fr : Nat × Nat} (h : w.heap[c]? = some (.cells cs.toArray t fr)) (hl : cs.length = n * sz) (hn : n ≤ maxLen) : Sv w sz n (.slice (some ⟨c, 0, none⟩) n n) cs := by
  refine ⟨hl, _, _, rfl, Nat.le_refl _, hn, fun e => (by cases e), fun _ => ⟨c, 0, rfl, fun i hi => ?_⟩⟩
  rw [cellAt h]
  simp [hi]
/-- the bytes of Plain -/
def plainB (b : List UInt8) : List UInt8 := fileB 0 [⟨1, 0, (b.length + 7) / 4 * 4, 5⟩] [b]

set_option maxHeartbeats 400000 in
theorem plain_any (v : Value) (b : List UInt8) (w : World) (hv : Bs w v b) (hl : b.length ≤ 100000) :
    Calls Try.prog 11 #[v] w fun e w' => ∃ v', e = .returned v' ∧ Bo w' w.heap.size v' (plainB b) ∧ Upd (fun k => w.heap.size ≤ k) w w' := by
  obtain ⟨a, cap, rfl, hlc, hm⟩ := hv.shape
  unfold maxLen at hm
  refine enter (args := [_]) (Γ := [(0, _)]) Try.func11 Try.ntmps11 rfl (of_decide_eq_true rfl) (.cons rfl .nil) ?_
  repeat' (first | (apply Wl.move; exact rfl; exact rfl) | (apply Wl.assign; exact rfl; exact rfl) | (apply Wl.addI; exact rfl; exact rfl; exact rfl; (constructor <;> omega)) | (apply Wl.andNot; exact rfl; exact rfl; exact rfl) | (apply Wl.len; exact rfl; exact rfl) | (apply Wl.buildS; exact rfl; (repeat (first | exact Parts.nil | apply Parts.cons rfl)); (repeat (first | apply Fills.nil | (apply Fills.one; exact rfl; exact rfl; (repeat (first | apply LSet.z | apply LSet.s))) | (apply Fills.agg; exact rfl; exact rfl; (repeat (first | apply LPut.s | apply LPut.z | apply LOver.nil | apply LOver.cons)))))) | (apply Wl.lit; exact rfl; (repeat (first | exact Parts.nil | apply Parts.cons rfl)); exact rfl; exact rfl; (repeat (first | apply CatP.nil | (apply CatP.one; exact rfl; exact rfl) | (apply CatP.agg; exact rfl) | apply LApp.nil | apply LApp.cons)); intro c hc ho) | (apply Wl.nil) | (apply St.seq) | (apply St.region) | (apply Gt.next) | (apply Wl.splitP; exact rfl; exact rfl; all_goals (intros; try (exfalso; omega))) | (apply Wl.splitB; exact rfl; exact rfl; all_goals intros) | (apply St.condP; exact rfl; all_goals (intros; try (exfalso; omega))) | (apply St.condB; exact rfl; all_goals intros))
  have e1 : bits .andNot .i64 ((b.length : Int) + 7) 3 = (((b.length + 7) / 4 * 4 : Nat) : Int) := by
    rw [← i64_andNot3 (b.length + 7) (by omega)]; rfl
  rw [e1]
  rename_i c1 hc1 ho1
  apply Wl.call
  exact rfl
  (repeat (first | exact Evs.nil | apply Evs.cons rfl))
  intro wq hq
  refine (file_any 0 _ _ [⟨1, 0, (b.length + 7) / 4 * 4, 5⟩] [b] wq (by decide) ?_ ?_ rfl (by simp) (by simpa using by omega) ?_).mono ?_
  · exact Sv.ofBlk (hq.own.at (.tail _ (.head _))) rfl (by unfold maxLen; simp)
  · exact ⟨[.slice a b.length cap], rfl, Sv.ofBlk (hq.own.at (.head _)) rfl (by unfold maxLen; simp), fun i x l hx hm => by
      cases i with
      | zero =>
        simp only [List.getElem?_cons_zero, Option.some.injEq] at hx hm
        subst hx; subst hm
        exact hv.upd (hq.drop (by simp; omega)).upd fun _ _ _ _ y => y trivial
      | succ i => simp at hx⟩
  · intro x hx
    rw [List.mem_singleton] at hx
    subst hx
    simp only
    omega
  · rintro e wr ⟨v', rfl, hb, hu⟩
    refine ⟨_, rfl, ?_⟩
    repeat' (first | (apply Wl.assign; exact rfl; exact rfl) | (apply Wl.nil) | (apply St.ret) | (apply Gt.next) | (apply Gt.out1; exact rfl; exact rfl; intro w' hp) | (apply Wl.splitP; exact rfl; exact rfl; all_goals (intros; try (exfalso; omega))) | (apply Wl.splitB; exact rfl; exact rfl; all_goals intros) | (apply St.condP; exact rfl; all_goals (intros; try (exfalso; omega))) | (apply St.condB; exact rfl; all_goals intros))
    have hq0 := hq.drop (by simp; omega)
    refine ⟨_, rfl, Bo.less (hb.upd hp.upd fun _ _ y => y trivial) hq0.ext.size, (bag_call hq0 hu hp).mono fun _ _ y => y.elim⟩
end Go.Proofs.Ytcjikjadajmefaa
