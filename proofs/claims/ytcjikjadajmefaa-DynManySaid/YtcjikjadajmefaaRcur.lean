/-
  The contracts of the reference's cursor, and of the ranges of addresses in both texts.
-/
import Derived.Test.YtcjikjadajmefaaCur
namespace Go.Proofs.Ytcjikjadajmefaa
open Go.RowKit Go.Pt

/-- the reference's cursor: bytes, a place, has it failed: what is taken, the place, has it failed -/
def rTake (l : List UInt8) (p : Nat) (bad : Bool) (n : Int) : List UInt8 × Nat × Bool :=
  if bad = true ∨ n < 0 ∨ (l.length : Int) - p < n then ([], p, true) else ((l.drop p).take n.toNat, p + n.toNat, false)

def RTakePost (w : World) (c : Nat) (v : Value) (l : List UInt8) (p : Nat) (bad : Bool) (n : Int) (e : Ending) (w' : World) : Prop :=
  ∃ x, e = .returned x ∧ Hp w [⟨c, [v, .int .i64 (rTake l p bad n).2.1, .bool (rTake l p bad n).2.2], 98⟩] w' ∧ ∀ u, Bs u v l → Bs u x (rTake l p bad n).1

set_option maxHeartbeats 400000 in
theorem rtake_any (c : Nat) (v : Value) (l : List UInt8) (p : Nat) (bad : Bool) (n : Int) (w u : World) (h : w.heap[c]? = some (.cells #[v, .int .i64 p, .bool bad] 98 (0,0))) (hv : Bs u v l) (hpl : p ≤ l.length) :
    Calls Try.prog 34 #[.pointer (some ⟨c, 0, none⟩), .int .i64 n] w (RTakePost w c v l p bad n) := by
  obtain ⟨a, cap, rfl, hl, hm⟩ := hv.shape
  unfold maxLen at hm
  refine enter (args := [_, _]) (Γ := [(0, _), (1, _)]) Try.func34 Try.ntmps34 rfl (of_decide_eq_true rfl) (.cons rfl (.cons rfl .nil)) ?_
  refine St.cls (C' := Hp w [⟨c, [.slice a l.length cap, .int .i64 p, .bool bad], 98⟩]) (fun _ h' => Hp.open h' h) ?_
  repeat' (first | (apply Wl.move; exact rfl; exact rfl) | (apply Wl.assign; exact rfl; exact rfl) | (apply Wl.on; exact rfl; exact rfl; (first | rfl | assumption)) | (apply Wl.off; exact rfl; exact rfl; exact rfl; (first | rfl | assumption)) | (apply Wl.nilCheck; exact rfl; exact rfl) | (apply Wl.pickT; exact rfl; exact rfl; (first | rfl | assumption); exact rfl) | (apply Wl.pickF; exact rfl; exact rfl; (first | rfl | assumption); exact rfl) | (apply Wl.fieldAddr0; exact rfl; exact rfl) | (apply Wl.fieldAddrZ; exact rfl; exact rfl) | (apply Wl.loadH; exact rfl; exact rfl; (repeat (first | exact List.Mem.head _ | apply List.Mem.tail)); exact rfl) | (apply Wl.lss; exact rfl; exact rfl; exact rfl) | (apply Wl.gtr; exact rfl; exact rfl; exact rfl) | (apply Wl.addI; exact rfl; exact rfl; exact rfl; (constructor <;> omega)) | (apply Wl.subI; exact rfl; exact rfl; exact rfl; (constructor <;> omega)) | (apply Wl.len; exact rfl; exact rfl) | (apply Wl.store; exact rfl; exact rfl; exact rfl; (repeat (first | apply HSet.here | apply HSet.there)); (repeat (first | apply LSet.z | apply LSet.s))) | (apply Wl.sliceFull; exact rfl; exact rfl; (first | exact BoundIs.no | exact BoundIs.yes rfl (by omega)); (first | exact BoundIs.no | exact BoundIs.yes rfl (by omega)); (first | exact BoundIs.no | exact BoundIs.yes rfl (by omega)); (first | exact fun _ => rfl | exact fun h => nomatch h); (omega); (omega); (omega)) | (apply Wl.nil) | (apply Wl.nilQ) | (apply St.seq) | (apply St.region) | (apply St.draw; exact mixed; (kernel_rfl); exact (fun _ h => Hp.drew h)) | (apply St.condT; exact rfl; (first | rfl | assumption)) | (apply St.ret) | (apply St.skip) | (apply Gt.next) | (apply Gt.thenRet) | (apply Gt.out1; exact rfl; exact rfl; intro w' hp) | (apply Wl.splitP; exact rfl; exact rfl; all_goals (intros; try (exfalso; omega))) | (apply Wl.splitB; exact rfl; exact rfl; all_goals intros) | (apply St.condP; exact rfl; all_goals (intros; try (exfalso; omega))) | (apply St.condB; exact rfl; all_goals intros))
  · have e : rTake l p bad n = ([], p, true) := if_pos (.inl ‹bad = true›)
    rw [RTakePost, e]; exact ⟨_, rfl, hp, fun u _ => Bs.nil u⟩
  · have e : rTake l p bad n = ([], p, true) := if_pos (.inr (.inl ‹n < 0›))
    rw [RTakePost, e]; exact ⟨_, rfl, hp, fun u _ => Bs.nil u⟩
  · have e : rTake l p bad n = ([], p, true) := if_pos (.inr (.inr ‹(l.length : Int) - p < n›))
    rw [RTakePost, e]; exact ⟨_, rfl, hp, fun u _ => Bs.nil u⟩
  · have hb : bad = false := ‹bad = false›
    subst hb
    have e : rTake l p false n = ((l.drop p).take n.toNat, p + n.toNat, false) := if_neg (by simp; omega)
    obtain ⟨m, rfl⟩ := Int.eq_ofNat_of_zero_le (show 0 ≤ n by omega)
    rw [RTakePost, e]
    have e1 : ((p : Int) + m - m).toNat = p := by omega
    have e2 : ((p : Int) + m).toNat = p + m := by omega
    simp only [e1, e2, Int.toNat_natCast]
    refine ⟨_, rfl, hp, fun u hu => ?_⟩
    have := hu.sub (lo := p) (hi := p + m) (mx := cap) (by omega) (by omega) (by omega) (by omega)
    rw [List.drop_take] at this
    rwa [show p + m - p = m by omega] at this ⊢

def RNumPost (w : World) (c : Nat) (v : Value) (l : List UInt8) (p : Nat) (bad : Bool) (n : Nat) (e : Ending) (w' : World) : Prop :=
  e = .returned (.int .i64 (leN (rTake l p bad n).1 : Nat)) ∧ Hp w [⟨c, [v, .int .i64 (rTake l p bad n).2.1, .bool (rTake l p bad n).2.2], 98⟩] w'

theorem rTake_len (l : List UInt8) (p : Nat) (bad : Bool) (n : Nat) : (rTake l p bad n).1.length ≤ n := by
  unfold rTake; split <;> simp; omega

set_option maxHeartbeats 400000 in
theorem rnum_any (c : Nat) (v : Value) (l : List UInt8) (p : Nat) (bad : Bool) (n : Nat) (hn : n ≤ 4) (w : World) (h : w.heap[c]? = some (.cells #[v, .int .i64 p, .bool bad] 98 (0,0))) (hv : Bs w v l) (hpl : p ≤ l.length) :
    Calls Try.prog 29 #[.pointer (some ⟨c, 0, none⟩), .int .i64 n] w (RNumPost w c v l p bad n) := by
  refine enter (args := [_, _]) (Γ := [(0, _), (1, _)]) Try.func29 Try.ntmps29 rfl (of_decide_eq_true rfl) (.cons rfl (.cons rfl .nil)) ?_
  refine St.cls (C' := Hp w [⟨c, [v, .int .i64 p, .bool bad], 98⟩]) (fun _ h' => Hp.open h' h) ?_
  repeat' (first | (apply Wl.move; exact rfl; exact rfl) | (apply Wl.assign; exact rfl; exact rfl) | (apply Wl.nil) | (apply St.seq) | (apply St.region) | (apply Gt.next) | (apply Wl.splitP; exact rfl; exact rfl; all_goals (intros; try (exfalso; omega))) | (apply Wl.splitB; exact rfl; exact rfl; all_goals intros) | (apply St.condP; exact rfl; all_goals (intros; try (exfalso; omega))) | (apply St.condB; exact rfl; all_goals intros))
  apply Wl.callC
  exact rfl
  (repeat (first | exact Evs.nil | apply Evs.cons rfl))
  intro w1 h1
  refine (rtake_any c v l p bad n w1 w (h1.own.at (by (repeat (first | exact List.Mem.head _ | apply List.Mem.tail)))) hv hpl).mono ?_
  rintro e w2 ⟨x, rfl, hp, hx⟩
  refine ⟨_, _, rfl, h1.callSet (by (repeat (first | apply HSet.here | apply HSet.there))) hp, ?_⟩
  have hxb := hx w hv
  obtain ⟨a, cap, rfl, hl, hm⟩ := hxb.shape
  have ht4 := rTake_len l p bad n
  generalize ht : (rTake l p bad n).1 = t at *
  repeat' (first | (apply Wl.move; exact rfl; exact rfl) | (apply Wl.assign; exact rfl; exact rfl) | (apply Wl.subI; exact rfl; exact rfl; exact rfl; (constructor <;> omega)) | (apply Wl.len; exact rfl; exact rfl) | (apply Wl.nil) | (apply St.seq) | (apply St.block) | (apply St.region) | (apply Gt.next) | (apply Wl.splitP; exact rfl; exact rfl; all_goals (intros; try (exfalso; omega))) | (apply Wl.splitB; exact rfl; exact rfl; all_goals intros) | (apply St.condP; exact rfl; all_goals (intros; try (exfalso; omega))) | (apply St.condB; exact rfl; all_goals intros))
  refine St.loop (σ := Nat) (fun k => k ≤ t.length) (fun k => [(5, .int .i64 (leN (t.drop k) : Nat)), (6, .slice a t.length cap), (7, .int .i64 ((k : Int) - 1))]) (fun _ => Hp w [⟨c, [v, .int .i64 (rTake l p bad n).2.1, .bool (rTake l p bad n).2.2], 98⟩]) (fun k => k)
    t.length (Nat.le_refl _) (Sub.cons' rfl (by simp [leN]) (by (repeat (first | exact Sub.nil | apply Sub.cons rfl)))) (fun _ h => h) ?_
  intro k hk
  have hlen := leN_lt (t.drop k)
  have hp3 : (256 : Nat) ^ (t.drop k).length ≤ 256 ^ 4 := Nat.pow_le_pow_right (by omega) (by simp; omega)
  repeat' (first | (apply Wl.move; exact rfl; exact rfl) | (apply Wl.assign; exact rfl; exact rfl) | (apply Wl.geq; exact rfl; exact rfl; exact rfl) | (apply Wl.mulI; exact rfl; exact rfl; exact rfl; (constructor <;> omega)) | (apply Wl.nil) | (apply St.seq) | (apply St.block) | (apply St.region) | (apply St.ret) | (apply St.skip) | (apply St.exit) | (apply Gt.next) | (apply Gt.thenExit) | (apply Gt.inExit) | (apply Gt.out1; exact rfl; exact rfl; intro w' hp) | (apply Wl.splitP; exact rfl; exact rfl; all_goals (intros; try (exfalso; omega))) | (apply Wl.splitB; exact rfl; exact rfl; all_goals intros) | (apply St.condP; exact rfl; all_goals (intros; try (exfalso; omega))) | (apply St.condB; exact rfl; all_goals intros))
  · obtain ⟨k, rfl⟩ : ∃ j, k = j + 1 := ⟨k - 1, by omega⟩
    have hlt : k < t.length := by omega
    obtain ⟨b, off, rfl, hc⟩ := hxb.cells (List.ne_nil_of_length_pos (by omega))
    have hck := hc k hlt
    have hcb : c ≠ b := fun e => by
      subst e
      have h0 := hc 0 (by omega)
      rw [cellAt h] at h0
      obtain ⟨a', cap', rfl, _⟩ := hv.shape
      rcases off with _ | _ | _ | off <;> simp at h0
    have ek : ((k + 1 : Nat) : Int) - 1 = k := by omega
    rw [ek]
    have hb := t[k].toNat_lt
    repeat' (first | (apply Wl.move; exact rfl; exact rfl) | (apply Wl.assign; exact rfl; exact rfl) | (apply Wl.loadO; exact rfl; exact rfl; (assumption); (repeat (first | exact trivial | refine ⟨by first | assumption | omega, ?_⟩))) | (apply Wl.addI; exact rfl; exact rfl; exact rfl; (constructor <;> omega)) | (apply Wl.subI; exact rfl; exact rfl; exact rfl; (constructor <;> omega)) | (apply Wl.convI64; exact rfl; exact rfl; (constructor <;> omega)) | (apply Wl.indexAddr1; exact rfl; exact rfl; exact rfl; (constructor <;> omega)) | (apply Wl.nil) | (apply St.region) | (apply Gt.next) | (apply Gt.inNormal) | (apply Wl.splitP; exact rfl; exact rfl; all_goals (intros; try (exfalso; omega))) | (apply Wl.splitB; exact rfl; exact rfl; all_goals intros) | (apply St.condP; exact rfl; all_goals (intros; try (exfalso; omega))) | (apply St.condB; exact rfl; all_goals intros))
    refine Gt.round k (by omega) (by omega) (Sub.cons' rfl ?_ (by (repeat (first | exact Sub.nil | apply Sub.cons rfl)))) (fun _ h => h)
    congr 1
    rw [List.drop_eq_getElem_cons hlt]
    simp only [leN]
    omega
  · have : k = 0 := by omega
    subst this
    exact ⟨by rw [ht]; simp, hp⟩

/-! ### ranges of addresses -/
def inB (a n b m : Int) : Bool := decide (b ≤ a ∧ a + n ≤ b + m)
def apB (a n b m : Int) : Bool := decide (n = 0 ∨ m = 0 ∨ a + n ≤ b ∨ b + m ≤ a)
def U32 (x : Int) : Prop := 0 ≤ x ∧ x ≤ 4294967295
instance (x : Int) : Decidable (U32 x) := by unfold U32; infer_instance

set_option maxHeartbeats 400000 in
theorem within_any (a n b m : Int) (w : World) (ha : U32 a) (hn : U32 n) (hb : U32 b) (hm : U32 m) :
    Calls Try.prog 31 #[.int .u32 a, .int .u32 n, .int .u32 b, .int .u32 m] w fun e w' => e = .returned (.bool (inB a n b m)) ∧ Hp w [] w' := by
  unfold U32 at *
  refine enter (args := [_, _, _, _]) (Γ := [(0, _), (1, _), (2, _), (3, _)]) Try.func31 Try.ntmps31 rfl (of_decide_eq_true rfl) (.cons rfl (.cons rfl (.cons rfl (.cons rfl .nil)))) ?_
  repeat' (first | (apply Wl.move; exact rfl; exact rfl) | (apply Wl.assign; exact rfl; exact rfl) | (apply Wl.on; exact rfl; exact rfl; (first | rfl | assumption)) | (apply Wl.off; exact rfl; exact rfl; exact rfl; (first | rfl | assumption)) | (apply Wl.pickT; exact rfl; exact rfl; (first | rfl | assumption); exact rfl) | (apply Wl.pickF; exact rfl; exact rfl; (first | rfl | assumption); exact rfl) | (apply Wl.leq; exact rfl; exact rfl; exact rfl) | (apply Wl.geq; exact rfl; exact rfl; exact rfl) | (apply Wl.addU; exact rfl; exact rfl; exact rfl; (constructor <;> omega)) | (apply Wl.convU64; exact rfl; exact rfl; (constructor <;> omega)) | (apply Wl.nil) | (apply St.seq) | (apply St.region) | (apply St.ret) | (apply Gt.next) | (apply Gt.out1; exact rfl; exact rfl; intro w' hp) | (apply Wl.splitP; exact rfl; exact rfl; all_goals (intros; try (exfalso; omega))) | (apply Wl.splitB; exact rfl; exact rfl; all_goals intros) | (apply St.condP; exact rfl; all_goals (intros; try (exfalso; omega))) | (apply St.condB; exact rfl; all_goals intros))
  all_goals refine ⟨congrArg (fun b => Ending.returned (.bool b)) ?_, hp⟩; unfold inB; rw [Bool.eq_iff_iff]; simp only [decide_eq_true_eq, Bool.false_eq_true, true_iff, false_iff]; omega
end Go.Proofs.Ytcjikjadajmefaa
