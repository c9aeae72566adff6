/-
  The contracts of package bytes' cursor: what each method returns and what becomes of the cursor.
-/
import Derived.Test.YtcjikjadajmefaaFacts
namespace Go.Proofs.Ytcjikjadajmefaa
open Go.RowKit Go.Pt

/-- what is taken, what is left, has it failed -/
def cTake (l : List UInt8) (bad : Bool) (n : Int) : List UInt8 × List UInt8 × Bool :=
  if bad = true ∨ n < 0 ∨ (l.length : Int) < n then ([], [], true) else (l.take n.toNat, l.drop n.toNat, false)

/-- what the cursor's block holds -/
abbrev curT : Nat := 105

/-- what a call of Take may leave -/
def TakePost (w : World) (c : Nat) (v : Value) (l : List UInt8) (bad : Bool) (n : Int) (e : Ending) (w' : World) : Prop :=
  ∃ x v', e = .returned x ∧ Hp w [⟨c, [v', .bool (cTake l bad n).2.2], 105⟩] w' ∧ ∀ u, Bs u v l → Bs u x (cTake l bad n).1 ∧ Bs u v' (cTake l bad n).2.1

set_option maxHeartbeats 400000 in
theorem take_any (c : Nat) (v : Value) (l : List UInt8) (bad : Bool) (n : Int) (w u : World) (h : w.heap[c]? = some (.cells #[v, .bool bad] 105 (0,0))) (hv : Bs u v l) :
    Calls Try.prog 23 #[.pointer (some ⟨c, 0, none⟩), .int .i64 n] w (TakePost w c v l bad n) := by
  obtain ⟨a, cap, rfl, hl, hm⟩ := hv.shape
  unfold maxLen at hm
  refine enter (args := [_, _]) (Γ := [(0, _), (1, _)]) Try.func23 Try.ntmps23 rfl (of_decide_eq_true rfl) (.cons rfl (.cons rfl .nil)) ?_
  refine St.cls (C' := Hp w [⟨c, [.slice a l.length cap, .bool bad], 105⟩]) (fun _ h' => Hp.open h' h) ?_
  repeat' (first | (apply Wl.move; exact rfl; exact rfl) | (apply Wl.assign; exact rfl; exact rfl) | (apply Wl.on; exact rfl; exact rfl; (first | rfl | assumption)) | (apply Wl.off; exact rfl; exact rfl; exact rfl; (first | rfl | assumption)) | (apply Wl.nilCheck; exact rfl; exact rfl) | (apply Wl.pickT; exact rfl; exact rfl; (first | rfl | assumption); exact rfl) | (apply Wl.pickF; exact rfl; exact rfl; (first | rfl | assumption); exact rfl) | (apply Wl.fieldAddr0; exact rfl; exact rfl) | (apply Wl.fieldAddrZ; exact rfl; exact rfl) | (apply Wl.loadH; exact rfl; exact rfl; (repeat (first | exact List.Mem.head _ | apply List.Mem.tail)); exact rfl) | (apply Wl.eqlPN; exact rfl; exact rfl; exact rfl) | (apply Wl.lss; exact rfl; exact rfl; exact rfl) | (apply Wl.gtr; exact rfl; exact rfl; exact rfl) | (apply Wl.len; exact rfl; exact rfl) | (apply Wl.store; exact rfl; exact rfl; exact rfl; (repeat (first | apply HSet.here | apply HSet.there)); (repeat (first | apply LSet.z | apply LSet.s))) | (apply Wl.slice0; exact rfl; exact rfl; (first | exact BoundIs.no | exact BoundIs.yes rfl (by omega)); (first | exact BoundIs.no | exact BoundIs.yes rfl (by omega)); (first | exact fun _ => rfl | exact fun h => nomatch h); (omega); (omega)) | (apply Wl.sliceFull; exact rfl; exact rfl; (first | exact BoundIs.no | exact BoundIs.yes rfl (by omega)); (first | exact BoundIs.no | exact BoundIs.yes rfl (by omega)); (first | exact BoundIs.no | exact BoundIs.yes rfl (by omega)); (first | exact fun _ => rfl | exact fun h => nomatch h); (omega); (omega); (omega)) | (apply Wl.nil) | (apply St.seq) | (apply St.region) | (apply St.condT; exact rfl; (first | rfl | assumption)) | (apply St.condF; exact rfl; (first | rfl | assumption)) | (apply St.ret) | (apply St.skip) | (apply Gt.next) | (apply Gt.thenRet) | (apply Gt.out1; exact rfl; exact rfl; intro w' hp) | (apply Wl.splitP; exact rfl; exact rfl; all_goals (intros; try (exfalso; omega))) | (apply Wl.splitB; exact rfl; exact rfl; all_goals intros) | (apply St.condP; exact rfl; all_goals (intros; try (exfalso; omega))) | (apply St.condB; exact rfl; all_goals intros))
  · have e : cTake l bad n = ([], [], true) := if_pos (.inl ‹bad = true›)
    rw [TakePost, e]; exact ⟨_, _, rfl, hp, fun u _ => ⟨Bs.nil u, Bs.nil u⟩⟩
  · have e : cTake l bad n = ([], [], true) := if_pos (.inr (.inl ‹n < 0›))
    rw [TakePost, e]; exact ⟨_, _, rfl, hp, fun u _ => ⟨Bs.nil u, Bs.nil u⟩⟩
  · have e : cTake l bad n = ([], [], true) := if_pos (.inr (.inr ‹(l.length : Int) < n›))
    rw [TakePost, e]; exact ⟨_, _, rfl, hp, fun u _ => ⟨Bs.nil u, Bs.nil u⟩⟩
  · have hb : bad = false := ‹bad = false›
    subst hb
    have e : cTake l false n = (l.take n.toNat, l.drop n.toNat, false) := if_neg (by simp; omega)
    rw [TakePost, e]
    refine ⟨_, _, rfl, hp, fun u hu => ⟨?_, ?_⟩⟩
    · have := hu.sub (lo := 0) (hi := n.toNat) (mx := n.toNat) (by omega) (by omega) (by omega) (by omega)
      have e2 : (if n.toNat = 0 then a else a.map (·.add (0 * 1))) = a := by split <;> cases a <;> simp [Addr.add]
      rw [e2] at this; simpa using this
    · have := hu.sub (lo := n.toNat) (hi := l.length) (mx := cap) (by omega) (by omega) (by omega) (by omega)
      simpa using this

theorem cTake_len (l : List UInt8) (bad : Bool) (n : Nat) : (cTake l bad n).1.length ≤ n := by
  unfold cTake; split <;> simp; omega
theorem numPost_lt (l : List UInt8) (bad : Bool) (n : Nat) (h : n ≤ 4) : (leN (cTake l bad n).1 : Int) ≤ 4294967295 := by
  have h1 := leN_lt (cTake l bad n).1
  have h2 : (256 : Nat) ^ (cTake l bad n).1.length ≤ 256 ^ 4 := Nat.pow_le_pow_right (by omega) (Nat.le_trans (cTake_len l bad n) h)
  omega
/-- what a reader of n bytes leaves: a number -/
def NumPost (w : World) (c : Nat) (v : Value) (l : List UInt8) (bad : Bool) (n : Nat) (k : IntKind) (e : Ending) (w' : World) : Prop :=
  ∃ v', e = .returned (.int k (leN (cTake l bad n).1 : Nat)) ∧ Hp w [⟨c, [v', .bool (cTake l bad n).2.2], 105⟩] w' ∧ ∀ u, Bs u v l → Bs u v' (cTake l bad n).2.1

set_option maxHeartbeats 400000 in
theorem number_any (c : Nat) (v : Value) (l : List UInt8) (bad : Bool) (n : Nat) (hn : n ≤ 4) (w : World) (h : w.heap[c]? = some (.cells #[v, .bool bad] 105 (0,0))) (hv : Bs w v l) :
    Calls Try.prog 32 #[.pointer (some ⟨c, 0, none⟩), .int .i64 n] w (NumPost w c v l bad n .u32) := by
  refine enter (args := [_, _]) (Γ := [(0, _), (1, _)]) Try.func32 Try.ntmps32 rfl (of_decide_eq_true rfl) (.cons rfl (.cons rfl .nil)) ?_
  refine St.cls (C' := Hp w [⟨c, [v, .bool bad], 105⟩]) (fun _ h' => Hp.open h' h) ?_
  repeat' (first | (apply Wl.move; exact rfl; exact rfl) | (apply Wl.assign; exact rfl; exact rfl) | (apply Wl.nil) | (apply St.seq) | (apply St.region) | (apply Gt.next) | (apply Wl.splitP; exact rfl; exact rfl; all_goals (intros; try (exfalso; omega))) | (apply Wl.splitB; exact rfl; exact rfl; all_goals intros) | (apply St.condP; exact rfl; all_goals (intros; try (exfalso; omega))) | (apply St.condB; exact rfl; all_goals intros))
  apply Wl.callC
  exact rfl
  (repeat (first | exact Evs.nil | apply Evs.cons rfl))
  intro w1 h1
  refine (take_any c v l bad n w1 w (h1.own.at (by (repeat (first | exact List.Mem.head _ | apply List.Mem.tail)))) hv).mono ?_
  rintro e w2 ⟨x, v', rfl, hp, hx⟩
  refine ⟨_, _, rfl, h1.callSet (by (repeat (first | apply HSet.here | apply HSet.there))) hp, ?_⟩
  obtain ⟨hxb, hvb⟩ := hx w hv
  obtain ⟨a, cap, rfl, hl, hm⟩ := hxb.shape
  repeat' (first | (apply Wl.move; exact rfl; exact rfl) | (apply Wl.len; exact rfl; exact rfl) | (apply Wl.nil) | (apply St.block) | (apply Gt.next) | (apply Wl.splitP; exact rfl; exact rfl; all_goals (intros; try (exfalso; omega))) | (apply Wl.splitB; exact rfl; exact rfl; all_goals intros) | (apply St.condP; exact rfl; all_goals (intros; try (exfalso; omega))) | (apply St.condB; exact rfl; all_goals intros))
  generalize ht : (cTake l bad n).1 = t at *
  have ht4 : t.length ≤ 4 := by subst ht; unfold cTake; split <;> simp; omega
  refine St.loop (σ := Nat) (fun k => k ≤ t.length) (fun k => [(5, .int .u32 (leN (t.take k) : Nat)), (10, .slice a t.length cap), (11, .int .i64 t.length), (12, .int .i64 k)]) (fun _ => Hp w [⟨c, [v', .bool (cTake l bad n).2.2], 105⟩]) (fun k => t.length - k)
    0 (Nat.zero_le _) (by (repeat (first | exact Sub.nil | apply Sub.cons rfl))) (fun _ h => h) ?_
  intro k hk
  repeat' (first | (apply Wl.move; exact rfl; exact rfl) | (apply Wl.assign; exact rfl; exact rfl) | (apply Wl.lss; exact rfl; exact rfl; exact rfl) | (apply Wl.nil) | (apply St.seq) | (apply St.block) | (apply St.region) | (apply St.ret) | (apply St.skip) | (apply St.exit) | (apply Gt.next) | (apply Gt.thenExit) | (apply Gt.inExit) | (apply Gt.out1; exact rfl; exact rfl; intro w' hp) | (apply Wl.splitP; exact rfl; exact rfl; all_goals (intros; try (exfalso; omega))) | (apply Wl.splitB; exact rfl; exact rfl; all_goals intros) | (apply St.condP; exact rfl; all_goals (intros; try (exfalso; omega))) | (apply St.condB; exact rfl; all_goals intros))
  · have hlt : k < t.length := by omega
    obtain ⟨b, off, rfl, hc⟩ := hxb.cells (List.ne_nil_of_length_pos (by omega))
    have hck := hc k hlt
    have hcb : c ≠ b := fun e => by
      subst e
      have h0 := hc 0 (by omega)
      rw [cellAt h] at h0
      obtain ⟨a', cap', rfl, _⟩ := hv.shape
      rcases off with _ | _ | off <;> simp at h0
    repeat' (first | (apply Wl.move; exact rfl; exact rfl) | (apply Wl.assign; exact rfl; exact rfl) | (apply Wl.loadO; exact rfl; exact rfl; (assumption); (repeat (first | exact trivial | refine ⟨by first | assumption | omega, ?_⟩))) | (apply Wl.addI; exact rfl; exact rfl; exact rfl; (constructor <;> omega)) | (apply Wl.mulI; exact rfl; exact rfl; exact rfl; (constructor <;> omega)) | (apply Wl.or; exact rfl; exact rfl; exact rfl) | (apply Wl.shl; exact rfl; exact rfl; exact rfl; (omega)) | (apply Wl.convI; exact rfl; exact rfl) | (apply Wl.indexAddr1; exact rfl; exact rfl; exact rfl; (constructor <;> omega)) | (apply Wl.nil) | (apply St.region) | (apply Gt.next) | (apply Gt.inNormal) | (apply Wl.splitP; exact rfl; exact rfl; all_goals (intros; try (exfalso; omega))) | (apply Wl.splitB; exact rfl; exact rfl; all_goals intros) | (apply St.condP; exact rfl; all_goals (intros; try (exfalso; omega))) | (apply St.condB; exact rfl; all_goals intros))
    have hk4 : k < 4 := by omega
    refine Gt.round (k + 1) hlt (by omega) (Sub.cons' rfl ?_ (by (repeat (first | exact Sub.nil | apply Sub.cons rfl)))) (fun _ h => h)
    congr 1
    rw [List.take_succ_eq_append_getElem hlt, leN_append, List.length_take_of_le (by omega)]
    have hb := t[k].toNat_lt
    have ha := leN_lt (t.take k)
    rw [List.length_take_of_le (by omega)] at ha
    have e1 : (8 * (k : Int)).toNat = 8 * k := by omega
    have e2 : IntKind.u32.wrap (t[k].toNat : Int) = (t[k].toNat : Int) := IntWalk.u32_in _ (by omega)
    have hp8 : t[k].toNat * 2 ^ (8 * k) < 2 ^ 32 := by
      have : k = 0 ∨ k = 1 ∨ k = 2 ∨ k = 3 := by omega
      rcases this with rfl | rfl | rfl | rfl <;> simp <;> omega
    have e3 : min (8 * k) IntKind.u32.bits = 8 * k := Nat.min_eq_left (by simp [IntKind.bits]; omega)
    have e4 : IntKind.u32.wrap ((t[k].toNat : Int) * 2 ^ (8 * k)) = ((t[k].toNat * 2 ^ (8 * k) : Nat) : Int) := by
      rw [show ((t[k].toNat : Int) * 2 ^ (8 * k)) = ((t[k].toNat * 2 ^ (8 * k) : Nat) : Int) by simp]
      exact IntWalk.u32_in _ (by omega)
    have e5 : (256 : Nat) ^ k = 2 ^ (8 * k) := by rw [show (256 : Nat) = 2 ^ 8 from rfl, ← Nat.pow_mul]
    rw [e5] at ha
    have hp32 : (2 : Nat) ^ (8 * k) ≤ 2 ^ 32 := Nat.pow_le_pow_right (by omega) (by omega)
    rw [e2, e1, e3, e4, bitsOr_nat .u32 rfl _ _ (by simp only [IntKind.bits]; omega) (by simp only [IntKind.bits]; omega), or_disjoint _ _ _ ha, e5]
    simp [leN, Nat.mul_comm]
  · have : k = t.length := by omega
    subst this
    rw [List.take_length]
    exact ⟨v', by rw [ht], hp, fun u hu => (hx u hu).2⟩

set_option maxHeartbeats 400000 in
theorem u16_any (c : Nat) (v : Value) (l : List UInt8) (bad : Bool) (w : World) (h : w.heap[c]? = some (.cells #[v, .bool bad] 105 (0,0))) (hv : Bs w v l) :
    Calls Try.prog 35 #[.pointer (some ⟨c, 0, none⟩)] w (NumPost w c v l bad 2 .i64) := by
  have hlt := numPost_lt l bad 2 (by omega)
  refine enter (args := [_]) (Γ := [(0, _)]) Try.func35 Try.ntmps35 rfl (of_decide_eq_true rfl) (.cons rfl .nil) ?_
  repeat' (first | (apply Wl.move; exact rfl; exact rfl) | (apply Wl.assign; exact rfl; exact rfl) | (apply Wl.nil) | (apply St.seq) | (apply St.region) | (apply Gt.next) | (apply Wl.splitP; exact rfl; exact rfl; all_goals (intros; try (exfalso; omega))) | (apply Wl.splitB; exact rfl; exact rfl; all_goals intros) | (apply St.condP; exact rfl; all_goals (intros; try (exfalso; omega))) | (apply St.condB; exact rfl; all_goals intros))
  apply Wl.callC
  exact rfl
  (repeat (first | exact Evs.nil | apply Evs.cons rfl))
  intro w1 h1
  refine (number_any c v l bad 2 (by omega) w1 (h1.upd.heap h fun x => x trivial) (hv.upd h1.upd fun _ _ _ _ x => x trivial)).mono ?_
  rintro e w2 ⟨v', rfl, hp, hx⟩
  refine ⟨_, _, rfl, hp, ?_⟩
  repeat' (first | (apply Wl.assign; exact rfl; exact rfl) | (apply Wl.convI64; exact rfl; exact rfl; (constructor <;> omega)) | (apply Wl.nil) | (apply St.ret) | (apply Gt.next) | (apply Gt.out1; exact rfl; exact rfl; intro w' hp) | (apply Wl.splitP; exact rfl; exact rfl; all_goals (intros; try (exfalso; omega))) | (apply Wl.splitB; exact rfl; exact rfl; all_goals intros) | (apply St.condP; exact rfl; all_goals (intros; try (exfalso; omega))) | (apply St.condB; exact rfl; all_goals intros))
  exact ⟨v', rfl, ⟨(h1.upd.mono fun _ _ x => (x trivial).elim).trans hp.upd, hp.own, hp.apart⟩, hx⟩

set_option maxHeartbeats 400000 in
theorem u32_any (c : Nat) (v : Value) (l : List UInt8) (bad : Bool) (w : World) (h : w.heap[c]? = some (.cells #[v, .bool bad] 105 (0,0))) (hv : Bs w v l) :
    Calls Try.prog 22 #[.pointer (some ⟨c, 0, none⟩)] w (NumPost w c v l bad 4 .u32) := by
  have hlt := numPost_lt l bad 4 (by omega)
  refine enter (args := [_]) (Γ := [(0, _)]) Try.func22 Try.ntmps22 rfl (of_decide_eq_true rfl) (.cons rfl .nil) ?_
  repeat' (first | (apply Wl.move; exact rfl; exact rfl) | (apply Wl.assign; exact rfl; exact rfl) | (apply Wl.nil) | (apply St.seq) | (apply St.region) | (apply Gt.next) | (apply Wl.splitP; exact rfl; exact rfl; all_goals (intros; try (exfalso; omega))) | (apply Wl.splitB; exact rfl; exact rfl; all_goals intros) | (apply St.condP; exact rfl; all_goals (intros; try (exfalso; omega))) | (apply St.condB; exact rfl; all_goals intros))
  apply Wl.callC
  exact rfl
  (repeat (first | exact Evs.nil | apply Evs.cons rfl))
  intro w1 h1
  refine (number_any c v l bad 4 (by omega) w1 (h1.upd.heap h fun x => x trivial) (hv.upd h1.upd fun _ _ _ _ x => x trivial)).mono ?_
  rintro e w2 ⟨v', rfl, hp, hx⟩
  refine ⟨_, _, rfl, hp, ?_⟩
  repeat' (first | (apply Wl.assign; exact rfl; exact rfl) | (apply Wl.nil) | (apply St.ret) | (apply Gt.next) | (apply Gt.out1; exact rfl; exact rfl; intro w' hp) | (apply Wl.splitP; exact rfl; exact rfl; all_goals (intros; try (exfalso; omega))) | (apply Wl.splitB; exact rfl; exact rfl; all_goals intros) | (apply St.condP; exact rfl; all_goals (intros; try (exfalso; omega))) | (apply St.condB; exact rfl; all_goals intros))
  exact ⟨v', rfl, ⟨(h1.upd.mono fun _ _ x => (x trivial).elim).trans hp.upd, hp.own, hp.apart⟩, hx⟩

set_option maxHeartbeats 400000 in
theorem bad_any (c : Nat) (v : Value) (bad : Bool) (w : World) (h : w.heap[c]? = some (.cells #[v, .bool bad] 105 (0,0))) :
    Calls Try.prog 21 #[.pointer (some ⟨c, 0, none⟩)] w fun e w' => e = .returned (.bool bad) ∧ Hp w [] w' := by
  refine enter (args := [_]) (Γ := [(0, _)]) Try.func21 Try.ntmps21 rfl (of_decide_eq_true rfl) (.cons rfl .nil) ?_
  have h1 := cellAt h 1
  simp at h1
  repeat' (first | (apply Wl.move; exact rfl; exact rfl) | (apply Wl.assign; exact rfl; exact rfl) | (apply Wl.on; exact rfl; exact rfl; (first | rfl | assumption)) | (apply Wl.nilCheck; exact rfl; exact rfl) | (apply Wl.pickF; exact rfl; exact rfl; (first | rfl | assumption); exact rfl) | (apply Wl.fieldAddrZ; exact rfl; exact rfl) | (apply Wl.loadO; exact rfl; exact rfl; (assumption); (repeat (first | exact trivial | refine ⟨by first | assumption | omega, ?_⟩))) | (apply Wl.eqlPN; exact rfl; exact rfl; exact rfl) | (apply Wl.nil) | (apply St.seq) | (apply St.region) | (apply St.ret) | (apply Gt.next) | (apply Gt.out1; exact rfl; exact rfl; intro w' hp) | (apply Wl.splitP; exact rfl; exact rfl; all_goals (intros; try (exfalso; omega))) | (apply Wl.splitB; exact rfl; exact rfl; all_goals intros) | (apply St.condP; exact rfl; all_goals (intros; try (exfalso; omega))) | (apply St.condB; exact rfl; all_goals intros))
  exact ⟨rfl, hp⟩

/-! ### a nil cursor -/
set_option maxHeartbeats 400000 in
theorem take_nil (n : Int) (w : World) : Calls Try.prog 23 #[.pointer none, .int .i64 n] w fun e w' => e = .returned (.slice none 0 0) ∧ Hp w [] w' := by
  refine enter (args := [_, _]) (Γ := [(0, _), (1, _)]) Try.func23 Try.ntmps23 rfl (of_decide_eq_true rfl) (.cons rfl (.cons rfl .nil)) ?_
  repeat' (first | (apply Wl.move; exact rfl; exact rfl) | (apply Wl.assign; exact rfl; exact rfl) | (apply Wl.eqlNN; exact rfl; exact rfl; exact rfl) | (apply Wl.nil) | (apply St.seq) | (apply St.region) | (apply St.condT; exact rfl; (first | rfl | assumption)) | (apply St.ret) | (apply Gt.next) | (apply Gt.thenRet) | (apply Gt.out1; exact rfl; exact rfl; intro w' hp) | (apply Wl.splitP; exact rfl; exact rfl; all_goals (intros; try (exfalso; omega))) | (apply Wl.splitB; exact rfl; exact rfl; all_goals intros) | (apply St.condP; exact rfl; all_goals (intros; try (exfalso; omega))) | (apply St.condB; exact rfl; all_goals intros))
  exact ⟨rfl, hp⟩
set_option maxHeartbeats 400000 in
theorem number_nil (n : Int) (w : World) : Calls Try.prog 32 #[.pointer none, .int .i64 n] w fun e w' => e = .returned (.int .u32 0) ∧ Hp w [] w' := by
  refine enter (args := [_, _]) (Γ := [(0, _), (1, _)]) Try.func32 Try.ntmps32 rfl (of_decide_eq_true rfl) (.cons rfl (.cons rfl .nil)) ?_
  repeat' (first | (apply Wl.move; exact rfl; exact rfl) | (apply Wl.assign; exact rfl; exact rfl) | (apply Wl.nil) | (apply St.seq) | (apply St.region) | (apply Gt.next) | (apply Wl.splitP; exact rfl; exact rfl; all_goals (intros; try (exfalso; omega))) | (apply Wl.splitB; exact rfl; exact rfl; all_goals intros) | (apply St.condP; exact rfl; all_goals (intros; try (exfalso; omega))) | (apply St.condB; exact rfl; all_goals intros))
  apply Wl.callQ
  exact rfl
  (repeat (first | exact Evs.nil | apply Evs.cons rfl))
  · intro w1 h1
    refine (take_nil n w1).mono ?_
    rintro e w2 ⟨rfl, hp⟩
    exact ⟨rfl, h1.step hp.upd (by simp) (by simp [Off])⟩
  repeat' (first | (apply Wl.move; exact rfl; exact rfl) | (apply Wl.len; exact rfl; exact rfl) | (apply Wl.nil) | (apply St.block) | (apply Gt.next) | (apply Wl.splitP; exact rfl; exact rfl; all_goals (intros; try (exfalso; omega))) | (apply Wl.splitB; exact rfl; exact rfl; all_goals intros) | (apply St.condP; exact rfl; all_goals (intros; try (exfalso; omega))) | (apply St.condB; exact rfl; all_goals intros))
  refine St.loop (σ := Unit) (fun _ => True) (fun _ => [(5, .int .u32 0), (10, .slice none 0 0), (11, .int .i64 0), (12, .int .i64 0)]) (fun _ => Hp w []) (fun _ => 0) () trivial (by (repeat (first | exact Sub.nil | apply Sub.cons rfl))) (fun _ h => h) ?_
  intro _ _
  repeat' (first | (apply Wl.move; exact rfl; exact rfl) | (apply Wl.assign; exact rfl; exact rfl) | (apply Wl.lss; exact rfl; exact rfl; exact rfl) | (apply Wl.nil) | (apply St.seq) | (apply St.region) | (apply St.condF; exact rfl; (first | rfl | assumption)) | (apply St.ret) | (apply St.exit) | (apply Gt.next) | (apply Gt.thenExit) | (apply Gt.inExit) | (apply Gt.out1; exact rfl; exact rfl; intro w' hp) | (apply Wl.splitP; exact rfl; exact rfl; all_goals (intros; try (exfalso; omega))) | (apply Wl.splitB; exact rfl; exact rfl; all_goals intros) | (apply St.condP; exact rfl; all_goals (intros; try (exfalso; omega))) | (apply St.condB; exact rfl; all_goals intros))
  exact ⟨rfl, hp⟩
set_option maxHeartbeats 400000 in
theorem bad_nil (w : World) : Calls Try.prog 21 #[.pointer none] w fun e w' => e = .returned (.bool true) ∧ Hp w [] w' := by
  refine enter (args := [_]) (Γ := [(0, _)]) Try.func21 Try.ntmps21 rfl (of_decide_eq_true rfl) (.cons rfl .nil) ?_
  repeat' (first | (apply Wl.move; exact rfl; exact rfl) | (apply Wl.assign; exact rfl; exact rfl) | (apply Wl.off; exact rfl; exact rfl; exact rfl; (first | rfl | assumption)) | (apply Wl.pickT; exact rfl; exact rfl; (first | rfl | assumption); exact rfl) | (apply Wl.eqlNN; exact rfl; exact rfl; exact rfl) | (apply Wl.nil) | (apply St.seq) | (apply St.region) | (apply St.ret) | (apply Gt.next) | (apply Gt.out1; exact rfl; exact rfl; intro w' hp) | (apply Wl.splitP; exact rfl; exact rfl; all_goals (intros; try (exfalso; omega))) | (apply Wl.splitB; exact rfl; exact rfl; all_goals intros) | (apply St.condP; exact rfl; all_goals (intros; try (exfalso; omega))) | (apply St.condB; exact rfl; all_goals intros))
  exact ⟨rfl, hp⟩
set_option maxHeartbeats 400000 in
theorem u16_nil (w : World) : Calls Try.prog 35 #[.pointer none] w fun e w' => e = .returned (.int .i64 0) ∧ Hp w [] w' := by
  refine enter (args := [_]) (Γ := [(0, _)]) Try.func35 Try.ntmps35 rfl (of_decide_eq_true rfl) (.cons rfl .nil) ?_
  repeat' (first | (apply Wl.move; exact rfl; exact rfl) | (apply Wl.assign; exact rfl; exact rfl) | (apply Wl.nil) | (apply St.seq) | (apply St.region) | (apply Gt.next) | (apply Wl.splitP; exact rfl; exact rfl; all_goals (intros; try (exfalso; omega))) | (apply Wl.splitB; exact rfl; exact rfl; all_goals intros) | (apply St.condP; exact rfl; all_goals (intros; try (exfalso; omega))) | (apply St.condB; exact rfl; all_goals intros))
  apply Wl.callQ
  exact rfl
  (repeat (first | exact Evs.nil | apply Evs.cons rfl))
  · intro w1 h1
    refine (number_nil 2 w1).mono ?_
    rintro e w2 ⟨rfl, hp⟩
    exact ⟨rfl, h1.step hp.upd (by simp) (by simp [Off])⟩
  repeat' (first | (apply Wl.assign; exact rfl; exact rfl) | (apply Wl.convI64; exact rfl; exact rfl; (constructor <;> omega)) | (apply Wl.nil) | (apply St.ret) | (apply Gt.next) | (apply Gt.out1; exact rfl; exact rfl; intro w' hp) | (apply Wl.splitP; exact rfl; exact rfl; all_goals (intros; try (exfalso; omega))) | (apply Wl.splitB; exact rfl; exact rfl; all_goals intros) | (apply St.condP; exact rfl; all_goals (intros; try (exfalso; omega))) | (apply St.condB; exact rfl; all_goals intros))
  exact ⟨rfl, hp⟩
set_option maxHeartbeats 400000 in
theorem u32_nil (w : World) : Calls Try.prog 22 #[.pointer none] w fun e w' => e = .returned (.int .u32 0) ∧ Hp w [] w' := by
  refine enter (args := [_]) (Γ := [(0, _)]) Try.func22 Try.ntmps22 rfl (of_decide_eq_true rfl) (.cons rfl .nil) ?_
  repeat' (first | (apply Wl.move; exact rfl; exact rfl) | (apply Wl.assign; exact rfl; exact rfl) | (apply Wl.nil) | (apply St.seq) | (apply St.region) | (apply Gt.next) | (apply Wl.splitP; exact rfl; exact rfl; all_goals (intros; try (exfalso; omega))) | (apply Wl.splitB; exact rfl; exact rfl; all_goals intros) | (apply St.condP; exact rfl; all_goals (intros; try (exfalso; omega))) | (apply St.condB; exact rfl; all_goals intros))
  apply Wl.callQ
  exact rfl
  (repeat (first | exact Evs.nil | apply Evs.cons rfl))
  · intro w1 h1
    refine (number_nil 4 w1).mono ?_
    rintro e w2 ⟨rfl, hp⟩
    exact ⟨rfl, h1.step hp.upd (by simp) (by simp [Off])⟩
  repeat' (first | (apply Wl.assign; exact rfl; exact rfl) | (apply Wl.nil) | (apply St.ret) | (apply Gt.next) | (apply Gt.out1; exact rfl; exact rfl; intro w' hp) | (apply Wl.splitP; exact rfl; exact rfl; all_goals (intros; try (exfalso; omega))) | (apply Wl.splitB; exact rfl; exact rfl; all_goals intros) | (apply St.condP; exact rfl; all_goals (intros; try (exfalso; omega))) | (apply St.condB; exact rfl; all_goals intros))
  exact ⟨rfl, hp⟩

set_option maxHeartbeats 400000 in
theorem at_any (v : Value) (l : List UInt8) (w u : World) (h : Bs u v l) :
    Calls Try.prog 19 #[v] w fun e w' => ∃ c, e = .returned (.pointer (some ⟨c, 0, none⟩)) ∧ w.heap.size ≤ c ∧ Hp w [⟨c, [v, .bool false], 105⟩] w' := by
  obtain ⟨a, cap, rfl, _⟩ := h.shape
  refine enter (args := [_]) (Γ := [(0, _)]) Try.func19 Try.ntmps19 rfl (of_decide_eq_true rfl) (.cons rfl .nil) ?_
  repeat' (first | (apply Wl.move; exact rfl; exact rfl) | (apply Wl.assign; exact rfl; exact rfl) | (apply Wl.buildS; exact rfl; (repeat (first | exact Parts.nil | apply Parts.cons rfl)); (repeat (first | apply Fills.nil | (apply Fills.one; exact rfl; exact rfl; (repeat (first | apply LSet.z | apply LSet.s))) | (apply Fills.agg; exact rfl; exact rfl; (repeat (first | apply LPut.s | apply LPut.z | apply LOver.nil | apply LOver.cons)))))) | (apply Wl.boxA; exact rfl; exact rfl; intro c hc ho) | (apply Wl.nil) | (apply St.seq) | (apply St.region) | (apply St.ret) | (apply Gt.next) | (apply Gt.out1; exact rfl; exact rfl; intro w' hp) | (apply Wl.splitP; exact rfl; exact rfl; all_goals (intros; try (exfalso; omega))) | (apply Wl.splitB; exact rfl; exact rfl; all_goals intros) | (apply St.condP; exact rfl; all_goals (intros; try (exfalso; omega))) | (apply St.condB; exact rfl; all_goals intros))
  exact ⟨c, rfl, hc, hp⟩
theorem u16_at (c : Nat) (v : Value) (l : List UInt8) (bad : Bool) (w : World) {t r : List UInt8} {b : Bool} {x : Int} (ht : cTake l bad 2 = (t, r, b)) (hx : (leN t : Int) = x) (h : w.heap[c]? = some (.cells #[v, .bool bad] 105 (0,0))) (hv : Bs w v l) :
    Calls Try.prog 35 #[.pointer (some ⟨c, 0, none⟩)] w fun e w' => ∃ v', e = .returned (.int .i64 x) ∧ Hp w [⟨c, [v', .bool b], 105⟩] w' ∧ ∀ u, Bs u v l → Bs u v' r := by
  have := u16_any c v l bad w h hv
  have ht' : cTake l bad ((2 : Nat) : Int) = (t, r, b) := ht
  unfold NumPost at this
  rw [ht', hx] at this
  exact this
theorem u32_at (c : Nat) (v : Value) (l : List UInt8) (bad : Bool) (w : World) {t r : List UInt8} {b : Bool} {x : Int} (ht : cTake l bad 4 = (t, r, b)) (hx : (leN t : Int) = x) (h : w.heap[c]? = some (.cells #[v, .bool bad] 105 (0,0))) (hv : Bs w v l) :
    Calls Try.prog 22 #[.pointer (some ⟨c, 0, none⟩)] w fun e w' => ∃ v', e = .returned (.int .u32 x) ∧ Hp w [⟨c, [v', .bool b], 105⟩] w' ∧ ∀ u, Bs u v l → Bs u v' r := by
  have := u32_any c v l bad w h hv
  have ht' : cTake l bad ((4 : Nat) : Int) = (t, r, b) := ht
  unfold NumPost at this
  rw [ht', hx] at this
  exact this
theorem cTake_app (l m : List UInt8) (n : Int) (h : n = l.length) : cTake (l ++ m) false n = (l, m, false) := by
  subst h
  unfold cTake
  rw [if_neg (by simp; omega)]
  simp
end Go.Proofs.Ytcjikjadajmefaa
