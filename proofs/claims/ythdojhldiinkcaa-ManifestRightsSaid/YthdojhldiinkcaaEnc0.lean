/-
  Rules for encoders: an array taken as a slice, a byte literal converted to its own type, P32 behind a full buffer. Conditions: what comes of it is no more than a machine holds.
-/
import Derived.Test.YthdojhldiinkcaaRightR
import Derived.Test.YthdojhldiinkcaaApp
namespace Go.Pt
open Go.RowKit
theorem Wl.sliceArr {P : Program} {md : Md} {N : Nat} {ops : Array Oper} {rest : List Oper} {Γ : Env} {C : World → Prop} {Q : Exit → Act → World → Prop} {d : Nat} {ty : TypeId} {pos : String} {af : Array Edge} {t e n sz by_ : TypeId} {x : Operand} {b o : Nat} [ht : TyD P t (.array n e)] [TyS P e sz by_]
    (hd : Nat.blt d N = true) (hx : ev Γ x = some (.pointer (some ⟨b, o, none⟩))) (hn : n ≠ 0) (h : Wl rest P md ops N ((d, .slice (some ⟨b, o, none⟩) n n) :: Γ) C Q) : Wl (⟨some d, .slice t x none none none, ty, pos, af, none⟩ :: rest) P md ops N Γ C Q :=
  Wl.val hd (fun a w ha _ => by
    simp [execOp, ha.ev hx, Instr.sliceAt, run_underlying ht.out, Instr.sliceBounds, Instr.sureAddr, Addr.add, run_size (P := P) (t := e), hn]) h
/-- a byte literal converted to its own type: its block is let go, it reads as it did -/
theorem Wl.convMarkS {P : Program} {N : Nat} {ops : Array Oper} {rest : List Oper} {Γ : Env} {Q : Exit → Act → World → Prop} {d T : Nat} {ty : TypeId} {pos : String} {af : Array Edge} {t : TypeId} {x : Operand} {w0 : World} {H : List Blk} {c : Nat} {l : List UInt8} [ht : TyD P t (.slice T)] [he : TyD P T (.int .u8)] (hd : Nat.blt d N = true)
    (hx : ev Γ x = some (.slice (some ⟨c, 0, none⟩) l.length l.length)) (hl : l.length ≤ maxLen) (hc0 : w0.heap.size ≤ c)
    (h : ∀ w1, Bs w1 (.slice (some ⟨c, 0, none⟩) l.length l.length) l → Upd (fun k => ¬ Off H k) w0 w1 → Own w1 H → Apart H → Off H c → Wl rest P .seq ops N ((d, .slice (some ⟨c, 0, none⟩) l.length l.length) :: Γ) (Hp w1 H) Q) :
    Wl (⟨some d, .convert t t x, ty, pos, af, none⟩ :: rest) P .seq ops N Γ (Hp w0 (⟨c, byteCells l, T⟩ :: H)) Q :=
  Wl.eff fun a w ha hw => by
    obtain ⟨w', fr', hr, hc, hu⟩ := run_conv_mark (P := P) (w := w) (t := t) (n := l.length) (m := l.length) ht.out he.out hw.own.1
    have hown : Own w' H := hw.own.2.upd hu fun y hy e => (hw.apart.1).at hy (by simpa using e)
    refine ⟨_, w', .inl ?_, (h w' (Bs.ofBlk hc hl) ?_ hown hw.apart.2 hw.apart.1).elim _ _ (ha.put hd _) ⟨Upd.refl _ _, hown, hw.apart.2⟩⟩
    · simp only [execOp, ha.ev hx]
      simp [hr]
    · exact hw.upd.comp hu fun k hk hs => hs.elim (fun y e => y ⟨fun e' => by simp only at e'; omega, e⟩) fun e => by have e' : k = c := e; exact absurd e' (by omega)
end Go.Pt

namespace Go.Proofs.Ythdojhldiinkcaa
open Go.RowKit Go.Pt
set_option maxHeartbeats 400000 in
theorem p32_full (v : Value) (l : List UInt8) (x : Nat) (hx : x < 4294967296) (w : World) (a : Addr) (hv : v = .slice (some a) l.length l.length) (h : Bs w v l) (hl : l.length ≤ 1099511627776) :
    Calls Try.prog 29 #[v, .int .u32 x] w fun e w' => ∃ v', e = .returned v' ∧ Bo w' w.heap.size v' (l ++ leB 4 x) ∧ Upd (fun k => w.heap.size ≤ k) w w' := by
  subst hv
  refine enter (args := [_, _]) (Γ := [(0, _), (1, _)]) Try.func29 Try.ntmps29 rfl (of_decide_eq_true rfl) (.cons rfl (.cons rfl .nil)) ?_
  repeat' (first | (apply Wl.move; exact rfl; exact rfl) | (apply Wl.assign; exact rfl; exact rfl) | (apply Wl.shr; exact rfl; exact rfl; exact rfl; (omega)) | (apply Wl.convI; exact rfl; exact rfl) | (apply Wl.lit; exact rfl; (repeat (first | exact Parts.nil | apply Parts.cons rfl)); exact rfl; exact rfl; (repeat (first | apply CatP.nil | (apply CatP.one; exact rfl; exact rfl) | (apply CatP.agg; exact rfl) | apply LApp.nil | apply LApp.cons)); intro c hc ho) | (apply Wl.nil) | (apply St.seq) | (apply St.region) | (apply Gt.next) | (apply Wl.splitP; exact rfl; exact rfl; all_goals (intros; try (exfalso; omega))) | (apply Wl.splitB; exact rfl; exact rfl; all_goals intros) | (apply St.condP; exact rfl; all_goals (intros; try (exfalso; omega))) | (apply St.condB; exact rfl; all_goals intros))
  apply Wl.appendG (olds := byteCells l) (news := [.int .u8 (IntKind.u8.wrap (x : Int)), .int .u8 (IntKind.u8.wrap ((x : Int).fdiv (2 ^ min (Int.toNat 8) IntKind.u32.bits))), .int .u8 (IntKind.u8.wrap ((x : Int).fdiv (2 ^ min (Int.toNat 16) IntKind.u32.bits))), .int .u8 (IntKind.u8.wrap ((x : Int).fdiv (2 ^ min (Int.toNat 24) IntKind.u32.bits)))])
  · exact rfl
  · exact rfl
  · exact rfl
  · rw [byteCells_length, Nat.mul_one]
  · intro w' hw' j u hj
    obtain ⟨h1, h2⟩ := List.getElem?_eq_some_iff.1 hj
    rw [byteCells_length] at h1
    obtain ⟨g, og, e, hc'⟩ := h.cells (fun e => by rw [e] at h1; simp at h1)
    cases e
    rw [addLit]
    have hcj := hc' j h1
    refine hw'.old ?_ ⟨fun e => by have e' : c = g := e; have := World.block_lt_of_cell? w _ hcj; simp only at this; omega, trivial⟩
    rw [hcj, ← h2]
    simp [byteCells]
  · exact rfl
  · intro w' hw' j u hj
    rw [addLit]
    refine hw'.cell (.head _) ?_
    simpa using hj
  · omega
  · rfl
  · decide
  · unfold maxLen; omega
  · omega
  intro v' w1 ho1 h1 hk1
  repeat' (first | (apply Wl.assign; exact rfl; exact rfl) | (apply Wl.nil) | (apply St.ret) | (apply Gt.next) | (apply Gt.out1; exact rfl; exact rfl; intro w' hp) | (apply Wl.splitP; exact rfl; exact rfl; all_goals (intros; try (exfalso; omega))) | (apply Wl.splitB; exact rfl; exact rfl; all_goals intros) | (apply St.condP; exact rfl; all_goals (intros; try (exfalso; omega))) | (apply St.condB; exact rfl; all_goals intros))
  refine ⟨_, rfl, Bo.upd (Bo.of ho1 rfl ?_) hp.upd fun k hk y => y (hk1 k hk), ?_⟩
  · simp only [byteCells, leB, List.map_cons, List.map_nil, wrap8]
    have e (k : Nat) : ((x : Int).fdiv (2 ^ k) % 256).toNat = x / 2 ^ k % 256 := by
      rw [Int.fdiv_eq_ediv_of_nonneg _ (Int.le_of_lt (Int.pow_pos (by decide)))]
      have : ((x : Int) / 2 ^ k % 256) = ((x / 2 ^ k % 256 : Nat) : Int) := by simp
      rw [this]; rfl
    simp only [e]
    simp [IntKind.bits, Nat.div_div_eq_div_mul]
    omega
  · exact (h1.drop (by simp; omega)).upd.comp hp.upd fun k hk hs => hs.elim (fun y => (y trivial).elim) fun y => (y ⟨fun e => by have e' : c = k := e; omega, trivial⟩).elim
end Go.Proofs.Ythdojhldiinkcaa
