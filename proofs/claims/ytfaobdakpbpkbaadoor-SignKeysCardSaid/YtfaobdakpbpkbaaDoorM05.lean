/-
  16 texts, one behind the other; each says what it proves. Conditions: as each text says.
-/
import Derived.Test.YtfaobdakpbpkbaaDoorM04
import Derived.Test.YtfaobdakpbpkbaaDoorM02
section
/-
  curve: New, Base, Order, out, Add, Two, Mult. Conditions: points are of the curve.
-/
namespace Go.Proofs.YtfaobdakpbpkbaaDoor
open Go.RowKit Go.Pt
attribute [local irreducible] Prim.P256
set_option maxHeartbeats 8000000 in
theorem curOut (c bm : Nat) (p : Ec.F × Ec.F × Ec.F) (w : World) (hV : CurV w c bm) : Calls Tryd.prog 68 #[mp c, ptV p] w fun e w' => e = .returned (poV (Ec.jpt p)) ∧ Hp w [] w' := by
  obtain ⟨hc, hb⟩ := hV.lt
  obtain ⟨x, y, z⟩ := p
  refine enter (args := [_, _]) (Γ := [(0, _), (1, _)]) Tryd.func68 Tryd.ntmps68 rfl (of_decide_eq_true rfl) (.cons rfl (.cons rfl .nil)) ?_
  unfold Ec.jpt Ec.jac
  by_cases hz : z = 0
  · have hd : decide (z = 0) = true := decide_eq_true hz
    repeat' (first | (apply Wl.loadAH; exact rfl; exact rfl; (repeat (first | exact List.Mem.head _ | apply List.Mem.tail)); (first | exact ptC_x _ _ _ | exact ptC_y _ _ _ | exact ptC_z _ _ _ | exact poC_x _ _ _ | exact poC_y _ _ _ | exact poD_x _ | exact poD_y _ | exact LSub.whole (ptC_len _ _ _) | exact LSub.whole (poC_len _ _ _) | exact LSub.whole (poD_len _))) | (apply Wl.storeAll; exact rfl; exact rfl; (repeat (first | apply HSet.here | apply HSet.there)); (first | exact ptC_len _ _ _ | exact poC_len _ _ _ | exact poD_len _); (first | exact rfl | exact ptC_len _ _ _ | exact poC_len _ _ _ | exact poD_len _); (first | exact ptC_one _ _ _ | exact poC_one _ _ _ | exact poD_one _)) | (apply Wl.buildPn; exact rfl; (focus ((repeat (first | exact Parts.nil | apply Parts.cons rfl)); done))) | (apply Wl.callQ (f := 55); exact rfl; (repeat (first | exact Evs.nil | apply Evs.cons rfl)); (intro wq hq; refine (fZero _ wq).mono ?_; rintro e wr ⟨rfl, hr⟩; exact ⟨rfl, hq.keep hr⟩)) | (apply Gt.outC'; exact rfl; infer_instance; exact rfl; (repeat (first | exact List.Mem.head _ | apply List.Mem.tail)); (first | exact LSub.whole (ptC_len _ _ _) | exact LSub.whole (poC_len _ _ _) | exact LSub.whole (poD_len _)); intro w' hp) | (apply Wl.fieldAddrZ; exact rfl; exact rfl) | (apply Wl.boxA; exact rfl; exact rfl; intro c hc ho) | (apply Wl.alloc; exact rfl; intro c hc ho) | (apply Wl.nil) | (apply St.seq) | (apply St.region) | (apply St.condT; exact rfl; (first | with_reducible rfl | with_reducible assumption | decide)) | (apply St.ret) | (apply Gt.next) | (apply Gt.thenRet) | (apply Wl.splitP; exact rfl; exact rfl; all_goals (intros; try (exfalso; omega))) | (apply Wl.splitB; exact rfl; exact rfl; all_goals intros) | (apply St.condP; exact rfl; all_goals (intros; try (exfalso; omega))) | (apply St.condB; exact rfl; all_goals intros))
    rw [if_pos hz, poV, poD_none]
    exact ⟨rfl, hp.drop (by simp; omega)⟩
  · have hd : decide (z = 0) = false := decide_eq_false hz
    obtain ⟨i, h_i⟩ : ∃ q_ : Ec.F, q_ = Ec.finv z := ⟨_, rfl⟩
    obtain ⟨ii, h_ii⟩ : ∃ q_ : Ec.F, q_ = i * i := ⟨_, rfl⟩
    obtain ⟨xi, h_xi⟩ : ∃ q_ : Ec.F, q_ = x * ii := ⟨_, rfl⟩
    obtain ⟨i3, h_i3⟩ : ∃ q_ : Ec.F, q_ = ii * i := ⟨_, rfl⟩
    obtain ⟨yi, h_yi⟩ : ∃ q_ : Ec.F, q_ = y * i3 := ⟨_, rfl⟩
    repeat' (first | (apply St.bagX 8 []; exact mixed; (decide +kernel); kernel_rfl) | (apply St.bagX 33 []; exact mixed; (decide +kernel); kernel_rfl) | (apply OpsX.nil) | (apply OpsX.b; exact rfl) | (apply OpsX.v; (intro X hX; change Wl [_] _ _ _ _ _ _ _; apply Wl.catX; (repeat (first | apply CatB.nil | apply CatB.cons)))) | (apply Gt.endX; exact rfl) | (apply EndX.new; intro c hc ho) | (apply EndX.on; exact rfl) | (apply EndX.off; exact rfl) | (apply EndX.nil'; apply Wl.catE; (repeat (first | apply CatB.nil | apply CatB.cons))) | (apply Wl.loadO; exact rfl; exact rfl; exact hV.mod; (repeat (first | exact trivial | exact hX.off (by omega) | refine ⟨by first | assumption | omega | (simp only; omega), ?_⟩))) | (apply Wl.loadAH; exact rfl; exact rfl; (repeat (first | exact List.Mem.head _ | apply List.Mem.tail)); (first | exact ptC_x _ _ _ | exact ptC_y _ _ _ | exact ptC_z _ _ _ | exact poC_x _ _ _ | exact poC_y _ _ _ | exact poD_x _ | exact poD_y _ | exact LSub.whole (ptC_len _ _ _) | exact LSub.whole (poC_len _ _ _) | exact LSub.whole (poD_len _))) | (apply Wl.storeAll; exact rfl; exact rfl; (repeat (first | apply HSet.here | apply HSet.there)); (first | exact ptC_len _ _ _ | exact poC_len _ _ _ | exact poD_len _); (first | exact rfl | exact ptC_len _ _ _ | exact poC_len _ _ _ | exact poD_len _); (first | exact ptC_one _ _ _ | exact poC_one _ _ _ | exact poD_one _)) | (apply Wl.buildPo; exact rfl; (focus ((repeat (first | exact Parts.nil | apply Parts.cons rfl)); done))) | (apply Wl.callQ (f := 27); exact rfl; (repeat (first | exact Evs.nil | apply Evs.cons rfl)); (intro wq hq; refine (gTimes (hV.val.hp hq (by (repeat (first | exact trivial | exact hX.off (by omega) | refine ⟨by first | assumption | omega | (simp only; omega), ?_⟩)))) (by with_reducible assumption)).mono ?_; rintro e wr ⟨rfl, hr⟩; exact ⟨rfl, hq.keep hr⟩)) | (apply Wl.callQ (f := 26); exact rfl; (repeat (first | exact Evs.nil | apply Evs.cons rfl)); (intro wq hq; refine (fOut (hV.val.hp hq (by (repeat (first | exact trivial | exact hX.off (by omega) | refine ⟨by first | assumption | omega | (simp only; omega), ?_⟩)))) _).mono ?_; rintro e wr ⟨rfl, hr⟩; exact ⟨rfl, hq.keep hr⟩)) | (apply Wl.callQ (f := 24); exact rfl; (repeat (first | exact Evs.nil | apply Evs.cons rfl)); (intro wq hq; refine (gInv (hV.val.hp hq (by (repeat (first | exact trivial | exact hX.off (by omega) | refine ⟨by first | assumption | omega | (simp only; omega), ?_⟩)))) (by with_reducible assumption)).mono ?_; rintro e wr ⟨rfl, hr⟩; exact ⟨rfl, hq.keep hr⟩)) | (apply Wl.callQ (f := 55); exact rfl; (repeat (first | exact Evs.nil | apply Evs.cons rfl)); (intro wq hq; refine (fZero _ wq).mono ?_; rintro e wr ⟨rfl, hr⟩; exact ⟨rfl, hq.keep hr⟩)) | (apply Gt.outC'; exact rfl; infer_instance; exact rfl; (repeat (first | exact List.Mem.head _ | apply List.Mem.tail)); (first | exact LSub.whole (ptC_len _ _ _) | exact LSub.whole (poC_len _ _ _) | exact LSub.whole (poD_len _)); intro w' hp) | (apply Wl.loadW; exact rfl; exact rfl; (repeat (first | exact List.Mem.head _ | apply List.Mem.tail)); exact rfl) | (apply Wl.storeW; exact rfl; exact rfl; (repeat (first | apply HSet.here | apply HSet.there)); exact rfl; (first | exact cellsN_len _ _ _ | exact rfl)) | (apply Wl.move; exact rfl; exact rfl) | (apply Wl.nilCheck; exact rfl; exact rfl) | (apply Wl.fieldAddr0; exact rfl; exact rfl) | (apply Wl.fieldAddrZ; exact rfl; exact rfl) | (apply Wl.boxA; exact rfl; exact rfl; intro c hc ho) | (apply Wl.alloc; exact rfl; intro c hc ho) | (apply Wl.nil) | (apply St.seq) | (apply St.region) | (apply St.condF; exact rfl; (first | with_reducible rfl | with_reducible assumption | decide)) | (apply St.ret) | (apply St.skip) | (apply Gt.next) | (apply Wl.splitP; exact rfl; exact rfl; all_goals (intros; try (exfalso; omega))) | (apply Wl.splitB; exact rfl; exact rfl; all_goals intros) | (apply St.condP; exact rfl; all_goals (intros; try (exfalso; omega))) | (apply St.condB; exact rfl; all_goals intros))
    rw [if_neg hz]
    simp only
    rw [← h_i, ← h_ii, ← h_xi, ← h_i3, ← h_yi, poV, poD_some]
    exact ⟨rfl, hp.drop (by simp; omega)⟩
/-- the base -/
def curG : Ec.F × Ec.F := (nF 0x6B17D1F2E12C4247F8BCE6E563A440F277037D812DEB33A0F4A13945D898C296, nF 0x4FE342E2FE1A7F9B8EE7EB4A7C0F9E162BCE33576B315ECECBB6406837BF51F5)
theorem gx8 : [Value.int .u32 3633889942, .int .u32 4104206661, .int .u32 770388896, .int .u32 1996717441, .int .u32 1671708914, .int .u32 4173129445, .int .u32 3777774151, .int .u32 1796723186] = cellsN .u32 8 (dg W32 curG.1.val) := by kernel_rfl
theorem gy8 : [Value.int .u32 935285237, .int .u32 3417718888, .int .u32 1798397646, .int .u32 734933847, .int .u32 2081398294, .int .u32 2397563722, .int .u32 4263149467, .int .u32 1340293858] = cellsN .u32 8 (dg W32 curG.2.val) := by kernel_rfl
theorem b8 : [Value.int .u32 668098635, .int .u32 1003371582, .int .u32 3428036854, .int .u32 1696401072, .int .u32 1989707452, .int .u32 3018571093, .int .u32 2855965671, .int .u32 1522939352] = cellsN .u32 8 (dg W32 curB.val) := by kernel_rfl
theorem curBase (w : World) : Calls Tryd.prog 30 #[] w fun e w' => e = .returned (poV (some curG)) ∧ Hp w [] w' := by
  refine enter (args := []) (Γ := []) Tryd.func30 Tryd.ntmps30 rfl (of_decide_eq_true rfl) .nil ?_
  repeat' (first | (apply Wl.buildN; exact rfl; (repeat (first | exact Parts.nil | apply Parts.cons rfl)); (repeat (first | apply Fills.nil | (apply Fills.one; exact rfl; exact rfl; (repeat (first | apply LSet.z | apply LSet.s))) | (apply Fills.agg; exact rfl; exact rfl; (repeat (first | apply LPut.s | apply LPut.z | apply LOver.nil | apply LOver.cons))))); (first | exact gx8 | exact gy8)) | (apply Wl.storeAll; exact rfl; exact rfl; (repeat (first | apply HSet.here | apply HSet.there)); (first | exact ptC_len _ _ _ | exact poC_len _ _ _ | exact poD_len _); (first | exact rfl | exact ptC_len _ _ _ | exact poC_len _ _ _ | exact poD_len _); (first | exact ptC_one _ _ _ | exact poC_one _ _ _ | exact poD_one _)) | (apply Wl.buildPo; exact rfl; (focus ((repeat (first | exact Parts.nil | apply Parts.cons rfl)); done))) | (apply Gt.outC'; exact rfl; infer_instance; exact rfl; (repeat (first | exact List.Mem.head _ | apply List.Mem.tail)); (first | exact LSub.whole (ptC_len _ _ _) | exact LSub.whole (poC_len _ _ _) | exact LSub.whole (poD_len _)); intro w' hp) | (apply Wl.alloc; exact rfl; intro c hc ho) | (apply Wl.nil) | (apply St.seq) | (apply St.region) | (apply St.ret) | (apply Gt.next) | (apply Wl.splitP; exact rfl; exact rfl; all_goals (intros; try (exfalso; omega))) | (apply Wl.splitB; exact rfl; exact rfl; all_goals intros) | (apply St.condP; exact rfl; all_goals (intros; try (exfalso; omega))) | (apply St.condB; exact rfl; all_goals intros))
  exact ⟨by rw [poV, show some curG = some (curG.1, curG.2) from rfl, poD_some], hp.drop (by simp; omega)⟩
theorem curOrder (w : World) : Calls Tryd.prog 22 #[] w fun e w' => e = .returned (numV Prim.N256) ∧ Hp w [] w' := by
  refine enter (args := []) (Γ := []) Tryd.func22 Tryd.ntmps22 rfl (of_decide_eq_true rfl) .nil ?_
  repeat' (first | (apply Wl.buildN; exact rfl; (repeat (first | exact Parts.nil | apply Parts.cons rfl)); (repeat (first | apply Fills.nil | (apply Fills.one; exact rfl; exact rfl; (repeat (first | apply LSet.z | apply LSet.s))) | (apply Fills.agg; exact rfl; exact rfl; (repeat (first | apply LPut.s | apply LPut.z | apply LOver.nil | apply LOver.cons))))); exact n8) | (apply Gt.outN; exact rfl; infer_instance; exact rfl; (repeat (first | exact List.Mem.head _ | apply List.Mem.tail)); exact rfl; intro w' hp) | (apply Wl.storeW; exact rfl; exact rfl; (repeat (first | apply HSet.here | apply HSet.there)); exact rfl; (first | exact cellsN_len _ _ _ | exact rfl)) | (apply Wl.allocN; exact rfl; (first | exact z8 | exact z16 | exact z17 | exact z33 | exact z10); intro c hc ho) | (apply Wl.nil) | (apply St.seq) | (apply St.region) | (apply St.ret) | (apply Gt.next) | (apply Wl.splitP; exact rfl; exact rfl; all_goals (intros; try (exfalso; omega))) | (apply Wl.splitB; exact rfl; exact rfl; all_goals intros) | (apply St.condP; exact rfl; all_goals (intros; try (exfalso; omega))) | (apply St.condB; exact rfl; all_goals intros))
  exact ⟨rfl, hp.drop (by simp; omega)⟩
/-- points of P-256 -/
abbrev OnP (A : Ec.Pt) : Prop := Ec.OnC Ec.A3 curB A
abbrev add3 (A B : Ec.Pt) : Ec.Pt := Ec.padd Ec.A3 A B
abbrev sm3 (n : Nat) (A : Ec.Pt) : Ec.Pt := Ec.sm Ec.A3 n A
theorem disc3 : 4 * (Ec.A3 * Ec.A3 * Ec.A3) + 27 * (curB * curB) ≠ 0 := by decide +kernel
theorem onG : OnP (some curG) := by
  show _ = _
  decide +kernel
theorem jin_pt (A : Ec.Pt) : Ec.jpt (jin A) = A := by
  match A with
  | none => exact Ec.jac_zero _ _
  | some (x, y) =>
    have h1 : (1 : Ec.F) ≠ 0 := fun e => Ec.two_ne (by grobner)
    have := Ec.jac_of (x := x) (y := y) h1
    unfold Ec.jpt jin
    simp only
    rw [show x * (1 * 1) = x by grobner, show y * (1 * 1 * 1) = y by grobner] at this
    exact this
end Go.Proofs.YtfaobdakpbpkbaaDoor
end
section
/-
  curve: New, Two, Mult. Conditions: points are of the curve, numbers are below 2^256.
-/
namespace Go.Proofs.YtfaobdakpbpkbaaDoor
open Go.RowKit Go.Pt
attribute [local irreducible] Prim.P256 jin
theorem asc {p q r : Ec.Pt} (hp : OnP p) (hq : OnP q) (hr : OnP r) : add3 (add3 p q) r = add3 p (add3 q r) := Ec.assoc disc3 hp hq hr
theorem sm_succ (n : Nat) (A : Ec.Pt) : sm3 (n + 1) A = add3 (sm3 n A) A := rfl
theorem on_sm {A : Ec.Pt} (hA : OnP A) (n : Nat) : OnP (sm3 n A) := Ec.sm_on hA n
theorem on_add {A B : Ec.Pt} (hA : OnP A) (hB : OnP B) : OnP (add3 A B) := Ec.padd_on hA hB
section
variable {A B : Ec.Pt} (hA : OnP A) (hB : OnP B) (n m : Nat)
include hA hB
theorem two_dbl : add3 (add3 (sm3 n A) (sm3 m B)) (add3 (sm3 n A) (sm3 m B)) = add3 (sm3 (2 * n) A) (sm3 (2 * m) B) := by
  unfold add3 sm3
  rw [Ec.padd4 disc3 (on_sm hA n) (on_sm hB m) (on_sm hA n) (on_sm hB m), ← Ec.sm_two disc3 hA, ← Ec.sm_two disc3 hB]
theorem two_a : add3 (add3 (sm3 n A) (sm3 m B)) A = add3 (sm3 (n + 1) A) (sm3 m B) := by
  rw [asc (on_sm hA n) (on_sm hB m) hA, show add3 (sm3 m B) A = add3 A (sm3 m B) from Ec.padd_comm _ _, ← asc (on_sm hA n) hA (on_sm hB m)]; rfl
theorem two_b : add3 (add3 (sm3 n A) (sm3 m B)) B = add3 (sm3 n A) (sm3 (m + 1) B) := by
  rw [asc (on_sm hA n) (on_sm hB m) hB]; rfl
theorem two_ab : add3 (add3 (sm3 n A) (sm3 m B)) (add3 A B) = add3 (sm3 (n + 1) A) (sm3 (m + 1) B) := by
  unfold add3 sm3
  rw [Ec.padd4 disc3 (on_sm hA n) (on_sm hB m) hA hB]; rfl
end
theorem gBit {a i : Nat} {k : Int} (hi : i < 256) (e : a / 2 ^ i % 2 = k.toNat) (hk : 0 ≤ k) (w : World) : Calls Tryd.prog 67 #[numV a, .int .i64 i] w fun e w' => e = .returned (.int .u32 k) ∧ Hp w [] w' := by
  have := limbBit a i hi w
  rw [e, Int.toNat_of_nonneg hk] at this
  exact this
theorem step0 {n i N : Nat} (h : n / 2 ^ i % 2 = 0) : 2 * (n / 2 ^ (i + 1)) = n / 2 ^ i := by have := bit_step n i; omega
theorem step1 {n i N : Nat} (h : n / 2 ^ i % 2 = 1) : 2 * (n / 2 ^ (i + 1)) + 1 = n / 2 ^ i := by have := bit_step n i; omega
set_option maxHeartbeats 16000000 in
theorem curTwo (k bm : Nat) (A B : Ec.Pt) (n m : Nat) (w : World) (hV : CurV w k bm) (hA : OnP A) (hB : OnP B) (hn : n < W256) (hm : m < W256) : Calls Tryd.prog 29 #[mp k, numV n, poV A, numV m, poV B] w fun e w' => e = .returned (poV (add3 (sm3 n A) (sm3 m B))) ∧ Hp w [] w' := by
  obtain ⟨hc, hb⟩ := hV.lt
  have p256 : (2 : Nat) ^ 256 = W256 := by decide
  refine enter (args := [_, _, _, _, _]) (Γ := [(0, _), (1, _), (2, _), (3, _), (4, _)]) Tryd.func29 Tryd.ntmps29 rfl (of_decide_eq_true rfl) (.cons rfl (.cons rfl (.cons rfl (.cons rfl (.cons rfl .nil))))) ?_
  repeat' (first | (apply St.bagX 8 []; exact mixed; (decide +kernel); kernel_rfl) | (apply St.bagX 13 []; exact mixed; (decide +kernel); kernel_rfl) | (apply OpsX.nil) | (apply OpsX.b; exact rfl) | (apply OpsX.v; (intro X hX; change Wl [_] _ _ _ _ _ _ _; apply Wl.catX; (repeat (first | apply CatB.nil | apply CatB.cons)))) | (apply Gt.endX; exact rfl) | (apply EndX.new; intro c hc ho) | (apply EndX.on; exact rfl) | (apply EndX.off; exact rfl) | (apply EndX.nil'; apply Wl.catE; (repeat (first | apply CatB.nil | apply CatB.cons))) | (apply Wl.loadO; exact rfl; exact rfl; exact hV.mod; (repeat (first | exact trivial | exact hX.off (by omega) | refine ⟨by first | assumption | omega | (simp only; omega), ?_⟩))) | (apply Wl.loadAH; exact rfl; exact rfl; (repeat (first | exact List.Mem.head _ | apply List.Mem.tail)); (first | exact ptC_x _ _ _ | exact ptC_y _ _ _ | exact ptC_z _ _ _ | exact poC_x _ _ _ | exact poC_y _ _ _ | exact poD_x _ | exact poD_y _ | exact LSub.whole (ptC_len _ _ _) | exact LSub.whole (poC_len _ _ _) | exact LSub.whole (poD_len _))) | (apply Wl.storeAll; exact rfl; exact rfl; (repeat (first | apply HSet.here | apply HSet.there)); (first | exact ptC_len _ _ _ | exact poC_len _ _ _ | exact poD_len _); (first | exact rfl | exact ptC_len _ _ _ | exact poC_len _ _ _ | exact poD_len _); (first | exact ptC_one _ _ _ | exact poC_one _ _ _ | exact poD_one _)) | (apply Wl.buildPt; exact rfl; (focus ((repeat (first | exact Parts.nil | apply Parts.cons rfl)); done))) | (apply Wl.callQ (f := 65); exact rfl; (repeat (first | exact Evs.nil | apply Evs.cons rfl)); (intro wq hq; refine (fOne (hV.val.hp hq (by (repeat (first | exact trivial | exact hX.off (by omega) | refine ⟨by first | assumption | omega | (simp only; omega), ?_⟩))))).mono ?_; rintro e wr ⟨rfl, hr⟩; exact ⟨rfl, hq.keep hr⟩)) | (apply Wl.callQ (f := 64); exact rfl; (repeat (first | exact Evs.nil | apply Evs.cons rfl)); (intro wq hq; refine (curAdd _ _ _ _ wq (hV.hp hq (by (repeat (first | exact trivial | exact hX.off (by omega) | refine ⟨by first | assumption | omega | (simp only; omega), ?_⟩))) (by (repeat (first | exact trivial | exact hX.off (by omega) | refine ⟨by first | assumption | omega | (simp only; omega), ?_⟩))))).mono ?_; rintro e wr ⟨rfl, hr⟩; exact ⟨rfl, hq.keep hr⟩)) | (apply Wl.callQ (f := 63); exact rfl; (repeat (first | exact Evs.nil | apply Evs.cons rfl)); (intro wq hq; refine (curIn _ _ _ wq (hV.hp hq (by (repeat (first | exact trivial | exact hX.off (by omega) | refine ⟨by first | assumption | omega | (simp only; omega), ?_⟩))) (by (repeat (first | exact trivial | exact hX.off (by omega) | refine ⟨by first | assumption | omega | (simp only; omega), ?_⟩))))).mono ?_; rintro e wr ⟨rfl, hr⟩; exact ⟨rfl, hq.keep hr⟩)) | (apply Wl.boxN; exact rfl; exact rfl; intro c hc ho) | (apply Wl.buildN; exact rfl; (repeat (first | exact Parts.nil | apply Parts.cons rfl)); (repeat (first | apply Fills.nil | (apply Fills.one; exact rfl; exact rfl; (repeat (first | apply LSet.z | apply LSet.s))) | (apply Fills.agg; exact rfl; exact rfl; (repeat (first | apply LPut.s | apply LPut.z | apply LOver.nil | apply LOver.cons))))); (first | exact one8 | exact zero8 | exact two8 | exact one16)) | (apply Wl.move; exact rfl; exact rfl) | (apply Wl.assign; exact rfl; exact rfl) | (apply Wl.nilCheck; exact rfl; exact rfl) | (apply Wl.fieldAddr0; exact rfl; exact rfl) | (apply Wl.eqlPN; exact rfl; exact rfl; exact rfl) | (apply Wl.boxA; exact rfl; exact rfl; intro c hc ho) | (apply Wl.alloc; exact rfl; intro c hc ho) | (apply Wl.nil) | (apply St.seq) | (apply St.block) | (apply St.region) | (apply St.condF; exact rfl; (first | with_reducible rfl | with_reducible assumption | decide)) | (apply St.skip) | (apply Gt.next) | (apply Wl.splitP; exact rfl; exact rfl; all_goals (intros; try (exfalso; omega))) | (apply Wl.splitB; exact rfl; exact rfl; all_goals intros) | (apply St.condP; exact rfl; all_goals (intros; try (exfalso; omega))) | (apply St.condB; exact rfl; all_goals intros))
  rename_i c6 h6 o6 c7 h7 o7 c8 h8 o8 c9 h9 o9 c10 h10 o10 c11 h11 o11 c12 h12 o12 c13 h13 o13
  generalize c = c14 at *
  refine St.loop (σ := Nat × (Ec.F × Ec.F × Ec.F)) (fun τ => τ.1 ≤ 256 ∧ Ec.jpt τ.2 = add3 (sm3 (n / 2 ^ τ.1) A) (sm3 (m / 2 ^ τ.1) B))
    (fun τ => [(0, mp k), (6, mp c6), (8, mp c8), (10, mp c10), (11, mp c11), (12, mp c12), (13, mp c13), (14, mp c14), (15, .int .i64 ((τ.1 : Int) - 1))])
    (fun τ => Hp w [⟨c14, ptF τ.2, 108⟩, ⟨c13, ptF (Ec.jadd (jin A) (jin B)), 108⟩, ⟨c12, ptF (jin B), 108⟩, ⟨c11, ptF (jin A), 108⟩, ⟨c10, [Value.int .u32 0, .int .u32 0, .int .u32 0, .int .u32 0, .int .u32 0, .int .u32 0, .int .u32 0, .int .u32 0, .int .u32 0, .int .u32 0, .int .u32 0, .int .u32 0, .int .u32 0, .int .u32 0, .int .u32 0, .int .u32 0, .bool false], 32⟩, ⟨c9, poD B, 32⟩, ⟨c8, cellsN .u32 8 (dg W32 m), 30⟩, ⟨c7, poD A, 32⟩, ⟨c6, cellsN .u32 8 (dg W32 n), 30⟩])
    (fun τ => τ.1) (256, (1, 1, 0)) ⟨by simp, by
      show _ = add3 (sm3 (n / 2 ^ 256) A) (sm3 (m / 2 ^ 256) B)
      rw [p256, Nat.div_eq_of_lt hn, Nat.div_eq_of_lt hm]
      exact Ec.jac_zero _ _⟩ (by (repeat (first | exact Sub.nil | apply Sub.cons rfl))) (fun _ h => by
      have h' := h
      rw [← ptC0] at h'
      exact h') ?_
  rintro ⟨i, r⟩ ⟨hi256, hr⟩
  simp only at hi256 hr ⊢
  cases i with
  | zero =>
    rw [Nat.pow_zero, Nat.div_one, Nat.div_one] at hr
    repeat' (first | (apply Wl.loadAH; exact rfl; exact rfl; (repeat (first | exact List.Mem.head _ | apply List.Mem.tail)); (first | exact ptC_x _ _ _ | exact ptC_y _ _ _ | exact ptC_z _ _ _ | exact poC_x _ _ _ | exact poC_y _ _ _ | exact poD_x _ | exact poD_y _ | exact LSub.whole (ptC_len _ _ _) | exact LSub.whole (poC_len _ _ _) | exact LSub.whole (poD_len _))) | (apply Wl.storeAll; exact rfl; exact rfl; (repeat (first | apply HSet.here | apply HSet.there)); (first | exact ptC_len _ _ _ | exact poC_len _ _ _ | exact poD_len _); (first | exact rfl | exact ptC_len _ _ _ | exact poC_len _ _ _ | exact poD_len _); (first | exact ptC_one _ _ _ | exact poC_one _ _ _ | exact poD_one _)) | (apply Wl.callQ (f := 68); exact rfl; (repeat (first | exact Evs.nil | apply Evs.cons rfl)); (intro wq hq; refine (curOut _ _ _ wq (hV.hp hq (by (repeat (first | exact trivial | exact hX.off (by omega) | refine ⟨by first | assumption | omega | (simp only; omega), ?_⟩))) (by (repeat (first | exact trivial | exact hX.off (by omega) | refine ⟨by first | assumption | omega | (simp only; omega), ?_⟩))))).mono ?_; rintro e wr ⟨rfl, hr⟩; exact ⟨rfl, hq.keep hr⟩)) | (apply Gt.outC'; exact rfl; infer_instance; exact rfl; (repeat (first | exact List.Mem.head _ | apply List.Mem.tail)); (first | exact LSub.whole (ptC_len _ _ _) | exact LSub.whole (poC_len _ _ _) | exact LSub.whole (poD_len _)); intro w' hp) | (apply Wl.move; exact rfl; exact rfl) | (apply Wl.geq; exact rfl; exact rfl; exact rfl) | (apply Wl.nil) | (apply St.seq) | (apply St.region) | (apply St.condF; exact rfl; (first | with_reducible rfl | with_reducible assumption | decide)) | (apply St.ret) | (apply St.exit) | (apply Gt.next) | (apply Gt.thenExit) | (apply Gt.inExit) | (apply Wl.splitP; exact rfl; exact rfl; all_goals (intros; try (exfalso; omega))) | (apply Wl.splitB; exact rfl; exact rfl; all_goals intros) | (apply St.condP; exact rfl; all_goals (intros; try (exfalso; omega))) | (apply St.condB; exact rfl; all_goals intros))
    rw [hr] at hp ⊢
    exact ⟨rfl, hp.drop (by simp; omega)⟩
  | succ i =>
    have ei : (((i + 1 : Nat) : Int) - 1) = (i : Int) := by omega
    rw [ei]
    have hd : Ec.jpt (Ec.jdbl r) = add3 (sm3 (2 * (n / 2 ^ (i + 1))) A) (sm3 (2 * (m / 2 ^ (i + 1))) B) := by
      rw [Ec.jdbl_pt, hr]
      exact two_dbl hA hB _ _
    have cases2 : ∀ x : Nat, x % 2 = 0 ∨ x % 2 = 1 := fun x => by omega
    have jB : Ec.jpt (Ec.jadd (jin A) (jin B)) = add3 A B := by rw [Ec.jadd_pt, jin_pt, jin_pt]
    rcases cases2 (n / 2 ^ i) with bn | bn
    · rcases cases2 (m / 2 ^ i) with bm' | bm'
      · have en : n / 2 ^ i % 2 = Int.toNat 0 := bn
        have em : m / 2 ^ i % 2 = Int.toNat 0 := bm'
        have hs : Ec.jpt (Ec.jdbl r) = add3 (sm3 (n / 2 ^ i) A) (sm3 (m / 2 ^ i) B) := by
          rw [← step0 (N := 0) bn, ← step0 (N := 0) bm']
          exact (hd)
        repeat' (first | (apply St.bagX 8 [7]; exact mixed; (decide +kernel); kernel_rfl) | (apply OpsX.nil) | (apply OpsX.v; (intro X hX; change Wl [_] _ _ _ _ _ _ _; apply Wl.catX; (repeat (first | apply CatB.nil | apply CatB.cons)))) | (apply Gt.endX; exact rfl) | (apply EndX.on; exact rfl) | (apply EndX.off; exact rfl) | (apply EndX.nil'; apply Wl.catE; (repeat (first | apply CatB.nil | apply CatB.cons))) | (apply Wl.loadAH; exact rfl; exact rfl; (repeat (first | exact List.Mem.head _ | apply List.Mem.tail)); (first | exact ptC_x _ _ _ | exact ptC_y _ _ _ | exact ptC_z _ _ _ | exact poC_x _ _ _ | exact poC_y _ _ _ | exact poD_x _ | exact poD_y _ | exact LSub.whole (ptC_len _ _ _) | exact LSub.whole (poC_len _ _ _) | exact LSub.whole (poD_len _))) | (apply Wl.storeAll; exact rfl; exact rfl; (repeat (first | apply HSet.here | apply HSet.there)); (first | exact ptC_len _ _ _ | exact poC_len _ _ _ | exact poD_len _); (first | exact rfl | exact ptC_len _ _ _ | exact poC_len _ _ _ | exact poD_len _); (first | exact ptC_one _ _ _ | exact poC_one _ _ _ | exact poD_one _)) | (apply Wl.callQ (f := 67); exact rfl; (repeat (first | exact Evs.nil | apply Evs.cons rfl)); (intro wq hq; refine (gBit (show i < 256 by omega) (by with_reducible assumption) (by decide) wq).mono ?_; rintro e wr ⟨rfl, hr⟩; exact ⟨rfl, hq.keep hr⟩)) | (apply Wl.callQ (f := 66); exact rfl; (repeat (first | exact Evs.nil | apply Evs.cons rfl)); (intro wq hq; refine (curDbl _ _ _ wq (hV.hp hq (by (repeat (first | exact trivial | exact hX.off (by omega) | refine ⟨by first | assumption | omega | (simp only; omega), ?_⟩))) (by (repeat (first | exact trivial | exact hX.off (by omega) | refine ⟨by first | assumption | omega | (simp only; omega), ?_⟩))))).mono ?_; rintro e wr ⟨rfl, hr⟩; exact ⟨rfl, hq.keep hr⟩)) | (apply Wl.loadW; exact rfl; exact rfl; (repeat (first | exact List.Mem.head _ | apply List.Mem.tail)); exact rfl) | (apply Wl.mulN32; exact rfl; exact rfl; exact rfl) | (apply Wl.addN32; exact rfl; exact rfl; exact rfl) | (apply Wl.move; exact rfl; exact rfl) | (apply Wl.assign; exact rfl; exact rfl) | (apply Wl.eql; exact rfl; exact rfl; exact rfl) | (apply Wl.geq; exact rfl; exact rfl; exact rfl) | (apply Wl.subI; exact rfl; exact rfl; exact rfl; (constructor <;> omega)) | (apply Wl.nil) | (apply St.seq) | (apply St.block) | (apply St.region) | (apply St.condF; exact rfl; (first | with_reducible rfl | with_reducible assumption | decide)) | (apply St.skip) | (apply Gt.next) | (apply Gt.inNormal) | (apply Wl.splitP; exact rfl; exact rfl; all_goals (intros; try (exfalso; omega))) | (apply Wl.splitB; exact rfl; exact rfl; all_goals intros) | (apply St.condP; exact rfl; all_goals (intros; try (exfalso; omega))) | (apply St.condB; exact rfl; all_goals intros))
        apply Gt.round (i, Ec.jdbl r)
        rotate_left
        · simp only; omega
        · (repeat (first | exact Sub.nil | apply Sub.cons rfl))
        · exact fun _ h => h
        · exact ⟨by simp only; omega, hs⟩
      · have en : n / 2 ^ i % 2 = Int.toNat 0 := bn
        have em : m / 2 ^ i % 2 = Int.toNat 1 := bm'
        have hs : Ec.jpt (Ec.jadd (Ec.jdbl r) (jin B)) = add3 (sm3 (n / 2 ^ i) A) (sm3 (m / 2 ^ i) B) := by
          rw [← step0 (N := 0) bn, ← step1 (N := 0) bm']
          exact (by rw [Ec.jadd_pt, hd, jin_pt]; exact two_b hA hB _ _)
        repeat' (first | (apply St.bagX 8 [7]; exact mixed; (decide +kernel); kernel_rfl) | (apply OpsX.nil) | (apply OpsX.v; (intro X hX; change Wl [_] _ _ _ _ _ _ _; apply Wl.catX; (repeat (first | apply CatB.nil | apply CatB.cons)))) | (apply Gt.endX; exact rfl) | (apply EndX.on; exact rfl) | (apply EndX.off; exact rfl) | (apply EndX.nil'; apply Wl.catE; (repeat (first | apply CatB.nil | apply CatB.cons))) | (apply Wl.loadAH; exact rfl; exact rfl; (repeat (first | exact List.Mem.head _ | apply List.Mem.tail)); (first | exact ptC_x _ _ _ | exact ptC_y _ _ _ | exact ptC_z _ _ _ | exact poC_x _ _ _ | exact poC_y _ _ _ | exact poD_x _ | exact poD_y _ | exact LSub.whole (ptC_len _ _ _) | exact LSub.whole (poC_len _ _ _) | exact LSub.whole (poD_len _))) | (apply Wl.storeAll; exact rfl; exact rfl; (repeat (first | apply HSet.here | apply HSet.there)); (first | exact ptC_len _ _ _ | exact poC_len _ _ _ | exact poD_len _); (first | exact rfl | exact ptC_len _ _ _ | exact poC_len _ _ _ | exact poD_len _); (first | exact ptC_one _ _ _ | exact poC_one _ _ _ | exact poD_one _)) | (apply Wl.callQ (f := 67); exact rfl; (repeat (first | exact Evs.nil | apply Evs.cons rfl)); (intro wq hq; refine (gBit (show i < 256 by omega) (by with_reducible assumption) (by decide) wq).mono ?_; rintro e wr ⟨rfl, hr⟩; exact ⟨rfl, hq.keep hr⟩)) | (apply Wl.callQ (f := 66); exact rfl; (repeat (first | exact Evs.nil | apply Evs.cons rfl)); (intro wq hq; refine (curDbl _ _ _ wq (hV.hp hq (by (repeat (first | exact trivial | exact hX.off (by omega) | refine ⟨by first | assumption | omega | (simp only; omega), ?_⟩))) (by (repeat (first | exact trivial | exact hX.off (by omega) | refine ⟨by first | assumption | omega | (simp only; omega), ?_⟩))))).mono ?_; rintro e wr ⟨rfl, hr⟩; exact ⟨rfl, hq.keep hr⟩)) | (apply Wl.callQ (f := 64); exact rfl; (repeat (first | exact Evs.nil | apply Evs.cons rfl)); (intro wq hq; refine (curAdd _ _ _ _ wq (hV.hp hq (by (repeat (first | exact trivial | exact hX.off (by omega) | refine ⟨by first | assumption | omega | (simp only; omega), ?_⟩))) (by (repeat (first | exact trivial | exact hX.off (by omega) | refine ⟨by first | assumption | omega | (simp only; omega), ?_⟩))))).mono ?_; rintro e wr ⟨rfl, hr⟩; exact ⟨rfl, hq.keep hr⟩)) | (apply Wl.loadW; exact rfl; exact rfl; (repeat (first | exact List.Mem.head _ | apply List.Mem.tail)); exact rfl) | (apply Wl.mulN32; exact rfl; exact rfl; exact rfl) | (apply Wl.addN32; exact rfl; exact rfl; exact rfl) | (apply Wl.move; exact rfl; exact rfl) | (apply Wl.assign; exact rfl; exact rfl) | (apply Wl.eql; exact rfl; exact rfl; exact rfl) | (apply Wl.geq; exact rfl; exact rfl; exact rfl) | (apply Wl.subI; exact rfl; exact rfl; exact rfl; (constructor <;> omega)) | (apply Wl.nil) | (apply St.seq) | (apply St.block) | (apply St.region) | (apply St.condT; exact rfl; (first | with_reducible rfl | with_reducible assumption | decide)) | (apply St.condF; exact rfl; (first | with_reducible rfl | with_reducible assumption | decide)) | (apply St.skip) | (apply Gt.next) | (apply Gt.inNormal) | (apply Wl.splitP; exact rfl; exact rfl; all_goals (intros; try (exfalso; omega))) | (apply Wl.splitB; exact rfl; exact rfl; all_goals intros) | (apply St.condP; exact rfl; all_goals (intros; try (exfalso; omega))) | (apply St.condB; exact rfl; all_goals intros))
        apply Gt.round (i, Ec.jadd (Ec.jdbl r) (jin B))
        rotate_left
        · simp only; omega
        · (repeat (first | exact Sub.nil | apply Sub.cons rfl))
        · exact fun _ h => h
        · exact ⟨by simp only; omega, hs⟩
    · rcases cases2 (m / 2 ^ i) with bm' | bm'
      · have en : n / 2 ^ i % 2 = Int.toNat 1 := bn
        have em : m / 2 ^ i % 2 = Int.toNat 0 := bm'
        have hs : Ec.jpt (Ec.jadd (Ec.jdbl r) (jin A)) = add3 (sm3 (n / 2 ^ i) A) (sm3 (m / 2 ^ i) B) := by
          rw [← step1 (N := 0) bn, ← step0 (N := 0) bm']
          exact (by rw [Ec.jadd_pt, hd, jin_pt]; exact two_a hA hB _ _)
        repeat' (first | (apply St.bagX 8 [7]; exact mixed; (decide +kernel); kernel_rfl) | (apply OpsX.nil) | (apply OpsX.v; (intro X hX; change Wl [_] _ _ _ _ _ _ _; apply Wl.catX; (repeat (first | apply CatB.nil | apply CatB.cons)))) | (apply Gt.endX; exact rfl) | (apply EndX.on; exact rfl) | (apply EndX.off; exact rfl) | (apply EndX.nil'; apply Wl.catE; (repeat (first | apply CatB.nil | apply CatB.cons))) | (apply Wl.loadAH; exact rfl; exact rfl; (repeat (first | exact List.Mem.head _ | apply List.Mem.tail)); (first | exact ptC_x _ _ _ | exact ptC_y _ _ _ | exact ptC_z _ _ _ | exact poC_x _ _ _ | exact poC_y _ _ _ | exact poD_x _ | exact poD_y _ | exact LSub.whole (ptC_len _ _ _) | exact LSub.whole (poC_len _ _ _) | exact LSub.whole (poD_len _))) | (apply Wl.storeAll; exact rfl; exact rfl; (repeat (first | apply HSet.here | apply HSet.there)); (first | exact ptC_len _ _ _ | exact poC_len _ _ _ | exact poD_len _); (first | exact rfl | exact ptC_len _ _ _ | exact poC_len _ _ _ | exact poD_len _); (first | exact ptC_one _ _ _ | exact poC_one _ _ _ | exact poD_one _)) | (apply Wl.callQ (f := 67); exact rfl; (repeat (first | exact Evs.nil | apply Evs.cons rfl)); (intro wq hq; refine (gBit (show i < 256 by omega) (by with_reducible assumption) (by decide) wq).mono ?_; rintro e wr ⟨rfl, hr⟩; exact ⟨rfl, hq.keep hr⟩)) | (apply Wl.callQ (f := 66); exact rfl; (repeat (first | exact Evs.nil | apply Evs.cons rfl)); (intro wq hq; refine (curDbl _ _ _ wq (hV.hp hq (by (repeat (first | exact trivial | exact hX.off (by omega) | refine ⟨by first | assumption | omega | (simp only; omega), ?_⟩))) (by (repeat (first | exact trivial | exact hX.off (by omega) | refine ⟨by first | assumption | omega | (simp only; omega), ?_⟩))))).mono ?_; rintro e wr ⟨rfl, hr⟩; exact ⟨rfl, hq.keep hr⟩)) | (apply Wl.callQ (f := 64); exact rfl; (repeat (first | exact Evs.nil | apply Evs.cons rfl)); (intro wq hq; refine (curAdd _ _ _ _ wq (hV.hp hq (by (repeat (first | exact trivial | exact hX.off (by omega) | refine ⟨by first | assumption | omega | (simp only; omega), ?_⟩))) (by (repeat (first | exact trivial | exact hX.off (by omega) | refine ⟨by first | assumption | omega | (simp only; omega), ?_⟩))))).mono ?_; rintro e wr ⟨rfl, hr⟩; exact ⟨rfl, hq.keep hr⟩)) | (apply Wl.loadW; exact rfl; exact rfl; (repeat (first | exact List.Mem.head _ | apply List.Mem.tail)); exact rfl) | (apply Wl.mulN32; exact rfl; exact rfl; exact rfl) | (apply Wl.addN32; exact rfl; exact rfl; exact rfl) | (apply Wl.move; exact rfl; exact rfl) | (apply Wl.assign; exact rfl; exact rfl) | (apply Wl.eql; exact rfl; exact rfl; exact rfl) | (apply Wl.geq; exact rfl; exact rfl; exact rfl) | (apply Wl.subI; exact rfl; exact rfl; exact rfl; (constructor <;> omega)) | (apply Wl.nil) | (apply St.seq) | (apply St.block) | (apply St.region) | (apply St.condT; exact rfl; (first | with_reducible rfl | with_reducible assumption | decide)) | (apply St.skip) | (apply Gt.next) | (apply Gt.inNormal) | (apply Wl.splitP; exact rfl; exact rfl; all_goals (intros; try (exfalso; omega))) | (apply Wl.splitB; exact rfl; exact rfl; all_goals intros) | (apply St.condP; exact rfl; all_goals (intros; try (exfalso; omega))) | (apply St.condB; exact rfl; all_goals intros))
        apply Gt.round (i, Ec.jadd (Ec.jdbl r) (jin A))
        rotate_left
        · simp only; omega
        · (repeat (first | exact Sub.nil | apply Sub.cons rfl))
        · exact fun _ h => h
        · exact ⟨by simp only; omega, hs⟩
      · have en : n / 2 ^ i % 2 = Int.toNat 1 := bn
        have em : m / 2 ^ i % 2 = Int.toNat 1 := bm'
        have hs : Ec.jpt (Ec.jadd (Ec.jdbl r) (Ec.jadd (jin A) (jin B))) = add3 (sm3 (n / 2 ^ i) A) (sm3 (m / 2 ^ i) B) := by
          rw [← step1 (N := 0) bn, ← step1 (N := 0) bm']
          exact (by rw [Ec.jadd_pt, hd, jB]; exact two_ab hA hB _ _)
        repeat' (first | (apply St.bagX 8 [7]; exact mixed; (decide +kernel); kernel_rfl) | (apply OpsX.nil) | (apply OpsX.v; (intro X hX; change Wl [_] _ _ _ _ _ _ _; apply Wl.catX; (repeat (first | apply CatB.nil | apply CatB.cons)))) | (apply Gt.endX; exact rfl) | (apply EndX.on; exact rfl) | (apply EndX.off; exact rfl) | (apply EndX.nil'; apply Wl.catE; (repeat (first | apply CatB.nil | apply CatB.cons))) | (apply Wl.loadAH; exact rfl; exact rfl; (repeat (first | exact List.Mem.head _ | apply List.Mem.tail)); (first | exact ptC_x _ _ _ | exact ptC_y _ _ _ | exact ptC_z _ _ _ | exact poC_x _ _ _ | exact poC_y _ _ _ | exact poD_x _ | exact poD_y _ | exact LSub.whole (ptC_len _ _ _) | exact LSub.whole (poC_len _ _ _) | exact LSub.whole (poD_len _))) | (apply Wl.storeAll; exact rfl; exact rfl; (repeat (first | apply HSet.here | apply HSet.there)); (first | exact ptC_len _ _ _ | exact poC_len _ _ _ | exact poD_len _); (first | exact rfl | exact ptC_len _ _ _ | exact poC_len _ _ _ | exact poD_len _); (first | exact ptC_one _ _ _ | exact poC_one _ _ _ | exact poD_one _)) | (apply Wl.callQ (f := 67); exact rfl; (repeat (first | exact Evs.nil | apply Evs.cons rfl)); (intro wq hq; refine (gBit (show i < 256 by omega) (by with_reducible assumption) (by decide) wq).mono ?_; rintro e wr ⟨rfl, hr⟩; exact ⟨rfl, hq.keep hr⟩)) | (apply Wl.callQ (f := 66); exact rfl; (repeat (first | exact Evs.nil | apply Evs.cons rfl)); (intro wq hq; refine (curDbl _ _ _ wq (hV.hp hq (by (repeat (first | exact trivial | exact hX.off (by omega) | refine ⟨by first | assumption | omega | (simp only; omega), ?_⟩))) (by (repeat (first | exact trivial | exact hX.off (by omega) | refine ⟨by first | assumption | omega | (simp only; omega), ?_⟩))))).mono ?_; rintro e wr ⟨rfl, hr⟩; exact ⟨rfl, hq.keep hr⟩)) | (apply Wl.callQ (f := 64); exact rfl; (repeat (first | exact Evs.nil | apply Evs.cons rfl)); (intro wq hq; refine (curAdd _ _ _ _ wq (hV.hp hq (by (repeat (first | exact trivial | exact hX.off (by omega) | refine ⟨by first | assumption | omega | (simp only; omega), ?_⟩))) (by (repeat (first | exact trivial | exact hX.off (by omega) | refine ⟨by first | assumption | omega | (simp only; omega), ?_⟩))))).mono ?_; rintro e wr ⟨rfl, hr⟩; exact ⟨rfl, hq.keep hr⟩)) | (apply Wl.loadW; exact rfl; exact rfl; (repeat (first | exact List.Mem.head _ | apply List.Mem.tail)); exact rfl) | (apply Wl.mulN32; exact rfl; exact rfl; exact rfl) | (apply Wl.addN32; exact rfl; exact rfl; exact rfl) | (apply Wl.move; exact rfl; exact rfl) | (apply Wl.assign; exact rfl; exact rfl) | (apply Wl.eql; exact rfl; exact rfl; exact rfl) | (apply Wl.geq; exact rfl; exact rfl; exact rfl) | (apply Wl.subI; exact rfl; exact rfl; exact rfl; (constructor <;> omega)) | (apply Wl.nil) | (apply St.seq) | (apply St.block) | (apply St.region) | (apply St.condT; exact rfl; (first | with_reducible rfl | with_reducible assumption | decide)) | (apply St.condF; exact rfl; (first | with_reducible rfl | with_reducible assumption | decide)) | (apply St.skip) | (apply Gt.next) | (apply Gt.inNormal) | (apply Wl.splitP; exact rfl; exact rfl; all_goals (intros; try (exfalso; omega))) | (apply Wl.splitB; exact rfl; exact rfl; all_goals intros) | (apply St.condP; exact rfl; all_goals (intros; try (exfalso; omega))) | (apply St.condB; exact rfl; all_goals intros))
        apply Gt.round (i, Ec.jadd (Ec.jdbl r) (Ec.jadd (jin A) (jin B)))
        rotate_left
        · simp only; omega
        · (repeat (first | exact Sub.nil | apply Sub.cons rfl))
        · exact fun _ h => h
        · exact ⟨by simp only; omega, hs⟩
end Go.Proofs.YtfaobdakpbpkbaaDoor
end
section
/-
  curve: New, Mult, On; Mult, On and Add of a nil curve. Conditions: points are of the curve, numbers are below 2^256.
-/
namespace Go.Proofs.YtfaobdakpbpkbaaDoor
open Go.RowKit Go.Pt
attribute [local irreducible] Prim.P256 jin
theorem p8P : [Value.int .u32 4294967295, .int .u32 4294967295, .int .u32 4294967295, .int .u32 0, .int .u32 0, .int .u32 0, .int .u32 1, .int .u32 4294967295] = cellsN .u32 8 (dg W32 Prim.P256) := p8
theorem b8N : [Value.int .u32 668098635, .int .u32 1003371582, .int .u32 3428036854, .int .u32 1696401072, .int .u32 1989707452, .int .u32 3018571093, .int .u32 2855965671, .int .u32 1522939352] = cellsN .u32 8 (dg W32 curB.val) := b8
section
variable {md : Md} {N : Nat} {ops : Array Oper} {rest : List Oper} {Γ : Env} {C : World → Prop} {Q : Exit → Act → World → Prop} {d : Nat} {ty : TypeId} {pos : String} {af : Array Edge} {parts : Array (Nat × Operand)}
theorem Wl.buildCv {b x : Nat} (hd : Nat.blt d N = true) (hp : Parts Γ parts.toList [(0, mp b), (1, numV x)]) (h : Wl rest Tryd.prog md ops N ((d, .agg (mp b :: cellsN .u32 8 (dg W32 x)).toArray) :: Γ) C Q) :
    Wl (⟨some d, .build 106 parts, ty, pos, af, none⟩ :: rest) Tryd.prog md ops N Γ C Q := by
  refine Wl.build hd hp (fun _ => run_build_struct ?_) h
  have h2 : LPut (mp b :: cellsN .u32 8 (dg W32 0)) 1 (cellsN .u32 8 (dg W32 x)) (mp b :: cellsN .u32 8 (dg W32 x)) := by
    have := LPut.app (p := [mp b]) (l := cellsN .u32 8 (dg W32 0)) (xs := cellsN .u32 8 (dg W32 x)) (r := []) (n := 1) rfl (by rw [cellsN_len, cellsN_len])
    simpa using this
  rw [← zero8] at h2
  exact .one rfl rfl .z (.agg rfl (by rw [cellsN_len]; rfl) h2 .nil)
end
/-- a new curve -/
def NewC (w : World) (e : Ending) (w' : World) : Prop := ∃ c bm, e = .returned (mp c) ∧ w.heap.size ≤ c ∧ w.heap.size ≤ bm ∧ CurV w' c bm ∧ Hp w [] w'
set_option maxHeartbeats 4000000 in
theorem curNew (w : World) : Calls Tryd.prog 28 #[] w (NewC w) := by
  refine enter (args := []) (Γ := []) Tryd.func28 Tryd.ntmps28 rfl (of_decide_eq_true rfl) .nil ?_
  repeat' (first | (apply Wl.buildN; exact rfl; (repeat (first | exact Parts.nil | apply Parts.cons rfl)); (repeat (first | apply Fills.nil | (apply Fills.one; exact rfl; exact rfl; (repeat (first | apply LSet.z | apply LSet.s))) | (apply Fills.agg; exact rfl; exact rfl; (repeat (first | apply LPut.s | apply LPut.z | apply LOver.nil | apply LOver.cons))))); (first | exact p8P | exact b8N)) | (apply Wl.assign; exact rfl; exact rfl) | (apply Wl.nil) | (apply St.seq) | (apply St.region) | (apply Gt.next) | (apply Wl.splitP; exact rfl; exact rfl; all_goals (intros; try (exfalso; omega))) | (apply Wl.splitB; exact rfl; exact rfl; all_goals intros) | (apply St.condP; exact rfl; all_goals (intros; try (exfalso; omega))) | (apply St.condB; exact rfl; all_goals intros))
  apply Wl.callC
  · exact rfl
  · (repeat (first | exact Evs.nil | apply Evs.cons rfl))
  intro wq hq
  refine (modNew Prim.P256 pW wq).mono ?_
  rintro e wr (⟨_, _, bm, rfl, hb, hM, hr⟩ | ⟨hno, rfl, hr⟩)
  · refine ⟨_, _, rfl, hpRb (hq.keep hr), ?_⟩
    have hu : Upd (fun k => w.heap.size ≤ k) w wr := hpOn (hq.keep hr) (Upd.refl _ _) (by simp)
    have hsz := hq.upd.size
    clear hq hr
    have hlt := hM.blk
    repeat' (first | (apply Wl.buildN; exact rfl; (repeat (first | exact Parts.nil | apply Parts.cons rfl)); (repeat (first | apply Fills.nil | (apply Fills.one; exact rfl; exact rfl; (repeat (first | apply LSet.z | apply LSet.s))) | (apply Fills.agg; exact rfl; exact rfl; (repeat (first | apply LPut.s | apply LPut.z | apply LOver.nil | apply LOver.cons))))); (first | exact p8P | exact b8N)) | (apply Wl.buildCv; exact rfl; (focus ((repeat (first | exact Parts.nil | apply Parts.cons rfl)); done))) | (apply Wl.callQ (f := 25); exact rfl; (repeat (first | exact Evs.nil | apply Evs.cons rfl)); (intro wq hq; refine (fInF (hM.hp hq (by (repeat (first | exact trivial | exact hX.off (by omega) | refine ⟨by first | assumption | omega | (simp only; omega), ?_⟩)))) _).mono ?_; rintro e wr ⟨rfl, hr⟩; exact ⟨rfl, hq.keep hr⟩)) | (apply Wl.move; exact rfl; exact rfl) | (apply Wl.assign; exact rfl; exact rfl) | (apply Wl.extract; exact rfl; exact rfl; exact rfl) | (apply Wl.boxA; exact rfl; exact rfl; intro c hc ho) | (apply Wl.nil) | (apply St.seq) | (apply St.region) | (apply St.ret) | (apply Gt.next) | (apply Gt.out1; exact rfl; exact rfl; intro w' hp) | (apply Wl.splitP; exact rfl; exact rfl; all_goals (intros; try (exfalso; omega))) | (apply Wl.splitB; exact rfl; exact rfl; all_goals intros) | (apply St.condP; exact rfl; all_goals (intros; try (exfalso; omega))) | (apply St.condB; exact rfl; all_goals intros))
    have hm : (⟨c, mp bm :: cellsN .u32 8 (dg W32 (mg curB)), 106⟩ : Blk) ∈ [⟨c, mp bm :: cellsN .u32 8 (dg W32 (mg curB)), 106⟩] := .head _
    refine ⟨c, bm, rfl, by have := hu.size; omega, by omega, ⟨hp.cell hm rfl, fun j hj => ?_, hM.hp hp ⟨by simp only; omega, trivial⟩⟩, hpFin hp hu (by simp; have := hu.size; omega)⟩
    refine hp.cell hm ?_
    rw [Nat.add_comm, List.getElem?_cons_succ, cellsN_get hj]
  · exact absurd ⟨pOdd, by have := p3; omega⟩ hno
set_option maxHeartbeats 4000000 in
theorem curMult (k bm : Nat) (A : Ec.Pt) (n : Nat) (w : World) (hV : CurV w k bm) (hA : OnP A) (hn : n < W256) : Calls Tryd.prog 80 #[mp k, numV n, poV A] w fun e w' => e = .returned (poV (sm3 n A)) ∧ Hp w [] w' := by
  obtain ⟨hc, hb⟩ := hV.lt
  have hT := fun wq h => curTwo k bm A none n 0 wq h hA (by trivial) hn (by decide)
  rw [show sm3 0 none = none from rfl, show add3 (sm3 n A) none = sm3 n A from Ec.padd_zero _] at hT
  simp only [poV, poD_none] at hT
  refine enter (args := [_, _, _]) (Γ := [(0, _), (1, _), (2, _)]) Tryd.func80 Tryd.ntmps80 rfl (of_decide_eq_true rfl) (.cons rfl (.cons rfl (.cons rfl .nil))) ?_
  repeat' (first | (apply Wl.loadAH; exact rfl; exact rfl; (repeat (first | exact List.Mem.head _ | apply List.Mem.tail)); (first | exact ptC_x _ _ _ | exact ptC_y _ _ _ | exact ptC_z _ _ _ | exact poC_x _ _ _ | exact poC_y _ _ _ | exact poD_x _ | exact poD_y _ | exact LSub.whole (ptC_len _ _ _) | exact LSub.whole (poC_len _ _ _) | exact LSub.whole (poD_len _))) | (apply Wl.storeAll; exact rfl; exact rfl; (repeat (first | apply HSet.here | apply HSet.there)); (first | exact ptC_len _ _ _ | exact poC_len _ _ _ | exact poD_len _); (first | exact rfl | exact ptC_len _ _ _ | exact poC_len _ _ _ | exact poD_len _); (first | exact ptC_one _ _ _ | exact poC_one _ _ _ | exact poD_one _)) | (apply Wl.buildPn; exact rfl; (focus ((repeat (first | exact Parts.nil | apply Parts.cons rfl)); done))) | (apply Wl.callQ (f := 29); exact rfl; (repeat (first | exact Evs.nil | apply Evs.cons rfl)); (intro wq hq; refine (hT wq (hV.hp hq (by (repeat (first | exact trivial | exact hX.off (by omega) | refine ⟨by first | assumption | omega | (simp only; omega), ?_⟩))) (by (repeat (first | exact trivial | exact hX.off (by omega) | refine ⟨by first | assumption | omega | (simp only; omega), ?_⟩))))).mono ?_; rintro e wr ⟨rfl, hr⟩; exact ⟨rfl, hq.keep hr⟩)) | (apply Gt.outC'; exact rfl; infer_instance; exact rfl; (repeat (first | exact List.Mem.head _ | apply List.Mem.tail)); (first | exact LSub.whole (ptC_len _ _ _) | exact LSub.whole (poC_len _ _ _) | exact LSub.whole (poD_len _)); intro w' hp) | (apply Wl.loadW; exact rfl; exact rfl; (repeat (first | exact List.Mem.head _ | apply List.Mem.tail)); exact rfl) | (apply Wl.boxN; exact rfl; exact rfl; intro c hc ho) | (apply Wl.buildN; exact rfl; (repeat (first | exact Parts.nil | apply Parts.cons rfl)); (repeat (first | apply Fills.nil | (apply Fills.one; exact rfl; exact rfl; (repeat (first | apply LSet.z | apply LSet.s))) | (apply Fills.agg; exact rfl; exact rfl; (repeat (first | apply LPut.s | apply LPut.z | apply LOver.nil | apply LOver.cons))))); (first | exact one8 | exact zero8 | exact two8 | exact one16)) | (apply Wl.move; exact rfl; exact rfl) | (apply Wl.boxA; exact rfl; exact rfl; intro c hc ho) | (apply Wl.alloc; exact rfl; intro c hc ho) | (apply Wl.nil) | (apply St.seq) | (apply St.region) | (apply St.ret) | (apply Gt.next) | (apply Wl.splitP; exact rfl; exact rfl; all_goals (intros; try (exfalso; omega))) | (apply Wl.splitB; exact rfl; exact rfl; all_goals intros) | (apply St.condP; exact rfl; all_goals (intros; try (exfalso; omega))) | (apply St.condB; exact rfl; all_goals intros))
  exact ⟨rfl, hp.drop (by simp; omega)⟩
theorem curNilTwo (A B : Ec.Pt) (n m : Nat) (w : World) : Calls Tryd.prog 29 #[.pointer none, numV n, poV A, numV m, poV B] w fun e w' => e = .returned (poV none) ∧ Hp w [] w' := by
  simp only [poV, poD_none]
  refine enter (args := [_, _, _, _, _]) (Γ := [(0, _), (1, _), (2, _), (3, _), (4, _)]) Tryd.func29 Tryd.ntmps29 rfl (of_decide_eq_true rfl) (.cons rfl (.cons rfl (.cons rfl (.cons rfl (.cons rfl .nil))))) ?_
  repeat' (first | (apply Wl.storeAll; exact rfl; exact rfl; (repeat (first | apply HSet.here | apply HSet.there)); (first | exact ptC_len _ _ _ | exact poC_len _ _ _ | exact poD_len _); (first | exact rfl | exact ptC_len _ _ _ | exact poC_len _ _ _ | exact poD_len _); (first | exact ptC_one _ _ _ | exact poC_one _ _ _ | exact poD_one _)) | (apply Wl.buildPn; exact rfl; (focus ((repeat (first | exact Parts.nil | apply Parts.cons rfl)); done))) | (apply Gt.outC'; exact rfl; infer_instance; exact rfl; (repeat (first | exact List.Mem.head _ | apply List.Mem.tail)); (first | exact LSub.whole (ptC_len _ _ _) | exact LSub.whole (poC_len _ _ _) | exact LSub.whole (poD_len _)); intro w' hp) | (apply Wl.boxN; exact rfl; exact rfl; intro c hc ho) | (apply Wl.move; exact rfl; exact rfl) | (apply Wl.eqlNN; exact rfl; exact rfl; exact rfl) | (apply Wl.boxA; exact rfl; exact rfl; intro c hc ho) | (apply Wl.alloc; exact rfl; intro c hc ho) | (apply Wl.nil) | (apply St.seq) | (apply St.region) | (apply St.condT; exact rfl; (first | with_reducible rfl | with_reducible assumption | decide)) | (apply St.ret) | (apply Gt.next) | (apply Gt.thenRet) | (apply Wl.splitP; exact rfl; exact rfl; all_goals (intros; try (exfalso; omega))) | (apply Wl.splitB; exact rfl; exact rfl; all_goals intros) | (apply St.condP; exact rfl; all_goals (intros; try (exfalso; omega))) | (apply St.condB; exact rfl; all_goals intros))
  exact ⟨rfl, hp.drop (by simp; omega)⟩
theorem curNilMult (A : Ec.Pt) (n : Nat) (w : World) : Calls Tryd.prog 80 #[.pointer none, numV n, poV A] w fun e w' => e = .returned (poV none) ∧ Hp w [] w' := by
  have hT := fun wq => curNilTwo A none n 0 wq
  simp only [poV, poD_none] at hT
  simp only [poV, poD_none]
  refine enter (args := [_, _, _]) (Γ := [(0, _), (1, _), (2, _)]) Tryd.func80 Tryd.ntmps80 rfl (of_decide_eq_true rfl) (.cons rfl (.cons rfl (.cons rfl .nil))) ?_
  repeat' (first | (apply Wl.loadAH; exact rfl; exact rfl; (repeat (first | exact List.Mem.head _ | apply List.Mem.tail)); (first | exact ptC_x _ _ _ | exact ptC_y _ _ _ | exact ptC_z _ _ _ | exact poC_x _ _ _ | exact poC_y _ _ _ | exact poD_x _ | exact poD_y _ | exact LSub.whole (ptC_len _ _ _) | exact LSub.whole (poC_len _ _ _) | exact LSub.whole (poD_len _))) | (apply Wl.storeAll; exact rfl; exact rfl; (repeat (first | apply HSet.here | apply HSet.there)); (first | exact ptC_len _ _ _ | exact poC_len _ _ _ | exact poD_len _); (first | exact rfl | exact ptC_len _ _ _ | exact poC_len _ _ _ | exact poD_len _); (first | exact ptC_one _ _ _ | exact poC_one _ _ _ | exact poD_one _)) | (apply Wl.buildPn; exact rfl; (focus ((repeat (first | exact Parts.nil | apply Parts.cons rfl)); done))) | (apply Wl.callQ (f := 29); exact rfl; (repeat (first | exact Evs.nil | apply Evs.cons rfl)); (intro wq hq; refine (hT wq).mono ?_; rintro e wr ⟨rfl, hr⟩; exact ⟨rfl, hq.keep hr⟩)) | (apply Gt.outC'; exact rfl; infer_instance; exact rfl; (repeat (first | exact List.Mem.head _ | apply List.Mem.tail)); (first | exact LSub.whole (ptC_len _ _ _) | exact LSub.whole (poC_len _ _ _) | exact LSub.whole (poD_len _)); intro w' hp) | (apply Wl.loadW; exact rfl; exact rfl; (repeat (first | exact List.Mem.head _ | apply List.Mem.tail)); exact rfl) | (apply Wl.boxN; exact rfl; exact rfl; intro c hc ho) | (apply Wl.buildN; exact rfl; (repeat (first | exact Parts.nil | apply Parts.cons rfl)); (repeat (first | apply Fills.nil | (apply Fills.one; exact rfl; exact rfl; (repeat (first | apply LSet.z | apply LSet.s))) | (apply Fills.agg; exact rfl; exact rfl; (repeat (first | apply LPut.s | apply LPut.z | apply LOver.nil | apply LOver.cons))))); (first | exact one8 | exact zero8 | exact two8 | exact one16)) | (apply Wl.move; exact rfl; exact rfl) | (apply Wl.boxA; exact rfl; exact rfl; intro c hc ho) | (apply Wl.alloc; exact rfl; intro c hc ho) | (apply Wl.nil) | (apply St.seq) | (apply St.region) | (apply St.ret) | (apply Gt.next) | (apply Wl.splitP; exact rfl; exact rfl; all_goals (intros; try (exfalso; omega))) | (apply Wl.splitB; exact rfl; exact rfl; all_goals intros) | (apply St.condP; exact rfl; all_goals (intros; try (exfalso; omega))) | (apply St.condB; exact rfl; all_goals intros))
  exact ⟨rfl, hp.drop (by simp; omega)⟩
theorem curNilOn (A : Ec.Pt) (w : World) : Calls Tryd.prog 44 #[.pointer none, poV A] w fun e w' => e = .returned (.bool false) ∧ Hp w [] w' := by
  simp only [poV, poD_none]
  refine enter (args := [_, _]) (Γ := [(0, _), (1, _)]) Tryd.func44 Tryd.ntmps44 rfl (of_decide_eq_true rfl) (.cons rfl (.cons rfl .nil)) ?_
  repeat' (first | (apply St.bagX 28 [27]; exact mixed; (decide +kernel); kernel_rfl) | (apply OpsX.nil) | (apply OpsX.v; (intro X hX; change Wl [_] _ _ _ _ _ _ _; apply Wl.catX; (repeat (first | apply CatB.nil | apply CatB.cons)))) | (apply Gt.endX; exact rfl) | (apply EndX.on; exact rfl) | (apply EndX.off; exact rfl) | (apply EndX.nil'; apply Wl.catE; (repeat (first | apply CatB.nil | apply CatB.cons))) | (apply Wl.move; exact rfl; exact rfl) | (apply Wl.assign; exact rfl; exact rfl) | (apply Wl.off; exact rfl; exact rfl; exact rfl; (first | with_reducible rfl | (show _ = false; with_reducible assumption) | (show _ = true; with_reducible assumption) | decide)) | (apply Wl.pickT; exact rfl; exact rfl; (first | with_reducible rfl | with_reducible assumption | decide); exact rfl) | (apply Wl.eqlNN; exact rfl; exact rfl; exact rfl) | (apply Wl.boxA; exact rfl; exact rfl; intro c hc ho) | (apply Wl.nil) | (apply St.seq) | (apply St.region) | (apply St.condT; exact rfl; (first | with_reducible rfl | with_reducible assumption | decide)) | (apply St.ret) | (apply Gt.next) | (apply Gt.thenRet) | (apply Gt.out1; exact rfl; exact rfl; intro w' hp) | (apply Wl.splitP; exact rfl; exact rfl; all_goals (intros; try (exfalso; omega))) | (apply Wl.splitB; exact rfl; exact rfl; all_goals intros) | (apply St.condP; exact rfl; all_goals (intros; try (exfalso; omega))) | (apply St.condB; exact rfl; all_goals intros))
  exact ⟨rfl, hp.drop (by simp; omega)⟩
end Go.Proofs.YtfaobdakpbpkbaaDoor
end
section
/-
  porticoref04: P, b, NewField, Field.Inv. Conditions: the modulus is odd-like (its lowest digit is at least 2), numbers are below it.
-/
namespace Go.Pt
theorem LPut.list {l xs : List Value} {n : Nat} (h : n + xs.length ≤ l.length) : LPut l n xs (l.take n ++ xs ++ l.drop (n + xs.length)) := by
  have e : l = l.take n ++ ((l.drop n).take xs.length ++ l.drop (n + xs.length)) := by
    rw [← List.drop_drop, List.take_append_drop, List.take_append_drop]
  have := LPut.app (p := l.take n) (l := (l.drop n).take xs.length) (xs := xs) (r := l.drop (n + xs.length)) (n := n) (by rw [List.length_take]; omega) (by rw [List.length_take, List.length_drop]; omega)
  rw [← e] at this
  rw [List.append_assoc]
  exact this
theorem cellsN_put {K : IntKind} {n i l : Nat} {f g h : Nat → Nat} (hl : i + l ≤ n) (h1 : ∀ j, i ≤ j → j < i + l → h j = g (j - i)) (h2 : ∀ j, j < i ∨ i + l ≤ j → h j = f j) : LPut (cellsN K n f) i (cellsN K l g) (cellsN K n h) := by
  have e : cellsN K n h = (cellsN K n f).take i ++ cellsN K l g ++ (cellsN K n f).drop (i + (cellsN K l g).length) := by
    apply List.ext_getElem?
    intro j
    rw [cellsN_len]
    by_cases hj : j < n
    · rw [cellsN_get hj]
      by_cases h3 : j < i
      · rw [h2 j (.inl h3), List.append_assoc, List.getElem?_append_left (by rw [List.length_take, cellsN_len]; omega), List.getElem?_take_of_lt h3, cellsN_get hj]
      · by_cases h4 : j < i + l
        · rw [h1 j (by omega) h4, List.append_assoc, List.getElem?_append_right (by rw [List.length_take, cellsN_len]; omega), List.getElem?_append_left (by rw [List.length_take, cellsN_len, cellsN_len]; omega), List.length_take, cellsN_len, Nat.min_eq_left (by omega), cellsN_get (by omega)]
        · rw [h2 j (.inr (by omega)), List.getElem?_append_right (by rw [List.length_append, List.length_take, cellsN_len, cellsN_len]; omega), List.getElem?_drop, List.length_append, List.length_take, cellsN_len, cellsN_len, Nat.min_eq_left (by omega), show i + l + (j - (i + l)) = j by omega, cellsN_get hj]
    · rw [List.getElem?_eq_none (by rw [cellsN_len]; omega), List.getElem?_eq_none (by rw [List.length_append, List.length_append, List.length_take, List.length_drop, cellsN_len, cellsN_len]; omega)]
  rw [e]
  exact LPut.list (by rw [cellsN_len, cellsN_len]; exact hl)
end Go.Pt
namespace Go.Proofs.YtfaobdakpbpkbaaDoor
open Go.RowKit Go.Pt
attribute [local irreducible] Prim.P256
theorem ref4P (w : World) : Calls Tryd.prog 38 #[] w fun e w' => e = .returned (num16 Prim.P256) ∧ Hp w [] w' := by
  refine enter (args := []) (Γ := []) Tryd.func38 Tryd.ntmps38 rfl (of_decide_eq_true rfl) .nil ?_
  repeat' (first | (apply Wl.buildN; exact rfl; (repeat (first | exact Parts.nil | apply Parts.cons rfl)); (repeat (first | apply Fills.nil | (apply Fills.one; exact rfl; exact rfl; (repeat (first | apply LSet.z | apply LSet.s))) | (apply Fills.agg; exact rfl; exact rfl; (repeat (first | apply LPut.s | apply LPut.z | apply LOver.nil | apply LOver.cons))))); exact p8P) | (apply Wl.callQ (f := 71); exact rfl; (repeat (first | exact Evs.nil | apply Evs.cons rfl)); (intro wq hq; refine (refOf _ wq).mono ?_; rintro e wr ⟨rfl, hr⟩; exact ⟨rfl, hq.keep hr⟩)) | (apply Gt.outN; exact rfl; infer_instance; exact rfl; (repeat (first | exact List.Mem.head _ | apply List.Mem.tail)); exact rfl; intro w' hp) | (apply Wl.storeW; exact rfl; exact rfl; (repeat (first | apply HSet.here | apply HSet.there)); exact rfl; (first | exact cellsN_len _ _ _ | exact rfl)) | (apply Wl.allocN; exact rfl; (first | exact z8 | exact z16 | exact z17 | exact z33 | exact z10); intro c hc ho) | (apply Wl.nil) | (apply St.seq) | (apply St.region) | (apply St.ret) | (apply Gt.next) | (apply Wl.splitP; exact rfl; exact rfl; all_goals (intros; try (exfalso; omega))) | (apply Wl.splitB; exact rfl; exact rfl; all_goals intros) | (apply St.condP; exact rfl; all_goals (intros; try (exfalso; omega))) | (apply St.condB; exact rfl; all_goals intros))
  exact ⟨rfl, hp.drop (by simp; omega)⟩
theorem ref4b (w : World) : Calls Tryd.prog 78 #[] w fun e w' => e = .returned (num16 curB.val) ∧ Hp w [] w' := by
  refine enter (args := []) (Γ := []) Tryd.func78 Tryd.ntmps78 rfl (of_decide_eq_true rfl) .nil ?_
  repeat' (first | (apply Wl.buildN; exact rfl; (repeat (first | exact Parts.nil | apply Parts.cons rfl)); (repeat (first | apply Fills.nil | (apply Fills.one; exact rfl; exact rfl; (repeat (first | apply LSet.z | apply LSet.s))) | (apply Fills.agg; exact rfl; exact rfl; (repeat (first | apply LPut.s | apply LPut.z | apply LOver.nil | apply LOver.cons))))); exact b8N) | (apply Wl.callQ (f := 71); exact rfl; (repeat (first | exact Evs.nil | apply Evs.cons rfl)); (intro wq hq; refine (refOf _ wq).mono ?_; rintro e wr ⟨rfl, hr⟩; exact ⟨rfl, hq.keep hr⟩)) | (apply Gt.outN; exact rfl; infer_instance; exact rfl; (repeat (first | exact List.Mem.head _ | apply List.Mem.tail)); exact rfl; intro w' hp) | (apply Wl.storeW; exact rfl; exact rfl; (repeat (first | apply HSet.here | apply HSet.there)); exact rfl; (first | exact cellsN_len _ _ _ | exact rfl)) | (apply Wl.allocN; exact rfl; (first | exact z8 | exact z16 | exact z17 | exact z33 | exact z10); intro c hc ho) | (apply Wl.nil) | (apply St.seq) | (apply St.region) | (apply St.ret) | (apply Gt.next) | (apply Wl.splitP; exact rfl; exact rfl; all_goals (intros; try (exfalso; omega))) | (apply Wl.splitB; exact rfl; exact rfl; all_goals intros) | (apply St.condP; exact rfl; all_goals (intros; try (exfalso; omega))) | (apply St.condB; exact rfl; all_goals intros))
  exact ⟨rfl, hp.drop (by simp; omega)⟩
theorem ref4N (w : World) : Calls Tryd.prog 34 #[] w fun e w' => e = .returned (num16 Prim.N256) ∧ Hp w [] w' := by
  refine enter (args := []) (Γ := []) Tryd.func34 Tryd.ntmps34 rfl (of_decide_eq_true rfl) .nil ?_
  repeat' (first | (apply Wl.buildN; exact rfl; (repeat (first | exact Parts.nil | apply Parts.cons rfl)); (repeat (first | apply Fills.nil | (apply Fills.one; exact rfl; exact rfl; (repeat (first | apply LSet.z | apply LSet.s))) | (apply Fills.agg; exact rfl; exact rfl; (repeat (first | apply LPut.s | apply LPut.z | apply LOver.nil | apply LOver.cons))))); exact n8) | (apply Wl.callQ (f := 71); exact rfl; (repeat (first | exact Evs.nil | apply Evs.cons rfl)); (intro wq hq; refine (refOf _ wq).mono ?_; rintro e wr ⟨rfl, hr⟩; exact ⟨rfl, hq.keep hr⟩)) | (apply Gt.outN; exact rfl; infer_instance; exact rfl; (repeat (first | exact List.Mem.head _ | apply List.Mem.tail)); exact rfl; intro w' hp) | (apply Wl.storeW; exact rfl; exact rfl; (repeat (first | apply HSet.here | apply HSet.there)); exact rfl; (first | exact cellsN_len _ _ _ | exact rfl)) | (apply Wl.allocN; exact rfl; (first | exact z8 | exact z16 | exact z17 | exact z33 | exact z10); intro c hc ho) | (apply Wl.nil) | (apply St.seq) | (apply St.region) | (apply St.ret) | (apply Gt.next) | (apply Wl.splitP; exact rfl; exact rfl; all_goals (intros; try (exfalso; omega))) | (apply Wl.splitB; exact rfl; exact rfl; all_goals intros) | (apply St.condP; exact rfl; all_goals (intros; try (exfalso; omega))) | (apply St.condB; exact rfl; all_goals intros))
  exact ⟨rfl, hp.drop (by simp; omega)⟩
/-! ### NewField -/
/-- the cells of a field of which k rows are laid -/
def hF (m k : Nat) : Nat → Nat := fun j => if j < 16 then dg D16 m j else if j < 16 + k * 16 then dg D16 (rowR m ((j - 16) / 16)) ((j - 16) % 16) else 0
def dblR (m k i : Nat) : Nat := D16 ^ (16 + k) * 2 ^ i % m
theorem dblR_zero (m k : Nat) : dblR m k 0 = rowR m k := by unfold dblR rowR; rw [Nat.pow_zero, Nat.mul_one]
theorem dblR_step (m k i : Nat) : (dblR m k i + dblR m k i) % m = dblR m k (i + 1) := by
  unfold dblR
  rw [Nat.pow_succ, ← Nat.mul_assoc, Nat.mul_two, ← Nat.add_mod]
theorem dblR_end (m k : Nat) : dblR m k 16 = rowR m (k + 1) := by
  unfold dblR rowR
  have e : (2 : Nat) ^ 16 = D16 := by decide
  rw [e, show 16 + (k + 1) = 16 + k + 1 by omega, Nat.pow_succ]
theorem rowR_0 (m : Nat) : W256 % m = rowR m 0 := by unfold rowR; rw [W256_eq16]
theorem hF_put (m k : Nat) (hk : k < 16) : LPut (cellsN .u64 272 (hF m k)) (16 + k * 16) (cellsN .u64 16 (dg D16 (rowR m k))) (cellsN .u64 272 (hF m (k + 1))) :=
  cellsN_put (by omega) (fun j h1 h2 => by
    unfold hF
    rw [if_neg (by omega), if_pos (by omega), show (j - 16) / 16 = k by omega, show (j - 16) % 16 = j - (16 + k * 16) by omega]) fun j h => by
    unfold hF
    by_cases h1 : j < 16
    · rw [if_pos h1, if_pos h1]
    · rw [if_neg h1, if_neg h1]
      by_cases h2 : j < 16 + k * 16
      · rw [if_pos h2, if_pos (by omega)]
      · rw [if_neg h2, if_neg (by omega)]
theorem hF_first (m : Nat) : LPut (cellsN .u64 272 fun _ => 0) 0 (cellsN .u64 16 (dg D16 m)) (cellsN .u64 272 (hF m 0)) :=
  cellsN_put (by omega) (fun j h1 h2 => by unfold hF; rw [if_pos (by omega)]; rfl) fun j h => by
    unfold hF
    rw [if_neg (by omega), if_neg (by omega)]
section
variable {md : Md} {N : Nat} {ops : Array Oper} {rest : List Oper} {Γ : Env} {C : World → Prop} {Q : Exit → Act → World → Prop} {d : Nat} {ty : TypeId} {pos : String} {af : Array Edge} {parts : Array (Nat × Operand)}
instance tyFl : TyP Tryd.prog 73 [(0, 16), (16, 256)] (List.replicate 272 (.int .u64 0)) := ⟨by kernel_rfl⟩
theorem Wl.buildFl {x : Nat} (hd : Nat.blt d N = true) (hp : Parts Γ parts.toList [(0, num16 x)]) (h : Wl rest Tryd.prog md ops N ((d, .agg (cellsN .u64 272 (hF x 0)).toArray) :: Γ) C Q) :
    Wl (⟨some d, .build 73 parts, ty, pos, af, none⟩ :: rest) Tryd.prog md ops N Γ C Q := by
  refine Wl.build hd hp (fun _ => run_build_struct ?_) h
  have h2 := hF_first x
  refine .agg rfl (by rw [cellsN_len]; rfl) (cs1 := cellsN .u64 272 (hF x 0)) ?_ .nil
  have e : ∀ n, cellsN .u64 n (fun _ => 0) = List.replicate n (.int .u64 0) := fun n => by
    apply List.ext_getElem
    · simp [cellsN_len]
    · intro i h1 h2
      have := cellsN_get (k := .u64) (n := n) (i := i) (f := fun _ => 0) (by rw [cellsN_len] at h1; exact h1)
      rw [List.getElem?_eq_getElem h1] at this
      simp at this
      simp [this]
  rw [e] at h2
  exact h2
end
set_option maxHeartbeats 8000000 in
theorem newField (m : Nat) (w : World) (hm : m < W256) (hg : W256 ≤ 2 * m) (h0 : rowR m 0 < 2 ^ 225) (h1 : rowR m 1 < 2 ^ 241) : Calls Tryd.prog 33 #[num16 m] w fun e w' => ∃ b, e = .returned (mp b) ∧ w.heap.size ≤ b ∧ FldV w' b m ∧ Hp w [] w' := by
  have hm1 : 1 < m := by unfold W256 at hg; omega
  refine enter (args := [_]) (Γ := [(0, _)]) Tryd.func33 Tryd.ntmps33 rfl (of_decide_eq_true rfl) (.cons rfl .nil) ?_
  have hR := fun wq => refR m wq hm hm1
  rw [rowR_0] at hR
  have hlt : ∀ k i, dblR m k i < m := fun k i => Nat.mod_lt _ (by omega)
  repeat' (first | (apply Wl.buildFl; exact rfl; (focus ((repeat (first | exact Parts.nil | apply Parts.cons rfl)); done))) | (apply Wl.callQ (f := 69); exact rfl; (repeat (first | exact Evs.nil | apply Evs.cons rfl)); (intro wq hq; refine (hR wq).mono ?_; rintro e wr ⟨rfl, hr⟩; exact ⟨rfl, hq.keep hr⟩)) | (apply Wl.loadW; exact rfl; exact rfl; (repeat (first | exact List.Mem.head _ | apply List.Mem.tail)); exact rfl) | (apply Wl.storeW; exact rfl; exact rfl; (repeat (first | apply HSet.here | apply HSet.there)); exact rfl; (first | exact cellsN_len _ _ _ | exact rfl)) | (apply Wl.boxN; exact rfl; exact rfl; intro c hc ho) | (apply Wl.allocN; exact rfl; (first | exact z8 | exact z16 | exact z17 | exact z33 | exact z10); intro c hc ho) | (apply Wl.assign; exact rfl; exact rfl) | (apply Wl.nil) | (apply St.seq) | (apply St.block) | (apply St.region) | (apply Gt.next) | (apply Wl.splitP; exact rfl; exact rfl; all_goals (intros; try (exfalso; omega))) | (apply Wl.splitB; exact rfl; exact rfl; all_goals intros) | (apply St.condP; exact rfl; all_goals (intros; try (exfalso; omega))) | (apply St.condB; exact rfl; all_goals intros))
  rename_i c1 hc1 ho1 cf hcf hof
  generalize c = cr at *
  refine St.loop (σ := Nat) (fun k => k ≤ 16) (fun k => [(1, mp c1), (3, mp cf), (4, mp cr), (5, .int .i64 k)])
    (fun k => Hp w [⟨cr, cellsN .u64 16 (dg D16 (rowR m k)), 37⟩, ⟨cf, cellsN .u64 272 (hF m k), 73⟩, ⟨c1, cellsN .u64 16 (dg D16 m), 37⟩])
    (fun k => 16 - k) 0 (by simp) (by (repeat (first | exact Sub.nil | apply Sub.cons rfl))) (fun _ h => h) ?_
  intro k hk16
  by_cases hkl : k < 16
  · repeat' (first | (apply St.bagX 6 []; exact mixed; (decide +kernel); kernel_rfl) | (apply OpsX.nil) | (apply OpsX.v; (intro X hX; change Wl [_] _ _ _ _ _ _ _; apply Wl.catX; (repeat (first | apply CatB.nil | apply CatB.cons)))) | (apply Gt.endX; exact rfl) | (apply EndX.on; exact rfl) | (apply EndX.off; exact rfl) | (apply EndX.nil'; apply Wl.catE; (repeat (first | apply CatB.nil | apply CatB.cons))) | (apply Wl.storeA; exact rfl; exact rfl; exact cellsN_len _ _ _; exact cellsN_one _ _ _; (repeat (first | apply HSet.here | apply HSet.there)); exact hF_put m k hkl) | (apply Wl.loadW; exact rfl; exact rfl; (repeat (first | exact List.Mem.head _ | apply List.Mem.tail)); exact rfl) | (apply Wl.move; exact rfl; exact rfl) | (apply Wl.assign; exact rfl; exact rfl) | (apply Wl.nilCheck; exact rfl; exact rfl) | (apply Wl.fieldAddrZ; exact rfl; exact rfl) | (apply Wl.lss; exact rfl; exact rfl; exact rfl) | (apply Wl.indexArr; exact rfl; exact rfl; exact rfl; (constructor <;> omega)) | (apply Wl.nil) | (apply St.seq) | (apply St.block) | (apply St.region) | (apply St.skip) | (apply Gt.next) | (apply Wl.splitP; exact rfl; exact rfl; all_goals (intros; try (exfalso; omega))) | (apply Wl.splitB; exact rfl; exact rfl; all_goals intros) | (apply St.condP; exact rfl; all_goals (intros; try (exfalso; omega))) | (apply St.condB; exact rfl; all_goals intros))
    refine St.loop (σ := Nat) (fun i => i ≤ 16) (fun i => [(1, mp c1), (3, mp cf), (4, mp cr), (5, .int .i64 k), (6, .int .i64 i)])
      (fun i => Hp w [⟨cr, cellsN .u64 16 (dg D16 (dblR m k i)), 37⟩, ⟨cf, cellsN .u64 272 (hF m (k + 1)), 73⟩, ⟨c1, cellsN .u64 16 (dg D16 m), 37⟩])
      (fun i => 16 - i) 0 (by simp) (by (repeat (first | exact Sub.nil | apply Sub.cons rfl))) (fun _ h => by rw [dblR_zero]; exact h) ?_
    intro i hi16
    by_cases hil : i < 16
    · repeat' (first | (apply Wl.callQ (f := 70); exact rfl; (repeat (first | exact Evs.nil | apply Evs.cons rfl)); (intro wq hq; refine (refAdd _ _ m wq hm (hlt _ _) (hlt _ _)).mono ?_; rintro e wr ⟨rfl, hr⟩; exact ⟨rfl, hq.keep hr⟩)) | (apply Wl.loadW; exact rfl; exact rfl; (repeat (first | exact List.Mem.head _ | apply List.Mem.tail)); exact rfl) | (apply Wl.storeW; exact rfl; exact rfl; (repeat (first | apply HSet.here | apply HSet.there)); exact rfl; (first | exact cellsN_len _ _ _ | exact rfl)) | (apply Wl.move; exact rfl; exact rfl) | (apply Wl.assign; exact rfl; exact rfl) | (apply Wl.lss; exact rfl; exact rfl; exact rfl) | (apply Wl.addI; exact rfl; exact rfl; exact rfl; (constructor <;> omega)) | (apply Wl.nil) | (apply St.seq) | (apply St.block) | (apply St.region) | (apply St.skip) | (apply Gt.next) | (apply Gt.inNormal) | (apply Wl.splitP; exact rfl; exact rfl; all_goals (intros; try (exfalso; omega))) | (apply Wl.splitB; exact rfl; exact rfl; all_goals intros) | (apply St.condP; exact rfl; all_goals (intros; try (exfalso; omega))) | (apply St.condB; exact rfl; all_goals intros))
      rw [dblR_step]
      apply Gt.round (i + 1)
      rotate_left
      · omega
      · (repeat (first | exact Sub.nil | apply Sub.cons rfl))
      · exact fun _ h => h
      · omega
    · have hie : i = 16 := by omega
      subst hie
      rw [dblR_end]
      repeat' (first | (apply Wl.move; exact rfl; exact rfl) | (apply Wl.assign; exact rfl; exact rfl) | (apply Wl.lss; exact rfl; exact rfl; exact rfl) | (apply Wl.addI; exact rfl; exact rfl; exact rfl; (constructor <;> omega)) | (apply Wl.nil) | (apply St.seq) | (apply St.region) | (apply St.condF; exact rfl; (first | with_reducible rfl | with_reducible assumption | decide)) | (apply St.exit) | (apply Gt.next) | (apply Gt.thenExit) | (apply Gt.inNormal) | (apply Gt.inExit) | (apply Wl.splitP; exact rfl; exact rfl; all_goals (intros; try (exfalso; omega))) | (apply Wl.splitB; exact rfl; exact rfl; all_goals intros) | (apply St.condP; exact rfl; all_goals (intros; try (exfalso; omega))) | (apply St.condB; exact rfl; all_goals intros))
      apply Gt.round (k + 1)
      rotate_left
      · omega
      · (repeat (first | exact Sub.nil | apply Sub.cons rfl))
      · exact fun _ h => h
      · omega
  · have hke : k = 16 := by omega
    subst hke
    repeat' (first | (apply Wl.move; exact rfl; exact rfl) | (apply Wl.assign; exact rfl; exact rfl) | (apply Wl.lss; exact rfl; exact rfl; exact rfl) | (apply Wl.nil) | (apply St.seq) | (apply St.region) | (apply St.condF; exact rfl; (first | with_reducible rfl | with_reducible assumption | decide)) | (apply St.ret) | (apply St.exit) | (apply Gt.next) | (apply Gt.thenExit) | (apply Gt.inExit) | (apply Gt.out1; exact rfl; exact rfl; intro w' hp) | (apply Wl.splitP; exact rfl; exact rfl; all_goals (intros; try (exfalso; omega))) | (apply Wl.splitB; exact rfl; exact rfl; all_goals intros) | (apply St.condP; exact rfl; all_goals (intros; try (exfalso; omega))) | (apply St.condB; exact rfl; all_goals intros))
    have hmem : (⟨cf, cellsN .u64 272 (hF m 16), 73⟩ : Blk) ∈ [(⟨cr, cellsN .u64 16 (dg D16 (rowR m 16)), 37⟩ : Blk), ⟨cf, cellsN .u64 272 (hF m 16), 73⟩, ⟨c1, cellsN .u64 16 (dg D16 m), 37⟩] := .tail _ (.head _)
    refine ⟨cf, rfl, hcf, ⟨fun j hj => ?_, fun k i hk hi => ?_, hm, hg, h0, h1⟩, hp.drop (by simp; omega)⟩
    · refine hp.cell hmem ?_
      rw [cellsN_get (by omega), Nat.zero_add]
      unfold hF
      rw [if_pos hj]
    · refine hp.cell hmem ?_
      rw [cellsN_get (by omega)]
      unfold hF
      rw [if_neg (by omega), if_pos (by omega), show (16 + k * 16 + i - 16) / 16 = k by omega, show (16 + k * 16 + i - 16) % 16 = i by omega]
end Go.Proofs.YtfaobdakpbpkbaaDoor
end
section
/-
  porticoref04.Field.Inv; the document's field told over the field of the group law; its points as values. Conditions: numbers are below the modulus.
-/
namespace Go.Proofs.YtfaobdakpbpkbaaDoor
open Go.RowKit Go.Pt
attribute [local irreducible] Prim.P256
def pwm (m x k : Nat) : Nat := x ^ k % m
theorem pwm_zero (m x : Nat) (h : 1 < m) : pwm m x 0 = 1 := by unfold pwm; rw [Nat.pow_zero, Nat.mod_eq_of_lt h]
theorem pwm_dbl (m x k : Nat) : pwm m x k * pwm m x k % m = pwm m x (2 * k) := by unfold pwm; rw [← Nat.mul_mod, Nat.two_mul, Nat.pow_add]
theorem pwm_one (m x k : Nat) : pwm m x k * x % m = pwm m x (k + 1) := by unfold pwm; rw [Nat.mod_mul_mod, Nat.pow_succ]
theorem pwm_lt {m : Nat} (x k : Nat) (h : 0 < m) : pwm m x k < m := Nat.mod_lt _ h
attribute [irreducible] pwm
theorem dg_less {m : Nat} (h : 2 ≤ dg D16 m 0) (j : Nat) : updN (dg D16 m) 0 (dg D16 m 0 - 2) j = dg D16 (m - 2) j := by
  have e : dg D16 m 0 = m % 65536 := by unfold dg; rw [hi_zero]
  have e' : dg D16 (m - 2) 0 = (m - 2) % 65536 := by unfold dg; rw [hi_zero]
  unfold updN
  by_cases hj : j = 0
  · subst hj
    rw [if_pos rfl, e, e']
    omega
  · rw [if_neg hj]
    obtain ⟨k, rfl⟩ : ∃ k, j = k + 1 := ⟨j - 1, by omega⟩
    have : ∀ n, dg D16 n (k + 1) = dg D16 (n / 65536) k := fun n => by
      unfold dg hi
      rw [Nat.div_div_eq_div_mul, Nat.pow_succ, Nat.mul_comm (D16 ^ k)]
    rw [this, this]
    congr 1
    omega
set_option maxHeartbeats 8000000 in
theorem refFInv (b m x : Nat) (w : World) (hF : FldV w b m) (hx : x < m) (h2 : 2 ≤ dg D16 m 0) : Calls Tryd.prog 37 #[mp b, num16 x] w fun e w' => e = .returned (num16 (pwm m x (m - 2))) ∧ Hp w [] w' := by
  have hb := hF.blk
  have hm1 : 1 < m := by have := hF.gt; unfold W256 at this; omega
  have hm0 : 0 < m := by omega
  have hmW := hF.lt
  refine enter (args := [_, _]) (Γ := [(0, _), (1, _)]) Tryd.func37 Tryd.ntmps37 rfl (of_decide_eq_true rfl) (.cons rfl (.cons rfl .nil)) ?_
  have hs : dg D16 m 0 < 65536 := dlt16 m 0
  have q0 : (dg D16 m 0 + 18446744073709551616 - 2) % 18446744073709551616 = dg D16 m 0 - 2 := by omega
  repeat' (first | (apply Wl.loadM; exact rfl; exact rfl; exact hF.mod; (repeat (first | exact trivial | exact hX.off (by omega) | refine ⟨by first | assumption | omega | (simp only; omega), ?_⟩)); exact rfl) | (apply Wl.indexA (j := 0); exact rfl; exact rfl; exact rfl; (decide)) | (apply Wl.subNU (n := 2); exact rfl; exact rfl; exact rfl; (omega)) | (apply Wl.loadN; exact rfl; exact rfl; (repeat (first | exact List.Mem.head _ | apply List.Mem.tail)); (omega)) | (apply Wl.storeN; exact rfl; exact rfl; (repeat (first | apply HSet.here | apply HSet.there)); (omega)) | (apply Wl.storeW; exact rfl; exact rfl; (repeat (first | apply HSet.here | apply HSet.there)); exact rfl; (first | exact cellsN_len _ _ _ | exact rfl)) | (apply Wl.boxN; exact rfl; exact rfl; intro c hc ho) | (apply Wl.buildN; exact rfl; (repeat (first | exact Parts.nil | apply Parts.cons rfl)); (repeat (first | apply Fills.nil | (apply Fills.one; exact rfl; exact rfl; (repeat (first | apply LSet.z | apply LSet.s))) | (apply Fills.agg; exact rfl; exact rfl; (repeat (first | apply LPut.s | apply LPut.z | apply LOver.nil | apply LOver.cons))))); (first | exact one8 | exact zero8 | exact two8 | exact one16)) | (apply Wl.allocN; exact rfl; (first | exact z8 | exact z16 | exact z17 | exact z33 | exact z10); intro c hc ho) | (apply Wl.move; exact rfl; exact rfl) | (apply Wl.assign; exact rfl; exact rfl) | (apply Wl.nilCheck; exact rfl; exact rfl) | (apply Wl.fieldAddr0; exact rfl; exact rfl) | (apply Wl.nil) | (apply St.seq) | (apply St.block) | (apply St.region) | (apply Gt.next) | (apply Wl.splitP; exact rfl; exact rfl; all_goals (intros; try (exfalso; omega))) | (apply Wl.splitB; exact rfl; exact rfl; all_goals intros) | (apply St.condP; exact rfl; all_goals (intros; try (exfalso; omega))) | (apply St.condB; exact rfl; all_goals intros))
  rw [q0, cellsN_congr (g := dg D16 (m - 2)) (fun j _ => dg_less h2 j)]
  rename_i c3 h3 o3 c4 h4 o4 c5 h5 o5
  generalize c = c6 at *
  have e0 : (m - 2) / 2 ^ 256 = 0 := Nat.div_eq_of_lt (by rw [show (2 : Nat) ^ 256 = W256 by decide]; omega)
  refine St.loop (σ := Nat) (fun n => n ≤ 256) (fun n => [(0, mp b), (3, mp c3), (4, mp c4), (5, mp c5), (6, mp c6), (7, .int .i64 ((n : Int) - 1))])
    (fun n => Hp w [⟨c6, cellsN .u64 16 (dg D16 (m - 2)), 37⟩, ⟨c5, cellsN .u64 16 (dg D16 (pwm m x ((m - 2) / 2 ^ n))), 37⟩, ⟨c4, cellsN .u64 16 fun _ => 0, 37⟩, ⟨c3, cellsN .u64 16 (dg D16 x), 37⟩])
    (fun n => n) 256 (Nat.le_refl _) (by (repeat (first | exact Sub.nil | apply Sub.cons rfl))) (fun _ h => by
      show Hp w [_, ⟨c5, cellsN .u64 16 (dg D16 (pwm m x ((m - 2) / 2 ^ 256))), _⟩, _, _] _
      rw [e0, pwm_zero m x hm1]
      exact h) ?_
  intro n hn
  cases n with
  | zero =>
    rw [Nat.pow_zero, Nat.div_one]
    repeat' (first | (apply Gt.outN; exact rfl; infer_instance; exact rfl; (repeat (first | exact List.Mem.head _ | apply List.Mem.tail)); exact rfl; intro w' hp) | (apply Wl.loadW; exact rfl; exact rfl; (repeat (first | exact List.Mem.head _ | apply List.Mem.tail)); exact rfl) | (apply Wl.storeW; exact rfl; exact rfl; (repeat (first | apply HSet.here | apply HSet.there)); exact rfl; (first | exact cellsN_len _ _ _ | exact rfl)) | (apply Wl.move; exact rfl; exact rfl) | (apply Wl.geq; exact rfl; exact rfl; exact rfl) | (apply Wl.nil) | (apply St.seq) | (apply St.region) | (apply St.condF; exact rfl; (first | with_reducible rfl | with_reducible assumption | decide)) | (apply St.ret) | (apply St.exit) | (apply Gt.next) | (apply Gt.thenExit) | (apply Gt.inExit) | (apply Wl.splitP; exact rfl; exact rfl; all_goals (intros; try (exfalso; omega))) | (apply Wl.splitB; exact rfl; exact rfl; all_goals intros) | (apply St.condP; exact rfl; all_goals (intros; try (exfalso; omega))) | (apply St.condB; exact rfl; all_goals intros))
    exact ⟨rfl, hp.drop (by simp; omega)⟩
  | succ i =>
    have ei : (((i + 1 : Nat) : Int) - 1) = (i : Int) := by omega
    rw [ei]
    have hr := pwm_lt x ((m - 2) / 2 ^ (i + 1)) hm0
    have hr2 := pwm_lt x (2 * ((m - 2) / 2 ^ (i + 1))) hm0
    have hd := pwm_dbl m x ((m - 2) / 2 ^ (i + 1))
    have hbit := bit_dg16 (m - 2) i
    have hst := bit_step (m - 2) i
    have hdl := dlt16 (m - 2) (i / 16)
    have h16 : i / 16 < 16 := by omega
    have hb2 := Nat.mod_lt ((m - 2) / 2 ^ i) (show 0 < 2 by decide)
    repeat' (first | (apply Wl.loadW; exact rfl; exact rfl; (repeat (first | exact List.Mem.head _ | apply List.Mem.tail)); exact rfl) | (apply Wl.move; exact rfl; exact rfl) | (apply Wl.geq; exact rfl; exact rfl; exact rfl) | (apply Wl.nil) | (apply St.seq) | (apply St.block) | (apply St.region) | (apply St.skip) | (apply Gt.next) | (apply Wl.splitP; exact rfl; exact rfl; all_goals (intros; try (exfalso; omega))) | (apply Wl.splitB; exact rfl; exact rfl; all_goals intros) | (apply St.condP; exact rfl; all_goals (intros; try (exfalso; omega))) | (apply St.condB; exact rfl; all_goals intros))
    apply Wl.callQ
    exact rfl
    (repeat (first | exact Evs.nil | apply Evs.cons rfl))
    · intro wq hq
      refine (refFMul b m _ _ wq (hF.hp hq (by apply Off.of; simp; omega)) hr hr).mono ?_
      rintro e wr ⟨rfl, hr⟩
      exact ⟨rfl, hq.keep hr⟩
    rw [hd]
    repeat' (first | (apply Wl.indexA; exact rfl; exact rfl; exact rfl; (omega)) | (apply Wl.loadN; exact rfl; exact rfl; (repeat (first | exact List.Mem.head _ | apply List.Mem.tail)); (omega)) | (apply Wl.storeW; exact rfl; exact rfl; (repeat (first | apply HSet.here | apply HSet.there)); exact rfl; (first | exact cellsN_len _ _ _ | exact rfl)) | (apply Wl.remN (n := 2); exact rfl; exact rfl; exact rfl; (decide)) | (apply Wl.quoN (n := 16); exact rfl; exact rfl; exact rfl; (decide); (first | exact IntWalk.u64_in _ (by omega) | exact IntWalk.i64_in _ (by omega))) | (apply Wl.remN (n := 16); exact rfl; exact rfl; exact rfl; (decide)) | (apply Wl.shrV; exact rfl; exact rfl; exact rfl; (first | (show _ ≤ 32; omega) | (show _ ≤ 64; omega))) | (apply Wl.move; exact rfl; exact rfl) | (apply Wl.eql; exact rfl; exact rfl; exact rfl) | (apply Wl.nil) | (apply St.seq) | (apply St.region) | (apply Gt.next))
    rw [hbit]
    by_cases hbi : (m - 2) / 2 ^ i % 2 = 1
    · have e1 : 2 * ((m - 2) / 2 ^ (i + 1)) + 1 = (m - 2) / 2 ^ i := by omega
      have h1 := pwm_one m x (2 * ((m - 2) / 2 ^ (i + 1)))
      rw [e1] at h1
      rw [hbi]
      repeat' (first | (apply Wl.callQ (f := 42); exact rfl; (repeat (first | exact Evs.nil | apply Evs.cons rfl)); (intro wq hq; refine (refFMul b m _ x wq (hF.hp hq (by (repeat (first | exact trivial | exact hX.off (by omega) | refine ⟨by first | assumption | omega | (simp only; omega), ?_⟩)))) hr2 hx).mono ?_; rintro e wr ⟨rfl, hr⟩; exact ⟨rfl, hq.keep hr⟩)) | (apply Wl.loadW; exact rfl; exact rfl; (repeat (first | exact List.Mem.head _ | apply List.Mem.tail)); exact rfl) | (apply Wl.storeW; exact rfl; exact rfl; (repeat (first | apply HSet.here | apply HSet.there)); exact rfl; (first | exact cellsN_len _ _ _ | exact rfl)) | (apply Wl.move; exact rfl; exact rfl) | (apply Wl.assign; exact rfl; exact rfl) | (apply Wl.subI; exact rfl; exact rfl; exact rfl; (constructor <;> omega)) | (apply Wl.nil) | (apply St.region) | (apply St.condT; exact rfl; (first | with_reducible rfl | with_reducible assumption | decide)) | (apply Gt.next) | (apply Gt.inNormal) | (apply Wl.splitP; exact rfl; exact rfl; all_goals (intros; try (exfalso; omega))) | (apply Wl.splitB; exact rfl; exact rfl; all_goals intros) | (apply St.condP; exact rfl; all_goals (intros; try (exfalso; omega))) | (apply St.condB; exact rfl; all_goals intros))
      rw [h1]
      apply Gt.round i
      rotate_left
      · omega
      · (repeat (first | exact Sub.nil | apply Sub.cons rfl))
      · exact fun _ h => h
      · omega
    · have hb0 : (m - 2) / 2 ^ i % 2 = 0 := by omega
      have e1 : 2 * ((m - 2) / 2 ^ (i + 1)) = (m - 2) / 2 ^ i := by omega
      rw [hb0, e1]
      repeat' (first | (apply Wl.move; exact rfl; exact rfl) | (apply Wl.assign; exact rfl; exact rfl) | (apply Wl.subI; exact rfl; exact rfl; exact rfl; (constructor <;> omega)) | (apply Wl.nil) | (apply St.region) | (apply St.condF; exact rfl; (first | with_reducible rfl | with_reducible assumption | decide)) | (apply St.skip) | (apply Gt.next) | (apply Gt.inNormal) | (apply Wl.splitP; exact rfl; exact rfl; all_goals (intros; try (exfalso; omega))) | (apply Wl.splitB; exact rfl; exact rfl; all_goals intros) | (apply St.condP; exact rfl; all_goals (intros; try (exfalso; omega))) | (apply St.condB; exact rfl; all_goals intros))
      apply Gt.round i
      rotate_left
      · omega
      · (repeat (first | exact Sub.nil | apply Sub.cons rfl))
      · exact fun _ h => h
      · omega
end Go.Proofs.YtfaobdakpbpkbaaDoor
end
section
/-
  The document's field told over the field of the group law; its points as values: On, Double, Plus. Conditions: numbers are below the prime.
-/
namespace Go.Proofs.YtfaobdakpbpkbaaDoor
open Go.RowKit Go.Pt
attribute [local irreducible] Prim.P256
section
variable {b : Nat} {w : World} {x y r : Ec.F}
theorem hMul (h : FldV w b Prim.P256) (e : r = x * y) : Calls Tryd.prog 42 #[mp b, num16 x.val, num16 y.val] w fun e w' => e = .returned (num16 r.val) ∧ Hp w [] w' := by
  rw [e, Fin.val_mul]; exact refFMul b _ _ _ w h x.isLt y.isLt
theorem hAdd (h : FldV w b Prim.P256) (e : r = x + y) : Calls Tryd.prog 54 #[mp b, num16 x.val, num16 y.val] w fun e w' => e = .returned (num16 r.val) ∧ Hp w [] w' := by
  rw [e, Fin.val_add]; exact refFAdd b _ _ _ w h x.isLt y.isLt
theorem hSub (h : FldV w b Prim.P256) (e : r = x - y) : Calls Tryd.prog 73 #[mp b, num16 x.val, num16 y.val] w fun e w' => e = .returned (num16 r.val) ∧ Hp w [] w' := by
  have e2 : (x - y).val = (x.val + (Prim.P256 - y.val)) % Prim.P256 := by rw [Fin.sub_def, Nat.add_comm]
  rw [e, e2]; exact refFSub b _ _ _ w h x.isLt y.isLt
theorem dgP0 : 2 ≤ dg D16 Prim.P256 0 := by decide +kernel
theorem hInv (h : FldV w b Prim.P256) (e : r = Ec.finv x) : Calls Tryd.prog 37 #[mp b, num16 x.val] w fun e w' => e = .returned (num16 r.val) ∧ Hp w [] w' := by
  have e2 : (Ec.finv x).val = pwm Prim.P256 x.val (Prim.P256 - 2) := by unfold pwm Ec.finv; rfl
  rw [e, e2]; exact refFInv b _ _ w h x.isLt dgP0
end
theorem cell64 (n : Nat) : ∀ j, j < 16 → IntKind.u64.min ≤ (dg D16 n j : Int) ∧ (dg D16 n j : Int) ≤ IntKind.u64.max := fun j _ => by
  have := dlt16 n j
  show (0 : Int) ≤ _ ∧ _ ≤ (18446744073709551615 : Int)
  omega
theorem d16_inj {a b : Nat} (ha : a < W256) (hb : b < W256) : decide (a = b) = true ↔ ∀ j, j < 16 → dg D16 a j = dg D16 b j := by
  rw [decide_eq_true_iff]
  exact ⟨fun h j _ => by rw [h], fun h => dg_ext (B := D16) (k := 16) (by rw [← W256_eq16]; exact ha) (by rw [← W256_eq16]; exact hb) h⟩
theorem eq16Z (x : Ec.F) : decide (x = 0) = true ↔ ∀ j, j < 16 → dg D16 x.val j = dg D16 0 j := by
  rw [← d16_inj (val_W x) (by decide), decide_eq_true_iff, decide_eq_true_iff]
  exact ⟨fun h => by rw [h, val_zero], fun h => Fin.ext (by rw [h, val_zero])⟩
theorem eq16F (x y : Ec.F) : decide (x = y) = true ↔ ∀ j, j < 16 → dg D16 x.val j = dg D16 y.val j := by
  rw [← d16_inj (val_W x) (val_W y), decide_eq_true_iff, decide_eq_true_iff]
  exact ⟨fun h => by rw [h], fun h => Fin.ext h⟩
theorem zero16 : [Value.int .u64 0, .int .u64 0, .int .u64 0, .int .u64 0, .int .u64 0, .int .u64 0, .int .u64 0, .int .u64 0, .int .u64 0, .int .u64 0, .int .u64 0, .int .u64 0, .int .u64 0, .int .u64 0, .int .u64 0, .int .u64 0] = cellsN .u64 16 (dg D16 0) := by kernel_rfl
def rpC (x y z : Nat) : List Value := cellsN .u64 16 (dg D16 x) ++ (cellsN .u64 16 (dg D16 y) ++ cellsN .u64 16 (dg D16 z))
theorem rpC_len (x y z : Nat) : (rpC x y z).length = 48 := by simp [rpC, cellsN_len]
theorem rpC_one (x y z : Nat) : (rpC x y z).all Value.oneCell' = true := by
  unfold rpC
  rw [List.all_append, List.all_append, cellsN_one, cellsN_one, cellsN_one]; rfl
theorem rpC_x (x y z : Nat) : LSub (rpC x y z) 0 16 (cellsN .u64 16 (dg D16 x)) := LSub.mid (a := []) rfl (cellsN_len _ _ _)
theorem rpC_y (x y z : Nat) : LSub (rpC x y z) 16 16 (cellsN .u64 16 (dg D16 y)) := LSub.mid (cellsN_len _ _ _) (cellsN_len _ _ _)
theorem rpC_z (x y z : Nat) : LSub (rpC x y z) 32 16 (cellsN .u64 16 (dg D16 z)) := LSub.into (cellsN_len _ _ _) (LSub.end' (cellsN_len _ _ _) (cellsN_len _ _ _)) rfl
theorem rp_zero : [Value.int .u64 0, .int .u64 0, .int .u64 0, .int .u64 0, .int .u64 0, .int .u64 0, .int .u64 0, .int .u64 0, .int .u64 0, .int .u64 0, .int .u64 0, .int .u64 0, .int .u64 0, .int .u64 0, .int .u64 0, .int .u64 0] ++ ([Value.int .u64 0, .int .u64 0, .int .u64 0, .int .u64 0, .int .u64 0, .int .u64 0, .int .u64 0, .int .u64 0, .int .u64 0, .int .u64 0, .int .u64 0, .int .u64 0, .int .u64 0, .int .u64 0, .int .u64 0, .int .u64 0] ++ [Value.int .u64 0, .int .u64 0, .int .u64 0, .int .u64 0, .int .u64 0, .int .u64 0, .int .u64 0, .int .u64 0, .int .u64 0, .int .u64 0, .int .u64 0, .int .u64 0, .int .u64 0, .int .u64 0, .int .u64 0, .int .u64 0]) = rpC 0 0 0 := by
  unfold rpC; rw [zero16]
theorem fill3R {place : Nat → Option (Nat × Nat)} {za zb zc xs ys zs : List Value} (ha : za.length = 16) (hb : zb.length = 16) (hc : zc.length = 16) (hx : xs.length = 16) (hy : ys.length = 16) (hz : zs.length = 16) (p0 : place 0 = some (0, 16)) (p1 : place 1 = some (16, 16)) (p2 : place 2 = some (32, 16)) :
    Fills place (za ++ (zb ++ zc)) [(0, .agg xs.toArray), (1, .agg ys.toArray), (2, .agg zs.toArray)] (xs ++ (ys ++ zs)) := by
  have h1 : LPut (za ++ (zb ++ zc)) 0 xs (xs ++ (zb ++ zc)) := LPut.app (p := []) rfl (by rw [ha, hx])
  have h2 : LPut (xs ++ (zb ++ zc)) 16 ys (xs ++ (ys ++ zc)) := LPut.app hx (by rw [hb, hy])
  have h3 : LPut (xs ++ (ys ++ zc)) 32 zs (xs ++ (ys ++ zs)) := by
    have := LPut.app (p := xs ++ ys) (l := zc) (xs := zs) (r := []) (n := 32) (by simp [hx, hy]) (by rw [hc, hz])
    simpa using this
  exact .agg p0 (by rw [hx]; rfl) h1 (.agg p1 (by rw [hy]; rfl) h2 (.agg p2 (by rw [hz]; rfl) h3 .nil))
theorem rpC_set (x y z x' y' z' : Nat) : Fills ([(0, 16), (16, 16), (32, 16)].toArray[·]?) (rpC x y z) [(0, num16 x'), (1, num16 y'), (2, num16 z')] (rpC x' y' z') :=
  fill3R (cellsN_len _ _ _) (cellsN_len _ _ _) (cellsN_len _ _ _) (cellsN_len _ _ _) (cellsN_len _ _ _) (cellsN_len _ _ _) rfl rfl rfl
theorem rpC_y1 (x y z y' : Nat) : Fills ([(0, 16), (16, 16), (32, 16)].toArray[·]?) (rpC x y z) [(1, num16 y')] (rpC x y' z) :=
  .agg rfl (by rw [cellsN_len]; rfl) (LPut.app (cellsN_len _ _ _) (by rw [cellsN_len, cellsN_len])) .nil
attribute [irreducible] rpC
section
variable {md : Md} {N : Nat} {ops : Array Oper} {rest : List Oper} {Γ : Env} {C : World → Prop} {Q : Exit → Act → World → Prop} {d : Nat} {ty : TypeId} {pos : String} {af : Array Edge} {parts : Array (Nat × Operand)}
theorem Wl.buildRp {x y z : Nat} (hd : Nat.blt d N = true) (hp : Parts Γ parts.toList [(0, num16 x), (1, num16 y), (2, num16 z)]) (h : Wl rest Tryd.prog md ops N ((d, .agg (rpC x y z).toArray) :: Γ) C Q) :
    Wl (⟨some d, .build 39 parts, ty, pos, af, none⟩ :: rest) Tryd.prog md ops N Γ C Q := by
  refine Wl.build hd hp (fun _ => run_build_struct ?_) h
  have := rpC_set 0 0 0 x y z
  rw [← rp_zero] at this
  exact this
theorem Wl.buildRq {y : Nat} (hd : Nat.blt d N = true) (hp : Parts Γ parts.toList [(1, num16 y)]) (h : Wl rest Tryd.prog md ops N ((d, .agg (rpC 0 y 0).toArray) :: Γ) C Q) :
    Wl (⟨some d, .build 39 parts, ty, pos, af, none⟩ :: rest) Tryd.prog md ops N Γ C Q := by
  refine Wl.build hd hp (fun _ => run_build_struct ?_) h
  have := rpC_y1 0 0 0 y
  rw [← rp_zero] at this
  exact this
end
abbrev rpF (p : Ec.F × Ec.F × Ec.F) : List Value := rpC p.1.val p.2.1.val p.2.2.val
abbrev rpV (p : Ec.F × Ec.F × Ec.F) : Value := .agg (rpF p).toArray
set_option maxHeartbeats 8000000 in
theorem refOn (b : Nat) (x y : Ec.F) (w : World) (hF : FldV w b Prim.P256) : Calls Tryd.prog 45 #[mp b, num16 x.val, num16 y.val] w fun e w' => e = .returned (.bool (decide (y * y = x * x * x - (x + x + x) + curB))) ∧ Hp w [] w' := by
  have hb := hF.blk
  obtain ⟨l, h_l⟩ : ∃ q_ : Ec.F, q_ = y * y := ⟨_, rfl⟩
  obtain ⟨xx, h_xx⟩ : ∃ q_ : Ec.F, q_ = x * x := ⟨_, rfl⟩
  obtain ⟨xxx, h_xxx⟩ : ∃ q_ : Ec.F, q_ = xx * x := ⟨_, rfl⟩
  obtain ⟨x2, h_x2⟩ : ∃ q_ : Ec.F, q_ = x + x := ⟨_, rfl⟩
  obtain ⟨x3, h_x3⟩ : ∃ q_ : Ec.F, q_ = x2 + x := ⟨_, rfl⟩
  obtain ⟨d, h_d⟩ : ∃ q_ : Ec.F, q_ = xxx - x3 := ⟨_, rfl⟩
  obtain ⟨rr, h_rr⟩ : ∃ q_ : Ec.F, q_ = d + curB := ⟨_, rfl⟩
  rw [← h_xx, ← h_xxx, ← h_x2, ← h_x3, ← h_d, ← h_rr, ← h_l]
  refine enter (args := [_, _, _]) (Γ := [(0, _), (1, _), (2, _)]) Tryd.func45 Tryd.ntmps45 rfl (of_decide_eq_true rfl) (.cons rfl (.cons rfl (.cons rfl .nil))) ?_
  repeat' (first | (apply St.bagX 20 []; exact mixed; (decide +kernel); kernel_rfl) | (apply OpsX.nil) | (apply OpsX.b; exact rfl) | (apply OpsX.v; (intro X hX; change Wl [_] _ _ _ _ _ _ _; apply Wl.catX; (repeat (first | apply CatB.nil | apply CatB.cons)))) | (apply Gt.endX; exact rfl) | (apply EndX.new; intro c hc ho) | (apply EndX.on; exact rfl) | (apply EndX.off; exact rfl) | (apply EndX.nil'; apply Wl.catE; (repeat (first | apply CatB.nil | apply CatB.cons))) | (apply Wl.callQ (f := 42); exact rfl; (repeat (first | exact Evs.nil | apply Evs.cons rfl)); (intro wq hq; refine (hMul (hF.hp hq (by (repeat (first | exact trivial | exact hX.off (by omega) | refine ⟨by first | assumption | omega | (simp only; omega), ?_⟩)))) (by with_reducible assumption)).mono ?_; rintro e wr ⟨rfl, hr⟩; exact ⟨rfl, hq.keep hr⟩)) | (apply Wl.callQ (f := 54); exact rfl; (repeat (first | exact Evs.nil | apply Evs.cons rfl)); (intro wq hq; refine (hAdd (hF.hp hq (by (repeat (first | exact trivial | exact hX.off (by omega) | refine ⟨by first | assumption | omega | (simp only; omega), ?_⟩)))) (by with_reducible assumption)).mono ?_; rintro e wr ⟨rfl, hr⟩; exact ⟨rfl, hq.keep hr⟩)) | (apply Wl.callQ (f := 73); exact rfl; (repeat (first | exact Evs.nil | apply Evs.cons rfl)); (intro wq hq; refine (hSub (hF.hp hq (by (repeat (first | exact trivial | exact hX.off (by omega) | refine ⟨by first | assumption | omega | (simp only; omega), ?_⟩)))) (by with_reducible assumption)).mono ?_; rintro e wr ⟨rfl, hr⟩; exact ⟨rfl, hq.keep hr⟩)) | (apply Wl.callQ (f := 78); exact rfl; (repeat (first | exact Evs.nil | apply Evs.cons rfl)); (intro wq hq; refine (ref4b wq).mono ?_; rintro e wr ⟨rfl, hr⟩; exact ⟨rfl, hq.keep hr⟩)) | (apply Wl.eqlA; exact rfl; exact rfl; exact rfl; kernel_rfl; kernel_rfl; kernel_rfl; kernel_rfl; exact cell64 _; exact cell64 _; exact eq16F _ _) | (apply Wl.loadW; exact rfl; exact rfl; (repeat (first | exact List.Mem.head _ | apply List.Mem.tail)); exact rfl) | (apply Wl.storeW; exact rfl; exact rfl; (repeat (first | apply HSet.here | apply HSet.there)); exact rfl; (first | exact cellsN_len _ _ _ | exact rfl)) | (apply Wl.boxN; exact rfl; exact rfl; intro c hc ho) | (apply Wl.allocN; exact rfl; (first | exact z8 | exact z16 | exact z17 | exact z33 | exact z10); intro c hc ho) | (apply Wl.move; exact rfl; exact rfl) | (apply Wl.assign; exact rfl; exact rfl) | (apply Wl.nil) | (apply St.seq) | (apply St.region) | (apply St.ret) | (apply Gt.next) | (apply Gt.out1; exact rfl; exact rfl; intro w' hp) | (apply Wl.splitP; exact rfl; exact rfl; all_goals (intros; try (exfalso; omega))) | (apply Wl.splitB; exact rfl; exact rfl; all_goals intros) | (apply St.condP; exact rfl; all_goals (intros; try (exfalso; omega))) | (apply St.condB; exact rfl; all_goals intros))
  exact ⟨rfl, hp.drop (by simp; omega)⟩
theorem pdbl_zero {p : Ec.F × Ec.F × Ec.F} (h : p.2.2 = 0) : Ec.pdbl p = p := by unfold Ec.pdbl; rw [if_pos h]
theorem pdbl_nz {x y z : Ec.F} (h : ¬ z = 0) : Ec.pdbl (x, y, z) = (let w0 := x * x - z * z
  let w := w0 + w0 + w0
  let s := y * z
  let ys := y * s
  let q := x * ys
  let q4 := q + q + (q + q)
  let h := w * w - (q4 + q4)
  let hs := h * s
  let yy := ys * ys
  let y8 := yy + yy + (yy + yy) + (yy + yy + (yy + yy))
  let sss := s * (s * s)
  let z' := sss + sss + (sss + sss)
  (hs + hs, w * (q4 - h) - y8, z' + z')) := by unfold Ec.pdbl; rw [if_neg h]
set_option maxHeartbeats 16000000 in
theorem refDbl (b : Nat) (p : Ec.F × Ec.F × Ec.F) (w : World) (hF : FldV w b Prim.P256) : Calls Tryd.prog 74 #[mp b, rpV p] w fun e w' => e = .returned (rpV (Ec.pdbl p)) ∧ Hp w [] w' := by
  have hb := hF.blk
  obtain ⟨x, y, z⟩ := p
  refine enter (args := [_, _]) (Γ := [(0, _), (1, _)]) Tryd.func74 Tryd.ntmps74 rfl (of_decide_eq_true rfl) (.cons rfl (.cons rfl .nil)) ?_
  by_cases hz : z = 0
  · have hd : decide (z = 0) = true := decide_eq_true hz
    repeat' (first | (apply Wl.loadAH; exact rfl; exact rfl; (repeat (first | exact List.Mem.head _ | apply List.Mem.tail)); (first | exact rpC_x _ _ _ | exact rpC_y _ _ _ | exact rpC_z _ _ _ | exact LSub.whole (rpC_len _ _ _))) | (apply Wl.storeAll; exact rfl; exact rfl; (repeat (first | apply HSet.here | apply HSet.there)); (first | exact rpC_len _ _ _); (first | exact rfl | exact rpC_len _ _ _); (first | exact rpC_one _ _ _)) | (apply Wl.buildN; exact rfl; (repeat (first | exact Parts.nil | apply Parts.cons rfl)); (repeat (first | apply Fills.nil | (apply Fills.one; exact rfl; exact rfl; (repeat (first | apply LSet.z | apply LSet.s))) | (apply Fills.agg; exact rfl; exact rfl; (repeat (first | apply LPut.s | apply LPut.z | apply LOver.nil | apply LOver.cons))))); exact zero16) | (apply Wl.eqlA; exact rfl; exact rfl; exact rfl; kernel_rfl; kernel_rfl; kernel_rfl; kernel_rfl; exact cell64 _; exact cell64 _; exact eq16Z _) | (apply Gt.outC'; exact rfl; infer_instance; exact rfl; (repeat (first | exact List.Mem.head _ | apply List.Mem.tail)); (first | exact LSub.whole (rpC_len _ _ _)); intro w' hp) | (apply Wl.fieldAddrZ; exact rfl; exact rfl) | (apply Wl.boxA; exact rfl; exact rfl; intro c hc ho) | (apply Wl.alloc; exact rfl; intro c hc ho) | (apply Wl.nil) | (apply St.seq) | (apply St.region) | (apply St.condT; exact rfl; (first | with_reducible rfl | with_reducible assumption | decide)) | (apply St.ret) | (apply Gt.next) | (apply Gt.thenRet) | (apply Wl.splitP; exact rfl; exact rfl; all_goals (intros; try (exfalso; omega))) | (apply Wl.splitB; exact rfl; exact rfl; all_goals intros) | (apply St.condP; exact rfl; all_goals (intros; try (exfalso; omega))) | (apply St.condB; exact rfl; all_goals intros))
    rw [pdbl_zero hz]
    exact ⟨rfl, hp.drop (by simp; omega)⟩
  · have hd : decide (z = 0) = false := decide_eq_false hz
    obtain ⟨xx, h_xx⟩ : ∃ q_ : Ec.F, q_ = x * x := ⟨_, rfl⟩
    obtain ⟨zz, h_zz⟩ : ∃ q_ : Ec.F, q_ = z * z := ⟨_, rfl⟩
    obtain ⟨w0, h_w0⟩ : ∃ q_ : Ec.F, q_ = xx - zz := ⟨_, rfl⟩
    obtain ⟨w1, h_w1⟩ : ∃ q_ : Ec.F, q_ = w0 + w0 := ⟨_, rfl⟩
    obtain ⟨wv, h_wv⟩ : ∃ q_ : Ec.F, q_ = w1 + w0 := ⟨_, rfl⟩
    obtain ⟨s, h_s⟩ : ∃ q_ : Ec.F, q_ = y * z := ⟨_, rfl⟩
    obtain ⟨ys, h_ys⟩ : ∃ q_ : Ec.F, q_ = y * s := ⟨_, rfl⟩
    obtain ⟨q, h_q⟩ : ∃ q_ : Ec.F, q_ = x * ys := ⟨_, rfl⟩
    obtain ⟨q2, h_q2⟩ : ∃ q_ : Ec.F, q_ = q + q := ⟨_, rfl⟩
    obtain ⟨q4, h_q4⟩ : ∃ q_ : Ec.F, q_ = q2 + q2 := ⟨_, rfl⟩
    obtain ⟨ww, h_ww⟩ : ∃ q_ : Ec.F, q_ = wv * wv := ⟨_, rfl⟩
    obtain ⟨q8, h_q8⟩ : ∃ q_ : Ec.F, q_ = q4 + q4 := ⟨_, rfl⟩
    obtain ⟨h, h_h⟩ : ∃ q_ : Ec.F, q_ = ww - q8 := ⟨_, rfl⟩
    obtain ⟨hs', h_hs'⟩ : ∃ q_ : Ec.F, q_ = h * s := ⟨_, rfl⟩
    obtain ⟨yy, h_yy⟩ : ∃ q_ : Ec.F, q_ = ys * ys := ⟨_, rfl⟩
    obtain ⟨yy2, h_yy2⟩ : ∃ q_ : Ec.F, q_ = yy + yy := ⟨_, rfl⟩
    obtain ⟨yy4, h_yy4⟩ : ∃ q_ : Ec.F, q_ = yy2 + yy2 := ⟨_, rfl⟩
    obtain ⟨y8, h_y8⟩ : ∃ q_ : Ec.F, q_ = yy4 + yy4 := ⟨_, rfl⟩
    obtain ⟨ss, h_ss⟩ : ∃ q_ : Ec.F, q_ = s * s := ⟨_, rfl⟩
    obtain ⟨sss, h_sss⟩ : ∃ q_ : Ec.F, q_ = s * ss := ⟨_, rfl⟩
    obtain ⟨s2, h_s2⟩ : ∃ q_ : Ec.F, q_ = sss + sss := ⟨_, rfl⟩
    obtain ⟨zv, h_zv⟩ : ∃ q_ : Ec.F, q_ = s2 + s2 := ⟨_, rfl⟩
    obtain ⟨X3, h_X3⟩ : ∃ q_ : Ec.F, q_ = hs' + hs' := ⟨_, rfl⟩
    obtain ⟨d, h_d⟩ : ∃ q_ : Ec.F, q_ = q4 - h := ⟨_, rfl⟩
    obtain ⟨wd, h_wd⟩ : ∃ q_ : Ec.F, q_ = wv * d := ⟨_, rfl⟩
    obtain ⟨Y3, h_Y3⟩ : ∃ q_ : Ec.F, q_ = wd - y8 := ⟨_, rfl⟩
    obtain ⟨Z3, h_Z3⟩ : ∃ q_ : Ec.F, q_ = zv + zv := ⟨_, rfl⟩
    repeat' (first | (apply St.bagX 15 []; exact mixed; (decide +kernel); kernel_rfl) | (apply St.bagX 7 []; exact mixed; (decide +kernel); kernel_rfl) | (apply St.bagX 11 []; exact mixed; (decide +kernel); kernel_rfl) | (apply St.bagX 23 []; exact mixed; (decide +kernel); kernel_rfl) | (apply St.bagX 8 []; exact mixed; (decide +kernel); kernel_rfl) | (apply St.bagX 19 []; exact mixed; (decide +kernel); kernel_rfl) | (apply OpsX.nil) | (apply OpsX.b; exact rfl) | (apply OpsX.v; (intro X hX; change Wl [_] _ _ _ _ _ _ _; apply Wl.catX; (repeat (first | apply CatB.nil | apply CatB.cons)))) | (apply Gt.endX; exact rfl) | (apply EndX.new; intro c hc ho) | (apply EndX.on; exact rfl) | (apply EndX.off; exact rfl) | (apply EndX.nil'; apply Wl.catE; (repeat (first | apply CatB.nil | apply CatB.cons))) | (apply Wl.callQ (f := 42); exact rfl; (repeat (first | exact Evs.nil | apply Evs.cons rfl)); (intro wq hq; refine (hMul (hF.hp hq (by (repeat (first | exact trivial | exact hX.off (by omega) | refine ⟨by first | assumption | omega | (simp only; omega), ?_⟩)))) (by with_reducible assumption)).mono ?_; rintro e wr ⟨rfl, hr⟩; exact ⟨rfl, hq.keep hr⟩)) | (apply Wl.callQ (f := 54); exact rfl; (repeat (first | exact Evs.nil | apply Evs.cons rfl)); (intro wq hq; refine (hAdd (hF.hp hq (by (repeat (first | exact trivial | exact hX.off (by omega) | refine ⟨by first | assumption | omega | (simp only; omega), ?_⟩)))) (by with_reducible assumption)).mono ?_; rintro e wr ⟨rfl, hr⟩; exact ⟨rfl, hq.keep hr⟩)) | (apply Wl.callQ (f := 73); exact rfl; (repeat (first | exact Evs.nil | apply Evs.cons rfl)); (intro wq hq; refine (hSub (hF.hp hq (by (repeat (first | exact trivial | exact hX.off (by omega) | refine ⟨by first | assumption | omega | (simp only; omega), ?_⟩)))) (by with_reducible assumption)).mono ?_; rintro e wr ⟨rfl, hr⟩; exact ⟨rfl, hq.keep hr⟩)) | (apply Wl.loadAH; exact rfl; exact rfl; (repeat (first | exact List.Mem.head _ | apply List.Mem.tail)); (first | exact rpC_x _ _ _ | exact rpC_y _ _ _ | exact rpC_z _ _ _ | exact LSub.whole (rpC_len _ _ _))) | (apply Wl.storeAll; exact rfl; exact rfl; (repeat (first | apply HSet.here | apply HSet.there)); (first | exact rpC_len _ _ _); (first | exact rfl | exact rpC_len _ _ _); (first | exact rpC_one _ _ _)) | (apply Wl.buildRp; exact rfl; (focus ((repeat (first | exact Parts.nil | apply Parts.cons rfl)); done))) | (apply Wl.buildN; exact rfl; (repeat (first | exact Parts.nil | apply Parts.cons rfl)); (repeat (first | apply Fills.nil | (apply Fills.one; exact rfl; exact rfl; (repeat (first | apply LSet.z | apply LSet.s))) | (apply Fills.agg; exact rfl; exact rfl; (repeat (first | apply LPut.s | apply LPut.z | apply LOver.nil | apply LOver.cons))))); exact zero16) | (apply Wl.eqlA; exact rfl; exact rfl; exact rfl; kernel_rfl; kernel_rfl; kernel_rfl; kernel_rfl; exact cell64 _; exact cell64 _; exact eq16Z _) | (apply Gt.outC'; exact rfl; infer_instance; exact rfl; (repeat (first | exact List.Mem.head _ | apply List.Mem.tail)); (first | exact LSub.whole (rpC_len _ _ _)); intro w' hp) | (apply Wl.loadW; exact rfl; exact rfl; (repeat (first | exact List.Mem.head _ | apply List.Mem.tail)); exact rfl) | (apply Wl.storeW; exact rfl; exact rfl; (repeat (first | apply HSet.here | apply HSet.there)); exact rfl; (first | exact cellsN_len _ _ _ | exact rfl)) | (apply Wl.allocN; exact rfl; (first | exact z8 | exact z16 | exact z17 | exact z33 | exact z10); intro c hc ho) | (apply Wl.move; exact rfl; exact rfl) | (apply Wl.fieldAddr0; exact rfl; exact rfl) | (apply Wl.fieldAddrZ; exact rfl; exact rfl) | (apply Wl.boxA; exact rfl; exact rfl; intro c hc ho) | (apply Wl.alloc; exact rfl; intro c hc ho) | (apply Wl.nil) | (apply St.seq) | (apply St.region) | (apply St.condF; exact rfl; (first | with_reducible rfl | with_reducible assumption | decide)) | (apply St.ret) | (apply St.skip) | (apply Gt.next) | (apply Wl.splitP; exact rfl; exact rfl; all_goals (intros; try (exfalso; omega))) | (apply Wl.splitB; exact rfl; exact rfl; all_goals intros) | (apply St.condP; exact rfl; all_goals (intros; try (exfalso; omega))) | (apply St.condB; exact rfl; all_goals intros))
    rw [pdbl_nz hz]
    subst_vars
    exact ⟨rfl, hp.drop (by simp; omega)⟩
theorem pplus_l {p q : Ec.F × Ec.F × Ec.F} (h : p.2.2 = 0) : Ec.pplus p q = q := by unfold Ec.pplus; rw [if_pos h]
theorem pplus_r {p q : Ec.F × Ec.F × Ec.F} (h : ¬ p.2.2 = 0) (h' : q.2.2 = 0) : Ec.pplus p q = p := by unfold Ec.pplus; rw [if_neg h, if_pos h']
theorem pplus_nz {x1 y1 z1 x2 y2 z2 : Ec.F} (h1 : ¬ z1 = 0) (h2 : ¬ z2 = 0) : Ec.pplus (x1, y1, z1) (x2, y2, z2) = (let a1 := y1 * z2; let b1 := x1 * z2
  let u := y2 * z1 - a1; let v := x2 * z1 - b1
  if v = 0 then (if u = 0 then Ec.pdbl (x1, y1, z1) else (1, 1, 0)) else
  let zz := z1 * z2
  let vv := v * v
  let vvv := v * vv
  let r := vv * b1
  let a := u * u * zz - vvv - (r + r)
  (v * a, u * (r - a) - vvv * a1, vvv * zz)) := by unfold Ec.pplus; rw [if_neg h1, if_neg h2]
theorem rp110 : rpV (1, 1, 0) = .agg (rpC 1 1 0).toArray := by
  unfold rpV rpF
  simp only
  rw [val_one, val_zero]
set_option maxHeartbeats 16000000 in
theorem refPlus (b : Nat) (p q : Ec.F × Ec.F × Ec.F) (w : World) (hF : FldV w b Prim.P256) : Calls Tryd.prog 40 #[mp b, rpV p, rpV q] w fun e w' => e = .returned (rpV (Ec.pplus p q)) ∧ Hp w [] w' := by
  have hb := hF.blk
  obtain ⟨x1, y1, z1⟩ := p
  obtain ⟨x2, y2, z2⟩ := q
  refine enter (args := [_, _, _]) (Γ := [(0, _), (1, _), (2, _)]) Tryd.func40 Tryd.ntmps40 rfl (of_decide_eq_true rfl) (.cons rfl (.cons rfl (.cons rfl .nil))) ?_
  by_cases hz1 : z1 = 0
  · have hd1 : decide (z1 = 0) = true := decide_eq_true hz1
    repeat' (first | (apply Wl.loadAH; exact rfl; exact rfl; (repeat (first | exact List.Mem.head _ | apply List.Mem.tail)); (first | exact rpC_x _ _ _ | exact rpC_y _ _ _ | exact rpC_z _ _ _ | exact LSub.whole (rpC_len _ _ _))) | (apply Wl.storeAll; exact rfl; exact rfl; (repeat (first | apply HSet.here | apply HSet.there)); (first | exact rpC_len _ _ _); (first | exact rfl | exact rpC_len _ _ _); (first | exact rpC_one _ _ _)) | (apply Wl.buildN; exact rfl; (repeat (first | exact Parts.nil | apply Parts.cons rfl)); (repeat (first | apply Fills.nil | (apply Fills.one; exact rfl; exact rfl; (repeat (first | apply LSet.z | apply LSet.s))) | (apply Fills.agg; exact rfl; exact rfl; (repeat (first | apply LPut.s | apply LPut.z | apply LOver.nil | apply LOver.cons))))); exact zero16) | (apply Wl.eqlA; exact rfl; exact rfl; exact rfl; kernel_rfl; kernel_rfl; kernel_rfl; kernel_rfl; exact cell64 _; exact cell64 _; exact eq16Z _) | (apply Gt.outC'; exact rfl; infer_instance; exact rfl; (repeat (first | exact List.Mem.head _ | apply List.Mem.tail)); (first | exact LSub.whole (rpC_len _ _ _)); intro w' hp) | (apply Wl.fieldAddrZ; exact rfl; exact rfl) | (apply Wl.boxA; exact rfl; exact rfl; intro c hc ho) | (apply Wl.alloc; exact rfl; intro c hc ho) | (apply Wl.nil) | (apply St.seq) | (apply St.region) | (apply St.condT; exact rfl; (first | with_reducible rfl | with_reducible assumption | decide)) | (apply St.ret) | (apply Gt.next) | (apply Gt.thenRet) | (apply Wl.splitP; exact rfl; exact rfl; all_goals (intros; try (exfalso; omega))) | (apply Wl.splitB; exact rfl; exact rfl; all_goals intros) | (apply St.condP; exact rfl; all_goals (intros; try (exfalso; omega))) | (apply St.condB; exact rfl; all_goals intros))
    rw [pplus_l hz1]
    exact ⟨rfl, hp.drop (by simp; omega)⟩
  have hd1 : decide (z1 = 0) = false := decide_eq_false hz1
  by_cases hz2 : z2 = 0
  · have hd2 : decide (z2 = 0) = true := decide_eq_true hz2
    repeat' (first | (apply Wl.loadAH; exact rfl; exact rfl; (repeat (first | exact List.Mem.head _ | apply List.Mem.tail)); (first | exact rpC_x _ _ _ | exact rpC_y _ _ _ | exact rpC_z _ _ _ | exact LSub.whole (rpC_len _ _ _))) | (apply Wl.storeAll; exact rfl; exact rfl; (repeat (first | apply HSet.here | apply HSet.there)); (first | exact rpC_len _ _ _); (first | exact rfl | exact rpC_len _ _ _); (first | exact rpC_one _ _ _)) | (apply Wl.buildN; exact rfl; (repeat (first | exact Parts.nil | apply Parts.cons rfl)); (repeat (first | apply Fills.nil | (apply Fills.one; exact rfl; exact rfl; (repeat (first | apply LSet.z | apply LSet.s))) | (apply Fills.agg; exact rfl; exact rfl; (repeat (first | apply LPut.s | apply LPut.z | apply LOver.nil | apply LOver.cons))))); exact zero16) | (apply Wl.eqlA; exact rfl; exact rfl; exact rfl; kernel_rfl; kernel_rfl; kernel_rfl; kernel_rfl; exact cell64 _; exact cell64 _; exact eq16Z _) | (apply Gt.outC'; exact rfl; infer_instance; exact rfl; (repeat (first | exact List.Mem.head _ | apply List.Mem.tail)); (first | exact LSub.whole (rpC_len _ _ _)); intro w' hp) | (apply Wl.fieldAddrZ; exact rfl; exact rfl) | (apply Wl.boxA; exact rfl; exact rfl; intro c hc ho) | (apply Wl.alloc; exact rfl; intro c hc ho) | (apply Wl.nil) | (apply St.seq) | (apply St.region) | (apply St.condT; exact rfl; (first | with_reducible rfl | with_reducible assumption | decide)) | (apply St.condF; exact rfl; (first | with_reducible rfl | with_reducible assumption | decide)) | (apply St.ret) | (apply St.skip) | (apply Gt.next) | (apply Gt.thenRet) | (apply Wl.splitP; exact rfl; exact rfl; all_goals (intros; try (exfalso; omega))) | (apply Wl.splitB; exact rfl; exact rfl; all_goals intros) | (apply St.condP; exact rfl; all_goals (intros; try (exfalso; omega))) | (apply St.condB; exact rfl; all_goals intros))
    rw [pplus_r hz1 hz2]
    exact ⟨rfl, hp.drop (by simp; omega)⟩
  have hd2 : decide (z2 = 0) = false := decide_eq_false hz2
  obtain ⟨a1, h_a1⟩ : ∃ q_ : Ec.F, q_ = y1 * z2 := ⟨_, rfl⟩
  obtain ⟨b1, h_b1⟩ : ∃ q_ : Ec.F, q_ = x1 * z2 := ⟨_, rfl⟩
  obtain ⟨c1, h_c1⟩ : ∃ q_ : Ec.F, q_ = y2 * z1 := ⟨_, rfl⟩
  obtain ⟨u, h_u⟩ : ∃ q_ : Ec.F, q_ = c1 - a1 := ⟨_, rfl⟩
  obtain ⟨d1, h_d1⟩ : ∃ q_ : Ec.F, q_ = x2 * z1 := ⟨_, rfl⟩
  obtain ⟨v, h_v⟩ : ∃ q_ : Ec.F, q_ = d1 - b1 := ⟨_, rfl⟩
  rw [pplus_nz hz1 hz2]
  simp only
  rw [← h_a1, ← h_b1, ← h_c1, ← h_u, ← h_d1, ← h_v]
  by_cases hv0 : v = 0
  · have hd3 : decide (v = 0) = true := decide_eq_true hv0
    rw [if_pos hv0]
    by_cases hu0 : u = 0
    · have hd4 : decide (u = 0) = true := decide_eq_true hu0
      rw [if_pos hu0]
      repeat' (first | (apply St.bagX 14 []; exact mixed; (decide +kernel); kernel_rfl) | (apply St.bagX 20 []; exact mixed; (decide +kernel); kernel_rfl) | (apply OpsX.nil) | (apply OpsX.b; exact rfl) | (apply OpsX.v; (intro X hX; change Wl [_] _ _ _ _ _ _ _; apply Wl.catX; (repeat (first | apply CatB.nil | apply CatB.cons)))) | (apply Gt.endX; exact rfl) | (apply EndX.new; intro c hc ho) | (apply EndX.on; exact rfl) | (apply EndX.off; exact rfl) | (apply EndX.nil'; apply Wl.catE; (repeat (first | apply CatB.nil | apply CatB.cons))) | (apply Wl.callQ (f := 42); exact rfl; (repeat (first | exact Evs.nil | apply Evs.cons rfl)); (intro wq hq; refine (hMul (hF.hp hq (by (repeat (first | exact trivial | exact hX.off (by omega) | refine ⟨by first | assumption | omega | (simp only; omega), ?_⟩)))) (by with_reducible assumption)).mono ?_; rintro e wr ⟨rfl, hr⟩; exact ⟨rfl, hq.keep hr⟩)) | (apply Wl.callQ (f := 73); exact rfl; (repeat (first | exact Evs.nil | apply Evs.cons rfl)); (intro wq hq; refine (hSub (hF.hp hq (by (repeat (first | exact trivial | exact hX.off (by omega) | refine ⟨by first | assumption | omega | (simp only; omega), ?_⟩)))) (by with_reducible assumption)).mono ?_; rintro e wr ⟨rfl, hr⟩; exact ⟨rfl, hq.keep hr⟩)) | (apply Wl.callQ (f := 74); exact rfl; (repeat (first | exact Evs.nil | apply Evs.cons rfl)); (intro wq hq; refine (refDbl _ (_, _, _) wq (hF.hp hq (by (repeat (first | exact trivial | exact hX.off (by omega) | refine ⟨by first | assumption | omega | (simp only; omega), ?_⟩))))).mono ?_; rintro e wr ⟨rfl, hr⟩; exact ⟨rfl, hq.keep hr⟩)) | (apply Wl.loadAH; exact rfl; exact rfl; (repeat (first | exact List.Mem.head _ | apply List.Mem.tail)); (first | exact rpC_x _ _ _ | exact rpC_y _ _ _ | exact rpC_z _ _ _ | exact LSub.whole (rpC_len _ _ _))) | (apply Wl.storeAll; exact rfl; exact rfl; (repeat (first | apply HSet.here | apply HSet.there)); (first | exact rpC_len _ _ _); (first | exact rfl | exact rpC_len _ _ _); (first | exact rpC_one _ _ _)) | (apply Wl.buildN; exact rfl; (repeat (first | exact Parts.nil | apply Parts.cons rfl)); (repeat (first | apply Fills.nil | (apply Fills.one; exact rfl; exact rfl; (repeat (first | apply LSet.z | apply LSet.s))) | (apply Fills.agg; exact rfl; exact rfl; (repeat (first | apply LPut.s | apply LPut.z | apply LOver.nil | apply LOver.cons))))); exact zero16) | (apply Wl.eqlA; exact rfl; exact rfl; exact rfl; kernel_rfl; kernel_rfl; kernel_rfl; kernel_rfl; exact cell64 _; exact cell64 _; exact eq16Z _) | (apply Gt.outC'; exact rfl; infer_instance; exact rfl; (repeat (first | exact List.Mem.head _ | apply List.Mem.tail)); (first | exact LSub.whole (rpC_len _ _ _)); intro w' hp) | (apply Wl.loadW; exact rfl; exact rfl; (repeat (first | exact List.Mem.head _ | apply List.Mem.tail)); exact rfl) | (apply Wl.storeW; exact rfl; exact rfl; (repeat (first | apply HSet.here | apply HSet.there)); exact rfl; (first | exact cellsN_len _ _ _ | exact rfl)) | (apply Wl.move; exact rfl; exact rfl) | (apply Wl.fieldAddr0; exact rfl; exact rfl) | (apply Wl.fieldAddrZ; exact rfl; exact rfl) | (apply Wl.boxA; exact rfl; exact rfl; intro c hc ho) | (apply Wl.alloc; exact rfl; intro c hc ho) | (apply Wl.nil) | (apply St.seq) | (apply St.region) | (apply St.condT; exact rfl; (first | with_reducible rfl | with_reducible assumption | decide)) | (apply St.condF; exact rfl; (first | with_reducible rfl | with_reducible assumption | decide)) | (apply St.ret) | (apply St.skip) | (apply Gt.next) | (apply Gt.thenRet) | (apply Wl.splitP; exact rfl; exact rfl; all_goals (intros; try (exfalso; omega))) | (apply Wl.splitB; exact rfl; exact rfl; all_goals intros) | (apply St.condP; exact rfl; all_goals (intros; try (exfalso; omega))) | (apply St.condB; exact rfl; all_goals intros))
      exact ⟨rfl, hp.drop (by simp; omega)⟩
    · have hd4 : decide (u = 0) = false := decide_eq_false hu0
      rw [if_neg hu0, rp110]
      repeat' (first | (apply St.bagX 14 []; exact mixed; (decide +kernel); kernel_rfl) | (apply St.bagX 20 []; exact mixed; (decide +kernel); kernel_rfl) | (apply OpsX.nil) | (apply OpsX.b; exact rfl) | (apply OpsX.v; (intro X hX; change Wl [_] _ _ _ _ _ _ _; apply Wl.catX; (repeat (first | apply CatB.nil | apply CatB.cons)))) | (apply Gt.endX; exact rfl) | (apply EndX.new; intro c hc ho) | (apply EndX.on; exact rfl) | (apply EndX.off; exact rfl) | (apply EndX.nil'; apply Wl.catE; (repeat (first | apply CatB.nil | apply CatB.cons))) | (apply Wl.callQ (f := 42); exact rfl; (repeat (first | exact Evs.nil | apply Evs.cons rfl)); (intro wq hq; refine (hMul (hF.hp hq (by (repeat (first | exact trivial | exact hX.off (by omega) | refine ⟨by first | assumption | omega | (simp only; omega), ?_⟩)))) (by with_reducible assumption)).mono ?_; rintro e wr ⟨rfl, hr⟩; exact ⟨rfl, hq.keep hr⟩)) | (apply Wl.callQ (f := 73); exact rfl; (repeat (first | exact Evs.nil | apply Evs.cons rfl)); (intro wq hq; refine (hSub (hF.hp hq (by (repeat (first | exact trivial | exact hX.off (by omega) | refine ⟨by first | assumption | omega | (simp only; omega), ?_⟩)))) (by with_reducible assumption)).mono ?_; rintro e wr ⟨rfl, hr⟩; exact ⟨rfl, hq.keep hr⟩)) | (apply Wl.loadAH; exact rfl; exact rfl; (repeat (first | exact List.Mem.head _ | apply List.Mem.tail)); (first | exact rpC_x _ _ _ | exact rpC_y _ _ _ | exact rpC_z _ _ _ | exact LSub.whole (rpC_len _ _ _))) | (apply Wl.storeAll; exact rfl; exact rfl; (repeat (first | apply HSet.here | apply HSet.there)); (first | exact rpC_len _ _ _); (first | exact rfl | exact rpC_len _ _ _); (first | exact rpC_one _ _ _)) | (apply Wl.buildRp; exact rfl; (focus ((repeat (first | exact Parts.nil | apply Parts.cons rfl)); done))) | (apply Wl.buildN; exact rfl; (repeat (first | exact Parts.nil | apply Parts.cons rfl)); (repeat (first | apply Fills.nil | (apply Fills.one; exact rfl; exact rfl; (repeat (first | apply LSet.z | apply LSet.s))) | (apply Fills.agg; exact rfl; exact rfl; (repeat (first | apply LPut.s | apply LPut.z | apply LOver.nil | apply LOver.cons))))); exact zero16) | (apply Wl.eqlA; exact rfl; exact rfl; exact rfl; kernel_rfl; kernel_rfl; kernel_rfl; kernel_rfl; exact cell64 _; exact cell64 _; exact eq16Z _) | (apply Gt.outC'; exact rfl; infer_instance; exact rfl; (repeat (first | exact List.Mem.head _ | apply List.Mem.tail)); (first | exact LSub.whole (rpC_len _ _ _)); intro w' hp) | (apply Wl.loadW; exact rfl; exact rfl; (repeat (first | exact List.Mem.head _ | apply List.Mem.tail)); exact rfl) | (apply Wl.storeW; exact rfl; exact rfl; (repeat (first | apply HSet.here | apply HSet.there)); exact rfl; (first | exact cellsN_len _ _ _ | exact rfl)) | (apply Wl.buildN; exact rfl; (repeat (first | exact Parts.nil | apply Parts.cons rfl)); (repeat (first | apply Fills.nil | (apply Fills.one; exact rfl; exact rfl; (repeat (first | apply LSet.z | apply LSet.s))) | (apply Fills.agg; exact rfl; exact rfl; (repeat (first | apply LPut.s | apply LPut.z | apply LOver.nil | apply LOver.cons))))); (first | exact one8 | exact zero8 | exact two8 | exact one16)) | (apply Wl.move; exact rfl; exact rfl) | (apply Wl.fieldAddr0; exact rfl; exact rfl) | (apply Wl.fieldAddrZ; exact rfl; exact rfl) | (apply Wl.boxA; exact rfl; exact rfl; intro c hc ho) | (apply Wl.alloc; exact rfl; intro c hc ho) | (apply Wl.nil) | (apply St.seq) | (apply St.region) | (apply St.condT; exact rfl; (first | with_reducible rfl | with_reducible assumption | decide)) | (apply St.condF; exact rfl; (first | with_reducible rfl | with_reducible assumption | decide)) | (apply St.ret) | (apply St.skip) | (apply Gt.next) | (apply Gt.thenRet) | (apply Wl.splitP; exact rfl; exact rfl; all_goals (intros; try (exfalso; omega))) | (apply Wl.splitB; exact rfl; exact rfl; all_goals intros) | (apply St.condP; exact rfl; all_goals (intros; try (exfalso; omega))) | (apply St.condB; exact rfl; all_goals intros))
      exact ⟨rfl, hp.drop (by simp; omega)⟩
  · have hd3 : decide (v = 0) = false := decide_eq_false hv0
    rw [if_neg hv0]
    obtain ⟨zz, h_zz⟩ : ∃ q_ : Ec.F, q_ = z1 * z2 := ⟨_, rfl⟩
    obtain ⟨vv, h_vv⟩ : ∃ q_ : Ec.F, q_ = v * v := ⟨_, rfl⟩
    obtain ⟨vvv, h_vvv⟩ : ∃ q_ : Ec.F, q_ = v * vv := ⟨_, rfl⟩
    obtain ⟨r, h_r⟩ : ∃ q_ : Ec.F, q_ = vv * b1 := ⟨_, rfl⟩
    obtain ⟨uu, h_uu⟩ : ∃ q_ : Ec.F, q_ = u * u := ⟨_, rfl⟩
    obtain ⟨uz, h_uz⟩ : ∃ q_ : Ec.F, q_ = uu * zz := ⟨_, rfl⟩
    obtain ⟨uv, h_uv⟩ : ∃ q_ : Ec.F, q_ = uz - vvv := ⟨_, rfl⟩
    obtain ⟨rr, h_rr⟩ : ∃ q_ : Ec.F, q_ = r + r := ⟨_, rfl⟩
    obtain ⟨a, h_a⟩ : ∃ q_ : Ec.F, q_ = uv - rr := ⟨_, rfl⟩
    obtain ⟨X3, h_X3⟩ : ∃ q_ : Ec.F, q_ = v * a := ⟨_, rfl⟩
    obtain ⟨ra, h_ra⟩ : ∃ q_ : Ec.F, q_ = r - a := ⟨_, rfl⟩
    obtain ⟨ur, h_ur⟩ : ∃ q_ : Ec.F, q_ = u * ra := ⟨_, rfl⟩
    obtain ⟨vy, h_vy⟩ : ∃ q_ : Ec.F, q_ = vvv * a1 := ⟨_, rfl⟩
    obtain ⟨Y3, h_Y3⟩ : ∃ q_ : Ec.F, q_ = ur - vy := ⟨_, rfl⟩
    obtain ⟨Z3, h_Z3⟩ : ∃ q_ : Ec.F, q_ = vvv * zz := ⟨_, rfl⟩
    rw [← h_zz, ← h_vv, ← h_vvv, ← h_r, ← h_uu, ← h_uz, ← h_uv, ← h_rr, ← h_a, ← h_X3, ← h_ra, ← h_ur, ← h_vy, ← h_Y3, ← h_Z3]
    repeat' (first | (apply St.bagX 14 []; exact mixed; (decide +kernel); kernel_rfl) | (apply St.bagX 20 []; exact mixed; (decide +kernel); kernel_rfl) | (apply St.bagX 17 []; exact mixed; (decide +kernel); kernel_rfl) | (apply OpsX.nil) | (apply OpsX.b; exact rfl) | (apply OpsX.v; (intro X hX; change Wl [_] _ _ _ _ _ _ _; apply Wl.catX; (repeat (first | apply CatB.nil | apply CatB.cons)))) | (apply Gt.endX; exact rfl) | (apply EndX.new; intro c hc ho) | (apply EndX.on; exact rfl) | (apply EndX.off; exact rfl) | (apply EndX.nil'; apply Wl.catE; (repeat (first | apply CatB.nil | apply CatB.cons))) | (apply Wl.callQ (f := 42); exact rfl; (repeat (first | exact Evs.nil | apply Evs.cons rfl)); (intro wq hq; refine (hMul (hF.hp hq (by (repeat (first | exact trivial | exact hX.off (by omega) | refine ⟨by first | assumption | omega | (simp only; omega), ?_⟩)))) (by with_reducible assumption)).mono ?_; rintro e wr ⟨rfl, hr⟩; exact ⟨rfl, hq.keep hr⟩)) | (apply Wl.callQ (f := 54); exact rfl; (repeat (first | exact Evs.nil | apply Evs.cons rfl)); (intro wq hq; refine (hAdd (hF.hp hq (by (repeat (first | exact trivial | exact hX.off (by omega) | refine ⟨by first | assumption | omega | (simp only; omega), ?_⟩)))) (by with_reducible assumption)).mono ?_; rintro e wr ⟨rfl, hr⟩; exact ⟨rfl, hq.keep hr⟩)) | (apply Wl.callQ (f := 73); exact rfl; (repeat (first | exact Evs.nil | apply Evs.cons rfl)); (intro wq hq; refine (hSub (hF.hp hq (by (repeat (first | exact trivial | exact hX.off (by omega) | refine ⟨by first | assumption | omega | (simp only; omega), ?_⟩)))) (by with_reducible assumption)).mono ?_; rintro e wr ⟨rfl, hr⟩; exact ⟨rfl, hq.keep hr⟩)) | (apply Wl.loadAH; exact rfl; exact rfl; (repeat (first | exact List.Mem.head _ | apply List.Mem.tail)); (first | exact rpC_x _ _ _ | exact rpC_y _ _ _ | exact rpC_z _ _ _ | exact LSub.whole (rpC_len _ _ _))) | (apply Wl.storeAll; exact rfl; exact rfl; (repeat (first | apply HSet.here | apply HSet.there)); (first | exact rpC_len _ _ _); (first | exact rfl | exact rpC_len _ _ _); (first | exact rpC_one _ _ _)) | (apply Wl.buildRp; exact rfl; (focus ((repeat (first | exact Parts.nil | apply Parts.cons rfl)); done))) | (apply Wl.buildN; exact rfl; (repeat (first | exact Parts.nil | apply Parts.cons rfl)); (repeat (first | apply Fills.nil | (apply Fills.one; exact rfl; exact rfl; (repeat (first | apply LSet.z | apply LSet.s))) | (apply Fills.agg; exact rfl; exact rfl; (repeat (first | apply LPut.s | apply LPut.z | apply LOver.nil | apply LOver.cons))))); exact zero16) | (apply Wl.eqlA; exact rfl; exact rfl; exact rfl; kernel_rfl; kernel_rfl; kernel_rfl; kernel_rfl; exact cell64 _; exact cell64 _; exact eq16Z _) | (apply Gt.outC'; exact rfl; infer_instance; exact rfl; (repeat (first | exact List.Mem.head _ | apply List.Mem.tail)); (first | exact LSub.whole (rpC_len _ _ _)); intro w' hp) | (apply Wl.loadW; exact rfl; exact rfl; (repeat (first | exact List.Mem.head _ | apply List.Mem.tail)); exact rfl) | (apply Wl.storeW; exact rfl; exact rfl; (repeat (first | apply HSet.here | apply HSet.there)); exact rfl; (first | exact cellsN_len _ _ _ | exact rfl)) | (apply Wl.allocN; exact rfl; (first | exact z8 | exact z16 | exact z17 | exact z33 | exact z10); intro c hc ho) | (apply Wl.move; exact rfl; exact rfl) | (apply Wl.fieldAddr0; exact rfl; exact rfl) | (apply Wl.fieldAddrZ; exact rfl; exact rfl) | (apply Wl.boxA; exact rfl; exact rfl; intro c hc ho) | (apply Wl.alloc; exact rfl; intro c hc ho) | (apply Wl.nil) | (apply St.seq) | (apply St.region) | (apply St.condF; exact rfl; (first | with_reducible rfl | with_reducible assumption | decide)) | (apply St.ret) | (apply St.skip) | (apply Gt.next) | (apply Wl.splitP; exact rfl; exact rfl; all_goals (intros; try (exfalso; omega))) | (apply Wl.splitB; exact rfl; exact rfl; all_goals intros) | (apply St.condP; exact rfl; all_goals (intros; try (exfalso; omega))) | (apply St.condB; exact rfl; all_goals intros))
    exact ⟨rfl, hp.drop (by simp; omega)⟩
end Go.Proofs.YtfaobdakpbpkbaaDoor
end
section
/-
  porticoref01: roots. Conditions: none.
-/
namespace Go.Proofs.YtfaobdakpbpkbaaDoor
open Go.RowKit Go.Pt
def u64s (l : List Nat) : List Value := l.map fun (x : Nat) => Value.int .u64 (x : Int)
theorem u64s_app (l m : List Nat) : u64s (l ++ m) = u64s l ++ u64s m := by unfold u64s; rw [List.map_append]
theorem pl2 : Sha.pl 2 = [] := by decide +kernel
set_option maxHeartbeats 8000000 in
theorem refRoots (n k E : Nat) (w : World) (hk : k = 2 ∨ k = 3) (hE : E ≤ 312) (h2 : 2 ≤ E) (hn : n < 1000) (hc : ∀ p, p < E → (Sha.pl p).length < n) (hl : (Sha.pl E).length = n) :
    Calls Tryd.prog 51 #[.int .i64 n, .int .i64 k] w fun e w' => ∃ v, e = .returned v ∧ w'.ownsRow w.heap.size 35 1 v n (u64s (Sha.rl E k)) ∧ Upd (fun k => w.heap.size ≤ k) w w' := by
  refine enter (args := [_, _]) (Γ := [(0, _), (1, _)]) Tryd.func51 Tryd.ntmps51 rfl (of_decide_eq_true rfl) (.cons rfl (.cons rfl .nil)) ?_
  repeat' (first | (apply Wl.assign; exact rfl; exact rfl) | (apply Wl.nil) | (apply St.seq) | (apply St.block) | (apply St.region) | (apply Gt.next) | (apply Wl.splitP; exact rfl; exact rfl; all_goals (intros; try (exfalso; omega))) | (apply Wl.splitB; exact rfl; exact rfl; all_goals intros) | (apply St.condP; exact rfl; all_goals (intros; try (exfalso; omega))) | (apply St.condB; exact rfl; all_goals intros))
  refine St.loop (σ := Nat × World × Value) (fun τ => 2 ≤ τ.1 ∧ τ.1 ≤ E ∧ Upd (fun k => w.heap.size ≤ k) w τ.2.1 ∧ τ.2.1.ownsRow w.heap.size 35 1 τ.2.2 (Sha.pl τ.1).length (u64s (Sha.rl τ.1 k)))
    (fun τ => [(0, .int .i64 n), (1, .int .i64 k), (5, τ.2.2), (6, .int .u64 τ.1)]) (fun τ => Hp τ.2.1 []) (fun τ => E - τ.1) (2, w, .slice none 0 0) ⟨by simp, h2, Upd.refl _ _, by unfold Sha.rl; simp only [pl2]; exact World.ownsRow_nil _ _ _ _⟩ (by (repeat (first | exact Sub.nil | apply Sub.cons rfl))) (fun _ h => h) ?_
  rintro ⟨p, w0, v⟩ ⟨hp2, hpE, hu, hol⟩
  simp only at hp2 hpE hu hol ⊢
  obtain ⟨a, cap, rfl⟩ : ∃ a cap, v = .slice a (Sha.pl p).length cap := by
    rcases hol.2 with ⟨rfl, h0⟩ | ⟨g, cap, cur, rfl, _⟩
    · exact ⟨none, 0, by rw [h0]⟩
    · exact ⟨_, _, rfl⟩
  generalize hL : (Sha.pl p).length = L at *
  by_cases hlt : p < E
  · have hcp := hc p hlt
    rw [hL] at hcp
    have hd : decide ((L : Int) < (n : Int)) = true := decide_eq_true (by omega)
    repeat' (first | (apply Wl.move; exact rfl; exact rfl) | (apply Wl.assign; exact rfl; exact rfl) | (apply Wl.lss; exact rfl; exact rfl; exact rfl) | (apply Wl.len; exact rfl; exact rfl) | (apply Wl.nil) | (apply St.seq) | (apply St.block) | (apply St.region) | (apply St.condT; exact rfl; (first | with_reducible rfl | with_reducible assumption | decide)) | (apply St.skip) | (apply Gt.next) | (apply Wl.splitP; exact rfl; exact rfl; all_goals (intros; try (exfalso; omega))) | (apply Wl.splitB; exact rfl; exact rfl; all_goals intros) | (apply St.condP; exact rfl; all_goals (intros; try (exfalso; omega))) | (apply St.condB; exact rfl; all_goals intros))
    refine St.loop (σ := Nat) (fun d => 2 ≤ d ∧ d ≤ 18 ∧ (d = 2 ∨ (d - 1) * (d - 1) ≤ p)) (fun d => [(0, .int .i64 n), (1, .int .i64 k), (5, .slice a L cap), (6, .int .u64 p), (7, .bool (Sha.allB p d)), (8, .int .u64 d)])
      (fun _ => Hp w0 []) (fun d => 18 - d) 2 ⟨by omega, by omega, .inl rfl⟩ (by rw [Sha.allB_2]; (repeat (first | exact Sub.nil | apply Sub.cons rfl))) (fun _ h => h) ?_
    rintro d ⟨hd2, hd18, hdp⟩
    by_cases hlq : d * d ≤ p
    · have hdd : d * d < 18446744073709551616 := by omega
      have hd17 : d ≤ 17 := by
        rcases Nat.lt_or_ge 17 d with h | h
        · have := Nat.mul_le_mul h h
          omega
        · exact h
      have hds : decide (((d * d : Nat) : Int) ≤ (p : Int)) = true := decide_eq_true (by omega)
      have hsu := Sha.allB_succ p d hd2
      have hnx : (d + 1) - 1 = d := by omega
      have hdn : ((d : Int)) ≠ 0 := by omega
      have hp313 : (p % d) < 18446744073709551616 := by have := Nat.mod_lt p (show 0 < d by omega); omega
      cases hA : Sha.allB p d with
      | false =>
        rw [hA, Bool.false_and] at hsu
        repeat' (first | (apply Wl.mulNU; exact rfl; exact rfl; exact rfl; exact hdd) | (apply Wl.move; exact rfl; exact rfl) | (apply Wl.assign; exact rfl; exact rfl) | (apply Wl.off; exact rfl; exact rfl; exact rfl; (first | with_reducible rfl | (show _ = false; with_reducible assumption) | (show _ = true; with_reducible assumption) | decide)) | (apply Wl.pickF; exact rfl; exact rfl; (first | with_reducible rfl | with_reducible assumption | decide); exact rfl) | (apply Wl.leq; exact rfl; exact rfl; exact rfl) | (apply Wl.addU; exact rfl; exact rfl; exact rfl; (constructor <;> omega)) | (apply Wl.nil) | (apply St.seq) | (apply St.block) | (apply St.region) | (apply St.condT; exact rfl; (first | with_reducible rfl | with_reducible assumption | decide)) | (apply St.skip) | (apply Gt.next) | (apply Gt.inNormal) | (apply Wl.splitP; exact rfl; exact rfl; all_goals (intros; try (exfalso; omega))) | (apply Wl.splitB; exact rfl; exact rfl; all_goals intros) | (apply St.condP; exact rfl; all_goals (intros; try (exfalso; omega))) | (apply St.condB; exact rfl; all_goals intros))
        apply Gt.round (d + 1)
        rotate_left
        · omega
        · rw [hsu]; (repeat (first | exact Sub.nil | apply Sub.cons rfl))
        · exact fun _ h => h
        · exact ⟨by omega, by omega, .inr (by rw [hnx]; exact hlq)⟩
      | true =>
        rw [hA, Bool.true_and] at hsu
        have hgt : decide (((p % d : Nat) : Int) > 0) = decide (0 < p % d) := decide_eq_decide.2 (by omega)
        repeat' (first | (apply Wl.mulNU; exact rfl; exact rfl; exact rfl; exact hdd) | (apply Wl.remN; exact rfl; exact rfl; exact rfl; (omega)) | (apply Wl.move; exact rfl; exact rfl) | (apply Wl.assign; exact rfl; exact rfl) | (apply Wl.on; exact rfl; exact rfl; (first | with_reducible rfl | with_reducible assumption | decide)) | (apply Wl.pickT; exact rfl; exact rfl; (first | with_reducible rfl | with_reducible assumption | decide); exact rfl) | (apply Wl.leq; exact rfl; exact rfl; exact rfl) | (apply Wl.gtr; exact rfl; exact rfl; exact rfl) | (apply Wl.addU; exact rfl; exact rfl; exact rfl; (constructor <;> omega)) | (apply Wl.nil) | (apply St.seq) | (apply St.block) | (apply St.region) | (apply St.condT; exact rfl; (first | with_reducible rfl | with_reducible assumption | decide)) | (apply St.skip) | (apply Gt.next) | (apply Gt.inNormal) | (apply Wl.splitP; exact rfl; exact rfl; all_goals (intros; try (exfalso; omega))) | (apply Wl.splitB; exact rfl; exact rfl; all_goals intros) | (apply St.condP; exact rfl; all_goals (intros; try (exfalso; omega))) | (apply St.condB; exact rfl; all_goals intros))
        rw [hgt, ← hsu]
        apply Gt.round (d + 1)
        rotate_left
        · omega
        · (repeat (first | exact Sub.nil | apply Sub.cons rfl))
        · exact fun _ h => h
        · exact ⟨by omega, by omega, .inr (by rw [hnx]; exact hlq)⟩
    have hfin := Sha.allB_end p (by omega) hp2 d (by omega) hd2 hdp (by omega)
    have hds : decide (((d * d : Nat) : Int) ≤ (p : Int)) = false := decide_eq_false (by omega)
    have hdd : d * d < 18446744073709551616 := by
      have := Nat.mul_le_mul hd18 hd18
      omega
    have hsu := Sha.pl_succ p
    rw [hfin]
    cases hP : Sha.isP p with
    | false =>
      rw [hP] at hsu
      repeat' (first | (apply Wl.mulNU; exact rfl; exact rfl; exact rfl; exact hdd) | (apply Wl.addW; exact rfl; exact rfl; exact rfl) | (apply Wl.move; exact rfl; exact rfl) | (apply Wl.assign; exact rfl; exact rfl) | (apply Wl.leq; exact rfl; exact rfl; exact rfl) | (apply Wl.nil) | (apply St.seq) | (apply St.region) | (apply St.condF; exact rfl; (first | with_reducible rfl | with_reducible assumption | decide)) | (apply St.skip) | (apply St.exit) | (apply Gt.next) | (apply Gt.thenExit) | (apply Gt.inNormal) | (apply Gt.inExit) | (apply Wl.splitP; exact rfl; exact rfl; all_goals (intros; try (exfalso; omega))) | (apply Wl.splitB; exact rfl; exact rfl; all_goals intros) | (apply St.condP; exact rfl; all_goals (intros; try (exfalso; omega))) | (apply St.condB; exact rfl; all_goals intros))
      have hp64 : (p + 1) % 18446744073709551616 = p + 1 := Nat.mod_eq_of_lt (by omega)
      try rw [hp64]
      apply Gt.round (p + 1, w0, .slice a L cap)
      rotate_left
      · simp only; omega
      · (repeat (first | exact Sub.nil | apply Sub.cons rfl))
      · exact fun _ h => h
      · refine ⟨by simp only; omega, by simp only; omega, hu, ?_⟩
        simp only
        unfold Sha.rl
        rw [hsu, if_neg (by decide), hL]
        exact hol
    | true =>
      rw [hP, if_pos rfl] at hsu
      repeat' (first | (apply Wl.mulNU; exact rfl; exact rfl; exact rfl; exact hdd) | (apply Wl.move; exact rfl; exact rfl) | (apply Wl.leq; exact rfl; exact rfl; exact rfl) | (apply Wl.nil) | (apply St.seq) | (apply St.region) | (apply St.condT; exact rfl; (first | with_reducible rfl | with_reducible assumption | decide)) | (apply St.condF; exact rfl; (first | with_reducible rfl | with_reducible assumption | decide)) | (apply St.exit) | (apply Gt.next) | (apply Gt.thenExit) | (apply Gt.inExit) | (apply Wl.splitP; exact rfl; exact rfl; all_goals (intros; try (exfalso; omega))) | (apply Wl.splitB; exact rfl; exact rfl; all_goals intros) | (apply St.condP; exact rfl; all_goals (intros; try (exfalso; omega))) | (apply St.condB; exact rfl; all_goals intros))
      apply Wl.callQ
      exact rfl
      (repeat (first | exact Evs.nil | apply Evs.cons rfl))
      · intro wq hq
        refine (refRoot p k wq hk).mono ?_
        rintro e wr ⟨rfl, hr⟩
        exact ⟨rfl, hq.keep hr⟩
      repeat' (first | (apply Wl.lit; exact rfl; (repeat (first | exact Parts.nil | apply Parts.cons rfl)); exact rfl; exact rfl; (repeat (first | apply CatP.nil | (apply CatP.one; exact rfl; exact rfl) | (apply CatP.agg; exact rfl) | apply LApp.nil | apply LApp.cons)); intro c hc ho) | (apply Wl.splitP; exact rfl; exact rfl; all_goals (intros; try (exfalso; omega))) | (apply Wl.splitB; exact rfl; exact rfl; all_goals intros) | (apply St.condP; exact rfl; all_goals (intros; try (exfalso; omega))) | (apply St.condB; exact rfl; all_goals intros))
      apply Wl.appendT
      · exact rfl
      · exact rfl
      · exact rfl
      · exact hc
      · exact rfl
      · exact hol
      · exact fun k hk => trivial
      · exact rfl
      · exact rfl
      · decide
      · unfold maxLen; omega
      · omega
      · exact hu.size
      intro v' w1 ho1 u1 _ hoff1
      have hu1 : Upd (fun k => w.heap.size ≤ k) w w1 := hu.comp u1 fun k hk hs => hs.elim id fun hs => hs.elim (fun e => (hol.lt k e).1) fun y => (y trivial).elim
      repeat' (first | (apply Wl.addW; exact rfl; exact rfl; exact rfl) | (apply Wl.move; exact rfl; exact rfl) | (apply Wl.assign; exact rfl; exact rfl) | (apply Wl.nil) | (apply St.region) | (apply Gt.next) | (apply Gt.inNormal) | (apply Wl.splitP; exact rfl; exact rfl; all_goals (intros; try (exfalso; omega))) | (apply Wl.splitB; exact rfl; exact rfl; all_goals intros) | (apply St.condP; exact rfl; all_goals (intros; try (exfalso; omega))) | (apply St.condB; exact rfl; all_goals intros))
      have hp64 : (p + 1) % 18446744073709551616 = p + 1 := Nat.mod_eq_of_lt (by omega)
      try rw [hp64]
      apply Gt.round (p + 1, w1, v')
      rotate_left
      · simp only; omega
      · (repeat (first | exact Sub.nil | apply Sub.cons rfl))
      · exact fun _ h => h
      · refine ⟨by simp only; omega, by simp only; omega, hu1, ?_⟩
        simp only
        have e1 : u64s (Sha.rl (p + 1) k) = u64s (Sha.rl p k) ++ [Value.int .u64 (Sha.root p k : Nat)] := by
          unfold Sha.rl
          rw [hsu, List.map_append, u64s_app]
          rfl
        rw [e1, hsu, List.length_append, hL]
        exact ho1
  have hpe : p = E := by omega
  subst hpe
  have hLn : L = n := by omega
  subst hLn
  have hd : decide ((L : Int) < (L : Int)) = false := decide_eq_false (by omega)
  repeat' (first | (apply Wl.move; exact rfl; exact rfl) | (apply Wl.assign; exact rfl; exact rfl) | (apply Wl.lss; exact rfl; exact rfl; exact rfl) | (apply Wl.len; exact rfl; exact rfl) | (apply Wl.nil) | (apply St.seq) | (apply St.region) | (apply St.condF; exact rfl; (first | with_reducible rfl | with_reducible assumption | decide)) | (apply St.ret) | (apply St.exit) | (apply Gt.next) | (apply Gt.thenExit) | (apply Gt.inExit) | (apply Gt.out1; exact rfl; exact rfl; intro w' hp) | (apply Wl.splitP; exact rfl; exact rfl; all_goals (intros; try (exfalso; omega))) | (apply Wl.splitB; exact rfl; exact rfl; all_goals intros) | (apply St.condP; exact rfl; all_goals (intros; try (exfalso; omega))) | (apply St.condB; exact rfl; all_goals intros))
  exact ⟨_, rfl, ownsRow_upd hol hp.upd (fun k _ y => y trivial), hu.comp hp.upd fun k _ hs => hs.elim id fun y => (y trivial).elim⟩
end Go.Proofs.YtfaobdakpbpkbaaDoor
end
section
/-
  Numbers of 32 bytes, the highest first: limbs.Read, limbs.Bytes; porticoref05.Num, below. Conditions: none.
-/
namespace Sha
open Go.Pt
/-- the number of 32 bytes, the highest first -/
def rdN (p : Nat → Nat) : Nat := ((((((word p 0 * 4294967296 + word p 1) * 4294967296 + word p 2) * 4294967296 + word p 3) * 4294967296 + word p 4) * 4294967296 + word p 5) * 4294967296 + word p 6) * 4294967296 + word p 7
end Sha
namespace Go.Proofs.YtfaobdakpbpkbaaDoor
open Go.RowKit Go.Pt
open Sha (rdN word word_lt byteAt byteAt_lt)
theorem rdN_lt {p : Nat → Nat} (hp : ∀ j, p j < 256) : rdN p < W256 := by
  have w0 := word_lt hp 0
  have w1 := word_lt hp 1
  have w2 := word_lt hp 2
  have w3 := word_lt hp 3
  have w4 := word_lt hp 4
  have w5 := word_lt hp 5
  have w6 := word_lt hp 6
  have w7 := word_lt hp 7
  unfold rdN
  show _ < 115792089237316195423570985008687907853269984665640564039457584007913129639936
  omega
theorem dg_rd {p : Nat → Nat} (hp : ∀ j, p j < 256) : ∀ j, j < 8 → dg W32 (rdN p) j = word p (7 - j) := by
  have w0 := word_lt hp 0
  have w1 := word_lt hp 1
  have w2 := word_lt hp 2
  have w3 := word_lt hp 3
  have w4 := word_lt hp 4
  have w5 := word_lt hp 5
  have w6 := word_lt hp 6
  have w7 := word_lt hp 7
  intro j hj
  unfold dg hi rdN
  match j, hj with
  | 0, _ => show _ / 1 % 4294967296 = word p 7; omega
  | 1, _ => show _ / 4294967296 % 4294967296 = word p 6; omega
  | 2, _ => show _ / 18446744073709551616 % 4294967296 = word p 5; omega
  | 3, _ => show _ / 79228162514264337593543950336 % 4294967296 = word p 4; omega
  | 4, _ => show _ / 340282366920938463463374607431768211456 % 4294967296 = word p 3; omega
  | 5, _ => show _ / 1461501637330902918203684832716283019655932542976 % 4294967296 = word p 2; omega
  | 6, _ => show _ / 6277101735386680763835789423207666416102355444464034512896 % 4294967296 = word p 1; omega
  | 7, _ => show _ / 26959946667150639794667015087019630673637144422540572481103610249216 % 4294967296 = word p 0; omega
theorem dg16_32 (N j : Nat) : dg D16 N (2 * j) = dg W32 N j % 65536 ∧ dg D16 N (2 * j + 1) = dg W32 N j / 65536 := by
  unfold dg hi
  have e : (D16 : Nat) ^ (2 * j) = W32 ^ j := by rw [Nat.pow_mul]; rfl
  have e2 : (D16 : Nat) ^ (2 * j + 1) = W32 ^ j * 65536 := by rw [Nat.pow_succ, e]
  rw [e, e2, ← Nat.div_div_eq_div_mul]
  show _ % 65536 = _ % 4294967296 % 65536 ∧ _ / 65536 % 65536 = _ % 4294967296 / 65536
  omega
theorem dg_rd16 {p : Nat → Nat} (hp : ∀ j, p j < 256) {j : Nat} (hj : j < 16) : dg D16 (rdN p) j = p (30 - 2 * j) * 256 + p (31 - 2 * j) := by
  obtain ⟨q, hq⟩ : ∃ q, j = 2 * q ∨ j = 2 * q + 1 := ⟨j / 2, by omega⟩
  obtain ⟨h0, h1⟩ := dg16_32 (rdN p) q
  have hw := dg_rd hp q (by omega)
  have a0 := hp (4 * (7 - q))
  have a1 := hp (4 * (7 - q) + 1)
  have a2 := hp (4 * (7 - q) + 2)
  have a3 := hp (4 * (7 - q) + 3)
  have ew : word p (7 - q) = ((p (4 * (7 - q)) * 256 + p (4 * (7 - q) + 1)) * 256 + p (4 * (7 - q) + 2)) * 256 + p (4 * (7 - q) + 3) := rfl
  rw [ew] at hw
  rcases hq with rfl | rfl
  · rw [h0, hw, show 30 - 2 * (2 * q) = 4 * (7 - q) + 2 by omega, show 31 - 2 * (2 * q) = 4 * (7 - q) + 3 by omega]
    omega
  · rw [h1, hw, show 30 - 2 * (2 * q + 1) = 4 * (7 - q) by omega, show 31 - 2 * (2 * q + 1) = 4 * (7 - q) + 1 by omega]
    omega
abbrev rdL (l : List UInt8) : Nat := rdN (byteAt l)
theorem rdL_lt (l : List UInt8) : rdL l < W256 := rdN_lt (byteAt_lt l)
set_option maxHeartbeats 4000000 in
theorem limbRead (v : Value) (l : List UInt8) (w : World) (hv : Bs w v l) (hl : l.length = 32) : Calls Tryd.prog 19 #[v] w fun e w' => e = .returned (.tuple #[numV (rdL l), .int .i64 0]) ∧ Hp w [] w' := by
  obtain ⟨a, cap, rfl, hlc, hm⟩ := hv.shape
  unfold maxLen at hm
  obtain ⟨ab, off, rfl, hcell⟩ := hv.cells (fun e => by subst e; simp at hl)
  rw [hl]
  refine enter (args := [_]) (Γ := [(0, _)]) Tryd.func19 Tryd.ntmps19 rfl (of_decide_eq_true rfl) (.cons rfl .nil) ?_
  repeat' (first | (apply Wl.allocN; exact rfl; (first | exact z8 | exact z16 | exact z17 | exact z33 | exact z10); intro c hc ho) | (apply Wl.move; exact rfl; exact rfl) | (apply Wl.assign; exact rfl; exact rfl) | (apply Wl.neq; exact rfl; exact rfl; exact rfl) | (apply Wl.len; exact rfl; exact rfl) | (apply Wl.nil) | (apply St.seq) | (apply St.block) | (apply St.region) | (apply St.condF; exact rfl; (first | with_reducible rfl | with_reducible assumption | decide)) | (apply St.skip) | (apply Gt.next) | (apply Wl.splitP; exact rfl; exact rfl; all_goals (intros; try (exfalso; omega))) | (apply Wl.splitB; exact rfl; exact rfl; all_goals intros) | (apply St.condP; exact rfl; all_goals (intros; try (exfalso; omega))) | (apply St.condB; exact rfl; all_goals intros))
  have hp := byteAt_lt l
  rename_i cr hcr hor
  refine St.loop (σ := Nat) (fun i => i ≤ 32) (fun i => [(2, mp cr), (3, .int .i64 0), (4, mp c), (11, .slice (some ⟨ab, off, none⟩) 32 cap), (12, .int .i64 32), (13, .int .i64 i)])
    (fun i => Hp w [⟨c, cellsN .u32 8 (fun j => Sha.ldw (byteAt l) i (7 - j)), 30⟩, ⟨cr, cellsN .u32 8 fun _ => 0, 30⟩]) (fun i => 32 - i) 0 (by omega) (by (repeat (first | exact Sub.nil | apply Sub.cons rfl))) (fun _ h => h) ?_
  intro i hi
  by_cases hlt : i < 32
  · have hci : w.cell? ⟨ab, off + (i : Int).toNat, none⟩ = some (.int .u8 ((byteAt l i : Nat) : Int)) := by
      rw [Int.toNat_natCast, Sha.byteAt_get (by omega)]; exact hcell i (by omega)
    have hal := World.block_lt_of_cell? w _ hci
    simp only at hal
    have n1 : c ≠ ab := by omega
    have n2 : cr ≠ ab := by omega
    have hb := hp i
    have hb2 : (byteAt l i : Int) ≤ 255 := by omega
    have hi7 : 7 - i / 4 < 8 := by omega
    have hnx : ∀ j, j < 8 → updN (fun j => Sha.ldw (byteAt l) i (7 - j)) (7 - i / 4) (Sha.O (Sha.ldw (byteAt l) i (7 - (7 - i / 4)) * 2 ^ 8 % 4294967296) (byteAt l i)) j = Sha.ldw (byteAt l) (i + 1) (7 - j) := fun j hj => by
      show _ = updN (Sha.ldw (byteAt l) i) (i / 4) _ (7 - j)
      unfold updN
      rw [show 7 - (7 - i / 4) = i / 4 by omega]
      by_cases h : j = 7 - i / 4
      · rw [if_pos h, if_pos (by omega)]
      · rw [if_neg h, if_neg (by omega)]
    repeat' (first | (apply Wl.indexAddr1; exact rfl; exact rfl; exact rfl; (constructor <;> omega)) | (apply Wl.quoN (n := 4); exact rfl; exact rfl; exact rfl; (decide); exact IntWalk.i64_in _ (by omega)) | (apply Wl.subR 7; exact rfl; exact rfl; exact rfl; exact rfl; (omega); (omega)) | (apply Wl.shlP 8; exact rfl; exact rfl; exact rfl; exact rfl; (decide)) | (apply Wl.orN32; exact rfl; exact rfl; exact rfl) | (apply Wl.indexA; exact rfl; exact rfl; exact rfl; (omega)) | (apply Wl.loadN; exact rfl; exact rfl; (repeat (first | exact List.Mem.head _ | apply List.Mem.tail)); (omega)) | (apply Wl.storeN; exact rfl; exact rfl; (repeat (first | apply HSet.here | apply HSet.there)); (omega)) | (apply Wl.move; exact rfl; exact rfl) | (apply Wl.assign; exact rfl; exact rfl) | (apply Wl.loadO; exact rfl; exact rfl; (assumption); (repeat (first | exact trivial | refine ⟨by first | assumption | omega, ?_⟩))) | (apply Wl.lss; exact rfl; exact rfl; exact rfl) | (apply Wl.addI; exact rfl; exact rfl; exact rfl; (constructor <;> omega)) | (apply Wl.convU32; exact rfl; exact rfl; (constructor <;> omega)) | (apply Wl.nil) | (apply St.seq) | (apply St.block) | (apply St.region) | (apply St.skip) | (apply Gt.next) | (apply Gt.inNormal) | (apply Wl.splitP; exact rfl; exact rfl; all_goals (intros; try (exfalso; omega))) | (apply Wl.splitB; exact rfl; exact rfl; all_goals intros) | (apply St.condP; exact rfl; all_goals (intros; try (exfalso; omega))) | (apply St.condB; exact rfl; all_goals intros))
    apply Gt.round (i + 1)
    rotate_left
    · omega
    · (repeat (first | exact Sub.nil | apply Sub.cons rfl))
    · exact fun _ h => by rw [cellsN_congr hnx] at h; exact h
    · omega
  have hi32 : i = 32 := by omega
  subst hi32
  have hfin : cellsN .u32 8 (fun j => Sha.ldw (byteAt l) 32 (7 - j)) = cellsN .u32 8 (dg W32 (rdL l)) := cellsN_congr fun j hj => by
    rw [Sha.ldw_eq hp, if_pos (by omega), dg_rd hp j hj]
  rw [hfin]
  repeat' (first | (apply Wl.loadW; exact rfl; exact rfl; (repeat (first | exact List.Mem.head _ | apply List.Mem.tail)); exact rfl) | (apply Wl.storeW; exact rfl; exact rfl; (repeat (first | apply HSet.here | apply HSet.there)); exact rfl; (first | exact cellsN_len _ _ _ | exact rfl)) | (apply Wl.assign; exact rfl; exact rfl) | (apply Wl.lss; exact rfl; exact rfl; exact rfl) | (apply Wl.nil) | (apply St.seq) | (apply St.region) | (apply St.condF; exact rfl; (first | with_reducible rfl | with_reducible assumption | decide)) | (apply St.ret) | (apply St.exit) | (apply Gt.next) | (apply Gt.thenExit) | (apply Gt.inExit) | (apply Wl.splitP; exact rfl; exact rfl; all_goals (intros; try (exfalso; omega))) | (apply Wl.splitB; exact rfl; exact rfl; all_goals intros) | (apply St.condP; exact rfl; all_goals (intros; try (exfalso; omega))) | (apply St.condB; exact rfl; all_goals intros))
  apply Gt.outCT
  · exact rfl
  · infer_instance
  · exact rfl
  · exact rfl
  · (repeat (first | exact List.Mem.head _ | apply List.Mem.tail))
  · exact LSub.whole (cellsN_len _ _ _)
  intro w' hp
  exact ⟨rfl, hp.drop (by simp; omega)⟩
set_option maxHeartbeats 4000000 in
theorem limbReadN (v : Value) (l : List UInt8) (w : World) (hv : Bs w v l) (hl : l.length ≠ 32) : Calls Tryd.prog 19 #[v] w fun e w' => e = .returned (.tuple #[numV 0, .int .i64 2]) ∧ Hp w [] w' := by
  obtain ⟨a, cap, rfl, hlc, hm⟩ := hv.shape
  refine enter (args := [_]) (Γ := [(0, _)]) Tryd.func19 Tryd.ntmps19 rfl (of_decide_eq_true rfl) (.cons rfl .nil) ?_
  have hd : decide ((l.length : Int) ≠ 32) = true := decide_eq_true (by omega)
  repeat' (first | (apply Wl.loadW; exact rfl; exact rfl; (repeat (first | exact List.Mem.head _ | apply List.Mem.tail)); exact rfl) | (apply Wl.storeW; exact rfl; exact rfl; (repeat (first | apply HSet.here | apply HSet.there)); exact rfl; (first | exact cellsN_len _ _ _ | exact rfl)) | (apply Wl.allocN; exact rfl; (first | exact z8 | exact z16 | exact z17 | exact z33 | exact z10); intro c hc ho) | (apply Wl.move; exact rfl; exact rfl) | (apply Wl.assign; exact rfl; exact rfl) | (apply Wl.neq; exact rfl; exact rfl; exact rfl) | (apply Wl.len; exact rfl; exact rfl) | (apply Wl.nil) | (apply St.seq) | (apply St.region) | (apply St.condT; exact rfl; (first | with_reducible rfl | with_reducible assumption | decide)) | (apply St.ret) | (apply Gt.next) | (apply Gt.thenRet) | (apply Wl.splitP; exact rfl; exact rfl; all_goals (intros; try (exfalso; omega))) | (apply Wl.splitB; exact rfl; exact rfl; all_goals intros) | (apply St.condP; exact rfl; all_goals (intros; try (exfalso; omega))) | (apply St.condB; exact rfl; all_goals intros))
  apply Gt.outCT
  · exact rfl
  · infer_instance
  · exact rfl
  · exact rfl
  · (repeat (first | exact List.Mem.head _ | apply List.Mem.tail))
  · exact LSub.whole (cellsN_len _ _ _)
  intro w' hp
  refine ⟨?_, hp.drop (by simp; omega)⟩
  rw [show (fun _ : Nat => 0) = dg W32 0 from by funext j; unfold dg hi; simp]
/-- digits of 16 bits behind i bytes -/
def rdF (p : Nat → Nat) (i j : Nat) : Nat := (if 30 - 2 * j < i then p (30 - 2 * j) * 256 else 0) + (if 31 - 2 * j < i then p (31 - 2 * j) else 0)
theorem rdF_step (p : Nat → Nat) (i : Nat) (hi : i < 32) : ∀ j, j < 16 → updN (rdF p i) ((31 - i) / 2) (rdF p i ((31 - i) / 2) + p i * 2 ^ (8 * ((31 - i) % 2))) j = rdF p (i + 1) j := fun j hj => by
  unfold updN
  by_cases h : j = (31 - i) / 2
  · rw [if_pos h, ← h]
    unfold rdF
    by_cases ho : (31 - i) % 2 = 1
    · have e1 : i = 30 - 2 * j := by omega
      rw [ho, if_neg (by omega), if_neg (by omega), if_pos (by omega), if_neg (by omega), ← e1]
      omega
    · have e1 : i = 31 - 2 * j := by omega
      rw [show (31 - i) % 2 = 0 by omega, if_pos (by omega), if_neg (by omega), if_pos (by omega), if_pos (by omega), ← e1]
      omega
  · rw [if_neg h]
    unfold rdF
    by_cases h1 : 30 - 2 * j < i
    · rw [if_pos h1, if_pos (show 30 - 2 * j < i + 1 by omega)]
      by_cases h2 : 31 - 2 * j < i
      · rw [if_pos h2, if_pos (show 31 - 2 * j < i + 1 by omega)]
      · rw [if_neg h2, if_neg (show ¬ 31 - 2 * j < i + 1 by omega)]
    · rw [if_neg h1, if_neg (show ¬ 30 - 2 * j < i + 1 by omega), if_neg (show ¬ 31 - 2 * j < i by omega), if_neg (show ¬ 31 - 2 * j < i + 1 by omega)]
set_option maxHeartbeats 4000000 in
theorem refNum (v : Value) (l : List UInt8) (w : World) (hv : Bs w v l) (hl : l.length = 32) : Calls Tryd.prog 32 #[v] w fun e w' => e = .returned (num16 (rdL l)) ∧ Hp w [] w' := by
  obtain ⟨a, cap, rfl, hlc, hm⟩ := hv.shape
  unfold maxLen at hm
  obtain ⟨ab, off, rfl, hcell⟩ := hv.cells (fun e => by subst e; simp at hl)
  rw [hl]
  refine enter (args := [_]) (Γ := [(0, _)]) Tryd.func32 Tryd.ntmps32 rfl (of_decide_eq_true rfl) (.cons rfl .nil) ?_
  repeat' (first | (apply Wl.allocN; exact rfl; (first | exact z8 | exact z16 | exact z17 | exact z33 | exact z10); intro c hc ho) | (apply Wl.assign; exact rfl; exact rfl) | (apply Wl.nil) | (apply St.seq) | (apply St.block) | (apply St.region) | (apply Gt.next) | (apply Wl.splitP; exact rfl; exact rfl; all_goals (intros; try (exfalso; omega))) | (apply Wl.splitB; exact rfl; exact rfl; all_goals intros) | (apply St.condP; exact rfl; all_goals (intros; try (exfalso; omega))) | (apply St.condB; exact rfl; all_goals intros))
  have hp := byteAt_lt l
  rename_i cr hcr hor
  refine St.loop (σ := Nat) (fun i => i ≤ 32) (fun i => [(0, .slice (some ⟨ab, off, none⟩) 32 cap), (2, mp cr), (3, mp c), (4, .int .i64 i)])
    (fun i => Hp w [⟨c, cellsN .u64 16 (rdF (byteAt l) i), 37⟩, ⟨cr, cellsN .u64 16 fun _ => 0, 37⟩]) (fun i => 32 - i) 0 (by omega) (by (repeat (first | exact Sub.nil | apply Sub.cons rfl))) (fun _ h => h) ?_
  intro i hi
  by_cases hlt : i < 32
  · have hci : w.cell? ⟨ab, off + (i : Int).toNat, none⟩ = some (.int .u8 ((byteAt l i : Nat) : Int)) := by
      rw [Int.toNat_natCast, Sha.byteAt_get (by omega)]; exact hcell i (by omega)
    have hal := World.block_lt_of_cell? w _ hci
    simp only at hal
    have n1 : c ≠ ab := by omega
    have n2 : cr ≠ ab := by omega
    have hb := hp i
    have hb64 : byteAt l i < 18446744073709551616 := by omega
    have hk2 : (31 - i) / 2 < 16 := by omega
    have hs := rdF_step (byteAt l) i hlt
    have h8 : 8 * ((31 - i) % 2) ≤ 64 := by omega
    have hpw : byteAt l i * 2 ^ (8 * ((31 - i) % 2)) ≤ 65280 := by
      rcases Nat.mod_two_eq_zero_or_one (31 - i) with e | e <;> rw [e] <;> omega
    have hsm : byteAt l i * 2 ^ (8 * ((31 - i) % 2)) % 18446744073709551616 = byteAt l i * 2 ^ (8 * ((31 - i) % 2)) := Nat.mod_eq_of_lt (by omega)
    have hr : rdF (byteAt l) i ((31 - i) / 2) ≤ 65535 := by
      unfold rdF
      have a1 := hp (30 - 2 * ((31 - i) / 2))
      have a2 := hp (31 - 2 * ((31 - i) / 2))
      split <;> split <;> omega
    have hadd : (rdF (byteAt l) i ((31 - i) / 2) + byteAt l i * 2 ^ (8 * ((31 - i) % 2)) % 18446744073709551616) % 18446744073709551616 = rdF (byteAt l) i ((31 - i) / 2) + byteAt l i * 2 ^ (8 * ((31 - i) % 2)) := by rw [hsm]; exact Nat.mod_eq_of_lt (by omega)
    generalize rdF (byteAt l) i = G at *
    repeat' (first | (apply St.bagX 15 []; exact mixed; (decide +kernel); kernel_rfl) | (apply OpsX.nil) | (apply OpsX.v; (intro X hX; change Wl [_] _ _ _ _ _ _ _; apply Wl.catX; (repeat (first | apply CatB.nil | apply CatB.cons)))) | (apply Gt.endX; exact rfl) | (apply EndX.on; exact rfl) | (apply EndX.off; exact rfl) | (apply EndX.nil'; apply Wl.catE; (repeat (first | apply CatB.nil | apply CatB.cons))) | (apply Wl.indexAddr1; exact rfl; exact rfl; exact rfl; (constructor <;> omega)) | (apply Wl.quoN (n := 2); exact rfl; exact rfl; exact rfl; (decide); exact IntWalk.i64_in _ (by omega)) | (apply Wl.remN (n := 2); exact rfl; exact rfl; exact rfl; (decide)) | (apply Wl.mulNI (m := 8); exact rfl; exact rfl; exact rfl; (omega)) | (apply Wl.subR 31; exact rfl; exact rfl; exact rfl; exact rfl; (omega); (omega)) | (apply Wl.shlW; exact rfl; exact rfl; exact rfl; exact h8) | (apply Wl.addW; exact rfl; exact rfl; exact rfl) | (apply Wl.convNU; exact rfl; exact rfl; exact hb64) | (apply Wl.loadO; exact rfl; exact rfl; exact hci; (first | (repeat (first | exact trivial | exact hX.off (by omega) | refine ⟨by first | assumption | omega | (simp only; omega), ?_⟩)) | (refine ⟨n1, n2, ?_⟩; (repeat (first | exact trivial | exact hX.off (by omega) | refine ⟨by first | assumption | omega | (simp only; omega), ?_⟩))))) | (apply Wl.indexA; exact rfl; exact rfl; exact rfl; (omega)) | (apply Wl.loadN; exact rfl; exact rfl; (repeat (first | exact List.Mem.head _ | apply List.Mem.tail)); (omega)) | (apply Wl.storeN; exact rfl; exact rfl; (repeat (first | apply HSet.here | apply HSet.there)); (omega)) | (apply Wl.move; exact rfl; exact rfl) | (apply Wl.assign; exact rfl; exact rfl) | (apply Wl.lss; exact rfl; exact rfl; exact rfl) | (apply Wl.addI; exact rfl; exact rfl; exact rfl; (constructor <;> omega)) | (apply Wl.nil) | (apply St.seq) | (apply St.block) | (apply St.region) | (apply St.skip) | (apply Gt.next) | (apply Gt.inNormal) | (apply Wl.splitP; exact rfl; exact rfl; all_goals (intros; try (exfalso; omega))) | (apply Wl.splitB; exact rfl; exact rfl; all_goals intros) | (apply St.condP; exact rfl; all_goals (intros; try (exfalso; omega))) | (apply St.condB; exact rfl; all_goals intros))
    rw [hadd]
    apply Gt.round (i + 1)
    rotate_left
    · omega
    · (repeat (first | exact Sub.nil | apply Sub.cons rfl))
    · exact fun _ h => by rw [cellsN_congr hs] at h; exact h
    · omega
  have hi32 : i = 32 := by omega
  subst hi32
  have hfin : cellsN .u64 16 (rdF (byteAt l) 32) = cellsN .u64 16 (dg D16 (rdL l)) := cellsN_congr fun j hj => by
    rw [dg_rd16 hp hj]
    unfold rdF
    rw [if_pos (by omega), if_pos (by omega)]
  rw [hfin]
  repeat' (first | (apply Gt.outN; exact rfl; infer_instance; exact rfl; (repeat (first | exact List.Mem.head _ | apply List.Mem.tail)); exact rfl; intro w' hp) | (apply Wl.loadW; exact rfl; exact rfl; (repeat (first | exact List.Mem.head _ | apply List.Mem.tail)); exact rfl) | (apply Wl.storeW; exact rfl; exact rfl; (repeat (first | apply HSet.here | apply HSet.there)); exact rfl; (first | exact cellsN_len _ _ _ | exact rfl)) | (apply Wl.move; exact rfl; exact rfl) | (apply Wl.lss; exact rfl; exact rfl; exact rfl) | (apply Wl.nil) | (apply St.seq) | (apply St.region) | (apply St.condF; exact rfl; (first | with_reducible rfl | with_reducible assumption | decide)) | (apply St.ret) | (apply St.exit) | (apply Gt.next) | (apply Gt.thenExit) | (apply Gt.inExit) | (apply Wl.splitP; exact rfl; exact rfl; all_goals (intros; try (exfalso; omega))) | (apply Wl.splitB; exact rfl; exact rfl; all_goals intros) | (apply St.condP; exact rfl; all_goals (intros; try (exfalso; omega))) | (apply St.condB; exact rfl; all_goals intros))
  exact ⟨rfl, hp.drop (by simp; omega)⟩
set_option maxHeartbeats 4000000 in
theorem refBelow (a b : Nat) (ha : a < W256) (hb : b < W256) (w : World) :
    Calls Tryd.prog 35 #[num16 a, num16 b] w fun e w' => e = .returned (.bool (decide (a < b))) ∧ Hp w [] w' := by
  refine enter (args := [_, _]) (Γ := [(0, _), (1, _)]) Tryd.func35 Tryd.ntmps35 rfl (of_decide_eq_true rfl) (.cons rfl (.cons rfl .nil)) ?_
  repeat' (first | (apply Wl.boxN; exact rfl; exact rfl; intro c hc ho) | (apply Wl.assign; exact rfl; exact rfl) | (apply Wl.nil) | (apply St.seq) | (apply St.block) | (apply St.region) | (apply Gt.next) | (apply Wl.splitP; exact rfl; exact rfl; all_goals (intros; try (exfalso; omega))) | (apply Wl.splitB; exact rfl; exact rfl; all_goals intros) | (apply St.condP; exact rfl; all_goals (intros; try (exfalso; omega))) | (apply St.condB; exact rfl; all_goals intros))
  rename_i ca hca hoa
  generalize c = cb at *
  refine St.loop (σ := Nat) (fun n => n ≤ 16 ∧ hi D16 a n = hi D16 b n)
    (fun n => [(2, mp ca), (3, mp cb), (5, .int .i64 ((n : Int) - 1))])
    (fun _ => Hp w [⟨cb, cellsN .u64 16 (dg D16 b), 37⟩, ⟨ca, cellsN .u64 16 (dg D16 a), 37⟩])
    (fun n => n) 16 ⟨by simp, by rw [hi16_lt ha, hi16_lt hb]⟩ (by (repeat (first | exact Sub.nil | apply Sub.cons rfl))) (fun _ h => h) ?_
  rintro i ⟨hi16, hic⟩
  cases i with
  | zero =>
    rw [hi_zero, hi_zero] at hic
    subst hic
    repeat' (first | (apply Wl.move; exact rfl; exact rfl) | (apply Wl.assign; exact rfl; exact rfl) | (apply Wl.geq; exact rfl; exact rfl; exact rfl) | (apply Wl.nil) | (apply St.seq) | (apply St.region) | (apply St.condF; exact rfl; (first | with_reducible rfl | with_reducible assumption | decide)) | (apply St.ret) | (apply St.exit) | (apply Gt.next) | (apply Gt.thenExit) | (apply Gt.inExit) | (apply Gt.out1; exact rfl; exact rfl; intro w' hp) | (apply Wl.splitP; exact rfl; exact rfl; all_goals (intros; try (exfalso; omega))) | (apply Wl.splitB; exact rfl; exact rfl; all_goals intros) | (apply St.condP; exact rfl; all_goals (intros; try (exfalso; omega))) | (apply St.condB; exact rfl; all_goals intros))
    refine ⟨?_, hp.drop (by simp; omega)⟩
    rw [decide_eq_false (by omega)]
  | succ i =>
    have e : (((i + 1 : Nat) : Int) - 1) = (i : Int) := by omega
    rw [e]
    have ea := hi_eq D16 a i
    have eb := hi_eq D16 b i
    rw [hic] at ea
    have hd : decide ((i : Int) ≥ 0) = true := decide_eq_true (by omega)
    have hd' : decide (0 ≤ (i : Int)) = true := decide_eq_true (by omega)
    by_cases hne : dg D16 a i = dg D16 b i
    · have hn : decide (((dg D16 a i : Nat) : Int) ≠ ((dg D16 b i : Nat) : Int)) = false := decide_eq_false (by omega)
      repeat' (first | (apply St.bagX 7 [6]; exact mixed; (decide +kernel); kernel_rfl) | (apply OpsX.nil) | (apply OpsX.v; (intro X hX; change Wl [_] _ _ _ _ _ _ _; apply Wl.catX; (repeat (first | apply CatB.nil | apply CatB.cons)))) | (apply Gt.endX; exact rfl) | (apply EndX.on; exact rfl) | (apply EndX.off; exact rfl) | (apply EndX.nil'; apply Wl.catE; (repeat (first | apply CatB.nil | apply CatB.cons))) | (apply Wl.indexA; exact rfl; exact rfl; exact rfl; (omega)) | (apply Wl.loadN; exact rfl; exact rfl; (repeat (first | exact List.Mem.head _ | apply List.Mem.tail)); (omega)) | (apply Wl.move; exact rfl; exact rfl) | (apply Wl.assign; exact rfl; exact rfl) | (apply Wl.neq; exact rfl; exact rfl; exact rfl) | (apply Wl.geq; exact rfl; exact rfl; exact rfl) | (apply Wl.subI; exact rfl; exact rfl; exact rfl; (constructor <;> omega)) | (apply Wl.nil) | (apply St.seq) | (apply St.block) | (apply St.region) | (apply St.condT; exact rfl; (first | with_reducible rfl | with_reducible assumption | decide)) | (apply St.condF; exact rfl; (first | with_reducible rfl | with_reducible assumption | decide)) | (apply St.skip) | (apply Gt.next) | (apply Gt.inNormal) | (apply Wl.splitP; exact rfl; exact rfl; all_goals (intros; try (exfalso; omega))) | (apply Wl.splitB; exact rfl; exact rfl; all_goals intros) | (apply St.condP; exact rfl; all_goals (intros; try (exfalso; omega))) | (apply St.condB; exact rfl; all_goals intros))
      apply Gt.round i
      rotate_left
      · simp
      · (repeat (first | exact Sub.nil | apply Sub.cons rfl))
      · exact fun _ h => h
      · exact ⟨by omega, by omega⟩
    · have hn : decide (((dg D16 a i : Nat) : Int) ≠ ((dg D16 b i : Nat) : Int)) = true := decide_eq_true (by omega)
      have hfin : decide (((dg D16 a i : Nat) : Int) < ((dg D16 b i : Nat) : Int)) = decide (a < b) := decide_eq_decide.2 ⟨fun h => lt_of_hi (B := D16) (i := i) (by omega), fun h => by
        rcases Nat.lt_or_ge (dg D16 a i) (dg D16 b i) with h1 | h1
        · omega
        · have : b < a := lt_of_hi (B := D16) (i := i) (by omega)
          omega⟩
      repeat' (first | (apply St.bagX 7 [6]; exact mixed; (decide +kernel); kernel_rfl) | (apply OpsX.nil) | (apply OpsX.v; (intro X hX; change Wl [_] _ _ _ _ _ _ _; apply Wl.catX; (repeat (first | apply CatB.nil | apply CatB.cons)))) | (apply Gt.endX; exact rfl) | (apply EndX.on; exact rfl) | (apply EndX.off; exact rfl) | (apply EndX.nil'; apply Wl.catE; (repeat (first | apply CatB.nil | apply CatB.cons))) | (apply Wl.indexA; exact rfl; exact rfl; exact rfl; (omega)) | (apply Wl.loadN; exact rfl; exact rfl; (repeat (first | exact List.Mem.head _ | apply List.Mem.tail)); (omega)) | (apply Wl.move; exact rfl; exact rfl) | (apply Wl.assign; exact rfl; exact rfl) | (apply Wl.neq; exact rfl; exact rfl; exact rfl) | (apply Wl.lss; exact rfl; exact rfl; exact rfl) | (apply Wl.geq; exact rfl; exact rfl; exact rfl) | (apply Wl.nil) | (apply St.seq) | (apply St.block) | (apply St.region) | (apply St.condT; exact rfl; (first | with_reducible rfl | with_reducible assumption | decide)) | (apply St.ret) | (apply St.skip) | (apply Gt.next) | (apply Gt.thenRet) | (apply Gt.inRet) | (apply Gt.out1; exact rfl; exact rfl; intro w' hp) | (apply Wl.splitP; exact rfl; exact rfl; all_goals (intros; try (exfalso; omega))) | (apply Wl.splitB; exact rfl; exact rfl; all_goals intros) | (apply St.condP; exact rfl; all_goals (intros; try (exfalso; omega))) | (apply St.condB; exact rfl; all_goals intros))
      rw [hfin] at *
      exact ⟨rfl, hp.drop (by simp; omega)⟩
end Go.Proofs.YtfaobdakpbpkbaaDoor
end
section
/-
  The contracts of package bytes' cursor: what each method returns and what becomes of the cursor.
-/
namespace Go.Proofs.YtfaobdakpbpkbaaDoor
open Go.RowKit Go.Pt

/-- what is taken, what is left, has it failed -/
def cTake (l : List UInt8) (bad : Bool) (n : Int) : List UInt8 × List UInt8 × Bool :=
  if bad = true ∨ n < 0 ∨ (l.length : Int) < n then ([], [], true) else (l.take n.toNat, l.drop n.toNat, false)

theorem cTake_len (l : List UInt8) (bad : Bool) (n : Nat) : (cTake l bad n).1.length ≤ n := by
  unfold cTake; split <;> simp; omega
theorem numPost_lt (l : List UInt8) (bad : Bool) (n : Nat) (h : n ≤ 4) : (leN (cTake l bad n).1 : Int) ≤ 4294967295 := by
  have h1 := leN_lt (cTake l bad n).1
  have h2 : (256 : Nat) ^ (cTake l bad n).1.length ≤ 256 ^ 4 := Nat.pow_le_pow_right (by omega) (Nat.le_trans (cTake_len l bad n) h)
  omega
/-! ### a nil cursor -/
theorem cTake_app (l m : List UInt8) (n : Int) (h : n = l.length) : cTake (l ++ m) false n = (l, m, false) := by
  subst h
  unfold cTake
  rw [if_neg (by simp; omega)]
  simp
end Go.Proofs.YtfaobdakpbpkbaaDoor
end
section
/-
  The contracts of the reference's cursor, and of the ranges of addresses in both texts.
-/
namespace Go.Proofs.YtfaobdakpbpkbaaDoor
open Go.RowKit Go.Pt

/-- the reference's cursor: bytes, a place, has it failed: what is taken, the place, has it failed -/
def rTake (l : List UInt8) (p : Nat) (bad : Bool) (n : Int) : List UInt8 × Nat × Bool :=
  if bad = true ∨ n < 0 ∨ (l.length : Int) - p < n then ([], p, true) else ((l.drop p).take n.toNat, p + n.toNat, false)

theorem rTake_len (l : List UInt8) (p : Nat) (bad : Bool) (n : Nat) : (rTake l p bad n).1.length ≤ n := by
  unfold rTake; split <;> simp; omega

/-! ### ranges of addresses -/
def inB (a n b m : Int) : Bool := decide (b ≤ a ∧ a + n ≤ b + m)
def apB (a n b m : Int) : Bool := decide (n = 0 ∨ m = 0 ∨ a + n ≤ b ∨ b + m ≤ a)
def U32 (x : Int) : Prop := 0 ≤ x ∧ x ≤ 4294967295
instance (x : Int) : Decidable (U32 x) := by unfold U32; infer_instance

end Go.Proofs.YtfaobdakpbpkbaaDoor
end
section
/-
  The contracts of the functions that append bytes: P16, P32, Put, Join.
-/
namespace Go.Proofs.YtfaobdakpbpkbaaDoor
open Go.RowKit Go.Pt

/-- n bytes of a number, the lowest first -/
def leB : Nat → Nat → List UInt8
  | 0, _ => []
  | n + 1, x => UInt8.ofNat (x % 256) :: leB n (x / 256)
theorem leB_length (n x : Nat) : (leB n x).length = n := by
  induction n generalizing x with
  | zero => rfl
  | succ n ih => simp [leB, ih]
theorem leN_leB (n x : Nat) : leN (leB n x) = x % 256 ^ n := by
  induction n generalizing x with
  | zero => simp [leB, leN, Nat.mod_one]
  | succ n ih =>
    simp only [leB, leN, ih]
    have : (UInt8.ofNat (x % 256)).toNat = x % 256 := by simp
    rw [this, Nat.pow_succ, Nat.mul_comm (256 ^ n) 256, Nat.mod_mul]
theorem leB_snoc (n x : Nat) : leB (n + 1) x = leB n x ++ [UInt8.ofNat (x / 256 ^ n % 256)] := by
  induction n generalizing x with
  | zero => simp [leB]
  | succ n ih =>
    rw [leB, ih, leB]
    simp [Nat.pow_succ, Nat.div_div_eq_div_mul, Nat.mul_comm]

theorem leB_mod (n x : Nat) : leB n (x % 256 ^ n) = leB n x := by
  induction n generalizing x with
  | zero => rfl
  | succ n ih =>
    have h1 : x % 256 ^ (n + 1) % 256 = x % 256 := Nat.mod_mod_of_dvd x ⟨256 ^ n, by rw [Nat.pow_succ, Nat.mul_comm]⟩
    have h2 : x % 256 ^ (n + 1) / 256 = x / 256 % 256 ^ n := by rw [Nat.pow_succ, Nat.mul_comm, Nat.mod_mul_right_div_self]
    simp only [leB, h1, h2, ih]
/-- v is a buffer of the call's own (its block from base on) that holds the bytes l -/
def Bo (w : World) (base : Nat) (v : Value) (l : List UInt8) : Prop := w.ownsRow base 5 1 v l.length (byteCells l)
theorem Bo.nil (w : World) (base : Nat) : Bo w base (.slice none 0 0) [] := World.ownsRow_nil w base 5 1
theorem Bo.bs {w : World} {base : Nat} {v : Value} {l : List UInt8} (h : Bo w base v l) : Bs w v l := Sv.ofOwn h
theorem Bo.shape {w : World} {base : Nat} {v : Value} {l : List UInt8} (h : Bo w base v l) : ∃ a cap, v = .slice a l.length cap ∧ l.length ≤ cap ∧ cap ≤ maxLen := h.bs.shape
theorem Bo.base {w : World} {base : Nat} {v : Value} {l : List UInt8} (h : Bo w base v l) {k : Nat} (hk : v.ownBlock = some k) : base ≤ k := (h.lt k hk).1
theorem Bo.upd {S : Nat → Prop} {w w' : World} {base : Nat} {v : Value} {l : List UInt8} (h : Bo w base v l) (u : Upd S w w') (hs : ∀ k, v.ownBlock = some k → ¬ S k) : Bo w' base v l := ownsRow_upd h u hs
theorem Bo.of {w : World} {base : Nat} {v : Value} {l m : List UInt8} {n : Nat} {cs : List Value} (h : w.ownsRow base 5 1 v n (byteCells l ++ cs)) (hn : n = l.length + m.length) (hc : cs = byteCells m) : Bo w base v (l ++ m) := by
  unfold Bo
  subst hc
  rw [List.length_append, ← hn]
  simpa [byteCells] using h
theorem byteCells_all (l : List UInt8) : (byteCells l).all Value.oneCell' = true := by
  rw [List.all_eq_true]
  intro x hx
  simp only [byteCells, List.mem_map] at hx
  obtain ⟨c, _, rfl⟩ := hx
  rfl
theorem u8_cell (x : Int) : (Value.int .u8 (IntKind.u8.wrap x)) = .int .u8 ((UInt8.ofNat (x % 256).toNat).toNat : Int) := by
  congr 1
  rw [IntKind.wrap_u8]
  simp
  omega

theorem wrap8 (x : Int) : IntKind.u8.wrap x = ((UInt8.ofNat (x % 256).toNat).toNat : Int) := by
  rw [IntKind.wrap_u8]; simp; omega

/-- integers of a kind, as a slice of them reads -/
def Is (k : IntKind) (w : World) (v : Value) (l : List Int) : Prop := Sv w 1 l.length v (l.map (Value.int k))
theorem Is.upd {k : IntKind} {S : Nat → Prop} {w w' : World} {v : Value} {l : List Int} (h : Is k w v l) (u : Upd S w w') (hs : ∀ b, v.ownBlock = some b → b < w.heap.size → l ≠ [] → ¬ S b) : Is k w' v l :=
  Sv.upd h u fun b h1 h2 h3 => hs b h1 h2 (by simpa using h3)
theorem Is.shape {k : IntKind} {w : World} {v : Value} {l : List Int} (h : Is k w v l) : ∃ a cap, v = .slice a l.length cap ∧ l.length ≤ cap ∧ cap ≤ maxLen := by
  obtain ⟨_, a, cap, h1, h2, h3, _, _⟩ := h; exact ⟨a, cap, h1, h2, h3⟩
theorem Is.cells {k : IntKind} {w : World} {a : Option Addr} {n cap : Nat} {l : List Int} (h : Is k w (.slice a n cap) l) (hne : l ≠ []) :
    ∃ b off, a = some ⟨b, off, none⟩ ∧ ∀ i (hi : i < l.length), w.cell? ⟨b, off + i, none⟩ = some (.int k l[i]) := by
  obtain ⟨_, a', cap', h1, _, _, _, h3⟩ := h
  cases h1
  obtain ⟨b, off, rfl, hc⟩ := h3 (by simpa using hne)
  refine ⟨b, off, rfl, fun i hi => ?_⟩
  have := hc i (by simpa using hi)
  simpa using this
end Go.Proofs.YtfaobdakpbpkbaaDoor
end
section
/-
  porticoref05.Bytes. Conditions: numbers are below 2^256.
-/
namespace Go.Proofs.YtfaobdakpbpkbaaDoor
open Go.RowKit Go.Pt
open Sha (rdN word byteAt byteAt_lt)
/-- byte i of a number, the highest first -/
def beAt (n i : Nat) : Nat := dg D16 n ((31 - i) / 2) / 2 ^ (8 * ((31 - i) % 2)) % 256
def beL (n : Nat) : List UInt8 := (List.range 32).map fun i => UInt8.ofNat (beAt n i)
theorem beL_len (n : Nat) : (beL n).length = 32 := by simp [beL]
theorem beL_take (n : Nat) {i : Nat} (h : i < 32) : (beL n).take (i + 1) = (beL n).take i ++ [UInt8.ofNat (beAt n i)] := by
  rw [List.take_succ_eq_append_getElem (by rw [beL_len]; exact h)]
  simp [beL]
theorem beL_at (n : Nat) {i : Nat} (h : i < 32) : byteAt (beL n) i = beAt n i := by
  rw [Sha.byteAt_get (by rw [beL_len]; exact h)]
  simp [beL, beAt]
theorem rd_beL {n : Nat} (hn : n < W256) : rdL (beL n) = n := by
  have h : ∀ j, j < 16 → dg D16 (rdL (beL n)) j = dg D16 n j := fun j hj => by
    rw [dg_rd16 (byteAt_lt _) hj, beL_at n (by omega), beL_at n (by omega)]
    unfold beAt
    rw [show (31 - (30 - 2 * j)) / 2 = j by omega, show (31 - (31 - 2 * j)) / 2 = j by omega, show (31 - (30 - 2 * j)) % 2 = 1 by omega, show (31 - (31 - 2 * j)) % 2 = 0 by omega]
    have := dlt16 n j
    omega
  have := (d16_inj (rdL_lt (beL n)) hn).2 h
  exact of_decide_eq_true this
set_option maxHeartbeats 4000000 in
theorem refBytes (n : Nat) (w : World) : Calls Tryd.prog 53 #[num16 n] w fun e w' => ∃ v, e = .returned v ∧ Bo w' w.heap.size v (beL n) ∧ Upd (fun k => w.heap.size ≤ k) w w' := by
  refine enter (args := [_]) (Γ := [(0, _)]) Tryd.func53 Tryd.ntmps53 rfl (of_decide_eq_true rfl) (.cons rfl .nil) ?_
  repeat' (first | (apply Wl.boxN; exact rfl; exact rfl; intro c hc ho) | (apply Wl.assign; exact rfl; exact rfl) | (apply Wl.nil) | (apply St.seq) | (apply St.block) | (apply St.region) | (apply Gt.next) | (apply Wl.splitP; exact rfl; exact rfl; all_goals (intros; try (exfalso; omega))) | (apply Wl.splitB; exact rfl; exact rfl; all_goals intros) | (apply St.condP; exact rfl; all_goals (intros; try (exfalso; omega))) | (apply St.condB; exact rfl; all_goals intros))

  generalize c = cn at *
  refine St.loop (σ := Nat × World × Value) (fun τ => τ.1 ≤ 32 ∧ Upd (fun k => w.heap.size ≤ k) w τ.2.1 ∧ Bo τ.2.1 w.heap.size τ.2.2 ((beL n).take τ.1) ∧ ∀ k, τ.2.2.ownBlock = some k → k ≠ cn)
    (fun τ => [(1, mp cn), (3, τ.2.2), (4, .int .i64 τ.1)]) (fun τ => Hp τ.2.1 [⟨cn, cellsN .u64 16 (dg D16 n), 37⟩]) (fun τ => 32 - τ.1) (0, w, .slice none 0 0) ⟨by simp, Upd.refl _ _, Bo.nil _ _, fun k hk => by simp [Value.ownBlock] at hk⟩ (by (repeat (first | exact Sub.nil | apply Sub.cons rfl))) (fun _ h => h) ?_
  rintro ⟨i, w0, v⟩ ⟨hi, hu, hb, hne⟩
  simp only at hi hu hb hne ⊢
  by_cases hlt : i < 32
  · have hd : decide ((i : Int) < 32) = true := decide_eq_true (by omega)
    have h8 : 8 * ((31 - i) % 2) ≤ 64 := by omega
    repeat' (first | (apply Wl.indexA; exact rfl; exact rfl; exact rfl; (omega)) | (apply Wl.quoN (n := 2); exact rfl; exact rfl; exact rfl; (decide); exact IntWalk.i64_in _ (by omega)) | (apply Wl.remN (n := 2); exact rfl; exact rfl; exact rfl; (decide)) | (apply Wl.mulNI (m := 8); exact rfl; exact rfl; exact rfl; (omega)) | (apply Wl.subR 31; exact rfl; exact rfl; exact rfl; exact rfl; (omega); (omega)) | (apply Wl.shrV; exact rfl; exact rfl; exact rfl; exact h8) | (apply Wl.convN8; exact rfl; exact rfl) | (apply Wl.loadN; exact rfl; exact rfl; (repeat (first | exact List.Mem.head _ | apply List.Mem.tail)); (omega)) | (apply Wl.move; exact rfl; exact rfl) | (apply Wl.assign; exact rfl; exact rfl) | (apply Wl.lss; exact rfl; exact rfl; exact rfl) | (apply Wl.lit; exact rfl; (repeat (first | exact Parts.nil | apply Parts.cons rfl)); exact rfl; exact rfl; (repeat (first | apply CatP.nil | (apply CatP.one; exact rfl; exact rfl) | (apply CatP.agg; exact rfl) | apply LApp.nil | apply LApp.cons)); intro c hc ho) | (apply Wl.nil) | (apply St.seq) | (apply St.block) | (apply St.region) | (apply St.condT; exact rfl; (first | with_reducible rfl | with_reducible assumption | decide)) | (apply St.skip) | (apply Gt.next) | (apply Wl.splitP; exact rfl; exact rfl; all_goals (intros; try (exfalso; omega))) | (apply Wl.splitB; exact rfl; exact rfl; all_goals intros) | (apply St.condP; exact rfl; all_goals (intros; try (exfalso; omega))) | (apply St.condB; exact rfl; all_goals intros))
    have hlen : ((beL n).take i).length = i := by rw [List.length_take, beL_len]; omega
    apply Wl.appendT
    · exact rfl
    · exact rfl
    · exact rfl
    · exact hc
    · exact rfl
    · exact hb
    · exact fun k hk => ⟨(hne k hk).symm, trivial⟩
    · exact rfl
    · exact rfl
    · decide
    · rw [hlen]; unfold maxLen; omega
    · rw [hlen]; omega
    · exact hu.size
    intro v' w1 ho1 u1 _ hoff1
    have hb1 : Bo w1 w.heap.size v' ((beL n).take (i + 1)) := by
      rw [beL_take n hlt]
      exact Bo.of (l := (beL n).take i) (m := [UInt8.ofNat (beAt n i)]) ho1 rfl (by simp [byteCells, beAt])
    have hu1 : Upd (fun k => w.heap.size ≤ k) w w1 := hu.comp u1 fun k hk hs => hs.elim id fun hs => hs.elim (fun e => hb.base e) fun y => by
      apply Classical.byContradiction
      intro hn
      exact y ⟨fun e => hn (by have e' : cn = k := e; omega), trivial⟩
    repeat' (first | (apply Wl.move; exact rfl; exact rfl) | (apply Wl.assign; exact rfl; exact rfl) | (apply Wl.addI; exact rfl; exact rfl; exact rfl; (constructor <;> omega)) | (apply Wl.nil) | (apply St.region) | (apply Gt.next) | (apply Gt.inNormal) | (apply Wl.splitP; exact rfl; exact rfl; all_goals (intros; try (exfalso; omega))) | (apply Wl.splitB; exact rfl; exact rfl; all_goals intros) | (apply St.condP; exact rfl; all_goals (intros; try (exfalso; omega))) | (apply St.condB; exact rfl; all_goals intros))
    apply Gt.round (i + 1, w1, v')
    rotate_left
    · simp only; omega
    · (repeat (first | exact Sub.nil | apply Sub.cons rfl))
    · exact fun _ h => h
    · exact ⟨by simp only; omega, hu1, hb1, fun k hk e => (hoff1 k hk).1.1 e.symm⟩
  have hi32 : i = 32 := by omega
  subst hi32
  have hd : decide (((32 : Nat) : Int) < 32) = false := by decide
  rw [List.take_of_length_le (by rw [beL_len]; omega)] at hb
  repeat' (first | (apply Wl.move; exact rfl; exact rfl) | (apply Wl.assign; exact rfl; exact rfl) | (apply Wl.lss; exact rfl; exact rfl; exact rfl) | (apply Wl.nil) | (apply St.seq) | (apply St.region) | (apply St.condF; exact rfl; (first | with_reducible rfl | with_reducible assumption | decide)) | (apply St.ret) | (apply St.exit) | (apply Gt.next) | (apply Gt.thenExit) | (apply Gt.inExit) | (apply Gt.out1; exact rfl; exact rfl; intro w' hp) | (apply Wl.splitP; exact rfl; exact rfl; all_goals (intros; try (exfalso; omega))) | (apply Wl.splitB; exact rfl; exact rfl; all_goals intros) | (apply St.condP; exact rfl; all_goals (intros; try (exfalso; omega))) | (apply St.condB; exact rfl; all_goals intros))
  refine ⟨_, rfl, hb.upd hp.upd (fun k hk y => y ⟨(hne k hk).symm, trivial⟩), hu.comp hp.upd fun k _ hs => hs.elim id fun y => ?_⟩
  apply Classical.byContradiction
  intro hn
  exact y ⟨fun e => hn (by have e' : cn = k := e; omega), trivial⟩
end Go.Proofs.YtfaobdakpbpkbaaDoor
end
section
/-
  Multiples of a point of P-256, computed by the kernel: a ladder over naturals whose steps force their values. Conditions: none.
-/
namespace Go.Proofs.YtfaobdakpbpkbaaDoor
attribute [local irreducible] Prim.P256 jin
/-- a value is reckoned before it is used -/
def fr {β : Type} (n : Nat) (k : Nat → β) : β := match n with
  | 0 => k 0
  | m + 1 => k (m + 1)
theorem fr_eq {β : Type} (n : Nat) (k : Nat → β) : fr n k = k n := by cases n <;> rfl
theorem nF_add (a b : Nat) : nF (a + b) = nF a + nF b := Fin.ext (by rw [nF_val, Fin.val_add, nF_val, nF_val, ← Nat.add_mod])
theorem nF_mul (a b : Nat) : nF (a * b) = nF a * nF b := Fin.ext (by rw [nF_val, Fin.val_mul, nF_val, nF_val, ← Nat.mul_mod])
theorem nF_mod (a : Nat) : nF (a % Prim.P256) = nF a := Fin.ext (by rw [nF_val, nF_val, Nat.mod_mod])
theorem nF_p : nF Prim.P256 = 0 := Fin.ext (by rw [nF_val, Nat.mod_self, val_zero])
theorem nF_sub {a b : Nat} (h : b ≤ a) : nF (a - b) = nF a - nF b := by
  have := nF_add (a - b) b
  rw [Nat.sub_add_cancel h] at this
  rw [this]
  generalize nF b = y
  generalize nF (a - b) = x
  grobner
theorem to_val {e : Nat} {x : Ec.F} (h : nF e = x) : e % Prim.P256 = x.val := by rw [← h, nF_val]
section
variable {β : Type}
def dblN (p x y z : Nat) (k : Nat → Nat → Nat → β) : β := bif Nat.beq z 0 then k x y z else
  fr (y * y % p) fun yy => fr (x * yy * 4 % p) fun s => fr (z * z % p) fun zz => fr ((x + (p - zz)) * (x + zz) * 3 % p) fun m => fr ((m * m + (p - (s + s) % p)) % p) fun x' =>
  fr (yy * yy * 8 % p) fun e => fr ((m * (s + (p - x')) + (p - e)) % p) fun y' => fr (2 * (y * z) % p) fun z' => k x' y' z'
def addN (p x y z xa ya : Nat) (k : Nat → Nat → Nat → β) : β := bif Nat.beq z 0 then k xa ya 1 else
  fr (z * z % p) fun az => fr ((xa * az + (p - x)) % p) fun h => fr ((ya * (az * z) + (p - y)) % p) fun r =>
  bif Nat.beq h 0 then (bif Nat.beq r 0 then dblN p x y z k else k 1 1 0) else
  fr (h * h % p) fun hh => fr (hh * h % p) fun hhh => fr (x * hh % p) fun w => fr ((r * r + (p - hhh) + (p - (w + w) % p)) % p) fun x' =>
  fr ((r * (w + (p - x')) + (p - y * hhh % p)) % p) fun y' => fr (h * z % p) fun z' => k x' y' z'
def lad (p n xa ya : Nat) : Nat → Nat → Nat → Nat → (Nat → Nat → Nat → β) → β
  | 0, x, y, z, k => k x y z
  | i + 1, x, y, z, k => dblN p x y z fun x y z => bif Nat.beq (n / 2 ^ i % 2) 1 then addN p x y z xa ya fun x y z => lad p n xa ya i x y z k else lad p n xa ya i x y z k
abbrev app3 (k : Nat → Nat → Nat → β) (r : Ec.F × Ec.F × Ec.F) : β := k r.1.val r.2.1.val r.2.2.val
theorem beqZ (z : Ec.F) : Nat.beq z.val 0 = decide (z = 0) := by
  by_cases h : z = 0
  · rw [decide_eq_true h, h, val_zero]; rfl
  · rw [decide_eq_false h]
    cases e : Nat.beq z.val 0
    · rfl
    · exact absurd (Fin.ext (by rw [val_zero]; exact Nat.eq_of_beq_eq_true e)) h
theorem dblN_eq (x y z : Ec.F) (k : Nat → Nat → Nat → β) : dblN Prim.P256 x.val y.val z.val k = app3 k (Ec.jdbl (x, y, z)) := by
  unfold dblN
  rw [beqZ]
  by_cases hz : z = 0
  · rw [decide_eq_true hz, jdbl_zero hz]; rfl
  · rw [decide_eq_false hz, jdbl_nz hz]
    simp only [cond_false, fr_eq]
    have l : ∀ u : Ec.F, u.val ≤ Prim.P256 := fun u => Nat.le_of_lt u.isLt
    have l2 : ∀ e, e % Prim.P256 ≤ Prim.P256 := fun e => Nat.le_of_lt (Nat.mod_lt _ (by have := p3; omega))
    have h1 := to_val (e := y.val * y.val) (x := y * y) (by rw [nF_mul, nF_of])
    rw [h1]
    have h2 := to_val (e := x.val * (y * y).val * 4) (x := x * (y * y) + x * (y * y) + (x * (y * y) + x * (y * y))) (by rw [nF_mul, nF_mul, nF_of, nF_of, show nF 4 = 4 from rfl]; grobner)
    rw [h2]
    generalize x * (y * y) + x * (y * y) + (x * (y * y) + x * (y * y)) = s
    have h3 := to_val (e := z.val * z.val) (x := z * z) (by rw [nF_mul, nF_of])
    rw [h3]
    have h4 := to_val (e := (x.val + (Prim.P256 - (z * z).val)) * (x.val + (z * z).val) * 3) (x := (x - z * z) * (x + z * z) + (x - z * z) * (x + z * z) + (x - z * z) * (x + z * z)) (by rw [nF_mul, nF_mul, nF_add, nF_add, nF_sub (l _), nF_of, nF_of, nF_p, show nF 3 = 3 from rfl]; grobner)
    rw [h4]
    generalize (x - z * z) * (x + z * z) + (x - z * z) * (x + z * z) + (x - z * z) * (x + z * z) = m
    have h5 := to_val (e := m.val * m.val + (Prim.P256 - (s.val + s.val) % Prim.P256)) (x := m * m - (s + s)) (by rw [nF_add, nF_mul, nF_sub (l2 _), nF_mod, nF_add, nF_of, nF_of, nF_p]; grobner)
    rw [h5]
    generalize m * m - (s + s) = x'
    have h6 := to_val (e := (y * y).val * (y * y).val * 8) (x := y * y * (y * y) + y * y * (y * y) + (y * y * (y * y) + y * y * (y * y)) + (y * y * (y * y) + y * y * (y * y) + (y * y * (y * y) + y * y * (y * y)))) (by rw [nF_mul, nF_mul, nF_of, show nF 8 = 8 from rfl]; grobner)
    rw [h6]
    generalize y * y * (y * y) + y * y * (y * y) + (y * y * (y * y) + y * y * (y * y)) + (y * y * (y * y) + y * y * (y * y) + (y * y * (y * y) + y * y * (y * y))) = e
    have h7 := to_val (e := m.val * (s.val + (Prim.P256 - x'.val)) + (Prim.P256 - e.val)) (x := m * (s - x') - e) (by rw [nF_add, nF_mul, nF_add, nF_sub (l _), nF_sub (l _), nF_of, nF_of, nF_of, nF_of, nF_p]; grobner)
    rw [h7]
    have h8 := to_val (e := 2 * (y.val * z.val)) (x := y * z + y * z) (by rw [nF_mul, nF_mul, nF_of, nF_of, show nF 2 = 2 from rfl]; grobner)
    rw [h8]
theorem addN_eq (x y z xa ya : Ec.F) (k : Nat → Nat → Nat → β) : addN Prim.P256 x.val y.val z.val xa.val ya.val k = app3 k (Ec.jadd (x, y, z) (xa, ya, 1)) := by
  have h10 : ¬ (1 : Ec.F) = 0 := fun e => Ec.two_ne (by grobner)
  unfold addN
  rw [beqZ]
  by_cases hz : z = 0
  · rw [decide_eq_true hz]
    unfold Ec.jadd
    rw [if_pos hz]
    show k _ _ _ = k _ _ _
    rw [val_one]
  · rw [decide_eq_false hz]
    unfold Ec.jadd
    rw [if_neg hz, if_neg h10]
    simp only [cond_false, fr_eq]
    have l : ∀ u : Ec.F, u.val ≤ Prim.P256 := fun u => Nat.le_of_lt u.isLt
    have l2 : ∀ e, e % Prim.P256 ≤ Prim.P256 := fun e => Nat.le_of_lt (Nat.mod_lt _ (by have := p3; omega))
    have h1 := to_val (e := z.val * z.val) (x := z * z) (by rw [nF_mul, nF_of])
    rw [h1]
    have h2 := to_val (e := xa.val * (z * z).val + (Prim.P256 - x.val)) (x := xa * (z * z) - x * (1 * 1)) (by rw [nF_add, nF_mul, nF_sub (l _), nF_of, nF_of, nF_of, nF_p]; grobner)
    rw [h2]
    have h3 := to_val (e := ya.val * ((z * z).val * z.val) + (Prim.P256 - y.val)) (x := ya * (z * z * z) - y * (1 * 1 * 1)) (by rw [nF_add, nF_mul, nF_mul, nF_sub (l _), nF_of, nF_of, nF_of, nF_of, nF_p]; grobner)
    rw [h3]
    generalize xa * (z * z) - x * (1 * 1) = h
    generalize ya * (z * z * z) - y * (1 * 1 * 1) = r
    rw [beqZ, beqZ]
    by_cases hh : h = 0
    · rw [decide_eq_true hh, if_pos hh]
      simp only [cond_true]
      by_cases hr : r = 0
      · rw [decide_eq_true hr, if_pos hr]
        exact dblN_eq x y z k
      · rw [decide_eq_false hr, if_neg hr]
        show k _ _ _ = k _ _ _
        rw [val_one, val_zero]
    · rw [decide_eq_false hh, if_neg hh]
      simp only [cond_false]
      have h4 := to_val (e := h.val * h.val) (x := h * h) (by rw [nF_mul, nF_of])
      rw [h4]
      have h5 := to_val (e := (h * h).val * h.val) (x := h * h * h) (by rw [nF_mul, nF_of, nF_of])
      rw [h5]
      have h6 := to_val (e := x.val * (h * h).val) (x := x * (1 * 1) * (h * h)) (by rw [nF_mul, nF_of, nF_of]; grobner)
      rw [h6]
      generalize x * (1 * 1) * (h * h) = w
      have h7 := to_val (e := r.val * r.val + (Prim.P256 - (h * h * h).val) + (Prim.P256 - (w.val + w.val) % Prim.P256)) (x := r * r - h * h * h - (w + w)) (by rw [nF_add, nF_add, nF_mul, nF_sub (l _), nF_sub (l2 _), nF_mod, nF_add, nF_of, nF_of, nF_of, nF_p]; grobner)
      rw [h7]
      generalize r * r - h * h * h - (w + w) = x'
      have h8 := to_val (e := r.val * (w.val + (Prim.P256 - x'.val)) + (Prim.P256 - y.val * (h * h * h).val % Prim.P256)) (x := r * (w - x') - y * (1 * 1 * 1) * (h * h * h)) (by rw [nF_add, nF_mul, nF_add, nF_sub (l _), nF_sub (l2 _), nF_mod, nF_mul, nF_of, nF_of, nF_of, nF_of, nF_of, nF_p]; grobner)
      rw [h8]
      have h9 := to_val (e := h.val * z.val) (x := h * (z * 1)) (by rw [nF_mul, nF_of, nF_of]; grobner)
      rw [h9]
def ladF (n : Nat) (xa ya : Ec.F) : Nat → Ec.F × Ec.F × Ec.F → Ec.F × Ec.F × Ec.F
  | 0, r => r
  | i + 1, r => ladF n xa ya i (if n / 2 ^ i % 2 = 1 then Ec.jadd (Ec.jdbl r) (xa, ya, 1) else Ec.jdbl r)
theorem lad_eq (n : Nat) (xa ya : Ec.F) (k : Nat → Nat → Nat → β) : ∀ (i : Nat) (r : Ec.F × Ec.F × Ec.F), lad Prim.P256 n xa.val ya.val i r.1.val r.2.1.val r.2.2.val k = app3 k (ladF n xa ya i r)
  | 0, r => rfl
  | i + 1, (x, y, z) => by
    rw [lad, dblN_eq, ladF]
    generalize Ec.jdbl (x, y, z) = d
    obtain ⟨x', y', z'⟩ := d
    simp only [app3]
    by_cases hb : n / 2 ^ i % 2 = 1
    · rw [if_pos hb, hb]
      simp only [Nat.beq_refl, cond_true]
      rw [addN_eq]
      exact lad_eq n xa ya k i _
    · have : Nat.beq (n / 2 ^ i % 2) 1 = false := by
        cases e : Nat.beq (n / 2 ^ i % 2) 1
        · rfl
        · exact absurd (Nat.eq_of_beq_eq_true e) hb
      rw [if_neg hb, this]
      simp only [cond_false]
      exact lad_eq n xa ya k i (x', y', z')
end
theorem ladF_pt {n : Nat} {xa ya : Ec.F} (hA : OnP (some (xa, ya))) : ∀ (i : Nat) (r : Ec.F × Ec.F × Ec.F), Ec.jpt r = sm3 (n / 2 ^ i) (some (xa, ya)) → Ec.jpt (ladF n xa ya i r) = sm3 n (some (xa, ya))
  | 0, r, h => by rw [ladF, h, Nat.pow_zero, Nat.div_one]
  | i + 1, r, h => by
    rw [ladF]
    have hd : Ec.jpt (Ec.jdbl r) = sm3 (2 * (n / 2 ^ (i + 1))) (some (xa, ya)) := by
      rw [Ec.jdbl_pt, h]
      exact (Ec.sm_two disc3 hA _).symm
    by_cases hb : n / 2 ^ i % 2 = 1
    · rw [if_pos hb]
      refine ladF_pt hA i _ ?_
      rw [Ec.jadd_pt, hd, show Ec.jpt (xa, ya, 1) = some (xa, ya) from jin_pt (some (xa, ya)) ▸ (by rw [show jin (some (xa, ya)) = (xa, ya, 1) from by unfold jin; rfl]), ← step1 (N := 0) hb]
      rfl
    · rw [if_neg hb]
      refine ladF_pt hA i _ ?_
      rw [hd, step0 (N := 0) (by omega)]
theorem lad_pt {n : Nat} {xa ya : Ec.F} (hn : n < W256) (hA : OnP (some (xa, ya))) : Ec.jpt (ladF n xa ya 256 (1, 1, 0)) = sm3 n (some (xa, ya)) := by
  refine ladF_pt hA 256 _ ?_
  rw [Nat.div_eq_of_lt (by rw [show (2 : Nat) ^ 256 = W256 by decide]; exact hn)]
  exact Ec.jac_zero _ _
/-- a multiple is nothing -/
theorem sm_none_of {n : Nat} {xa ya : Ec.F} (hn : n < W256) (hA : OnP (some (xa, ya))) (h : lad Prim.P256 n xa.val ya.val 256 1 1 0 (fun _ _ z => Nat.beq z 0) = true) : sm3 n (some (xa, ya)) = none := by
  have := lad_eq n xa ya (fun _ _ z => Nat.beq z 0) 256 (1, 1, 0)
  simp only [val_one, val_zero] at this
  rw [this] at h
  rw [← lad_pt hn hA]
  generalize ladF n xa ya 256 (1, 1, 0) = r at *
  obtain ⟨x, y, z⟩ := r
  simp only [app3, beqZ, decide_eq_true_eq] at h
  subst h
  exact Ec.jac_zero _ _
/-- a multiple is this point -/
theorem sm_some_of {n X Y : Nat} {xa ya : Ec.F} (hn : n < W256) (hA : OnP (some (xa, ya))) (h : lad Prim.P256 n xa.val ya.val 256 1 1 0 (fun x y z => !(Nat.beq z 0) && (Nat.beq (X * (z * z) % Prim.P256) x && Nat.beq (Y * (z * z * z) % Prim.P256) y)) = true) : sm3 n (some (xa, ya)) = some (nF X, nF Y) := by
  have := lad_eq n xa ya (fun x y z => !(Nat.beq z 0) && (Nat.beq (X * (z * z) % Prim.P256) x && Nat.beq (Y * (z * z * z) % Prim.P256) y)) 256 (1, 1, 0)
  simp only [val_one, val_zero] at this
  rw [this] at h
  rw [← lad_pt hn hA]
  generalize ladF n xa ya 256 (1, 1, 0) = r at *
  obtain ⟨x, y, z⟩ := r
  simp only [app3, beqZ, Bool.and_eq_true, Bool.not_eq_true', decide_eq_false_iff_not] at h
  obtain ⟨hz, hx, hy⟩ := h
  have ex : x = nF X * (z * z) := Fin.ext (by rw [← Nat.eq_of_beq_eq_true hx]; exact to_val (by rw [nF_mul, nF_mul, nF_of]))
  have ey : y = nF Y * (z * z * z) := Fin.ext (by rw [← Nat.eq_of_beq_eq_true hy]; exact to_val (by rw [nF_mul, nF_mul, nF_mul, nF_of]))
  subst ex ey
  exact Ec.jac_of hz
end Go.Proofs.YtfaobdakpbpkbaaDoor
end
section
/-
  The order times the base of P-256 is nothing (computed by the kernel); what follows from it for multiples. Conditions: none.
-/
namespace Go.Proofs.YtfaobdakpbpkbaaDoor
theorem nW : Prim.N256 < W256 := by decide +kernel
theorem lad_N : lad Prim.P256 Prim.N256 curG.1.val curG.2.val 256 1 1 0 (fun _ _ z => Nat.beq z 0) = true := by decide +kernel
theorem ordG : sm3 Prim.N256 (some curG) = none := sm_none_of nW onG lad_N
theorem ord_sm {A : Ec.Pt} (n : Nat) (h : A = sm3 n (some curG)) : sm3 Prim.N256 A = none := by
  have h1 := Ec.sm_mul disc3 onG n Prim.N256
  have h2 := Ec.sm_mul disc3 onG Prim.N256 n
  rw [Nat.mul_comm] at h2
  rw [h]
  unfold sm3 at *
  rw [← h1, h2]
  have := ordG
  unfold sm3 at this
  rw [this]
  exact Ec.sm_none n
theorem n_odd : Prim.N256 % 2 = 1 := by decide +kernel
/-- no multiple of the base is its own opposite -/
theorem no_half {A : Ec.Pt} (hA : OnP A) (n : Nat) (h : A = sm3 n (some curG)) (h2 : add3 A A = none) : A = none := by
  have h1 := ord_sm n h
  have e : Prim.N256 = 2 * (Prim.N256 / 2) + 1 := by have := n_odd; omega
  rw [e] at h1
  have h3 : sm3 (2 * (Prim.N256 / 2)) A = none := by
    unfold sm3
    rw [Nat.mul_comm, Ec.sm_mul disc3 hA 2 (Prim.N256 / 2)]
    have : Ec.sm Ec.A3 2 A = none := by
      rw [show (2 : Nat) = 2 * 1 from rfl, Ec.sm_two disc3 hA 1, Ec.sm_one]
      exact h2
    rw [this]
    exact Ec.sm_none _
  rw [sm_succ, h3] at h1
  exact h1
end Go.Proofs.YtfaobdakpbpkbaaDoor
end
section
/-
  The document's Base, Times, Plain; porticolaw04.pt, like. Conditions: points are of the curve, numbers are below 2^256.
-/
namespace Go.Pt
open Go.RowKit
theorem results_cct {fn : Func} {p q u : Tmp} {ta tb : TypeId} (h : fn.results = #[.cell p ta, .cell q tb, .tmp u]) (tmps : Array Value) (P : Program) (w : World) :
    (results fn tmps).run P w =
      ((asAddr (tmps.getD p undef)).run P w).andThen fun a w₁ => ((loadVar ta a).run P w₁).andThen fun v w₂ => ((asAddr (tmps.getD q undef)).run P w₂).andThen fun a' w₃ => ((loadVar tb a').run P w₃).andThen fun v' w₄ => .ok (.tuple #[v, v', tmps.getD u undef]) w₄ := by
  simp only [results, h]
  simp [Sem.run_bind, Result.andThen]
theorem Gt.outCCT {P : Program} {N : Nat} {Γ : Env} {w0 : World} {H : List Blk} {fn : Func} {R : Ending → World → Prop} {t s u ta tb n1 n2 c c' bt bt' : Nat} {v : Value} {xs ys : List Value} (hr : fn.results = #[.cell t ta, .cell s tb, .tmp u]) (hT : TyA P ta n1) (hT' : TyA P tb n2)
    (ht : look Γ t = some (.pointer (some ⟨c, 0, none⟩))) (hs : look Γ s = some (.pointer (some ⟨c', 0, none⟩))) (hu : look Γ u = some v) (hm : (⟨c, xs, bt⟩ : Blk) ∈ H) (hm' : (⟨c', ys, bt'⟩ : Blk) ∈ H) (hn : xs.length = n1) (hn' : ys.length = n2)
    (h : ∀ w, Hp w0 H w → R (.returned (.tuple #[.agg xs.toArray, .agg ys.toArray, v])) w) : Gt N .ret Γ (Hp w0 H) (bodyPost P fn R) := Gt.intro fun a w ha hw => by
  refine ⟨ha.defers, _, ?_, h w hw⟩
  have h1 := run_loadA (P := P) (t := ta) (w := w) (a := ⟨c, 0, none⟩) hn (fun j v hj => by rw [addLit, Nat.zero_add]; exact hw.cell hm hj)
  have h2 := run_loadA (P := P) (t := tb) (w := w) (a := ⟨c', 0, none⟩) hn' (fun j v hj => by rw [addLit, Nat.zero_add]; exact hw.cell hm' hj)
  rw [results_cct hr]
  simp [ha.get _ _ ht, ha.get _ _ hs, ha.get _ _ hu, asAddr, h1, h2]
end Go.Pt
namespace Go.Proofs.YtfaobdakpbpkbaaDoor
open Go.RowKit Go.Pt
attribute [local irreducible] Prim.P256
theorem gx8R : [Value.int .u32 3633889942, .int .u32 4104206661, .int .u32 770388896, .int .u32 1996717441, .int .u32 1671708914, .int .u32 4173129445, .int .u32 3777774151, .int .u32 1796723186] = cellsN .u32 8 (dg W32 curG.1.val) := gx8
theorem gy8R : [Value.int .u32 935285237, .int .u32 3417718888, .int .u32 1798397646, .int .u32 734933847, .int .u32 2081398294, .int .u32 2397563722, .int .u32 4263149467, .int .u32 1340293858] = cellsN .u32 8 (dg W32 curG.2.val) := gy8
/-- the document's form of a point -/
def ptR : Ec.Pt → Ec.F × Ec.F × Ec.F
  | none => (0, 1, 0)
  | some (x, y) => (x, y, 1)
theorem ptR_pt (A : Ec.Pt) : Ec.ppt (ptR A) = A := by
  match A with
  | none => exact Ec.prj_zero _ _
  | some (x, y) =>
    have h1 : (1 : Ec.F) ≠ 0 := fun e => Ec.two_ne (by grobner)
    have := Ec.prj_of (x := x) (y := y) h1
    unfold Ec.ppt ptR
    simp only
    rw [show x * 1 = x by grobner, show y * 1 = y by grobner] at this
    exact this
theorem rpR_none : rpV (ptR none) = .agg (rpC 0 1 0).toArray := by
  unfold rpV rpF ptR
  simp only
  rw [val_one, val_zero]
theorem rpR_some (x y : Ec.F) : rpV (ptR (some (x, y))) = .agg (rpC x.val y.val 1).toArray := by
  unfold rpV rpF ptR
  simp only
  rw [val_one]
theorem ref4Base (w : World) : Calls Tryd.prog 43 #[] w fun e w' => e = .returned (rpV (ptR (some curG))) ∧ Hp w [] w' := by
  refine enter (args := []) (Γ := []) Tryd.func43 Tryd.ntmps43 rfl (of_decide_eq_true rfl) .nil ?_
  repeat' (first | (apply Wl.buildN; exact rfl; (repeat (first | exact Parts.nil | apply Parts.cons rfl)); (repeat (first | apply Fills.nil | (apply Fills.one; exact rfl; exact rfl; (repeat (first | apply LSet.z | apply LSet.s))) | (apply Fills.agg; exact rfl; exact rfl; (repeat (first | apply LPut.s | apply LPut.z | apply LOver.nil | apply LOver.cons))))); (first | exact gx8R | exact gy8R)) | (apply Wl.callQ (f := 71); exact rfl; (repeat (first | exact Evs.nil | apply Evs.cons rfl)); (intro wq hq; refine (refOf _ wq).mono ?_; rintro e wr ⟨rfl, hr⟩; exact ⟨rfl, hq.keep hr⟩)) | (apply Wl.storeAll; exact rfl; exact rfl; (repeat (first | apply HSet.here | apply HSet.there)); (first | exact rpC_len _ _ _); (first | exact rfl | exact rpC_len _ _ _); (first | exact rpC_one _ _ _)) | (apply Wl.buildRp; exact rfl; (focus ((repeat (first | exact Parts.nil | apply Parts.cons rfl)); done))) | (apply Gt.outC'; exact rfl; infer_instance; exact rfl; (repeat (first | exact List.Mem.head _ | apply List.Mem.tail)); (first | exact LSub.whole (rpC_len _ _ _)); intro w' hp) | (apply Wl.loadW; exact rfl; exact rfl; (repeat (first | exact List.Mem.head _ | apply List.Mem.tail)); exact rfl) | (apply Wl.storeW; exact rfl; exact rfl; (repeat (first | apply HSet.here | apply HSet.there)); exact rfl; (first | exact cellsN_len _ _ _ | exact rfl)) | (apply Wl.buildN; exact rfl; (repeat (first | exact Parts.nil | apply Parts.cons rfl)); (repeat (first | apply Fills.nil | (apply Fills.one; exact rfl; exact rfl; (repeat (first | apply LSet.z | apply LSet.s))) | (apply Fills.agg; exact rfl; exact rfl; (repeat (first | apply LPut.s | apply LPut.z | apply LOver.nil | apply LOver.cons))))); (first | exact one8 | exact zero8 | exact two8 | exact one16)) | (apply Wl.allocN; exact rfl; (first | exact z8 | exact z16 | exact z17 | exact z33 | exact z10); intro c hc ho) | (apply Wl.alloc; exact rfl; intro c hc ho) | (apply Wl.nil) | (apply St.seq) | (apply St.region) | (apply St.ret) | (apply Gt.next) | (apply Wl.splitP; exact rfl; exact rfl; all_goals (intros; try (exfalso; omega))) | (apply Wl.splitB; exact rfl; exact rfl; all_goals intros) | (apply St.condP; exact rfl; all_goals (intros; try (exfalso; omega))) | (apply St.condB; exact rfl; all_goals intros))
  exact ⟨by rw [show some curG = some (curG.1, curG.2) from rfl, rpR_some], hp.drop (by simp; omega)⟩
/-! ### Times -/
def tmS (n : Nat) (p : Ec.F × Ec.F × Ec.F) : Nat → (Ec.F × Ec.F × Ec.F) × (Ec.F × Ec.F × Ec.F)
  | 0 => ((0, 1, 0), p)
  | i + 1 => (if n / 2 ^ i % 2 = 1 then Ec.pplus (tmS n p i).1 (tmS n p i).2 else (tmS n p i).1, Ec.pdbl (tmS n p i).2)
def ptimes (n : Nat) (p : Ec.F × Ec.F × Ec.F) : Ec.F × Ec.F × Ec.F := (tmS n p 256).1
theorem tmS_spec {n : Nat} {p : Ec.F × Ec.F × Ec.F} (hp : OnP (Ec.ppt p)) : ∀ i, Ec.ppt (tmS n p i).1 = sm3 (n % 2 ^ i) (Ec.ppt p) ∧ Ec.ppt (tmS n p i).2 = sm3 (2 ^ i) (Ec.ppt p)
  | 0 => by
    refine ⟨?_, ?_⟩
    · rw [tmS, Nat.pow_zero, Nat.mod_one]
      exact Ec.prj_zero _ _
    · rw [tmS, Nat.pow_zero]
      exact (Ec.sm_one _).symm
  | i + 1 => by
    obtain ⟨h1, h2⟩ := tmS_spec hp i
    have hm : n % 2 ^ (i + 1) = n % 2 ^ i + 2 ^ i * (n / 2 ^ i % 2) := by rw [Nat.pow_succ, Nat.mod_mul]
    refine ⟨?_, ?_⟩
    · rw [tmS, hm]
      simp only
      by_cases hb : n / 2 ^ i % 2 = 1
      · rw [if_pos hb, Ec.pplus_pt, h1, h2, hb, Nat.mul_one]
        exact (Ec.sm_add disc3 hp _ _).symm
      · have hb0 : n / 2 ^ i % 2 = 0 := by omega
        rw [if_neg hb, hb0, Nat.mul_zero, Nat.add_zero, h1]
    · rw [tmS]
      simp only
      rw [Ec.pdbl_pt, h2, Nat.pow_succ, Nat.mul_comm]
      exact (Ec.sm_two disc3 hp _).symm
theorem ptimes_pt {n : Nat} {p : Ec.F × Ec.F × Ec.F} (hn : n < W256) (hp : OnP (Ec.ppt p)) : Ec.ppt (ptimes n p) = sm3 n (Ec.ppt p) := by
  unfold ptimes
  rw [(tmS_spec hp 256).1, show (2 : Nat) ^ 256 = W256 by decide, Nat.mod_eq_of_lt hn]
set_option maxHeartbeats 8000000 in
theorem refTimes (b n : Nat) (p : Ec.F × Ec.F × Ec.F) (w : World) (hF : FldV w b Prim.P256) : Calls Tryd.prog 41 #[mp b, num16 n, rpV p] w fun e w' => e = .returned (rpV (ptimes n p)) ∧ Hp w [] w' := by
  have hb := hF.blk
  refine enter (args := [_, _, _]) (Γ := [(0, _), (1, _), (2, _)]) Tryd.func41 Tryd.ntmps41 rfl (of_decide_eq_true rfl) (.cons rfl (.cons rfl (.cons rfl .nil))) ?_
  repeat' (first | (apply Wl.storeAll; exact rfl; exact rfl; (repeat (first | apply HSet.here | apply HSet.there)); (first | exact rpC_len _ _ _); (first | exact rfl | exact rpC_len _ _ _); (first | exact rpC_one _ _ _)) | (apply Wl.buildRq; exact rfl; (focus ((repeat (first | exact Parts.nil | apply Parts.cons rfl)); done))) | (apply Wl.boxN; exact rfl; exact rfl; intro c hc ho) | (apply Wl.buildN; exact rfl; (repeat (first | exact Parts.nil | apply Parts.cons rfl)); (repeat (first | apply Fills.nil | (apply Fills.one; exact rfl; exact rfl; (repeat (first | apply LSet.z | apply LSet.s))) | (apply Fills.agg; exact rfl; exact rfl; (repeat (first | apply LPut.s | apply LPut.z | apply LOver.nil | apply LOver.cons))))); (first | exact one8 | exact zero8 | exact two8 | exact one16)) | (apply Wl.assign; exact rfl; exact rfl) | (apply Wl.boxA; exact rfl; exact rfl; intro c hc ho) | (apply Wl.alloc; exact rfl; intro c hc ho) | (apply Wl.nil) | (apply St.seq) | (apply St.block) | (apply St.region) | (apply Gt.next) | (apply Wl.splitP; exact rfl; exact rfl; all_goals (intros; try (exfalso; omega))) | (apply Wl.splitB; exact rfl; exact rfl; all_goals intros) | (apply St.condP; exact rfl; all_goals (intros; try (exfalso; omega))) | (apply St.condB; exact rfl; all_goals intros))
  rename_i c4 h4 o4 c5 h5 o5 c6 h6 o6
  generalize c = c7 at *
  refine St.loop (σ := Nat) (fun i => i ≤ 256) (fun i => [(0, mp b), (4, mp c4), (5, mp c5), (6, mp c6), (7, mp c7), (8, .int .i64 i)])
    (fun i => Hp w [⟨c7, rpF (tmS n p i).1, 39⟩, ⟨c6, [Value.int .u64 0, Value.int .u64 0, Value.int .u64 0, Value.int .u64 0, Value.int .u64 0, Value.int .u64 0, Value.int .u64 0, Value.int .u64 0, Value.int .u64 0, Value.int .u64 0, Value.int .u64 0, Value.int .u64 0, Value.int .u64 0, Value.int .u64 0, Value.int .u64 0, Value.int .u64 0, Value.int .u64 0, Value.int .u64 0, Value.int .u64 0, Value.int .u64 0, Value.int .u64 0, Value.int .u64 0, Value.int .u64 0, Value.int .u64 0, Value.int .u64 0, Value.int .u64 0, Value.int .u64 0, Value.int .u64 0, Value.int .u64 0, Value.int .u64 0, Value.int .u64 0, Value.int .u64 0, Value.int .u64 0, Value.int .u64 0, Value.int .u64 0, Value.int .u64 0, Value.int .u64 0, Value.int .u64 0, Value.int .u64 0, Value.int .u64 0, Value.int .u64 0, Value.int .u64 0, Value.int .u64 0, Value.int .u64 0, Value.int .u64 0, Value.int .u64 0, Value.int .u64 0, Value.int .u64 0], 39⟩, ⟨c5, rpF (tmS n p i).2, 39⟩, ⟨c4, cellsN .u64 16 (dg D16 n), 37⟩])
    (fun i => 256 - i) 0 (by simp) (by (repeat (first | exact Sub.nil | apply Sub.cons rfl))) (fun _ h => by
      show Hp w [⟨c7, rpC (0 : Ec.F).val (1 : Ec.F).val (0 : Ec.F).val, _⟩, _, _, _] _
      rw [val_one, val_zero]
      exact h) ?_
  intro i hi256
  by_cases hil : i < 256
  · have hbit := bit_dg16 n i
    have hdl := dlt16 n (i / 16)
    have h16 : i / 16 < 16 := by omega
    have hb2 := Nat.mod_lt (n / 2 ^ i) (show 0 < 2 by decide)
    have hS : tmS n p (i + 1) = (if n / 2 ^ i % 2 = 1 then Ec.pplus (tmS n p i).1 (tmS n p i).2 else (tmS n p i).1, Ec.pdbl (tmS n p i).2) := rfl
    have hc : decide ((i : Int) < 256) = true := decide_eq_true (by omega)
    repeat' (first | (apply Wl.indexA; exact rfl; exact rfl; exact rfl; (omega)) | (apply Wl.loadN; exact rfl; exact rfl; (repeat (first | exact List.Mem.head _ | apply List.Mem.tail)); (omega)) | (apply Wl.remN (n := 2); exact rfl; exact rfl; exact rfl; (decide)) | (apply Wl.quoN (n := 16); exact rfl; exact rfl; exact rfl; (decide); (first | exact IntWalk.u64_in _ (by omega) | exact IntWalk.i64_in _ (by omega))) | (apply Wl.remN (n := 16); exact rfl; exact rfl; exact rfl; (decide)) | (apply Wl.shrV; exact rfl; exact rfl; exact rfl; (first | (show _ ≤ 32; omega) | (show _ ≤ 64; omega))) | (apply Wl.move; exact rfl; exact rfl) | (apply Wl.eql; exact rfl; exact rfl; exact rfl) | (apply Wl.lss; exact rfl; exact rfl; exact rfl) | (apply Wl.nil) | (apply St.seq) | (apply St.block) | (apply St.region) | (apply St.condT; exact rfl; (first | with_reducible rfl | with_reducible assumption | decide)) | (apply St.skip) | (apply Gt.next))
    rw [hbit]
    by_cases hbi : n / 2 ^ i % 2 = 1
    · rw [if_pos hbi] at hS
      rw [hbi]
      repeat' (first | (apply Wl.loadAH; exact rfl; exact rfl; (repeat (first | exact List.Mem.head _ | apply List.Mem.tail)); (first | exact rpC_x _ _ _ | exact rpC_y _ _ _ | exact rpC_z _ _ _ | exact LSub.whole (rpC_len _ _ _))) | (apply Wl.storeAll; exact rfl; exact rfl; (repeat (first | apply HSet.here | apply HSet.there)); (first | exact rpC_len _ _ _); (first | exact rfl | exact rpC_len _ _ _); (first | exact rpC_one _ _ _)) | (apply Wl.callQ (f := 40); exact rfl; (repeat (first | exact Evs.nil | apply Evs.cons rfl)); (intro wq hq; refine (refPlus _ _ _ wq (hF.hp hq (by (repeat (first | exact trivial | exact hX.off (by omega) | refine ⟨by first | assumption | omega | (simp only; omega), ?_⟩))))).mono ?_; rintro e wr ⟨rfl, hr⟩; exact ⟨rfl, hq.keep hr⟩)) | (apply Wl.callQ (f := 74); exact rfl; (repeat (first | exact Evs.nil | apply Evs.cons rfl)); (intro wq hq; refine (refDbl _ _ wq (hF.hp hq (by (repeat (first | exact trivial | exact hX.off (by omega) | refine ⟨by first | assumption | omega | (simp only; omega), ?_⟩))))).mono ?_; rintro e wr ⟨rfl, hr⟩; exact ⟨rfl, hq.keep hr⟩)) | (apply Wl.move; exact rfl; exact rfl) | (apply Wl.assign; exact rfl; exact rfl) | (apply Wl.addI; exact rfl; exact rfl; exact rfl; (constructor <;> omega)) | (apply Wl.nil) | (apply St.region) | (apply St.condT; exact rfl; (first | with_reducible rfl | with_reducible assumption | decide)) | (apply Gt.next) | (apply Gt.inNormal) | (apply Wl.splitP; exact rfl; exact rfl; all_goals (intros; try (exfalso; omega))) | (apply Wl.splitB; exact rfl; exact rfl; all_goals intros) | (apply St.condP; exact rfl; all_goals (intros; try (exfalso; omega))) | (apply St.condB; exact rfl; all_goals intros))
      apply Gt.round (i + 1)
      rotate_left
      · omega
      · (repeat (first | exact Sub.nil | apply Sub.cons rfl))
      · exact fun _ h => by simp only [hS]; exact h
      · omega
    · have hb0 : n / 2 ^ i % 2 = 0 := by omega
      rw [if_neg hbi] at hS
      rw [hb0]
      repeat' (first | (apply Wl.loadAH; exact rfl; exact rfl; (repeat (first | exact List.Mem.head _ | apply List.Mem.tail)); (first | exact rpC_x _ _ _ | exact rpC_y _ _ _ | exact rpC_z _ _ _ | exact LSub.whole (rpC_len _ _ _))) | (apply Wl.storeAll; exact rfl; exact rfl; (repeat (first | apply HSet.here | apply HSet.there)); (first | exact rpC_len _ _ _); (first | exact rfl | exact rpC_len _ _ _); (first | exact rpC_one _ _ _)) | (apply Wl.callQ (f := 74); exact rfl; (repeat (first | exact Evs.nil | apply Evs.cons rfl)); (intro wq hq; refine (refDbl _ _ wq (hF.hp hq (by (repeat (first | exact trivial | exact hX.off (by omega) | refine ⟨by first | assumption | omega | (simp only; omega), ?_⟩))))).mono ?_; rintro e wr ⟨rfl, hr⟩; exact ⟨rfl, hq.keep hr⟩)) | (apply Wl.move; exact rfl; exact rfl) | (apply Wl.assign; exact rfl; exact rfl) | (apply Wl.addI; exact rfl; exact rfl; exact rfl; (constructor <;> omega)) | (apply Wl.nil) | (apply St.region) | (apply St.condF; exact rfl; (first | with_reducible rfl | with_reducible assumption | decide)) | (apply St.skip) | (apply Gt.next) | (apply Gt.inNormal) | (apply Wl.splitP; exact rfl; exact rfl; all_goals (intros; try (exfalso; omega))) | (apply Wl.splitB; exact rfl; exact rfl; all_goals intros) | (apply St.condP; exact rfl; all_goals (intros; try (exfalso; omega))) | (apply St.condB; exact rfl; all_goals intros))
      apply Gt.round (i + 1)
      rotate_left
      · omega
      · (repeat (first | exact Sub.nil | apply Sub.cons rfl))
      · exact fun _ h => by simp only [hS]; exact h
      · omega
  · have hie : i = 256 := by omega
    subst hie
    repeat' (first | (apply Wl.loadAH; exact rfl; exact rfl; (repeat (first | exact List.Mem.head _ | apply List.Mem.tail)); (first | exact rpC_x _ _ _ | exact rpC_y _ _ _ | exact rpC_z _ _ _ | exact LSub.whole (rpC_len _ _ _))) | (apply Wl.storeAll; exact rfl; exact rfl; (repeat (first | apply HSet.here | apply HSet.there)); (first | exact rpC_len _ _ _); (first | exact rfl | exact rpC_len _ _ _); (first | exact rpC_one _ _ _)) | (apply Gt.outC'; exact rfl; infer_instance; exact rfl; (repeat (first | exact List.Mem.head _ | apply List.Mem.tail)); (first | exact LSub.whole (rpC_len _ _ _)); intro w' hp) | (apply Wl.move; exact rfl; exact rfl) | (apply Wl.lss; exact rfl; exact rfl; exact rfl) | (apply Wl.nil) | (apply St.seq) | (apply St.region) | (apply St.condF; exact rfl; (first | with_reducible rfl | with_reducible assumption | decide)) | (apply St.ret) | (apply St.exit) | (apply Gt.next) | (apply Gt.thenExit) | (apply Gt.inExit) | (apply Wl.splitP; exact rfl; exact rfl; all_goals (intros; try (exfalso; omega))) | (apply Wl.splitB; exact rfl; exact rfl; all_goals intros) | (apply St.condP; exact rfl; all_goals (intros; try (exfalso; omega))) | (apply St.condB; exact rfl; all_goals intros))
    exact ⟨rfl, hp.drop (by simp; omega)⟩
attribute [irreducible] ptimes
/-! ### Plain -/
set_option maxHeartbeats 8000000 in
theorem refPlain (b : Nat) (p : Ec.F × Ec.F × Ec.F) (w : World) (hF : FldV w b Prim.P256) : Calls Tryd.prog 39 #[mp b, rpV p] w fun e w' => e = .returned (.tuple #[num16 (poX (Ec.ppt p)), num16 (poY (Ec.ppt p)), .bool (!(Ec.ppt p).isNone)]) ∧ Hp w [] w' := by
  have hb := hF.blk
  obtain ⟨x, y, z⟩ := p
  refine enter (args := [_, _]) (Γ := [(0, _), (1, _)]) Tryd.func39 Tryd.ntmps39 rfl (of_decide_eq_true rfl) (.cons rfl (.cons rfl .nil)) ?_
  unfold Ec.ppt Ec.prj
  by_cases hz : z = 0
  · have hd : decide (z = 0) = true := decide_eq_true hz
    repeat' (first | (apply Wl.loadAH; exact rfl; exact rfl; (repeat (first | exact List.Mem.head _ | apply List.Mem.tail)); (first | exact rpC_x _ _ _ | exact rpC_y _ _ _ | exact rpC_z _ _ _ | exact LSub.whole (rpC_len _ _ _))) | (apply Wl.buildN; exact rfl; (repeat (first | exact Parts.nil | apply Parts.cons rfl)); (repeat (first | apply Fills.nil | (apply Fills.one; exact rfl; exact rfl; (repeat (first | apply LSet.z | apply LSet.s))) | (apply Fills.agg; exact rfl; exact rfl; (repeat (first | apply LPut.s | apply LPut.z | apply LOver.nil | apply LOver.cons))))); exact zero16) | (apply Wl.eqlA; exact rfl; exact rfl; exact rfl; kernel_rfl; kernel_rfl; kernel_rfl; kernel_rfl; exact cell64 _; exact cell64 _; exact eq16Z _) | (apply Gt.outCCT; exact rfl; infer_instance; infer_instance; exact rfl; exact rfl; exact rfl; (repeat (first | exact List.Mem.head _ | apply List.Mem.tail)); (repeat (first | exact List.Mem.head _ | apply List.Mem.tail)); exact cellsN_len _ _ _; exact cellsN_len _ _ _; intro w' hp) | (apply Wl.storeW; exact rfl; exact rfl; (repeat (first | apply HSet.here | apply HSet.there)); exact rfl; (first | exact cellsN_len _ _ _ | exact rfl)) | (apply Wl.allocN; exact rfl; (first | exact z8 | exact z16 | exact z17 | exact z33 | exact z10); intro c hc ho) | (apply Wl.assign; exact rfl; exact rfl) | (apply Wl.fieldAddrZ; exact rfl; exact rfl) | (apply Wl.boxA; exact rfl; exact rfl; intro c hc ho) | (apply Wl.nil) | (apply St.seq) | (apply St.region) | (apply St.condT; exact rfl; (first | with_reducible rfl | with_reducible assumption | decide)) | (apply St.ret) | (apply Gt.next) | (apply Gt.thenRet) | (apply Wl.splitP; exact rfl; exact rfl; all_goals (intros; try (exfalso; omega))) | (apply Wl.splitB; exact rfl; exact rfl; all_goals intros) | (apply St.condP; exact rfl; all_goals (intros; try (exfalso; omega))) | (apply St.condB; exact rfl; all_goals intros))
    rw [if_pos hz]
    exact ⟨rfl, hp.drop (by simp; omega)⟩
  · have hd : decide (z = 0) = false := decide_eq_false hz
    obtain ⟨i, h_i⟩ : ∃ q_ : Ec.F, q_ = Ec.finv z := ⟨_, rfl⟩
    obtain ⟨xi, h_xi⟩ : ∃ q_ : Ec.F, q_ = x * i := ⟨_, rfl⟩
    obtain ⟨yi, h_yi⟩ : ∃ q_ : Ec.F, q_ = y * i := ⟨_, rfl⟩
    repeat' (first | (apply St.bagX 10 []; exact mixed; (decide +kernel); kernel_rfl) | (apply OpsX.nil) | (apply OpsX.v; (intro X hX; change Wl [_] _ _ _ _ _ _ _; apply Wl.catX; (repeat (first | apply CatB.nil | apply CatB.cons)))) | (apply Gt.endX; exact rfl) | (apply EndX.on; exact rfl) | (apply EndX.off; exact rfl) | (apply EndX.nil'; apply Wl.catE; (repeat (first | apply CatB.nil | apply CatB.cons))) | (apply Wl.loadAH; exact rfl; exact rfl; (repeat (first | exact List.Mem.head _ | apply List.Mem.tail)); (first | exact rpC_x _ _ _ | exact rpC_y _ _ _ | exact rpC_z _ _ _ | exact LSub.whole (rpC_len _ _ _))) | (apply Wl.buildN; exact rfl; (repeat (first | exact Parts.nil | apply Parts.cons rfl)); (repeat (first | apply Fills.nil | (apply Fills.one; exact rfl; exact rfl; (repeat (first | apply LSet.z | apply LSet.s))) | (apply Fills.agg; exact rfl; exact rfl; (repeat (first | apply LPut.s | apply LPut.z | apply LOver.nil | apply LOver.cons))))); exact zero16) | (apply Wl.eqlA; exact rfl; exact rfl; exact rfl; kernel_rfl; kernel_rfl; kernel_rfl; kernel_rfl; exact cell64 _; exact cell64 _; exact eq16Z _) | (apply Wl.callQ (f := 42); exact rfl; (repeat (first | exact Evs.nil | apply Evs.cons rfl)); (intro wq hq; refine (hMul (hF.hp hq (by (repeat (first | exact trivial | exact hX.off (by omega) | refine ⟨by first | assumption | omega | (simp only; omega), ?_⟩)))) (by with_reducible assumption)).mono ?_; rintro e wr ⟨rfl, hr⟩; exact ⟨rfl, hq.keep hr⟩)) | (apply Wl.callQ (f := 37); exact rfl; (repeat (first | exact Evs.nil | apply Evs.cons rfl)); (intro wq hq; refine (hInv (hF.hp hq (by (repeat (first | exact trivial | exact hX.off (by omega) | refine ⟨by first | assumption | omega | (simp only; omega), ?_⟩)))) (by with_reducible assumption)).mono ?_; rintro e wr ⟨rfl, hr⟩; exact ⟨rfl, hq.keep hr⟩)) | (apply Gt.outCCT; exact rfl; infer_instance; infer_instance; exact rfl; exact rfl; exact rfl; (repeat (first | exact List.Mem.head _ | apply List.Mem.tail)); (repeat (first | exact List.Mem.head _ | apply List.Mem.tail)); exact cellsN_len _ _ _; exact cellsN_len _ _ _; intro w' hp) | (apply Wl.loadW; exact rfl; exact rfl; (repeat (first | exact List.Mem.head _ | apply List.Mem.tail)); exact rfl) | (apply Wl.storeW; exact rfl; exact rfl; (repeat (first | apply HSet.here | apply HSet.there)); exact rfl; (first | exact cellsN_len _ _ _ | exact rfl)) | (apply Wl.allocN; exact rfl; (first | exact z8 | exact z16 | exact z17 | exact z33 | exact z10); intro c hc ho) | (apply Wl.move; exact rfl; exact rfl) | (apply Wl.assign; exact rfl; exact rfl) | (apply Wl.fieldAddr0; exact rfl; exact rfl) | (apply Wl.fieldAddrZ; exact rfl; exact rfl) | (apply Wl.boxA; exact rfl; exact rfl; intro c hc ho) | (apply Wl.nil) | (apply St.seq) | (apply St.region) | (apply St.condF; exact rfl; (first | with_reducible rfl | with_reducible assumption | decide)) | (apply St.ret) | (apply St.skip) | (apply Gt.next) | (apply Wl.splitP; exact rfl; exact rfl; all_goals (intros; try (exfalso; omega))) | (apply Wl.splitB; exact rfl; exact rfl; all_goals intros) | (apply St.condP; exact rfl; all_goals (intros; try (exfalso; omega))) | (apply St.condB; exact rfl; all_goals intros))
    rw [if_neg hz]
    simp only
    rw [← h_i, ← h_xi, ← h_yi]
    exact ⟨rfl, hp.drop (by simp; omega)⟩
end Go.Proofs.YtfaobdakpbpkbaaDoor
end
section
/-
  curve.Curve.On; porticolaw04.pt, like. Conditions: numbers are below 2^256.
-/
namespace Go.Proofs.YtfaobdakpbpkbaaDoor
open Go.RowKit Go.Pt
attribute [local irreducible] Prim.P256
theorem gCmp {a b : Nat} {k : Int} (ha : a < W256) (hb : b < W256) (e : cmpN a b = k) (w : World) : Calls Tryd.prog 56 #[numV a, numV b] w fun e w' => e = .returned (.int .i64 k) ∧ Hp w [] w' := e ▸ limbCompare a b ha hb w
theorem cmp_lt {a b : Nat} (h : a < b) : cmpN a b = -1 := if_pos h
theorem cmp_ge {a b : Nat} (h : ¬ a < b) : 0 ≤ cmpN a b := by unfold cmpN; rw [if_neg h]; split <;> decide
theorem eq8F (x y : Ec.F) : decide (x = y) = true ↔ ∀ j, j < 8 → dg W32 (mg x) j = dg W32 (mg y) j := by
  rw [← d8_inj (mg_W x) (mg_W y), decide_eq_true_iff, decide_eq_true_iff]
  exact ⟨fun h => by rw [h], fun h => mg_inj h⟩
/-- a point of the curve, by its numbers -/
def onB (X Y : Nat) : Bool := decide (X < Prim.P256) && (decide (Y < Prim.P256) && decide (nF Y * nF Y = nF X * nF X * nF X - (nF X + nF X + nF X) + curB))
theorem gIn {b : Nat} {w : World} (h : ModV w b Prim.P256) {a : Nat} {r : Ec.F} (ha : a < W256) (e : r = nF a) : Calls Tryd.prog 25 #[mp b, numV a] w fun e w' => e = .returned (numV (mg r)) ∧ Hp w [] w' := e ▸ fIn h ha
set_option maxHeartbeats 16000000 in
theorem curOnC (k bm X Y : Nat) (n : Bool) (w : World) (hV : CurV w k bm) (hX : X < W256) (hY : Y < W256) : Calls Tryd.prog 44 #[mp k, .agg (poC X Y n).toArray] w fun e w' => e = .returned (.bool (!n && onB X Y)) ∧ Hp w [] w' := by
  obtain ⟨hc, hb⟩ := hV.lt
  have hM := fun wq h => modModulus bm Prim.P256 wq h
  refine enter (args := [_, _]) (Γ := [(0, _), (1, _)]) Tryd.func44 Tryd.ntmps44 rfl (of_decide_eq_true rfl) (.cons rfl (.cons rfl .nil)) ?_
  unfold onB
  cases n with
  | true =>
    repeat' (first | (apply St.bagX 28 [27]; exact mixed; (decide +kernel); kernel_rfl) | (apply OpsX.nil) | (apply OpsX.v; (intro X hX; change Wl [_] _ _ _ _ _ _ _; apply Wl.catX; (repeat (first | apply CatB.nil | apply CatB.cons)))) | (apply Gt.endX; exact rfl) | (apply EndX.on; exact rfl) | (apply EndX.off; exact rfl) | (apply EndX.nil'; apply Wl.catE; (repeat (first | apply CatB.nil | apply CatB.cons))) | (apply Wl.loadH; exact rfl; exact rfl; (repeat (first | exact List.Mem.head _ | apply List.Mem.tail)); (first | exact poC_n _ _ _ | exact poD_n _)) | (apply Wl.move; exact rfl; exact rfl) | (apply Wl.assign; exact rfl; exact rfl) | (apply Wl.on; exact rfl; exact rfl; (first | with_reducible rfl | with_reducible assumption | decide)) | (apply Wl.off; exact rfl; exact rfl; exact rfl; (first | with_reducible rfl | (show _ = false; with_reducible assumption) | (show _ = true; with_reducible assumption) | decide)) | (apply Wl.pickT; exact rfl; exact rfl; (first | with_reducible rfl | with_reducible assumption | decide); exact rfl) | (apply Wl.pickF; exact rfl; exact rfl; (first | with_reducible rfl | with_reducible assumption | decide); exact rfl) | (apply Wl.fieldAddrZ; exact rfl; exact rfl) | (apply Wl.eqlPN; exact rfl; exact rfl; exact rfl) | (apply Wl.boxA; exact rfl; exact rfl; intro c hc ho) | (apply Wl.nil) | (apply St.seq) | (apply St.region) | (apply St.condT; exact rfl; (first | with_reducible rfl | with_reducible assumption | decide)) | (apply St.ret) | (apply Gt.next) | (apply Gt.thenRet) | (apply Gt.out1; exact rfl; exact rfl; intro w' hp) | (apply Wl.splitP; exact rfl; exact rfl; all_goals (intros; try (exfalso; omega))) | (apply Wl.splitB; exact rfl; exact rfl; all_goals intros) | (apply St.condP; exact rfl; all_goals (intros; try (exfalso; omega))) | (apply St.condB; exact rfl; all_goals intros))
    exact ⟨rfl, hp.drop (by simp; omega)⟩
  | false =>
    by_cases hx : X < Prim.P256
    · have cx := cmp_lt hx
      have dx : decide (X < Prim.P256) = true := decide_eq_true hx
      rw [dx]
      by_cases hy : Y < Prim.P256
      · have cy := cmp_lt hy
        have dy : decide (Y < Prim.P256) = true := decide_eq_true hy
        rw [dy]
        obtain ⟨x, h_x⟩ : ∃ q_ : Ec.F, q_ = nF X := ⟨_, rfl⟩
        obtain ⟨y, h_y⟩ : ∃ q_ : Ec.F, q_ = nF Y := ⟨_, rfl⟩
        obtain ⟨x2, h_x2⟩ : ∃ q_ : Ec.F, q_ = x + x := ⟨_, rfl⟩
        obtain ⟨x3, h_x3⟩ : ∃ q_ : Ec.F, q_ = x2 + x := ⟨_, rfl⟩
        obtain ⟨xx, h_xx⟩ : ∃ q_ : Ec.F, q_ = x * x := ⟨_, rfl⟩
        obtain ⟨xxx, h_xxx⟩ : ∃ q_ : Ec.F, q_ = xx * x := ⟨_, rfl⟩
        obtain ⟨df, h_df⟩ : ∃ q_ : Ec.F, q_ = xxx - x3 := ⟨_, rfl⟩
        obtain ⟨rr, h_rr⟩ : ∃ q_ : Ec.F, q_ = df + curB := ⟨_, rfl⟩
        obtain ⟨yy, h_yy⟩ : ∃ q_ : Ec.F, q_ = y * y := ⟨_, rfl⟩
        rw [← h_x, ← h_y, ← h_x2, ← h_x3, ← h_xx, ← h_xxx, ← h_df, ← h_rr, ← h_yy]
        repeat' (first | (apply St.bagX 28 [27]; exact mixed; (decide +kernel); kernel_rfl) | (apply St.bagX 16 []; exact mixed; (decide +kernel); kernel_rfl) | (apply St.bagX 14 []; exact mixed; (decide +kernel); kernel_rfl) | (apply St.bagX 29 []; exact mixed; (decide +kernel); kernel_rfl) | (apply St.bagXc 10 [9]; exact mixed; (decide +kernel); (repeat (first | apply CleanX.nil | (apply CleanX.skip; exact rfl) | (apply CleanX.keep; exact rfl))); kernel_rfl) | (apply OpsX.nil) | (apply OpsX.b; exact rfl) | (apply OpsX.v; (intro X hX; change Wl [_] _ _ _ _ _ _ _; apply Wl.catX; (repeat (first | apply CatB.nil | apply CatB.cons)))) | (apply Gt.endX; exact rfl) | (apply EndX.new; intro c hc ho) | (apply EndX.on; exact rfl) | (apply EndX.off; exact rfl) | (apply EndX.nil'; apply Wl.catE; (repeat (first | apply CatB.nil | apply CatB.cons))) | (apply Wl.loadM; exact rfl; exact rfl; exact hV.b; (repeat (first | exact trivial | exact hX.off (by omega) | refine ⟨by first | assumption | omega | (simp only; omega), ?_⟩)); exact rfl) | (apply Wl.loadO; exact rfl; exact rfl; exact hV.mod; (repeat (first | exact trivial | exact hX.off (by omega) | refine ⟨by first | assumption | omega | (simp only; omega), ?_⟩))) | (apply Wl.loadAH; exact rfl; exact rfl; (repeat (first | exact List.Mem.head _ | apply List.Mem.tail)); (first | exact ptC_x _ _ _ | exact ptC_y _ _ _ | exact ptC_z _ _ _ | exact poC_x _ _ _ | exact poC_y _ _ _ | exact poD_x _ | exact poD_y _ | exact LSub.whole (ptC_len _ _ _) | exact LSub.whole (poC_len _ _ _) | exact LSub.whole (poD_len _))) | (apply Wl.loadH; exact rfl; exact rfl; (repeat (first | exact List.Mem.head _ | apply List.Mem.tail)); (first | exact poC_n _ _ _ | exact poD_n _)) | (apply Wl.callQ (f := 59); exact rfl; (repeat (first | exact Evs.nil | apply Evs.cons rfl)); (intro wq hq; refine (hM wq (hV.val.hp hq (by (repeat (first | exact trivial | exact hX.off (by omega) | refine ⟨by first | assumption | omega | (simp only; omega), ?_⟩))))).mono ?_; rintro e wr ⟨rfl, hr⟩; exact ⟨rfl, hq.keep hr⟩)) | (apply Wl.callQ (f := 56); exact rfl; (repeat (first | exact Evs.nil | apply Evs.cons rfl)); (intro wq hq; refine (gCmp (by assumption) pW (by with_reducible assumption) wq).mono ?_; rintro e wr ⟨rfl, hr⟩; exact ⟨rfl, hq.keep hr⟩)) | (apply Wl.callQ (f := 25); exact rfl; (repeat (first | exact Evs.nil | apply Evs.cons rfl)); (intro wq hq; refine (gIn (hV.val.hp hq (by (repeat (first | exact trivial | exact hX.off (by omega) | refine ⟨by first | assumption | omega | (simp only; omega), ?_⟩)))) (by assumption) (by with_reducible assumption)).mono ?_; rintro e wr ⟨rfl, hr⟩; exact ⟨rfl, hq.keep hr⟩)) | (apply Wl.callQ (f := 27); exact rfl; (repeat (first | exact Evs.nil | apply Evs.cons rfl)); (intro wq hq; refine (gTimes (hV.val.hp hq (by (repeat (first | exact trivial | exact hX.off (by omega) | refine ⟨by first | assumption | omega | (simp only; omega), ?_⟩)))) (by with_reducible assumption)).mono ?_; rintro e wr ⟨rfl, hr⟩; exact ⟨rfl, hq.keep hr⟩)) | (apply Wl.callQ (f := 57); exact rfl; (repeat (first | exact Evs.nil | apply Evs.cons rfl)); (intro wq hq; refine (gAdd (hV.val.hp hq (by (repeat (first | exact trivial | exact hX.off (by omega) | refine ⟨by first | assumption | omega | (simp only; omega), ?_⟩)))) (by with_reducible assumption)).mono ?_; rintro e wr ⟨rfl, hr⟩; exact ⟨rfl, hq.keep hr⟩)) | (apply Wl.callQ (f := 77); exact rfl; (repeat (first | exact Evs.nil | apply Evs.cons rfl)); (intro wq hq; refine (gSub (hV.val.hp hq (by (repeat (first | exact trivial | exact hX.off (by omega) | refine ⟨by first | assumption | omega | (simp only; omega), ?_⟩)))) (by with_reducible assumption)).mono ?_; rintro e wr ⟨rfl, hr⟩; exact ⟨rfl, hq.keep hr⟩)) | (apply Wl.eqlA; exact rfl; exact rfl; exact rfl; kernel_rfl; kernel_rfl; kernel_rfl; kernel_rfl; exact cell32 _ (dlt _); exact cell32 _ (dlt _); exact eq8F _ _) | (apply Wl.loadW; exact rfl; exact rfl; (repeat (first | exact List.Mem.head _ | apply List.Mem.tail)); exact rfl) | (apply Wl.storeW; exact rfl; exact rfl; (repeat (first | apply HSet.here | apply HSet.there)); exact rfl; (first | exact cellsN_len _ _ _ | exact rfl)) | (apply Wl.move; exact rfl; exact rfl) | (apply Wl.assign; exact rfl; exact rfl) | (apply Wl.on; exact rfl; exact rfl; (first | with_reducible rfl | with_reducible assumption | decide)) | (apply Wl.nilCheck; exact rfl; exact rfl) | (apply Wl.pickF; exact rfl; exact rfl; (first | with_reducible rfl | with_reducible assumption | decide); exact rfl) | (apply Wl.fieldAddr0; exact rfl; exact rfl) | (apply Wl.fieldAddrZ; exact rfl; exact rfl) | (apply Wl.eqlPN; exact rfl; exact rfl; exact rfl) | (apply Wl.geq; exact rfl; exact rfl; exact rfl) | (apply Wl.boxA; exact rfl; exact rfl; intro c hc ho) | (apply Wl.nil) | (apply St.seq) | (apply St.region) | (apply St.condF; exact rfl; (first | with_reducible rfl | with_reducible assumption | decide)) | (apply St.ret) | (apply St.skip) | (apply Gt.next) | (apply Gt.out1; exact rfl; exact rfl; intro w' hp) | (apply Wl.splitP; exact rfl; exact rfl; all_goals (intros; try (exfalso; omega))) | (apply Wl.splitB; exact rfl; exact rfl; all_goals intros) | (apply St.condP; exact rfl; all_goals (intros; try (exfalso; omega))) | (apply St.condB; exact rfl; all_goals intros))
        exact ⟨rfl, hp.drop (by simp; omega)⟩
      · have dy : decide (Y < Prim.P256) = false := decide_eq_false hy
        rw [dy]
        obtain ⟨q, cy⟩ : ∃ q, cmpN Y Prim.P256 = q := ⟨_, rfl⟩
        have hq0 : 0 ≤ q := cy ▸ cmp_ge hy
        have dq : decide (0 ≤ q) = true := decide_eq_true hq0
        repeat' (first | (apply St.bagX 28 [27]; exact mixed; (decide +kernel); kernel_rfl) | (apply OpsX.nil) | (apply OpsX.v; (intro X hX; change Wl [_] _ _ _ _ _ _ _; apply Wl.catX; (repeat (first | apply CatB.nil | apply CatB.cons)))) | (apply Gt.endX; exact rfl) | (apply EndX.on; exact rfl) | (apply EndX.off; exact rfl) | (apply EndX.nil'; apply Wl.catE; (repeat (first | apply CatB.nil | apply CatB.cons))) | (apply Wl.loadO; exact rfl; exact rfl; exact hV.mod; (repeat (first | exact trivial | exact hX.off (by omega) | refine ⟨by first | assumption | omega | (simp only; omega), ?_⟩))) | (apply Wl.loadAH; exact rfl; exact rfl; (repeat (first | exact List.Mem.head _ | apply List.Mem.tail)); (first | exact ptC_x _ _ _ | exact ptC_y _ _ _ | exact ptC_z _ _ _ | exact poC_x _ _ _ | exact poC_y _ _ _ | exact poD_x _ | exact poD_y _ | exact LSub.whole (ptC_len _ _ _) | exact LSub.whole (poC_len _ _ _) | exact LSub.whole (poD_len _))) | (apply Wl.loadH; exact rfl; exact rfl; (repeat (first | exact List.Mem.head _ | apply List.Mem.tail)); (first | exact poC_n _ _ _ | exact poD_n _)) | (apply Wl.callQ (f := 59); exact rfl; (repeat (first | exact Evs.nil | apply Evs.cons rfl)); (intro wq hq; refine (hM wq (hV.val.hp hq (by (repeat (first | exact trivial | exact hX.off (by omega) | refine ⟨by first | assumption | omega | (simp only; omega), ?_⟩))))).mono ?_; rintro e wr ⟨rfl, hr⟩; exact ⟨rfl, hq.keep hr⟩)) | (apply Wl.callQ (f := 56); exact rfl; (repeat (first | exact Evs.nil | apply Evs.cons rfl)); (intro wq hq; refine (gCmp (by assumption) pW (by with_reducible assumption) wq).mono ?_; rintro e wr ⟨rfl, hr⟩; exact ⟨rfl, hq.keep hr⟩)) | (apply Wl.move; exact rfl; exact rfl) | (apply Wl.assign; exact rfl; exact rfl) | (apply Wl.on; exact rfl; exact rfl; (first | with_reducible rfl | with_reducible assumption | decide)) | (apply Wl.nilCheck; exact rfl; exact rfl) | (apply Wl.pickF; exact rfl; exact rfl; (first | with_reducible rfl | with_reducible assumption | decide); exact rfl) | (apply Wl.fieldAddr0; exact rfl; exact rfl) | (apply Wl.fieldAddrZ; exact rfl; exact rfl) | (apply Wl.eqlPN; exact rfl; exact rfl; exact rfl) | (apply Wl.geq; exact rfl; exact rfl; exact rfl) | (apply Wl.boxA; exact rfl; exact rfl; intro c hc ho) | (apply Wl.nil) | (apply St.seq) | (apply St.region) | (apply St.condT; exact rfl; (first | with_reducible rfl | with_reducible assumption | decide)) | (apply St.ret) | (apply Gt.next) | (apply Gt.thenRet) | (apply Gt.out1; exact rfl; exact rfl; intro w' hp) | (apply Wl.splitP; exact rfl; exact rfl; all_goals (intros; try (exfalso; omega))) | (apply Wl.splitB; exact rfl; exact rfl; all_goals intros) | (apply St.condP; exact rfl; all_goals (intros; try (exfalso; omega))) | (apply St.condB; exact rfl; all_goals intros))
        exact ⟨rfl, hp.drop (by simp; omega)⟩
    · have dx : decide (X < Prim.P256) = false := decide_eq_false hx
      rw [dx]
      obtain ⟨q, cx⟩ : ∃ q, cmpN X Prim.P256 = q := ⟨_, rfl⟩
      have hq0 : 0 ≤ q := cx ▸ cmp_ge hx
      have dq : decide (0 ≤ q) = true := decide_eq_true hq0
      repeat' (first | (apply St.bagX 28 [27]; exact mixed; (decide +kernel); kernel_rfl) | (apply OpsX.nil) | (apply OpsX.v; (intro X hX; change Wl [_] _ _ _ _ _ _ _; apply Wl.catX; (repeat (first | apply CatB.nil | apply CatB.cons)))) | (apply Gt.endX; exact rfl) | (apply EndX.on; exact rfl) | (apply EndX.off; exact rfl) | (apply EndX.nil'; apply Wl.catE; (repeat (first | apply CatB.nil | apply CatB.cons))) | (apply Wl.loadO; exact rfl; exact rfl; exact hV.mod; (repeat (first | exact trivial | exact hX.off (by omega) | refine ⟨by first | assumption | omega | (simp only; omega), ?_⟩))) | (apply Wl.loadAH; exact rfl; exact rfl; (repeat (first | exact List.Mem.head _ | apply List.Mem.tail)); (first | exact ptC_x _ _ _ | exact ptC_y _ _ _ | exact ptC_z _ _ _ | exact poC_x _ _ _ | exact poC_y _ _ _ | exact poD_x _ | exact poD_y _ | exact LSub.whole (ptC_len _ _ _) | exact LSub.whole (poC_len _ _ _) | exact LSub.whole (poD_len _))) | (apply Wl.loadH; exact rfl; exact rfl; (repeat (first | exact List.Mem.head _ | apply List.Mem.tail)); (first | exact poC_n _ _ _ | exact poD_n _)) | (apply Wl.callQ (f := 59); exact rfl; (repeat (first | exact Evs.nil | apply Evs.cons rfl)); (intro wq hq; refine (hM wq (hV.val.hp hq (by (repeat (first | exact trivial | exact hX.off (by omega) | refine ⟨by first | assumption | omega | (simp only; omega), ?_⟩))))).mono ?_; rintro e wr ⟨rfl, hr⟩; exact ⟨rfl, hq.keep hr⟩)) | (apply Wl.callQ (f := 56); exact rfl; (repeat (first | exact Evs.nil | apply Evs.cons rfl)); (intro wq hq; refine (gCmp (by assumption) pW (by with_reducible assumption) wq).mono ?_; rintro e wr ⟨rfl, hr⟩; exact ⟨rfl, hq.keep hr⟩)) | (apply Wl.move; exact rfl; exact rfl) | (apply Wl.assign; exact rfl; exact rfl) | (apply Wl.on; exact rfl; exact rfl; (first | with_reducible rfl | with_reducible assumption | decide)) | (apply Wl.off; exact rfl; exact rfl; exact rfl; (first | with_reducible rfl | (show _ = false; with_reducible assumption) | (show _ = true; with_reducible assumption) | decide)) | (apply Wl.nilCheck; exact rfl; exact rfl) | (apply Wl.pickT; exact rfl; exact rfl; (first | with_reducible rfl | with_reducible assumption | decide); exact rfl) | (apply Wl.pickF; exact rfl; exact rfl; (first | with_reducible rfl | with_reducible assumption | decide); exact rfl) | (apply Wl.fieldAddr0; exact rfl; exact rfl) | (apply Wl.fieldAddrZ; exact rfl; exact rfl) | (apply Wl.eqlPN; exact rfl; exact rfl; exact rfl) | (apply Wl.geq; exact rfl; exact rfl; exact rfl) | (apply Wl.boxA; exact rfl; exact rfl; intro c hc ho) | (apply Wl.nil) | (apply St.seq) | (apply St.region) | (apply St.condT; exact rfl; (first | with_reducible rfl | with_reducible assumption | decide)) | (apply St.ret) | (apply Gt.next) | (apply Gt.thenRet) | (apply Gt.out1; exact rfl; exact rfl; intro w' hp) | (apply Wl.splitP; exact rfl; exact rfl; all_goals (intros; try (exfalso; omega))) | (apply Wl.splitB; exact rfl; exact rfl; all_goals intros) | (apply St.condP; exact rfl; all_goals (intros; try (exfalso; omega))) | (apply St.condB; exact rfl; all_goals intros))
      exact ⟨rfl, hp.drop (by simp; omega)⟩
end Go.Proofs.YtfaobdakpbpkbaaDoor
end
