/-
  The document's field told over the field of the group law; its points as values: On, Double, Plus. Conditions: numbers are below the prime.
-/
import Derived.Test.YtfaobdakpbpkbaaRef4e
namespace Go.Proofs.Ytfaobdakpbpkbaa
open Go.RowKit Go.Pt
attribute [local irreducible] Prim.P256
section
variable {b : Nat} {w : World} {x y r : Ec.F}
theorem hMul (h : FldV w b Prim.P256) (e : r = x * y) : Calls Try.prog 44 #[mp b, num16 x.val, num16 y.val] w fun e w' => e = .returned (num16 r.val) ∧ Hp w [] w' := by
  rw [e, Fin.val_mul]; exact refFMul b _ _ _ w h x.isLt y.isLt
theorem hAdd (h : FldV w b Prim.P256) (e : r = x + y) : Calls Try.prog 46 #[mp b, num16 x.val, num16 y.val] w fun e w' => e = .returned (num16 r.val) ∧ Hp w [] w' := by
  rw [e, Fin.val_add]; exact refFAdd b _ _ _ w h x.isLt y.isLt
theorem hSub (h : FldV w b Prim.P256) (e : r = x - y) : Calls Try.prog 45 #[mp b, num16 x.val, num16 y.val] w fun e w' => e = .returned (num16 r.val) ∧ Hp w [] w' := by
  have e2 : (x - y).val = (x.val + (Prim.P256 - y.val)) % Prim.P256 := by rw [Fin.sub_def, Nat.add_comm]
  rw [e, e2]; exact refFSub b _ _ _ w h x.isLt y.isLt
theorem dgP0 : 2 ≤ dg D16 Prim.P256 0 := by decide +kernel
theorem hInv (h : FldV w b Prim.P256) (e : r = Ec.finv x) : Calls Try.prog 53 #[mp b, num16 x.val] w fun e w' => e = .returned (num16 r.val) ∧ Hp w [] w' := by
  have e2 : (Ec.finv x).val = pwm Prim.P256 x.val (Prim.P256 - 2) := by unfold pwm Ec.finv; rfl
  rw [e, e2]; exact refFInv b _ _ w h x.isLt dgP0
end
theorem cell64 (n : Nat) : ∀ j, j < 16 → IntKind.u64.min ≤ (dg D16 n j : Int) ∧ (dg D16 n j : Int) ≤ IntKind.u64.max := fun j _ => by
  have := dlt16 n j
  show (0 : Int) ≤ _ ∧ _ ≤ (18446744073709551615 : Int)
  omega
theorem d16_inj {a b : Nat} (ha : a < W256) (hb : b < W256) : decide (a = b) = true ↔ ∀ j, j < 16 → dg D16 a j = dg D16 b j := by
  rw [decide_eq_true_iff]
  exact ⟨fun h j _ => by rw [h], fun h => dg_ext (B := D16) (k := 16) (by rw [← W256_eq16]; exact ha) (by rw [← W256_eq16]; exact hb) h⟩
theorem eq16Z (x : Ec.F) : decide (x = 0) = true ↔ ∀ j, j < 16 → dg D16 x.val j = dg D16 0 j := by
  rw [← d16_inj (val_W x) (by decide), decide_eq_true_iff, decide_eq_true_iff]
  exact ⟨fun h => by rw [h, val_zero], fun h => Fin.ext (by rw [h, val_zero])⟩
theorem eq16F (x y : Ec.F) : decide (x = y) = true ↔ ∀ j, j < 16 → dg D16 x.val j = dg D16 y.val j := by
  rw [← d16_inj (val_W x) (val_W y), decide_eq_true_iff, decide_eq_true_iff]
  exact ⟨fun h => by rw [h], fun h => Fin.ext h⟩
theorem zero16 : [Value.int .u64 0, .int .u64 0, .int .u64 0, .int .u64 0, .int .u64 0, .int .u64 0, .int .u64 0, .int .u64 0, .int .u64 0, .int .u64 0, .int .u64 0, .int .u64 0, .int .u64 0, .int .u64 0, .int .u64 0, .int .u64 0] = cellsN .u64 16 (dg D16 0) := by kernel_rfl
def rpC (x y z : Nat) : List Value := cellsN .u64 16 (dg D16 x) ++ (cellsN .u64 16 (dg D16 y) ++ cellsN .u64 16 (dg D16 z))
theorem rpC_len (x y z : Nat) : (rpC x y z).length = 48 := by simp [rpC, cellsN_len]
theorem rpC_one (x y z : Nat) : (rpC x y z).all Value.oneCell' = true := by
  unfold rpC
  rw [List.all_append, List.all_append, cellsN_one, cellsN_one, cellsN_one]; rfl
theorem rpC_x (x y z : Nat) : LSub (rpC x y z) 0 16 (cellsN .u64 16 (dg D16 x)) := LSub.mid (a := []) rfl (cellsN_len _ _ _)
theorem rpC_y (x y z : Nat) : LSub (rpC x y z) 16 16 (cellsN .u64 16 (dg D16 y)) := LSub.mid (cellsN_len _ _ _) (cellsN_len _ _ _)
theorem rpC_z (x y z : Nat) : LSub (rpC x y z) 32 16 (cellsN .u64 16 (dg D16 z)) := LSub.into (cellsN_len _ _ _) (LSub.end' (cellsN_len _ _ _) (cellsN_len _ _ _)) rfl
theorem rp_zero : [Value.int .u64 0, .int .u64 0, .int .u64 0, .int .u64 0, .int .u64 0, .int .u64 0, .int .u64 0, .int .u64 0, .int .u64 0, .int .u64 0, .int .u64 0, .int .u64 0, .int .u64 0, .int .u64 0, .int .u64 0, .int .u64 0] ++ ([Value.int .u64 0, .int .u64 0, .int .u64 0, .int .u64 0, .int .u64 0, .int .u64 0, .int .u64 0, .int .u64 0, .int .u64 0, .int .u64 0, .int .u64 0, .int .u64 0, .int .u64 0, .int .u64 0, .int .u64 0, .int .u64 0] ++ [Value.int .u64 0, .int .u64 0, .int .u64 0, .int .u64 0, .int .u64 0, .int .u64 0, .int .u64 0, .int .u64 0, .int .u64 0, .int .u64 0, .int .u64 0, .int .u64 0, .int .u64 0, .int .u64 0, .int .u64 0, .int .u64 0]) = rpC 0 0 0 := by
  unfold rpC; rw [zero16]
theorem fill3R {place : Nat → Option (Nat × Nat)} {za zb zc xs ys zs : List Value} (ha : za.length = 16) (hb : zb.length = 16) (hc : zc.length = 16) (hx : xs.length = 16) (hy : ys.length = 16) (hz : zs.length = 16) (p0 : place 0 = some (0, 16)) (p1 : place 1 = some (16, 16)) (p2 : place 2 = some (32, 16)) :
    Fills place (za ++ (zb ++ zc)) [(0, .agg xs.toArray), (1, .agg ys.toArray), (2, .agg zs.toArray)] (xs ++ (ys ++ zs)) := by
  have h1 : LPut (za ++ (zb ++ zc)) 0 xs (xs ++ (zb ++ zc)) := LPut.app (p := []) rfl (by rw [ha, hx])
  have h2 : LPut (xs ++ (zb ++ zc)) 16 ys (xs ++ (ys ++ zc)) := LPut.app hx (by rw [hb, hy])
  have h3 : LPut (xs ++ (ys ++ zc)) 32 zs (xs ++ (ys ++ zs)) := by
    have := LPut.app (p := xs ++ ys) (l := zc) (xs := zs) (r := []) (n := 32) (by simp [hx, hy]) (by rw [hc, hz])
    simpa using this
  exact .agg p0 (by rw [hx]; rfl) h1 (.agg p1 (by rw [hy]; rfl) h2 (.agg p2 (by rw [hz]; rfl) h3 .nil))
theorem rpC_set (x y z x' y' z' : Nat) : Fills ([(0, 16), (16, 16), (32, 16)].toArray[·]?) (rpC x y z) [(0, num16 x'), (1, num16 y'), (2, num16 z')] (rpC x' y' z') :=
  fill3R (cellsN_len _ _ _) (cellsN_len _ _ _) (cellsN_len _ _ _) (cellsN_len _ _ _) (cellsN_len _ _ _) (cellsN_len _ _ _) rfl rfl rfl
theorem rpC_y1 (x y z y' : Nat) : Fills ([(0, 16), (16, 16), (32, 16)].toArray[·]?) (rpC x y z) [(1, num16 y')] (rpC x y' z) :=
  .agg rfl (by rw [cellsN_len]; rfl) (LPut.app (cellsN_len _ _ _) (by rw [cellsN_len, cellsN_len])) .nil
attribute [irreducible] rpC
section
variable {md : Md} {N : Nat} {ops : Array Oper} {rest : List Oper} {Γ : Env} {C : World → Prop} {Q : Exit → Act → World → Prop} {d : Nat} {ty : TypeId} {pos : String} {af : Array Edge} {parts : Array (Nat × Operand)}
theorem Wl.buildRp {x y z : Nat} (hd : Nat.blt d N = true) (hp : Parts Γ parts.toList [(0, num16 x), (1, num16 y), (2, num16 z)]) (h : Wl rest Try.prog md ops N ((d, .agg (rpC x y z).toArray) :: Γ) C Q) :
    Wl (⟨some d, .build 39 parts, ty, pos, af, none⟩ :: rest) Try.prog md ops N Γ C Q := by
  refine Wl.build hd hp (fun _ => run_build_struct ?_) h
  have := rpC_set 0 0 0 x y z
  rw [← rp_zero] at this
  exact this
theorem Wl.buildRq {y : Nat} (hd : Nat.blt d N = true) (hp : Parts Γ parts.toList [(1, num16 y)]) (h : Wl rest Try.prog md ops N ((d, .agg (rpC 0 y 0).toArray) :: Γ) C Q) :
    Wl (⟨some d, .build 39 parts, ty, pos, af, none⟩ :: rest) Try.prog md ops N Γ C Q := by
  refine Wl.build hd hp (fun _ => run_build_struct ?_) h
  have := rpC_y1 0 0 0 y
  rw [← rp_zero] at this
  exact this
end
abbrev rpF (p : Ec.F × Ec.F × Ec.F) : List Value := rpC p.1.val p.2.1.val p.2.2.val
abbrev rpV (p : Ec.F × Ec.F × Ec.F) : Value := .agg (rpF p).toArray
set_option maxHeartbeats 8000000 in
theorem refOn (b : Nat) (x y : Ec.F) (w : World) (hF : FldV w b Prim.P256) : Calls Try.prog 24 #[mp b, num16 x.val, num16 y.val] w fun e w' => e = .returned (.bool (decide (y * y = x * x * x - (x + x + x) + curB))) ∧ Hp w [] w' := by
  have hb := hF.blk
  obtain ⟨l, h_l⟩ : ∃ q_ : Ec.F, q_ = y * y := ⟨_, rfl⟩
  obtain ⟨xx, h_xx⟩ : ∃ q_ : Ec.F, q_ = x * x := ⟨_, rfl⟩
  obtain ⟨xxx, h_xxx⟩ : ∃ q_ : Ec.F, q_ = xx * x := ⟨_, rfl⟩
  obtain ⟨x2, h_x2⟩ : ∃ q_ : Ec.F, q_ = x + x := ⟨_, rfl⟩
  obtain ⟨x3, h_x3⟩ : ∃ q_ : Ec.F, q_ = x2 + x := ⟨_, rfl⟩
  obtain ⟨d, h_d⟩ : ∃ q_ : Ec.F, q_ = xxx - x3 := ⟨_, rfl⟩
  obtain ⟨rr, h_rr⟩ : ∃ q_ : Ec.F, q_ = d + curB := ⟨_, rfl⟩
  rw [← h_xx, ← h_xxx, ← h_x2, ← h_x3, ← h_d, ← h_rr, ← h_l]
  refine enter (args := [_, _, _]) (Γ := [(0, _), (1, _), (2, _)]) Try.func24 Try.ntmps24 rfl (of_decide_eq_true rfl) (.cons rfl (.cons rfl (.cons rfl .nil))) ?_
  repeat' (first | (apply St.bagX 20 []; exact mixed; (decide +kernel); kernel_rfl) | (apply OpsX.nil) | (apply OpsX.b; exact rfl) | (apply OpsX.v; (intro X hX; change Wl [_] _ _ _ _ _ _ _; apply Wl.catX; (repeat (first | apply CatB.nil | apply CatB.cons)))) | (apply Gt.endX; exact rfl) | (apply EndX.new; intro c hc ho) | (apply EndX.on; exact rfl) | (apply EndX.off; exact rfl) | (apply EndX.nil'; apply Wl.catE; (repeat (first | apply CatB.nil | apply CatB.cons))) | (apply Wl.callQ (f := 44); exact rfl; (repeat (first | exact Evs.nil | apply Evs.cons rfl)); (intro wq hq; refine (hMul (hF.hp hq (by (repeat (first | exact trivial | exact hX.off (by omega) | refine ⟨by first | assumption | omega | (simp only; omega), ?_⟩)))) (by with_reducible assumption)).mono ?_; rintro e wr ⟨rfl, hr⟩; exact ⟨rfl, hq.keep hr⟩)) | (apply Wl.callQ (f := 46); exact rfl; (repeat (first | exact Evs.nil | apply Evs.cons rfl)); (intro wq hq; refine (hAdd (hF.hp hq (by (repeat (first | exact trivial | exact hX.off (by omega) | refine ⟨by first | assumption | omega | (simp only; omega), ?_⟩)))) (by with_reducible assumption)).mono ?_; rintro e wr ⟨rfl, hr⟩; exact ⟨rfl, hq.keep hr⟩)) | (apply Wl.callQ (f := 45); exact rfl; (repeat (first | exact Evs.nil | apply Evs.cons rfl)); (intro wq hq; refine (hSub (hF.hp hq (by (repeat (first | exact trivial | exact hX.off (by omega) | refine ⟨by first | assumption | omega | (simp only; omega), ?_⟩)))) (by with_reducible assumption)).mono ?_; rintro e wr ⟨rfl, hr⟩; exact ⟨rfl, hq.keep hr⟩)) | (apply Wl.callQ (f := 47); exact rfl; (repeat (first | exact Evs.nil | apply Evs.cons rfl)); (intro wq hq; refine (ref4b wq).mono ?_; rintro e wr ⟨rfl, hr⟩; exact ⟨rfl, hq.keep hr⟩)) | (apply Wl.eqlA; exact rfl; exact rfl; exact rfl; kernel_rfl; kernel_rfl; kernel_rfl; kernel_rfl; exact cell64 _; exact cell64 _; exact eq16F _ _) | (apply Wl.loadW; exact rfl; exact rfl; (repeat (first | exact List.Mem.head _ | apply List.Mem.tail)); exact rfl) | (apply Wl.storeW; exact rfl; exact rfl; (repeat (first | apply HSet.here | apply HSet.there)); exact rfl; (first | exact cellsN_len _ _ _ | exact rfl)) | (apply Wl.boxN; exact rfl; exact rfl; intro c hc ho) | (apply Wl.allocN; exact rfl; (first | exact z8 | exact z16 | exact z17 | exact z33 | exact z10); intro c hc ho) | (apply Wl.move; exact rfl; exact rfl) | (apply Wl.assign; exact rfl; exact rfl) | (apply Wl.nil) | (apply St.seq) | (apply St.region) | (apply St.ret) | (apply Gt.next) | (apply Gt.out1; exact rfl; exact rfl; intro w' hp) | (apply Wl.splitP; exact rfl; exact rfl; all_goals (intros; try (exfalso; omega))) | (apply Wl.splitB; exact rfl; exact rfl; all_goals intros) | (apply St.condP; exact rfl; all_goals (intros; try (exfalso; omega))) | (apply St.condB; exact rfl; all_goals intros))
  exact ⟨rfl, hp.drop (by simp; omega)⟩
theorem pdbl_zero {p : Ec.F × Ec.F × Ec.F} (h : p.2.2 = 0) : Ec.pdbl p = p := by unfold Ec.pdbl; rw [if_pos h]
theorem pdbl_nz {x y z : Ec.F} (h : ¬ z = 0) : Ec.pdbl (x, y, z) = (let w0 := x * x - z * z
  let w := w0 + w0 + w0
  let s := y * z
  let ys := y * s
  let q := x * ys
  let q4 := q + q + (q + q)
  let h := w * w - (q4 + q4)
  let hs := h * s
  let yy := ys * ys
  let y8 := yy + yy + (yy + yy) + (yy + yy + (yy + yy))
  let sss := s * (s * s)
  let z' := sss + sss + (sss + sss)
  (hs + hs, w * (q4 - h) - y8, z' + z')) := by unfold Ec.pdbl; rw [if_neg h]
set_option maxHeartbeats 16000000 in
theorem refDbl (b : Nat) (p : Ec.F × Ec.F × Ec.F) (w : World) (hF : FldV w b Prim.P256) : Calls Try.prog 32 #[mp b, rpV p] w fun e w' => e = .returned (rpV (Ec.pdbl p)) ∧ Hp w [] w' := by
  have hb := hF.blk
  obtain ⟨x, y, z⟩ := p
  refine enter (args := [_, _]) (Γ := [(0, _), (1, _)]) Try.func32 Try.ntmps32 rfl (of_decide_eq_true rfl) (.cons rfl (.cons rfl .nil)) ?_
  by_cases hz : z = 0
  · have hd : decide (z = 0) = true := decide_eq_true hz
    repeat' (first | (apply Wl.loadAH; exact rfl; exact rfl; (repeat (first | exact List.Mem.head _ | apply List.Mem.tail)); (first | exact rpC_x _ _ _ | exact rpC_y _ _ _ | exact rpC_z _ _ _ | exact LSub.whole (rpC_len _ _ _))) | (apply Wl.storeAll; exact rfl; exact rfl; (repeat (first | apply HSet.here | apply HSet.there)); (first | exact rpC_len _ _ _); (first | exact rfl | exact rpC_len _ _ _); (first | exact rpC_one _ _ _)) | (apply Wl.buildN; exact rfl; (repeat (first | exact Parts.nil | apply Parts.cons rfl)); (repeat (first | apply Fills.nil | (apply Fills.one; exact rfl; exact rfl; (repeat (first | apply LSet.z | apply LSet.s))) | (apply Fills.agg; exact rfl; exact rfl; (repeat (first | apply LPut.s | apply LPut.z | apply LOver.nil | apply LOver.cons))))); exact zero16) | (apply Wl.eqlA; exact rfl; exact rfl; exact rfl; kernel_rfl; kernel_rfl; kernel_rfl; kernel_rfl; exact cell64 _; exact cell64 _; exact eq16Z _) | (apply Gt.outC'; exact rfl; infer_instance; exact rfl; (repeat (first | exact List.Mem.head _ | apply List.Mem.tail)); (first | exact LSub.whole (rpC_len _ _ _)); intro w' hp) | (apply Wl.fieldAddrZ; exact rfl; exact rfl) | (apply Wl.boxA; exact rfl; exact rfl; intro c hc ho) | (apply Wl.alloc; exact rfl; intro c hc ho) | (apply Wl.nil) | (apply St.seq) | (apply St.region) | (apply St.condT; exact rfl; (first | with_reducible rfl | with_reducible assumption | decide)) | (apply St.ret) | (apply Gt.next) | (apply Gt.thenRet) | (apply Wl.splitP; exact rfl; exact rfl; all_goals (intros; try (exfalso; omega))) | (apply Wl.splitB; exact rfl; exact rfl; all_goals intros) | (apply St.condP; exact rfl; all_goals (intros; try (exfalso; omega))) | (apply St.condB; exact rfl; all_goals intros))
    rw [pdbl_zero hz]
    exact ⟨rfl, hp.drop (by simp; omega)⟩
  · have hd : decide (z = 0) = false := decide_eq_false hz
    obtain ⟨xx, h_xx⟩ : ∃ q_ : Ec.F, q_ = x * x := ⟨_, rfl⟩
    obtain ⟨zz, h_zz⟩ : ∃ q_ : Ec.F, q_ = z * z := ⟨_, rfl⟩
    obtain ⟨w0, h_w0⟩ : ∃ q_ : Ec.F, q_ = xx - zz := ⟨_, rfl⟩
    obtain ⟨w1, h_w1⟩ : ∃ q_ : Ec.F, q_ = w0 + w0 := ⟨_, rfl⟩
    obtain ⟨wv, h_wv⟩ : ∃ q_ : Ec.F, q_ = w1 + w0 := ⟨_, rfl⟩
    obtain ⟨s, h_s⟩ : ∃ q_ : Ec.F, q_ = y * z := ⟨_, rfl⟩
    obtain ⟨ys, h_ys⟩ : ∃ q_ : Ec.F, q_ = y * s := ⟨_, rfl⟩
    obtain ⟨q, h_q⟩ : ∃ q_ : Ec.F, q_ = x * ys := ⟨_, rfl⟩
    obtain ⟨q2, h_q2⟩ : ∃ q_ : Ec.F, q_ = q + q := ⟨_, rfl⟩
    obtain ⟨q4, h_q4⟩ : ∃ q_ : Ec.F, q_ = q2 + q2 := ⟨_, rfl⟩
    obtain ⟨ww, h_ww⟩ : ∃ q_ : Ec.F, q_ = wv * wv := ⟨_, rfl⟩
    obtain ⟨q8, h_q8⟩ : ∃ q_ : Ec.F, q_ = q4 + q4 := ⟨_, rfl⟩
    obtain ⟨h, h_h⟩ : ∃ q_ : Ec.F, q_ = ww - q8 := ⟨_, rfl⟩
    obtain ⟨hs', h_hs'⟩ : ∃ q_ : Ec.F, q_ = h * s := ⟨_, rfl⟩
    obtain ⟨yy, h_yy⟩ : ∃ q_ : Ec.F, q_ = ys * ys := ⟨_, rfl⟩
    obtain ⟨yy2, h_yy2⟩ : ∃ q_ : Ec.F, q_ = yy + yy := ⟨_, rfl⟩
    obtain ⟨yy4, h_yy4⟩ : ∃ q_ : Ec.F, q_ = yy2 + yy2 := ⟨_, rfl⟩
    obtain ⟨y8, h_y8⟩ : ∃ q_ : Ec.F, q_ = yy4 + yy4 := ⟨_, rfl⟩
    obtain ⟨ss, h_ss⟩ : ∃ q_ : Ec.F, q_ = s * s := ⟨_, rfl⟩
    obtain ⟨sss, h_sss⟩ : ∃ q_ : Ec.F, q_ = s * ss := ⟨_, rfl⟩
    obtain ⟨s2, h_s2⟩ : ∃ q_ : Ec.F, q_ = sss + sss := ⟨_, rfl⟩
    obtain ⟨zv, h_zv⟩ : ∃ q_ : Ec.F, q_ = s2 + s2 := ⟨_, rfl⟩
    obtain ⟨X3, h_X3⟩ : ∃ q_ : Ec.F, q_ = hs' + hs' := ⟨_, rfl⟩
    obtain ⟨d, h_d⟩ : ∃ q_ : Ec.F, q_ = q4 - h := ⟨_, rfl⟩
    obtain ⟨wd, h_wd⟩ : ∃ q_ : Ec.F, q_ = wv * d := ⟨_, rfl⟩
    obtain ⟨Y3, h_Y3⟩ : ∃ q_ : Ec.F, q_ = wd - y8 := ⟨_, rfl⟩
    obtain ⟨Z3, h_Z3⟩ : ∃ q_ : Ec.F, q_ = zv + zv := ⟨_, rfl⟩
    repeat' (first | (apply St.bagX 15 []; exact mixed; (decide +kernel); kernel_rfl) | (apply St.bagX 7 []; exact mixed; (decide +kernel); kernel_rfl) | (apply St.bagX 11 []; exact mixed; (decide +kernel); kernel_rfl) | (apply St.bagX 23 []; exact mixed; (decide +kernel); kernel_rfl) | (apply St.bagX 8 []; exact mixed; (decide +kernel); kernel_rfl) | (apply St.bagX 19 []; exact mixed; (decide +kernel); kernel_rfl) | (apply OpsX.nil) | (apply OpsX.b; exact rfl) | (apply OpsX.v; (intro X hX; change Wl [_] _ _ _ _ _ _ _; apply Wl.catX; (repeat (first | apply CatB.nil | apply CatB.cons)))) | (apply Gt.endX; exact rfl) | (apply EndX.new; intro c hc ho) | (apply EndX.on; exact rfl) | (apply EndX.off; exact rfl) | (apply EndX.nil'; apply Wl.catE; (repeat (first | apply CatB.nil | apply CatB.cons))) | (apply Wl.callQ (f := 44); exact rfl; (repeat (first | exact Evs.nil | apply Evs.cons rfl)); (intro wq hq; refine (hMul (hF.hp hq (by (repeat (first | exact trivial | exact hX.off (by omega) | refine ⟨by first | assumption | omega | (simp only; omega), ?_⟩)))) (by with_reducible assumption)).mono ?_; rintro e wr ⟨rfl, hr⟩; exact ⟨rfl, hq.keep hr⟩)) | (apply Wl.callQ (f := 46); exact rfl; (repeat (first | exact Evs.nil | apply Evs.cons rfl)); (intro wq hq; refine (hAdd (hF.hp hq (by (repeat (first | exact trivial | exact hX.off (by omega) | refine ⟨by first | assumption | omega | (simp only; omega), ?_⟩)))) (by with_reducible assumption)).mono ?_; rintro e wr ⟨rfl, hr⟩; exact ⟨rfl, hq.keep hr⟩)) | (apply Wl.callQ (f := 45); exact rfl; (repeat (first | exact Evs.nil | apply Evs.cons rfl)); (intro wq hq; refine (hSub (hF.hp hq (by (repeat (first | exact trivial | exact hX.off (by omega) | refine ⟨by first | assumption | omega | (simp only; omega), ?_⟩)))) (by with_reducible assumption)).mono ?_; rintro e wr ⟨rfl, hr⟩; exact ⟨rfl, hq.keep hr⟩)) | (apply Wl.loadAH; exact rfl; exact rfl; (repeat (first | exact List.Mem.head _ | apply List.Mem.tail)); (first | exact rpC_x _ _ _ | exact rpC_y _ _ _ | exact rpC_z _ _ _ | exact LSub.whole (rpC_len _ _ _))) | (apply Wl.storeAll; exact rfl; exact rfl; (repeat (first | apply HSet.here | apply HSet.there)); (first | exact rpC_len _ _ _); (first | exact rfl | exact rpC_len _ _ _); (first | exact rpC_one _ _ _)) | (apply Wl.buildRp; exact rfl; (focus ((repeat (first | exact Parts.nil | apply Parts.cons rfl)); done))) | (apply Wl.buildN; exact rfl; (repeat (first | exact Parts.nil | apply Parts.cons rfl)); (repeat (first | apply Fills.nil | (apply Fills.one; exact rfl; exact rfl; (repeat (first | apply LSet.z | apply LSet.s))) | (apply Fills.agg; exact rfl; exact rfl; (repeat (first | apply LPut.s | apply LPut.z | apply LOver.nil | apply LOver.cons))))); exact zero16) | (apply Wl.eqlA; exact rfl; exact rfl; exact rfl; kernel_rfl; kernel_rfl; kernel_rfl; kernel_rfl; exact cell64 _; exact cell64 _; exact eq16Z _) | (apply Gt.outC'; exact rfl; infer_instance; exact rfl; (repeat (first | exact List.Mem.head _ | apply List.Mem.tail)); (first | exact LSub.whole (rpC_len _ _ _)); intro w' hp) | (apply Wl.loadW; exact rfl; exact rfl; (repeat (first | exact List.Mem.head _ | apply List.Mem.tail)); exact rfl) | (apply Wl.storeW; exact rfl; exact rfl; (repeat (first | apply HSet.here | apply HSet.there)); exact rfl; (first | exact cellsN_len _ _ _ | exact rfl)) | (apply Wl.allocN; exact rfl; (first | exact z8 | exact z16 | exact z17 | exact z33 | exact z10); intro c hc ho) | (apply Wl.move; exact rfl; exact rfl) | (apply Wl.fieldAddr0; exact rfl; exact rfl) | (apply Wl.fieldAddrZ; exact rfl; exact rfl) | (apply Wl.boxA; exact rfl; exact rfl; intro c hc ho) | (apply Wl.alloc; exact rfl; intro c hc ho) | (apply Wl.nil) | (apply St.seq) | (apply St.region) | (apply St.condF; exact rfl; (first | with_reducible rfl | with_reducible assumption | decide)) | (apply St.ret) | (apply St.skip) | (apply Gt.next) | (apply Wl.splitP; exact rfl; exact rfl; all_goals (intros; try (exfalso; omega))) | (apply Wl.splitB; exact rfl; exact rfl; all_goals intros) | (apply St.condP; exact rfl; all_goals (intros; try (exfalso; omega))) | (apply St.condB; exact rfl; all_goals intros))
    rw [pdbl_nz hz]
    subst_vars
    exact ⟨rfl, hp.drop (by simp; omega)⟩
theorem pplus_l {p q : Ec.F × Ec.F × Ec.F} (h : p.2.2 = 0) : Ec.pplus p q = q := by unfold Ec.pplus; rw [if_pos h]
theorem pplus_r {p q : Ec.F × Ec.F × Ec.F} (h : ¬ p.2.2 = 0) (h' : q.2.2 = 0) : Ec.pplus p q = p := by unfold Ec.pplus; rw [if_neg h, if_pos h']
theorem pplus_nz {x1 y1 z1 x2 y2 z2 : Ec.F} (h1 : ¬ z1 = 0) (h2 : ¬ z2 = 0) : Ec.pplus (x1, y1, z1) (x2, y2, z2) = (let a1 := y1 * z2; let b1 := x1 * z2
  let u := y2 * z1 - a1; let v := x2 * z1 - b1
  if v = 0 then (if u = 0 then Ec.pdbl (x1, y1, z1) else (1, 1, 0)) else
  let zz := z1 * z2
  let vv := v * v
  let vvv := v * vv
  let r := vv * b1
  let a := u * u * zz - vvv - (r + r)
  (v * a, u * (r - a) - vvv * a1, vvv * zz)) := by unfold Ec.pplus; rw [if_neg h1, if_neg h2]
theorem rp110 : rpV (1, 1, 0) = .agg (rpC 1 1 0).toArray := by
  unfold rpV rpF
  simp only
  rw [val_one, val_zero]
set_option maxHeartbeats 16000000 in
theorem refPlus (b : Nat) (p q : Ec.F × Ec.F × Ec.F) (w : World) (hF : FldV w b Prim.P256) : Calls Try.prog 19 #[mp b, rpV p, rpV q] w fun e w' => e = .returned (rpV (Ec.pplus p q)) ∧ Hp w [] w' := by
  have hb := hF.blk
  obtain ⟨x1, y1, z1⟩ := p
  obtain ⟨x2, y2, z2⟩ := q
  refine enter (args := [_, _, _]) (Γ := [(0, _), (1, _), (2, _)]) Try.func19 Try.ntmps19 rfl (of_decide_eq_true rfl) (.cons rfl (.cons rfl (.cons rfl .nil))) ?_
  by_cases hz1 : z1 = 0
  · have hd1 : decide (z1 = 0) = true := decide_eq_true hz1
    repeat' (first | (apply Wl.loadAH; exact rfl; exact rfl; (repeat (first | exact List.Mem.head _ | apply List.Mem.tail)); (first | exact rpC_x _ _ _ | exact rpC_y _ _ _ | exact rpC_z _ _ _ | exact LSub.whole (rpC_len _ _ _))) | (apply Wl.storeAll; exact rfl; exact rfl; (repeat (first | apply HSet.here | apply HSet.there)); (first | exact rpC_len _ _ _); (first | exact rfl | exact rpC_len _ _ _); (first | exact rpC_one _ _ _)) | (apply Wl.buildN; exact rfl; (repeat (first | exact Parts.nil | apply Parts.cons rfl)); (repeat (first | apply Fills.nil | (apply Fills.one; exact rfl; exact rfl; (repeat (first | apply LSet.z | apply LSet.s))) | (apply Fills.agg; exact rfl; exact rfl; (repeat (first | apply LPut.s | apply LPut.z | apply LOver.nil | apply LOver.cons))))); exact zero16) | (apply Wl.eqlA; exact rfl; exact rfl; exact rfl; kernel_rfl; kernel_rfl; kernel_rfl; kernel_rfl; exact cell64 _; exact cell64 _; exact eq16Z _) | (apply Gt.outC'; exact rfl; infer_instance; exact rfl; (repeat (first | exact List.Mem.head _ | apply List.Mem.tail)); (first | exact LSub.whole (rpC_len _ _ _)); intro w' hp) | (apply Wl.fieldAddrZ; exact rfl; exact rfl) | (apply Wl.boxA; exact rfl; exact rfl; intro c hc ho) | (apply Wl.alloc; exact rfl; intro c hc ho) | (apply Wl.nil) | (apply St.seq) | (apply St.region) | (apply St.condT; exact rfl; (first | with_reducible rfl | with_reducible assumption | decide)) | (apply St.ret) | (apply Gt.next) | (apply Gt.thenRet) | (apply Wl.splitP; exact rfl; exact rfl; all_goals (intros; try (exfalso; omega))) | (apply Wl.splitB; exact rfl; exact rfl; all_goals intros) | (apply St.condP; exact rfl; all_goals (intros; try (exfalso; omega))) | (apply St.condB; exact rfl; all_goals intros))
    rw [pplus_l hz1]
    exact ⟨rfl, hp.drop (by simp; omega)⟩
  have hd1 : decide (z1 = 0) = false := decide_eq_false hz1
  by_cases hz2 : z2 = 0
  · have hd2 : decide (z2 = 0) = true := decide_eq_true hz2
    repeat' (first | (apply Wl.loadAH; exact rfl; exact rfl; (repeat (first | exact List.Mem.head _ | apply List.Mem.tail)); (first | exact rpC_x _ _ _ | exact rpC_y _ _ _ | exact rpC_z _ _ _ | exact LSub.whole (rpC_len _ _ _))) | (apply Wl.storeAll; exact rfl; exact rfl; (repeat (first | apply HSet.here | apply HSet.there)); (first | exact rpC_len _ _ _); (first | exact rfl | exact rpC_len _ _ _); (first | exact rpC_one _ _ _)) | (apply Wl.buildN; exact rfl; (repeat (first | exact Parts.nil | apply Parts.cons rfl)); (repeat (first | apply Fills.nil | (apply Fills.one; exact rfl; exact rfl; (repeat (first | apply LSet.z | apply LSet.s))) | (apply Fills.agg; exact rfl; exact rfl; (repeat (first | apply LPut.s | apply LPut.z | apply LOver.nil | apply LOver.cons))))); exact zero16) | (apply Wl.eqlA; exact rfl; exact rfl; exact rfl; kernel_rfl; kernel_rfl; kernel_rfl; kernel_rfl; exact cell64 _; exact cell64 _; exact eq16Z _) | (apply Gt.outC'; exact rfl; infer_instance; exact rfl; (repeat (first | exact List.Mem.head _ | apply List.Mem.tail)); (first | exact LSub.whole (rpC_len _ _ _)); intro w' hp) | (apply Wl.fieldAddrZ; exact rfl; exact rfl) | (apply Wl.boxA; exact rfl; exact rfl; intro c hc ho) | (apply Wl.alloc; exact rfl; intro c hc ho) | (apply Wl.nil) | (apply St.seq) | (apply St.region) | (apply St.condT; exact rfl; (first | with_reducible rfl | with_reducible assumption | decide)) | (apply St.condF; exact rfl; (first | with_reducible rfl | with_reducible assumption | decide)) | (apply St.ret) | (apply St.skip) | (apply Gt.next) | (apply Gt.thenRet) | (apply Wl.splitP; exact rfl; exact rfl; all_goals (intros; try (exfalso; omega))) | (apply Wl.splitB; exact rfl; exact rfl; all_goals intros) | (apply St.condP; exact rfl; all_goals (intros; try (exfalso; omega))) | (apply St.condB; exact rfl; all_goals intros))
    rw [pplus_r hz1 hz2]
    exact ⟨rfl, hp.drop (by simp; omega)⟩
  have hd2 : decide (z2 = 0) = false := decide_eq_false hz2
  obtain ⟨a1, h_a1⟩ : ∃ q_ : Ec.F, q_ = y1 * z2 := ⟨_, rfl⟩
  obtain ⟨b1, h_b1⟩ : ∃ q_ : Ec.F, q_ = x1 * z2 := ⟨_, rfl⟩
  obtain ⟨c1, h_c1⟩ : ∃ q_ : Ec.F, q_ = y2 * z1 := ⟨_, rfl⟩
  obtain ⟨u, h_u⟩ : ∃ q_ : Ec.F, q_ = c1 - a1 := ⟨_, rfl⟩
  obtain ⟨d1, h_d1⟩ : ∃ q_ : Ec.F, q_ = x2 * z1 := ⟨_, rfl⟩
  obtain ⟨v, h_v⟩ : ∃ q_ : Ec.F, q_ = d1 - b1 := ⟨_, rfl⟩
  rw [pplus_nz hz1 hz2]
  simp only
  rw [← h_a1, ← h_b1, ← h_c1, ← h_u, ← h_d1, ← h_v]
  by_cases hv0 : v = 0
  · have hd3 : decide (v = 0) = true := decide_eq_true hv0
    rw [if_pos hv0]
    by_cases hu0 : u = 0
    · have hd4 : decide (u = 0) = true := decide_eq_true hu0
      rw [if_pos hu0]
      repeat' (first | (apply St.bagX 14 []; exact mixed; (decide +kernel); kernel_rfl) | (apply St.bagX 20 []; exact mixed; (decide +kernel); kernel_rfl) | (apply OpsX.nil) | (apply OpsX.b; exact rfl) | (apply OpsX.v; (intro X hX; change Wl [_] _ _ _ _ _ _ _; apply Wl.catX; (repeat (first | apply CatB.nil | apply CatB.cons)))) | (apply Gt.endX; exact rfl) | (apply EndX.new; intro c hc ho) | (apply EndX.on; exact rfl) | (apply EndX.off; exact rfl) | (apply EndX.nil'; apply Wl.catE; (repeat (first | apply CatB.nil | apply CatB.cons))) | (apply Wl.callQ (f := 44); exact rfl; (repeat (first | exact Evs.nil | apply Evs.cons rfl)); (intro wq hq; refine (hMul (hF.hp hq (by (repeat (first | exact trivial | exact hX.off (by omega) | refine ⟨by first | assumption | omega | (simp only; omega), ?_⟩)))) (by with_reducible assumption)).mono ?_; rintro e wr ⟨rfl, hr⟩; exact ⟨rfl, hq.keep hr⟩)) | (apply Wl.callQ (f := 45); exact rfl; (repeat (first | exact Evs.nil | apply Evs.cons rfl)); (intro wq hq; refine (hSub (hF.hp hq (by (repeat (first | exact trivial | exact hX.off (by omega) | refine ⟨by first | assumption | omega | (simp only; omega), ?_⟩)))) (by with_reducible assumption)).mono ?_; rintro e wr ⟨rfl, hr⟩; exact ⟨rfl, hq.keep hr⟩)) | (apply Wl.callQ (f := 32); exact rfl; (repeat (first | exact Evs.nil | apply Evs.cons rfl)); (intro wq hq; refine (refDbl _ (_, _, _) wq (hF.hp hq (by (repeat (first | exact trivial | exact hX.off (by omega) | refine ⟨by first | assumption | omega | (simp only; omega), ?_⟩))))).mono ?_; rintro e wr ⟨rfl, hr⟩; exact ⟨rfl, hq.keep hr⟩)) | (apply Wl.loadAH; exact rfl; exact rfl; (repeat (first | exact List.Mem.head _ | apply List.Mem.tail)); (first | exact rpC_x _ _ _ | exact rpC_y _ _ _ | exact rpC_z _ _ _ | exact LSub.whole (rpC_len _ _ _))) | (apply Wl.storeAll; exact rfl; exact rfl; (repeat (first | apply HSet.here | apply HSet.there)); (first | exact rpC_len _ _ _); (first | exact rfl | exact rpC_len _ _ _); (first | exact rpC_one _ _ _)) | (apply Wl.buildN; exact rfl; (repeat (first | exact Parts.nil | apply Parts.cons rfl)); (repeat (first | apply Fills.nil | (apply Fills.one; exact rfl; exact rfl; (repeat (first | apply LSet.z | apply LSet.s))) | (apply Fills.agg; exact rfl; exact rfl; (repeat (first | apply LPut.s | apply LPut.z | apply LOver.nil | apply LOver.cons))))); exact zero16) | (apply Wl.eqlA; exact rfl; exact rfl; exact rfl; kernel_rfl; kernel_rfl; kernel_rfl; kernel_rfl; exact cell64 _; exact cell64 _; exact eq16Z _) | (apply Gt.outC'; exact rfl; infer_instance; exact rfl; (repeat (first | exact List.Mem.head _ | apply List.Mem.tail)); (first | exact LSub.whole (rpC_len _ _ _)); intro w' hp) | (apply Wl.loadW; exact rfl; exact rfl; (repeat (first | exact List.Mem.head _ | apply List.Mem.tail)); exact rfl) | (apply Wl.storeW; exact rfl; exact rfl; (repeat (first | apply HSet.here | apply HSet.there)); exact rfl; (first | exact cellsN_len _ _ _ | exact rfl)) | (apply Wl.move; exact rfl; exact rfl) | (apply Wl.fieldAddr0; exact rfl; exact rfl) | (apply Wl.fieldAddrZ; exact rfl; exact rfl) | (apply Wl.boxA; exact rfl; exact rfl; intro c hc ho) | (apply Wl.alloc; exact rfl; intro c hc ho) | (apply Wl.nil) | (apply St.seq) | (apply St.region) | (apply St.condT; exact rfl; (first | with_reducible rfl | with_reducible assumption | decide)) | (apply St.condF; exact rfl; (first | with_reducible rfl | with_reducible assumption | decide)) | (apply St.ret) | (apply St.skip) | (apply Gt.next) | (apply Gt.thenRet) | (apply Wl.splitP; exact rfl; exact rfl; all_goals (intros; try (exfalso; omega))) | (apply Wl.splitB; exact rfl; exact rfl; all_goals intros) | (apply St.condP; exact rfl; all_goals (intros; try (exfalso; omega))) | (apply St.condB; exact rfl; all_goals intros))
      exact ⟨rfl, hp.drop (by simp; omega)⟩
    · have hd4 : decide (u = 0) = false := decide_eq_false hu0
      rw [if_neg hu0, rp110]
      repeat' (first | (apply St.bagX 14 []; exact mixed; (decide +kernel); kernel_rfl) | (apply St.bagX 20 []; exact mixed; (decide +kernel); kernel_rfl) | (apply OpsX.nil) | (apply OpsX.b; exact rfl) | (apply OpsX.v; (intro X hX; change Wl [_] _ _ _ _ _ _ _; apply Wl.catX; (repeat (first | apply CatB.nil | apply CatB.cons)))) | (apply Gt.endX; exact rfl) | (apply EndX.new; intro c hc ho) | (apply EndX.on; exact rfl) | (apply EndX.off; exact rfl) | (apply EndX.nil'; apply Wl.catE; (repeat (first | apply CatB.nil | apply CatB.cons))) | (apply Wl.callQ (f := 44); exact rfl; (repeat (first | exact Evs.nil | apply Evs.cons rfl)); (intro wq hq; refine (hMul (hF.hp hq (by (repeat (first | exact trivial | exact hX.off (by omega) | refine ⟨by first | assumption | omega | (simp only; omega), ?_⟩)))) (by with_reducible assumption)).mono ?_; rintro e wr ⟨rfl, hr⟩; exact ⟨rfl, hq.keep hr⟩)) | (apply Wl.callQ (f := 45); exact rfl; (repeat (first | exact Evs.nil | apply Evs.cons rfl)); (intro wq hq; refine (hSub (hF.hp hq (by (repeat (first | exact trivial | exact hX.off (by omega) | refine ⟨by first | assumption | omega | (simp only; omega), ?_⟩)))) (by with_reducible assumption)).mono ?_; rintro e wr ⟨rfl, hr⟩; exact ⟨rfl, hq.keep hr⟩)) | (apply Wl.loadAH; exact rfl; exact rfl; (repeat (first | exact List.Mem.head _ | apply List.Mem.tail)); (first | exact rpC_x _ _ _ | exact rpC_y _ _ _ | exact rpC_z _ _ _ | exact LSub.whole (rpC_len _ _ _))) | (apply Wl.storeAll; exact rfl; exact rfl; (repeat (first | apply HSet.here | apply HSet.there)); (first | exact rpC_len _ _ _); (first | exact rfl | exact rpC_len _ _ _); (first | exact rpC_one _ _ _)) | (apply Wl.buildRp; exact rfl; (focus ((repeat (first | exact Parts.nil | apply Parts.cons rfl)); done))) | (apply Wl.buildN; exact rfl; (repeat (first | exact Parts.nil | apply Parts.cons rfl)); (repeat (first | apply Fills.nil | (apply Fills.one; exact rfl; exact rfl; (repeat (first | apply LSet.z | apply LSet.s))) | (apply Fills.agg; exact rfl; exact rfl; (repeat (first | apply LPut.s | apply LPut.z | apply LOver.nil | apply LOver.cons))))); exact zero16) | (apply Wl.eqlA; exact rfl; exact rfl; exact rfl; kernel_rfl; kernel_rfl; kernel_rfl; kernel_rfl; exact cell64 _; exact cell64 _; exact eq16Z _) | (apply Gt.outC'; exact rfl; infer_instance; exact rfl; (repeat (first | exact List.Mem.head _ | apply List.Mem.tail)); (first | exact LSub.whole (rpC_len _ _ _)); intro w' hp) | (apply Wl.loadW; exact rfl; exact rfl; (repeat (first | exact List.Mem.head _ | apply List.Mem.tail)); exact rfl) | (apply Wl.storeW; exact rfl; exact rfl; (repeat (first | apply HSet.here | apply HSet.there)); exact rfl; (first | exact cellsN_len _ _ _ | exact rfl)) | (apply Wl.buildN; exact rfl; (repeat (first | exact Parts.nil | apply Parts.cons rfl)); (repeat (first | apply Fills.nil | (apply Fills.one; exact rfl; exact rfl; (repeat (first | apply LSet.z | apply LSet.s))) | (apply Fills.agg; exact rfl; exact rfl; (repeat (first | apply LPut.s | apply LPut.z | apply LOver.nil | apply LOver.cons))))); (first | exact one8 | exact zero8 | exact two8 | exact one16)) | (apply Wl.move; exact rfl; exact rfl) | (apply Wl.fieldAddr0; exact rfl; exact rfl) | (apply Wl.fieldAddrZ; exact rfl; exact rfl) | (apply Wl.boxA; exact rfl; exact rfl; intro c hc ho) | (apply Wl.alloc; exact rfl; intro c hc ho) | (apply Wl.nil) | (apply St.seq) | (apply St.region) | (apply St.condT; exact rfl; (first | with_reducible rfl | with_reducible assumption | decide)) | (apply St.condF; exact rfl; (first | with_reducible rfl | with_reducible assumption | decide)) | (apply St.ret) | (apply St.skip) | (apply Gt.next) | (apply Gt.thenRet) | (apply Wl.splitP; exact rfl; exact rfl; all_goals (intros; try (exfalso; omega))) | (apply Wl.splitB; exact rfl; exact rfl; all_goals intros) | (apply St.condP; exact rfl; all_goals (intros; try (exfalso; omega))) | (apply St.condB; exact rfl; all_goals intros))
      exact ⟨rfl, hp.drop (by simp; omega)⟩
  · have hd3 : decide (v = 0) = false := decide_eq_false hv0
    rw [if_neg hv0]
    obtain ⟨zz, h_zz⟩ : ∃ q_ : Ec.F, q_ = z1 * z2 := ⟨_, rfl⟩
    obtain ⟨vv, h_vv⟩ : ∃ q_ : Ec.F, q_ = v * v := ⟨_, rfl⟩
    obtain ⟨vvv, h_vvv⟩ : ∃ q_ : Ec.F, q_ = v * vv := ⟨_, rfl⟩
    obtain ⟨r, h_r⟩ : ∃ q_ : Ec.F, q_ = vv * b1 := ⟨_, rfl⟩
    obtain ⟨uu, h_uu⟩ : ∃ q_ : Ec.F, q_ = u * u := ⟨_, rfl⟩
    obtain ⟨uz, h_uz⟩ : ∃ q_ : Ec.F, q_ = uu * zz := ⟨_, rfl⟩
    obtain ⟨uv, h_uv⟩ : ∃ q_ : Ec.F, q_ = uz - vvv := ⟨_, rfl⟩
    obtain ⟨rr, h_rr⟩ : ∃ q_ : Ec.F, q_ = r + r := ⟨_, rfl⟩
    obtain ⟨a, h_a⟩ : ∃ q_ : Ec.F, q_ = uv - rr := ⟨_, rfl⟩
    obtain ⟨X3, h_X3⟩ : ∃ q_ : Ec.F, q_ = v * a := ⟨_, rfl⟩
    obtain ⟨ra, h_ra⟩ : ∃ q_ : Ec.F, q_ = r - a := ⟨_, rfl⟩
    obtain ⟨ur, h_ur⟩ : ∃ q_ : Ec.F, q_ = u * ra := ⟨_, rfl⟩
    obtain ⟨vy, h_vy⟩ : ∃ q_ : Ec.F, q_ = vvv * a1 := ⟨_, rfl⟩
    obtain ⟨Y3, h_Y3⟩ : ∃ q_ : Ec.F, q_ = ur - vy := ⟨_, rfl⟩
    obtain ⟨Z3, h_Z3⟩ : ∃ q_ : Ec.F, q_ = vvv * zz := ⟨_, rfl⟩
    rw [← h_zz, ← h_vv, ← h_vvv, ← h_r, ← h_uu, ← h_uz, ← h_uv, ← h_rr, ← h_a, ← h_X3, ← h_ra, ← h_ur, ← h_vy, ← h_Y3, ← h_Z3]
    repeat' (first | (apply St.bagX 14 []; exact mixed; (decide +kernel); kernel_rfl) | (apply St.bagX 20 []; exact mixed; (decide +kernel); kernel_rfl) | (apply St.bagX 17 []; exact mixed; (decide +kernel); kernel_rfl) | (apply OpsX.nil) | (apply OpsX.b; exact rfl) | (apply OpsX.v; (intro X hX; change Wl [_] _ _ _ _ _ _ _; apply Wl.catX; (repeat (first | apply CatB.nil | apply CatB.cons)))) | (apply Gt.endX; exact rfl) | (apply EndX.new; intro c hc ho) | (apply EndX.on; exact rfl) | (apply EndX.off; exact rfl) | (apply EndX.nil'; apply Wl.catE; (repeat (first | apply CatB.nil | apply CatB.cons))) | (apply Wl.callQ (f := 44); exact rfl; (repeat (first | exact Evs.nil | apply Evs.cons rfl)); (intro wq hq; refine (hMul (hF.hp hq (by (repeat (first | exact trivial | exact hX.off (by omega) | refine ⟨by first | assumption | omega | (simp only; omega), ?_⟩)))) (by with_reducible assumption)).mono ?_; rintro e wr ⟨rfl, hr⟩; exact ⟨rfl, hq.keep hr⟩)) | (apply Wl.callQ (f := 46); exact rfl; (repeat (first | exact Evs.nil | apply Evs.cons rfl)); (intro wq hq; refine (hAdd (hF.hp hq (by (repeat (first | exact trivial | exact hX.off (by omega) | refine ⟨by first | assumption | omega | (simp only; omega), ?_⟩)))) (by with_reducible assumption)).mono ?_; rintro e wr ⟨rfl, hr⟩; exact ⟨rfl, hq.keep hr⟩)) | (apply Wl.callQ (f := 45); exact rfl; (repeat (first | exact Evs.nil | apply Evs.cons rfl)); (intro wq hq; refine (hSub (hF.hp hq (by (repeat (first | exact trivial | exact hX.off (by omega) | refine ⟨by first | assumption | omega | (simp only; omega), ?_⟩)))) (by with_reducible assumption)).mono ?_; rintro e wr ⟨rfl, hr⟩; exact ⟨rfl, hq.keep hr⟩)) | (apply Wl.loadAH; exact rfl; exact rfl; (repeat (first | exact List.Mem.head _ | apply List.Mem.tail)); (first | exact rpC_x _ _ _ | exact rpC_y _ _ _ | exact rpC_z _ _ _ | exact LSub.whole (rpC_len _ _ _))) | (apply Wl.storeAll; exact rfl; exact rfl; (repeat (first | apply HSet.here | apply HSet.there)); (first | exact rpC_len _ _ _); (first | exact rfl | exact rpC_len _ _ _); (first | exact rpC_one _ _ _)) | (apply Wl.buildRp; exact rfl; (focus ((repeat (first | exact Parts.nil | apply Parts.cons rfl)); done))) | (apply Wl.buildN; exact rfl; (repeat (first | exact Parts.nil | apply Parts.cons rfl)); (repeat (first | apply Fills.nil | (apply Fills.one; exact rfl; exact rfl; (repeat (first | apply LSet.z | apply LSet.s))) | (apply Fills.agg; exact rfl; exact rfl; (repeat (first | apply LPut.s | apply LPut.z | apply LOver.nil | apply LOver.cons))))); exact zero16) | (apply Wl.eqlA; exact rfl; exact rfl; exact rfl; kernel_rfl; kernel_rfl; kernel_rfl; kernel_rfl; exact cell64 _; exact cell64 _; exact eq16Z _) | (apply Gt.outC'; exact rfl; infer_instance; exact rfl; (repeat (first | exact List.Mem.head _ | apply List.Mem.tail)); (first | exact LSub.whole (rpC_len _ _ _)); intro w' hp) | (apply Wl.loadW; exact rfl; exact rfl; (repeat (first | exact List.Mem.head _ | apply List.Mem.tail)); exact rfl) | (apply Wl.storeW; exact rfl; exact rfl; (repeat (first | apply HSet.here | apply HSet.there)); exact rfl; (first | exact cellsN_len _ _ _ | exact rfl)) | (apply Wl.allocN; exact rfl; (first | exact z8 | exact z16 | exact z17 | exact z33 | exact z10); intro c hc ho) | (apply Wl.move; exact rfl; exact rfl) | (apply Wl.fieldAddr0; exact rfl; exact rfl) | (apply Wl.fieldAddrZ; exact rfl; exact rfl) | (apply Wl.boxA; exact rfl; exact rfl; intro c hc ho) | (apply Wl.alloc; exact rfl; intro c hc ho) | (apply Wl.nil) | (apply St.seq) | (apply St.region) | (apply St.condF; exact rfl; (first | with_reducible rfl | with_reducible assumption | decide)) | (apply St.ret) | (apply St.skip) | (apply Gt.next) | (apply Wl.splitP; exact rfl; exact rfl; all_goals (intros; try (exfalso; omega))) | (apply Wl.splitB; exact rfl; exact rfl; all_goals intros) | (apply St.condP; exact rfl; all_goals (intros; try (exfalso; omega))) | (apply St.condB; exact rfl; all_goals intros))
    exact ⟨rfl, hp.drop (by simp; omega)⟩
end Go.Proofs.Ytfaobdakpbpkbaa
