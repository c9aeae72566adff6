/-
  CurveOn: its walk. Conditions: numbers are below 2^256.
-/
import Derived.Test.YtfaobdakpbpkbaaLaw04s
namespace Go.Proofs.Ytfaobdakpbpkbaa
open Go.RowKit Go.Pt
attribute [local irreducible] Prim.P256 Prim.N256
section
variable {k bm b X Y : Nat} {w : World}
theorem gOnC (hV : CurV w k bm) (hX : X < W256) (hY : Y < W256) {r : Bool} (e : r = onB X Y) : Calls Try.prog 17 #[mp k, .agg (poC X Y false).toArray] w fun e w' => e = .returned (.bool r) ∧ Hp w [] w' := by
  have := curOnC k bm X Y false w hV hX hY
  rw [Bool.not_false, Bool.true_and, ← e] at this
  exact this
theorem gOnR (hF : FldV w b Prim.P256) (hX : X < Prim.P256) (hY : Y < Prim.P256) {r : Bool} (e : r = onB X Y) : Calls Try.prog 24 #[mp b, num16 X, num16 Y] w fun e w' => e = .returned (.bool r) ∧ Hp w [] w' := by
  have := refOn b (nF X) (nF Y) w hF
  rw [nF_val, nF_val, Nat.mod_eq_of_lt hX, Nat.mod_eq_of_lt hY] at this
  have e2 : onB X Y = decide (nF Y * nF Y = nF X * nF X * nF X - (nF X + nF X + nF X) + curB) := by
    unfold onB
    rw [decide_eq_true hX, decide_eq_true hY, Bool.true_and, Bool.true_and]
  rw [← e2, ← e] at this
  exact this
theorem gSubL {a c s : Nat} (ha : a < W256) (hc : c < W256) (e : s = (a + W256 - c) % W256) (w : World) : Calls Try.prog 25 #[numV a, numV c] w fun e w' => e = .returned (.tuple #[numV s, .int .u32 (if a < c then 1 else 0 : Nat)]) ∧ Hp w [] w' := e ▸ limbSub a c ha hc w
theorem gAddL {a c s : Nat} (ha : a < W256) (hc : c < W256) (e : s = (a + c) % W256) (w : World) : Calls Try.prog 26 #[numV a, numV c] w fun e w' => e = .returned (.tuple #[numV s, .int .u32 ((a + c) / W256 : Nat)]) ∧ Hp w [] w' := e ▸ limbAdd a c ha hc w
end
theorem poD_y1 {A B : Ec.Pt} (hA : A.isNone = false) (hB : B = Ec.neg A) : LPut (poD A) 8 (cellsN .u32 8 (dg W32 (poY B))) (poD B) := by
  match A, hA with
  | some (x, y), _ =>
    subst hB
    show LPut (poD (some (x, y))) 8 (cellsN .u32 8 (dg W32 (-y).val)) (poD (some (x, -y)))
    rw [poD_some, poD_some]
    unfold poC
    exact LPut.app (cellsN_len _ _ _) (by rw [cellsN_len, cellsN_len])
theorem poD_x1 {A : Ec.Pt} (hA : A.isNone = false) (h : Nat) : LPut (poD A) 0 (cellsN .u32 8 (dg W32 h)) (poC h (poY A) false) := by
  match A, hA with
  | some (x, y), _ =>
    rw [poD_some]
    unfold poC
    exact LPut.app (p := []) rfl (by rw [cellsN_len, cellsN_len])
theorem negY {A B : Ec.Pt} (oA : OnP A) (hA : A.isNone = false) {n : Nat} (h : A = sm3 n (some curG)) (hB : B = Ec.neg A) : poY B = (Prim.P256 + W256 - poY A) % W256 := by
  match A, hA, oA, h, hB with
  | some (x, y), _, oA, h, hB =>
    subst hB
    have hy : y ≠ 0 := by
      intro e
      subst e
      have := no_half oA n h (Ec.tang_0 x)
      cases this
    show (-y).val = (Prim.P256 + W256 - y.val) % W256
    have h0 : 0 < y.val := Nat.pos_of_ne_zero fun e => hy (Fin.ext (e.trans val_zero.symm))
    have h1 : (-y).val = (Prim.P256 - y.val) % Prim.P256 := rfl
    have hp := pW
    have hl := y.isLt
    rw [h1, Nat.mod_eq_of_lt (by omega), show Prim.P256 + W256 - y.val = (Prim.P256 - y.val) + W256 by omega, Nat.add_mod_right, Nat.mod_eq_of_lt (by omega)]
theorem highX (x : Nat) (hx : x < W256) : (x + Prim.P256) % W256 ≠ x := by
  have hp := pW
  have h3 := p3
  intro e
  rcases Nat.lt_or_ge (x + Prim.P256) W256 with h | h
  · rw [Nat.mod_eq_of_lt h] at e; omega
  · rw [Nat.mod_eq_sub_mod h, Nat.mod_eq_of_lt (by omega)] at e; omega
theorem eqN {a c : Nat} (ha : a < W256) (hc : c < W256) (h : a ≠ c) : false = true ↔ ∀ j, j < 8 → dg W32 a j = dg W32 c j := by
  rw [← d8_inj ha hc]
  simp [h]
theorem onB_lt {X Y : Nat} (h : onB X Y = true) : X < Prim.P256 := by
  unfold onB at h
  rw [Bool.and_eq_true] at h
  exact of_decide_eq_true h.1
theorem onB_ge {X Y : Nat} (h : ¬ (X < Prim.P256 ∧ Y < Prim.P256)) : onB X Y = false := by
  unfold onB
  by_cases hx : X < Prim.P256
  · rw [decide_eq_false (fun hy => h ⟨hx, hy⟩ : ¬ Y < Prim.P256), Bool.false_and, Bool.and_false]
  · rw [decide_eq_false hx, Bool.false_and]
theorem cmp_k {a c : Nat} {k : Int} (e : cmpN a c = k) : decide (k < 0) = decide (a < c) := by
  subst e
  by_cases h : a < c
  · rw [cmp_lt h, decide_eq_true h]; rfl
  · have := cmp_ge h
    rw [decide_eq_false h, decide_eq_false (by omega)]
set_option maxHeartbeats 16000000 in
theorem on04 (n x y : Nat) (w : World) (hn : n < W256) (hx : x < W256) (hy : y < W256) : Calls Try.prog 5 #[numV n, numV x, numV y] w fun e w' => e = .returned (.bool true) ∧ Hp w [] w' := by
  refine enter (args := [_, _, _]) (Γ := [(0, _), (1, _), (2, _)]) Try.func5 Try.ntmps5 rfl (of_decide_eq_true rfl) (.cons rfl (.cons rfl (.cons rfl .nil))) ?_
  repeat' (first | (apply Wl.boxN; exact rfl; exact rfl; intro c hc ho) | (apply Wl.assign; exact rfl; exact rfl) | (apply Wl.nil) | (apply St.seq) | (apply St.region) | (apply Gt.next) | (apply Wl.splitP; exact rfl; exact rfl; all_goals (intros; try (exfalso; omega))) | (apply Wl.splitB; exact rfl; exact rfl; all_goals intros) | (apply St.condP; exact rfl; all_goals (intros; try (exfalso; omega))) | (apply St.condB; exact rfl; all_goals intros))
  rename_i c1 h1 o1 c2 h2 o2
  generalize c = c3 at *
  apply Wl.callQ
  exact rfl
  (repeat (first | exact Evs.nil | apply Evs.cons rfl))
  · intro wq hq
    refine (fit04 wq).mono ?_
    rintro e wr ⟨rfl, hr⟩
    exact ⟨rfl, hq.keep hr⟩
  repeat' (first | (apply Wl.not; exact rfl; exact rfl) | (apply Wl.nil) | (apply St.seq) | (apply St.region) | (apply St.condF; exact rfl; (first | with_reducible rfl | with_reducible assumption | decide)) | (apply St.skip) | (apply Gt.next) | (apply Wl.splitP; exact rfl; exact rfl; all_goals (intros; try (exfalso; omega))) | (apply Wl.splitB; exact rfl; exact rfl; all_goals intros) | (apply St.condP; exact rfl; all_goals (intros; try (exfalso; omega))) | (apply St.condB; exact rfl; all_goals intros))
  apply Wl.callC
  · exact rfl
  · (repeat (first | exact Evs.nil | apply Evs.cons rfl))
  intro wq hq; refine (curNew wq).mono ?_; rintro e wr ⟨k, bm, rfl, hk, hbm, hV, hr⟩; refine ⟨_, _, rfl, hpRb (hq.keep hr), ?_⟩
  have hu1 : Upd (fun k => w.heap.size ≤ k) w wr := hpOn (hq.keep hr) (Upd.refl _ _) (by simp; omega)
  obtain ⟨hkl, hbl⟩ := hV.lt
  have hs1 := hq.upd.size
  have l1 := hq.own.lt (.tail _ (.tail _ (.head _)))
  have l2 := hq.own.lt (.tail _ (.head _))
  have l3 := hq.own.lt (.head _)
  simp only at l1 l2 l3
  clear hq hr
  repeat' (first | (apply Wl.callQ (f := 10); exact rfl; (repeat (first | exact Evs.nil | apply Evs.cons rfl)); (intro wq hq; refine (ref4P wq).mono ?_; rintro e wr ⟨rfl, hr⟩; exact ⟨rfl, hq.keep hr⟩)) | (apply Wl.splitP; exact rfl; exact rfl; all_goals (intros; try (exfalso; omega))) | (apply Wl.splitB; exact rfl; exact rfl; all_goals intros) | (apply St.condP; exact rfl; all_goals (intros; try (exfalso; omega))) | (apply St.condB; exact rfl; all_goals intros))
  apply Wl.callC
  · exact rfl
  · (repeat (first | exact Evs.nil | apply Evs.cons rfl))
  intro wq2 hq
  refine (newFieldP wq2).mono ?_
  rintro e w2 ⟨b, rfl, hbn, hF, hr⟩
  have hV := hV.hp (hq.keep hr) ⟨by simp only; omega, by simp only; omega, by simp only; omega, trivial⟩ ⟨by simp only; omega, by simp only; omega, by simp only; omega, trivial⟩
  refine ⟨_, _, rfl, hpRb (hq.keep hr), ?_⟩
  have hu : Upd (fun k => w.heap.size ≤ k) w w2 := hpOn (hq.keep hr) hu1 (by simp; omega)
  have hbl2 := hF.blk
  obtain ⟨hkl, hbl⟩ := hV.lt
  have hs2 := hq.upd.size
  clear hq hr
  obtain ⟨G, hGe⟩ : ∃ G, G = some curG := ⟨_, rfl⟩
  obtain ⟨A, hAe⟩ : ∃ A, A = sm3 n (some curG) := ⟨_, rfl⟩
  obtain ⟨B, hBe⟩ : ∃ B, B = Ec.neg A := ⟨_, rfl⟩
  have oG : OnP (some curG) := onG
  have oA : OnP A := hAe ▸ on_sm onG n
  have oB : OnP B := hBe ▸ Ec.neg_on oA
  have hAB : none = add3 A B := by rw [hBe]; exact (Ec.neg_cancel A).symm
  obtain ⟨v, hv⟩ : ∃ v, v = onB x y := ⟨_, rfl⟩
  have hvv : (!(v == v)) = false := by cases v <;> rfl
  obtain ⟨k1, hk1⟩ : ∃ k1, cmpN x Prim.P256 = k1 := ⟨_, rfl⟩
  obtain ⟨k2, hk2⟩ : ∃ k2, cmpN y Prim.P256 = k2 := ⟨_, rfl⟩
  have d1 := cmp_k hk1
  have d2 := cmp_k hk2
  have pW' := pW
  obtain ⟨xh, xhe⟩ : ∃ xh, xh = (poX A + Prim.P256) % W256 := ⟨_, rfl⟩
  have xhW : xh < W256 := xhe ▸ Nat.mod_lt _ (by decide)
  have pxW := poX_W A
  have pyW := poY_W A
  have xhne : xh ≠ poX A := xhe ▸ highX _ pxW
  have hEq := eqN xhW pxW xhne
  obtain ⟨u, hu2⟩ : ∃ u, u = onB xh (poY A) := ⟨_, rfl⟩
  obtain ⟨k3, hk3⟩ : ∃ k3, cmpN xh Prim.P256 = k3 := ⟨_, rfl⟩
  have d3 : u = true → decide (k3 < 0) = true := fun e => by rw [cmp_k hk3]; exact decide_eq_true (onB_lt (hu2 ▸ e))
  have hc : (∃ _ : x < Prim.P256, ∃ _ : y < Prim.P256, decide (k1 < 0) = true ∧ decide (k2 < 0) = true) ∨ (v = false ∧ decide (k1 < 0) = true ∧ decide (k2 < 0) = false) ∨ (v = false ∧ decide (k1 < 0) = false) := by
    rw [d1, d2]
    by_cases a : x < Prim.P256
    · by_cases b : y < Prim.P256
      · exact .inl ⟨a, b, decide_eq_true a, decide_eq_true b⟩
      · exact .inr (.inl ⟨hv ▸ onB_ge (fun h => b h.2), decide_eq_true a, decide_eq_false b⟩)
    · exact .inr (.inr ⟨hv ▸ onB_ge (fun h => a h.1), decide_eq_false a⟩)
  clear d1 d2
  have hAc : A.isNone = true ∨ (∃ _ : A.isNone = false, ∃ _ : (!A.isNone) = true, ∃ _ : (!B.isNone) = true, ∃ _ : poY B = (Prim.P256 + W256 - poY A) % W256, (u = true ∧ (!u) = false ∧ decide (k3 < 0) = true) ∨ (u = false ∧ (!u) = true)) := by
    cases hA : A.isNone with
    | true => exact .inl rfl
    | false =>
      refine .inr ⟨rfl, rfl, ?_, negY oA hA hAe hBe, ?_⟩
      · rw [hBe]
        match A, hA with
        | some (_, _), _ => rfl
      · cases hu : u with
        | true => exact .inl ⟨rfl, rfl, d3 hu⟩
        | false => exact .inr ⟨rfl, rfl⟩
  clear d3
  rcases hc with ⟨bx, hy', d1, d2⟩ | ⟨hvf, d1, d2⟩ | ⟨hvf, d1⟩ <;> rcases hAc with hA1 | ⟨hA1, hA2, hB2, hBy, ⟨hut, hu3, d3⟩ | ⟨huf, hu3⟩⟩
  all_goals (try (have hvf2 : (!(v == false)) = false := by rw [hvf]; rfl))
  all_goals (try subst hvf)
  all_goals (repeat' (first | (apply St.bagX 15 [14]; exact mixed; (decide +kernel); kernel_rfl) | (apply St.bagX 5 []; exact mixed; (decide +kernel); kernel_rfl) | (apply OpsX.nil) | (apply OpsX.b; exact rfl) | (apply OpsX.v; (intro X hX; change Wl [_] _ _ _ _ _ _ _; apply Wl.catX; (repeat (first | apply CatB.nil | apply CatB.cons)))) | (apply Gt.endX; exact rfl) | (apply EndX.new; intro c hc ho) | (apply EndX.on; exact rfl) | (apply EndX.off; exact rfl) | (apply EndX.nil'; apply Wl.catE; (repeat (first | apply CatB.nil | apply CatB.cons))) | (apply Wl.buildPnone; exact rfl; (focus ((repeat (first | exact Parts.nil | apply Parts.cons rfl)); done))) | (apply Wl.eqlA (t := 24) (b := false); exact rfl; exact rfl; exact rfl; kernel_rfl; kernel_rfl; kernel_rfl; kernel_rfl; exact cell32 _ (dlt _); exact cell32 _ (dlt _); exact hEq) | (apply Wl.eqlSame (t := 35); exact rfl; exact rfl; exact rfl; kernel_rfl; kernel_rfl; exact formD _; exact klD _) | (apply Wl.loadAH (t := 35); exact rfl; exact rfl; (repeat (first | exact List.Mem.head _ | apply List.Mem.tail)); (first | exact LSub.whole (poD_len _) | exact LSub.whole (poC_len _ _ _))) | (apply Wl.loadAH (t := 24); exact rfl; exact rfl; (first | ((repeat (first | exact List.Mem.head _ | apply List.Mem.tail)); exact poD_x _) | ((repeat (first | exact List.Mem.head _ | apply List.Mem.tail)); exact poD_y _) | ((repeat (first | exact List.Mem.head _ | apply List.Mem.tail)); exact poC_x _ _ _))) | (apply Wl.loadH (t := 4); exact rfl; exact rfl; (repeat (first | exact List.Mem.head _ | apply List.Mem.tail)); exact poD_n _) | (apply Wl.storeAll (t := 35); exact rfl; exact rfl; (repeat (first | apply HSet.here | apply HSet.there)); exact poD_len _; (first | exact rfl | exact poD_len _); exact poD_one _) | (apply Wl.storeA (t := 24); exact rfl; exact rfl; exact cellsN_len _ _ _; exact cellsN_one _ _ _; (repeat (first | apply HSet.here | apply HSet.there)); (first | exact poD_y1 (by assumption) (by assumption) | exact poD_x1 (by assumption) _)) | (apply Wl.buildPo; exact rfl; (focus ((repeat (first | exact Parts.nil | apply Parts.cons rfl)); done))) | (apply Wl.callQ (f := 23); exact rfl; (repeat (first | exact Evs.nil | apply Evs.cons rfl)); (intro wq hq; refine (gCmp (by assumption) (by assumption) (by with_reducible assumption) wq).mono ?_; rintro e wr ⟨rfl, hr⟩; exact ⟨rfl, hq.keep hr⟩)) | (apply Wl.callQ (f := 25); exact rfl; (repeat (first | exact Evs.nil | apply Evs.cons rfl)); (intro wq hq; refine (gSubL (by assumption) (by assumption) (by with_reducible assumption) wq).mono ?_; rintro e wr ⟨rfl, hr⟩; exact ⟨rfl, hq.keep hr⟩)) | (apply Wl.callQ (f := 26); exact rfl; (repeat (first | exact Evs.nil | apply Evs.cons rfl)); (intro wq hq; refine (gAddL (by assumption) (by assumption) (by with_reducible assumption) wq).mono ?_; rintro e wr ⟨rfl, hr⟩; exact ⟨rfl, hq.keep hr⟩)) | (apply Wl.callQ (f := 22); exact rfl; (repeat (first | exact Evs.nil | apply Evs.cons rfl)); (intro wq hq; refine (refWords _ wq).mono ?_; rintro e wr ⟨rfl, hr⟩; exact ⟨rfl, hq.keep hr⟩)) | (apply Wl.callQ (f := 10); exact rfl; (repeat (first | exact Evs.nil | apply Evs.cons rfl)); (intro wq hq; refine (ref4P wq).mono ?_; rintro e wr ⟨rfl, hr⟩; exact ⟨rfl, hq.keep hr⟩)) | (apply Wl.callQ (f := 17); exact rfl; (repeat (first | exact Evs.nil | apply Evs.cons rfl)); (intro wq hq; have hVq := hV.hp hq (by (repeat (first | exact trivial | exact hX.off (by omega) | refine ⟨by first | assumption | omega | (simp only; omega), ?_⟩))) (by (repeat (first | exact trivial | exact hX.off (by omega) | refine ⟨by first | assumption | omega | (simp only; omega), ?_⟩))); with_reducible refine (gOnC hVq (by assumption) (by assumption) (by with_reducible assumption)).mono ?_; rintro e wr ⟨rfl, hr⟩; exact ⟨rfl, hq.keep hr⟩)) | (apply Wl.callQ (f := 17); exact rfl; (repeat (first | exact Evs.nil | apply Evs.cons rfl)); (intro wq hq; have hVq := hV.hp hq (by (repeat (first | exact trivial | exact hX.off (by omega) | refine ⟨by first | assumption | omega | (simp only; omega), ?_⟩))) (by (repeat (first | exact trivial | exact hX.off (by omega) | refine ⟨by first | assumption | omega | (simp only; omega), ?_⟩))); with_reducible refine (curOnP _ _ _ wq hVq (by with_reducible assumption)).mono ?_; rintro e wr ⟨rfl, hr⟩; exact ⟨rfl, hq.keep hr⟩)) | (apply Wl.callQ (f := 24); exact rfl; (repeat (first | exact Evs.nil | apply Evs.cons rfl)); (intro wq hq; refine (gOnR (hF.hp hq (by (repeat (first | exact trivial | exact hX.off (by omega) | refine ⟨by first | assumption | omega | (simp only; omega), ?_⟩)))) (by assumption) (by assumption) (by with_reducible assumption)).mono ?_; rintro e wr ⟨rfl, hr⟩; exact ⟨rfl, hq.keep hr⟩)) | (apply Wl.callQ (f := 12); exact rfl; (repeat (first | exact Evs.nil | apply Evs.cons rfl)); (intro wq hq; refine (curBase wq).mono ?_; rintro e wr ⟨rfl, hr⟩; exact ⟨rfl, hq.keep hr⟩)) | (apply Wl.callQ (f := 14); exact rfl; (repeat (first | exact Evs.nil | apply Evs.cons rfl)); (intro wq hq; refine (refOf _ wq).mono ?_; rintro e wr ⟨rfl, hr⟩; exact ⟨rfl, hq.keep hr⟩)) | (apply Wl.callQ (f := 11); exact rfl; (repeat (first | exact Evs.nil | apply Evs.cons rfl)); (intro wq hq; refine (gMult (hV.hp hq (by (repeat (first | exact trivial | exact hX.off (by omega) | refine ⟨by first | assumption | omega | (simp only; omega), ?_⟩))) (by (repeat (first | exact trivial | exact hX.off (by omega) | refine ⟨by first | assumption | omega | (simp only; omega), ?_⟩)))) (by with_reducible assumption) (by with_reducible assumption) (by with_reducible assumption)).mono ?_; rintro e wr ⟨rfl, hr⟩; exact ⟨rfl, hq.keep hr⟩)) | (apply Wl.callQ (f := 20); exact rfl; (repeat (first | exact Evs.nil | apply Evs.cons rfl)); (intro wq hq; refine (gAddP (hV.hp hq (by (repeat (first | exact trivial | exact hX.off (by omega) | refine ⟨by first | assumption | omega | (simp only; omega), ?_⟩))) (by (repeat (first | exact trivial | exact hX.off (by omega) | refine ⟨by first | assumption | omega | (simp only; omega), ?_⟩)))) (by with_reducible assumption)).mono ?_; rintro e wr ⟨rfl, hr⟩; exact ⟨rfl, hq.keep hr⟩)) | (apply Wl.loadW; exact rfl; exact rfl; (repeat (first | exact List.Mem.head _ | apply List.Mem.tail)); exact rfl) | (apply Wl.storeW; exact rfl; exact rfl; (repeat (first | apply HSet.here | apply HSet.there)); exact rfl; (first | exact cellsN_len _ _ _ | exact rfl)) | (apply Wl.allocN; exact rfl; (first | exact z8 | exact z16 | exact z17 | exact z33 | exact z10); intro c hc ho) | (apply Wl.move; exact rfl; exact rfl) | (apply Wl.assign; exact rfl; exact rfl) | (apply Wl.on; exact rfl; exact rfl; (first | with_reducible rfl | with_reducible assumption | decide)) | (apply Wl.off; exact rfl; exact rfl; exact rfl; (first | with_reducible rfl | (show _ = false; with_reducible assumption) | (show _ = true; with_reducible assumption) | decide)) | (apply Wl.extract; exact rfl; exact rfl; exact rfl) | (apply Wl.pickT; exact rfl; exact rfl; (first | with_reducible rfl | with_reducible assumption | decide); exact rfl) | (apply Wl.pickF; exact rfl; exact rfl; (first | with_reducible rfl | with_reducible assumption | decide); exact rfl) | (apply Wl.not; exact rfl; exact rfl) | (apply Wl.fieldAddr0; exact rfl; exact rfl) | (apply Wl.fieldAddrZ; exact rfl; exact rfl) | (apply Wl.lss; exact rfl; exact rfl; exact rfl) | (apply Wl.neqBs; exact rfl; exact rfl; exact rfl; (first | with_reducible assumption | with_reducible rfl)) | (apply Wl.alloc; exact rfl; intro c hc ho) | (apply Wl.nil) | (apply St.seq) | (apply St.region) | (apply St.condT; exact rfl; (first | with_reducible rfl | with_reducible assumption | decide)) | (apply St.condF; exact rfl; (first | with_reducible rfl | with_reducible assumption | decide)) | (apply St.ret) | (apply St.skip) | (apply Gt.next) | (apply Gt.thenRet) | (apply Gt.out1; exact rfl; exact rfl; intro w' hp) | (apply Wl.splitP; exact rfl; exact rfl; all_goals (intros; try (exfalso; omega))) | (apply Wl.splitB; exact rfl; exact rfl; all_goals intros) | (apply St.condP; exact rfl; all_goals (intros; try (exfalso; omega))) | (apply St.condB; exact rfl; all_goals intros)))
  all_goals exact ⟨by first | rfl | (rw [hA1]; rfl) | rw [d3], hpFin hp hu (by simp; omega)⟩
end Go.Proofs.Ytfaobdakpbpkbaa
