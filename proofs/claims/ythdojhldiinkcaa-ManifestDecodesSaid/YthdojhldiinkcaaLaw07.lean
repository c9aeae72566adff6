/-
  fit and ManifestBack: a manifest that may be is decoded as it was encoded. Conditions: none.
-/
import Derived.Test.YthdojhldiinkcaaMDec
import Derived.Test.YthdojhldiinkcaaRightR
import Derived.Test.YthdojhldiinkcaaLight
namespace Go.Proofs.Ythdojhldiinkcaa
open Go.RowKit Go.Pt

/-! ### plain -/
theorem MfV.ok {w : World} {v : Value} {m : Mf} (h : MfV w v m) (h0 : rightOf m = 0) : MfOk m := by
  obtain ⟨pv, xs, _, h2, _, h4, h5, _⟩ := h
  refine rightOf_fit h0 h5 fun p hp => ?_
  rw [← h2] at hp
  obtain ⟨x, hx, rfl⟩ := List.mem_map.1 hp
  exact ⟨(h4 x hx).2.1, (h4 x hx).2.2.2.1⟩
theorem decErr_enc {m : Mf} (h : MfOk m) (h0 : rightOf m = 0) : decErr (encM m) = 0 := by
  unfold decErr; rw [decM_enc m h]; exact h0
theorem decMan_enc {m : Mf} (h : MfOk m) (h0 : rightOf m = 0) : decMan (encM m) = m := by
  unfold decMan; rw [decM_enc m h]; simp only [h0, if_true]
theorem encP_le {p : Py} (h : PyFit p) : (encP p).length ≤ 92 := by
  have := h.2.2.2.2.2.1
  simp only [encP, List.length_append, leB_length, encGs_length, h.1]
  omega
theorem encM_le {m : Mf} (h : MfOk m) : (encM m).length ≤ 3000 := by
  obtain ⟨_, _, _, h4, h5⟩ := h
  have : ∀ l : List Py, (∀ p ∈ l, PyFit p) → (l.flatMap encP).length ≤ 92 * l.length := fun l hl => by
    induction l with
    | nil => exact Nat.le_refl _
    | cons p r ih =>
      have h1 := encP_le (hl p (by simp))
      have h2 := ih fun q hq => hl q (by simp [hq])
      rw [List.flatMap_cons, List.length_append, List.length_cons]
      omega
  have := this _ h5
  simp only [encM, List.length_append, leB_length, manMark, List.length_cons, List.length_nil]
  omega
theorem one_right : rightOf oneM = 0 := by decide +kernel
theorem one_ok : MfOk oneM := rightOf_fit one_right (by decide) fun p hp => by
  have : p = _ := List.mem_singleton.1 hp
  subst this
  exact ⟨rfl, by decide⟩
/-! ### worlds -/
theorem hpNil (w : World) : Hp w [] w := ⟨Upd.refl _ _, trivial, trivial⟩
theorem _root_.Go.Pt.Hp.rb {w0 w : World} {H : List Blk} (h : Hp w0 H w) : Hp w H w := ⟨Upd.refl _ _, h.own, h.apart⟩
theorem _root_.Go.Pt.Hp.on {w w1 w2 : World} {H : List Blk} (h : Hp w1 H w2) (hu : Upd (fun k => w.heap.size ≤ k) w w1) (hH : ∀ x ∈ H, w.heap.size ≤ x.b) : Upd (fun k => w.heap.size ≤ k) w w2 :=
  hu.comp h.upd fun j _ hs => hs.elim id fun y => Classical.byContradiction fun hlt => y (Off.of fun x hx e => by have := hH x hx; omega)
theorem _root_.Go.Pt.Hp.fin {w w1 w' : World} {H : List Blk} (hp : Hp w1 H w') (hu : Upd (fun k => w.heap.size ≤ k) w w1) (hH : ∀ x ∈ H, w.heap.size ≤ x.b) : Hp w [] w' := (hpNil w).newer (hp.on hu hH)
theorem light_hp {v : Value} {m : Mf} {w : World} (hv : MfV w v m) : Calls Try.prog 38 #[v] w fun e w' => e = .returned (.bool (lightB 0 m.pays)) ∧ Hp w [] w' := (light_any v m w hv).mono fun _ _ h => ⟨h.1, (hpNil w).newer h.2⟩
theorem rright_hp {v : Value} {m : Mf} {w : World} (hv : MfV w v m) : Calls Try.prog 40 #[v] w fun e w' => e = .returned (.int .i64 (rightOf m)) ∧ Hp w [] w' := (rright_any v m w hv).mono fun _ _ h => ⟨h.1, (hpNil w).newer h.2⟩
theorem same_hp {v v' : Value} {m : Mf} {w : World} (hv : MfV w v m) (hv' : MfV w v' m) : Calls Try.prog 44 #[v, v'] w fun e w' => e = .returned (.bool true) ∧ Hp w [] w' := (same_any m m v v' w hv hv').mono fun _ _ ⟨b, h1, h2, h3⟩ => ⟨by rw [h1, h2.2 rfl], (hpNil w).newer h3⟩
theorem MfV.hp {w w' : World} {v : Value} {m : Mf} {H : List Blk} (h : MfV w v m) (hp : Hp w H w') (hH : ∀ x ∈ H, w.heap.size ≤ x.b) : MfV w' v m := h.upd hp.upd fun k hk y => y (Off.of fun x hx e => by have := hH x hx; omega)
set_option maxHeartbeats 1000000 in
theorem fit07_any (w : World) : Calls Try.prog 37 #[] w fun e w' => e = .returned (.bool true) ∧ Hp w [] w' := by
  refine enter (args := []) (Γ := []) Try.func37 Try.ntmps37 rfl (of_decide_eq_true rfl) .nil ?_
  repeat' (first | (apply Wl.assign; exact rfl; exact rfl) | (apply Wl.nil) | (apply St.seq) | (apply St.region) | (apply Gt.next) | (apply Wl.splitP; exact rfl; exact rfl; all_goals (intros; try (exfalso; omega))) | (apply Wl.splitB; exact rfl; exact rfl; all_goals intros) | (apply St.condP; exact rfl; all_goals (intros; try (exfalso; omega))) | (apply St.condB; exact rfl; all_goals intros))
  apply Wl.callC
  exact rfl
  (repeat (first | exact Evs.nil | apply Evs.cons rfl))
  intro w1 h1
  refine (one_any w1).mono ?_
  rintro e w2 ⟨v1, rfl, hm1, hu1⟩
  refine ⟨_, Hp w2 [], rfl, hpNil w2, ?_⟩
  have hu2 : Upd (fun k => w.heap.size ≤ k) w w2 := Hp.on (h1.newer hu1) (Upd.refl _ _) (by simp)
  clear h1 hu1
  repeat' (first | (apply Wl.splitP; exact rfl; exact rfl; all_goals (intros; try (exfalso; omega))) | (apply Wl.splitB; exact rfl; exact rfl; all_goals intros) | (apply St.condP; exact rfl; all_goals (intros; try (exfalso; omega))) | (apply St.condB; exact rfl; all_goals intros))
  apply Wl.callC
  exact rfl
  (repeat (first | exact Evs.nil | apply Evs.cons rfl))
  intro w3 h3
  refine (encode_any v1 oneM w3 (hm1.hp h3 (by simp))).mono ?_
  rintro e w4 ⟨hu4, ⟨hne, _⟩ | ⟨_, v2, rfl, hb⟩⟩
  · exact absurd one_right hne
  refine ⟨_, Hp w4 [], rfl, hpNil w4, ?_⟩
  have hu5 : Upd (fun k => w.heap.size ≤ k) w w4 := Hp.on (h3.newer hu4) hu2 (by simp)
  clear h3 hu4 hu2 hm1
  repeat' (first | (apply Wl.splitP; exact rfl; exact rfl; all_goals (intros; try (exfalso; omega))) | (apply Wl.splitB; exact rfl; exact rfl; all_goals intros) | (apply St.condP; exact rfl; all_goals (intros; try (exfalso; omega))) | (apply St.condB; exact rfl; all_goals intros))
  apply Wl.callC
  exact rfl
  (repeat (first | exact Evs.nil | apply Evs.cons rfl))
  intro w5 h5
  refine (decode_any v2 (encM oneM) w5 (hb.bs.upd h5.upd fun _ _ _ _ y => y trivial) (encM_le one_ok)).mono ?_
  rintro e w6 ⟨v3, rfl, hm3, hu6⟩
  rw [decErr_enc one_ok one_right, decMan_enc one_ok one_right] at *
  refine ⟨_, Hp w6 [], rfl, hpNil w6, ?_⟩
  have hu7 : Upd (fun k => w.heap.size ≤ k) w w6 := Hp.on (h5.newer hu6) hu5 (by simp)
  clear h5 hu6 hu5 hb
  have hm3' := hm3
  obtain ⟨pv, xs, rfl, _, hsv, _⟩ := hm3
  obtain ⟨_, ap, cp, rfl, _⟩ := hsv
  repeat' (first | (apply Wl.move; exact rfl; exact rfl) | (apply Wl.assign; exact rfl; exact rfl) | (apply Wl.extract; exact rfl; exact rfl; exact rfl) | (apply Wl.storeA; exact rfl; exact rfl; exact rfl; exact rfl; (repeat (first | apply HSet.here | apply HSet.there)); (repeat (first | apply LPut.s | apply LPut.z | apply LOver.nil | apply LOver.cons))) | (apply Wl.alloc; exact rfl; intro c hc ho) | (apply Wl.nil) | (apply St.seq) | (apply Gt.next) | (apply Wl.splitP; exact rfl; exact rfl; all_goals (intros; try (exfalso; omega))) | (apply Wl.splitB; exact rfl; exact rfl; all_goals intros) | (apply St.condP; exact rfl; all_goals (intros; try (exfalso; omega))) | (apply St.condB; exact rfl; all_goals intros))
  refine St.tree (Hp w6 [_]) mixed (fun _ h => ⟨Hp.drew h, Hp.drew h⟩) ?_
  refine Mt.pure 0 (by kernel_rfl) (by exact rfl) (by exact rfl) (by kernel_rfl) (by kernel_rfl) ?_
  repeat' (first | (apply Wl.move; exact rfl; exact rfl) | (apply Wl.nilM) | (apply Wl.splitP; exact rfl; exact rfl; all_goals (intros; try (exfalso; omega))) | (apply Wl.splitB; exact rfl; exact rfl; all_goals intros) | (apply St.condP; exact rfl; all_goals (intros; try (exfalso; omega))) | (apply St.condB; exact rfl; all_goals intros))
  apply Mt.back
  refine Mt.pure 1 (by kernel_rfl) (by exact rfl) (by exact rfl) (by kernel_rfl) (by kernel_rfl) ?_
  repeat' (first | (apply Wl.eql; exact rfl; exact rfl; exact rfl) | (apply Wl.nilM) | (apply Wl.splitP; exact rfl; exact rfl; all_goals (intros; try (exfalso; omega))) | (apply Wl.splitB; exact rfl; exact rfl; all_goals intros) | (apply St.condP; exact rfl; all_goals (intros; try (exfalso; omega))) | (apply St.condB; exact rfl; all_goals intros))
  apply Mt.back
  refine Mt.pure 2 (by kernel_rfl) (by exact rfl) (by exact rfl) (by kernel_rfl) (by kernel_rfl) ?_
  repeat' (first | (apply Wl.move; exact rfl; exact rfl) | (apply Wl.nilM) | (apply Wl.splitP; exact rfl; exact rfl; all_goals (intros; try (exfalso; omega))) | (apply Wl.splitB; exact rfl; exact rfl; all_goals intros) | (apply St.condP; exact rfl; all_goals (intros; try (exfalso; omega))) | (apply St.condB; exact rfl; all_goals intros))
  apply Mt.back
  refine Mt.pure 3 (by kernel_rfl) (by exact rfl) (by exact rfl) (by kernel_rfl) (by kernel_rfl) ?_
  repeat' (first | (apply Wl.on; exact rfl; exact rfl; (first | with_reducible rfl | with_reducible assumption | decide)) | (apply Wl.loadAH; exact rfl; exact rfl; (repeat (first | exact List.Mem.head _ | apply List.Mem.tail)); (repeat (first | apply LSub.z | apply LSub.t | apply LSub.s))) | (apply Wl.nilM) | (apply Wl.splitP; exact rfl; exact rfl; all_goals (intros; try (exfalso; omega))) | (apply Wl.splitB; exact rfl; exact rfl; all_goals intros) | (apply St.condP; exact rfl; all_goals (intros; try (exfalso; omega))) | (apply St.condB; exact rfl; all_goals intros))
  apply Mt.back
  refine Mt.eff1 (i := 4) (by decide +kernel) (by exact rfl) ?_
  repeat' (first | (apply Wl.on; exact rfl; exact rfl; (first | with_reducible rfl | with_reducible assumption | decide)) | (apply Wl.splitP; exact rfl; exact rfl; all_goals (intros; try (exfalso; omega))) | (apply Wl.splitB; exact rfl; exact rfl; all_goals intros) | (apply St.condP; exact rfl; all_goals (intros; try (exfalso; omega))) | (apply St.condB; exact rfl; all_goals intros))
  apply Wl.callC
  exact rfl
  (repeat (first | exact Evs.nil | apply Evs.cons rfl))
  intro w7 h7
  refine (one_any w7).mono ?_
  rintro e w8 ⟨v4, rfl, hm4, hu8⟩
  refine ⟨_, fun u => Hp w6 [_] u ∧ MfV u v4 oneM, rfl, ⟨h7.newer hu8, hm4⟩, ?_⟩
  repeat' (first | (apply Wl.nil) | (apply Wl.splitP; exact rfl; exact rfl; all_goals (intros; try (exfalso; omega))) | (apply Wl.splitB; exact rfl; exact rfl; all_goals intros) | (apply St.condP; exact rfl; all_goals (intros; try (exfalso; omega))) | (apply St.condB; exact rfl; all_goals intros))
  refine Mt.backE (fun _ h => h.1) ?_
  refine Mt.eff1 (i := 5) (by decide +kernel) (by exact rfl) ?_
  repeat' (first | (apply Wl.on; exact rfl; exact rfl; (first | with_reducible rfl | with_reducible assumption | decide)) | (apply Wl.splitP; exact rfl; exact rfl; all_goals (intros; try (exfalso; omega))) | (apply Wl.splitB; exact rfl; exact rfl; all_goals intros) | (apply St.condP; exact rfl; all_goals (intros; try (exfalso; omega))) | (apply St.condB; exact rfl; all_goals intros))
  apply Wl.callC
  exact rfl
  (repeat (first | exact Evs.nil | apply Evs.cons rfl))
  intro w9 h9
  refine (same_hp (hm3'.hp h9.1 (by simp; omega)) h9.2).mono ?_
  rintro e wr ⟨rfl, hr⟩
  refine ⟨_, Hp w6 [_], rfl, h9.1.keep hr, ?_⟩
  repeat' (first | (apply Wl.nil) | (apply Wl.splitP; exact rfl; exact rfl; all_goals (intros; try (exfalso; omega))) | (apply Wl.splitB; exact rfl; exact rfl; all_goals intros) | (apply St.condP; exact rfl; all_goals (intros; try (exfalso; omega))) | (apply St.condB; exact rfl; all_goals intros))
  refine Mt.backE (fun _ h => h) ?_
  refine Mt.pure 6 (by kernel_rfl) (by exact rfl) (by exact rfl) (by kernel_rfl) (by kernel_rfl) ?_
  repeat' (first | (apply Wl.pickT; exact rfl; exact rfl; (first | with_reducible rfl | with_reducible assumption | decide); exact rfl) | (apply Wl.nilM) | (apply Wl.splitP; exact rfl; exact rfl; all_goals (intros; try (exfalso; omega))) | (apply Wl.splitB; exact rfl; exact rfl; all_goals intros) | (apply St.condP; exact rfl; all_goals (intros; try (exfalso; omega))) | (apply St.condB; exact rfl; all_goals intros))
  apply Mt.back
  refine Mt.pure 7 (by kernel_rfl) (by exact rfl) (by exact rfl) (by kernel_rfl) (by kernel_rfl) ?_
  repeat' (first | (apply Wl.assign; exact rfl; exact rfl) | (apply Wl.nilM) | (apply Wl.splitP; exact rfl; exact rfl; all_goals (intros; try (exfalso; omega))) | (apply Wl.splitB; exact rfl; exact rfl; all_goals intros) | (apply St.condP; exact rfl; all_goals (intros; try (exfalso; omega))) | (apply St.condB; exact rfl; all_goals intros))
  apply Mt.back
  refine Mt.toGt (by decide +kernel) ?_
  repeat' (first | (apply St.ret) | (apply Gt.next) | (apply Gt.out1; exact rfl; exact rfl; intro w' hp) | (apply Wl.splitP; exact rfl; exact rfl; all_goals (intros; try (exfalso; omega))) | (apply Wl.splitB; exact rfl; exact rfl; all_goals intros) | (apply St.condP; exact rfl; all_goals (intros; try (exfalso; omega))) | (apply St.condB; exact rfl; all_goals intros))
  exact ⟨rfl, hp.fin hu7 (by have := hu7.size; simp; omega)⟩
set_option maxHeartbeats 1000000 in
theorem back07 (v : Value) (m : Mf) (w : World) (hv : MfV w v m) : Calls Try.prog 12 #[v] w fun e w' => e = .returned (.bool true) ∧ Hp w [] w' := by
  have hv0 := hv
  obtain ⟨pv, xs, rfl, hxs, hsv, hpy, hcnt, hkey⟩ := hv
  obtain ⟨_, ap, cp, rfl, _⟩ := hsv
  refine enter (args := [_]) (Γ := [(0, _)]) Try.func12 Try.ntmps12 rfl (of_decide_eq_true rfl) (.cons rfl .nil) ?_
  repeat' (first | (apply Wl.assign; exact rfl; exact rfl) | (apply Wl.boxA; exact rfl; exact rfl; intro c hc ho) | (apply Wl.nil) | (apply St.seq) | (apply St.region) | (apply Gt.next) | (apply Wl.splitP; exact rfl; exact rfl; all_goals (intros; try (exfalso; omega))) | (apply Wl.splitB; exact rfl; exact rfl; all_goals intros) | (apply St.condP; exact rfl; all_goals (intros; try (exfalso; omega))) | (apply St.condB; exact rfl; all_goals intros))
  apply Wl.callQ
  exact rfl
  (repeat (first | exact Evs.nil | apply Evs.cons rfl))
  · intro wq hq
    refine (fit07_any wq).mono ?_
    rintro e wr ⟨rfl, hr⟩
    exact ⟨rfl, hq.keep hr⟩
  repeat' (first | (apply Wl.not; exact rfl; exact rfl) | (apply Wl.loadAH; exact rfl; exact rfl; (repeat (first | exact List.Mem.head _ | apply List.Mem.tail)); (repeat (first | apply LSub.z | apply LSub.t | apply LSub.s))) | (apply Wl.nil) | (apply St.seq) | (apply St.region) | (apply St.condF; exact rfl; (first | with_reducible rfl | with_reducible assumption | decide)) | (apply St.skip) | (apply Gt.next) | (apply Wl.splitP; exact rfl; exact rfl; all_goals (intros; try (exfalso; omega))) | (apply Wl.splitB; exact rfl; exact rfl; all_goals intros) | (apply St.condP; exact rfl; all_goals (intros; try (exfalso; omega))) | (apply St.condB; exact rfl; all_goals intros))
  apply Wl.callQ
  exact rfl
  (repeat (first | exact Evs.nil | apply Evs.cons rfl))
  · intro wq hq
    refine (light_hp (hv0.hp hq (by simp; omega))).mono ?_
    rintro e wr ⟨rfl, hr⟩
    exact ⟨rfl, hq.keep hr⟩
  cases hl : lightB 0 m.pays
  · repeat' (first | (apply Wl.move; exact rfl; exact rfl) | (apply Wl.assign; exact rfl; exact rfl) | (apply Wl.off; exact rfl; exact rfl; exact rfl; (first | with_reducible rfl | (show _ = false; with_reducible assumption) | (show _ = true; with_reducible assumption) | decide)) | (apply Wl.pickT; exact rfl; exact rfl; (first | with_reducible rfl | with_reducible assumption | decide); exact rfl) | (apply Wl.not; exact rfl; exact rfl) | (apply Wl.nil) | (apply St.seq) | (apply St.region) | (apply St.condT; exact rfl; (first | with_reducible rfl | with_reducible assumption | decide)) | (apply St.ret) | (apply Gt.next) | (apply Gt.thenRet) | (apply Gt.out1; exact rfl; exact rfl; intro w' hp) | (apply Wl.splitP; exact rfl; exact rfl; all_goals (intros; try (exfalso; omega))) | (apply Wl.splitB; exact rfl; exact rfl; all_goals intros) | (apply St.condP; exact rfl; all_goals (intros; try (exfalso; omega))) | (apply St.condB; exact rfl; all_goals intros))
    exact ⟨rfl, hp.fin (Upd.refl _ _) (by simp; omega)⟩
  repeat' (first | (apply Wl.move; exact rfl; exact rfl) | (apply Wl.on; exact rfl; exact rfl; (first | with_reducible rfl | with_reducible assumption | decide)) | (apply Wl.not; exact rfl; exact rfl) | (apply Wl.loadAH; exact rfl; exact rfl; (repeat (first | exact List.Mem.head _ | apply List.Mem.tail)); (repeat (first | apply LSub.z | apply LSub.t | apply LSub.s))) | (apply Wl.splitP; exact rfl; exact rfl; all_goals (intros; try (exfalso; omega))) | (apply Wl.splitB; exact rfl; exact rfl; all_goals intros) | (apply St.condP; exact rfl; all_goals (intros; try (exfalso; omega))) | (apply St.condB; exact rfl; all_goals intros))
  apply Wl.callQ
  exact rfl
  (repeat (first | exact Evs.nil | apply Evs.cons rfl))
  · intro wq hq
    refine (rright_hp (hv0.hp hq (by simp; omega))).mono ?_
    rintro e wr ⟨rfl, hr⟩
    exact ⟨rfl, hq.keep hr⟩
  by_cases h0 : rightOf m = 0
  · have hok := hv0.ok h0
    rw [h0]
    repeat' (first | (apply Wl.on; exact rfl; exact rfl; (first | with_reducible rfl | with_reducible assumption | decide)) | (apply Wl.pickF; exact rfl; exact rfl; (first | with_reducible rfl | with_reducible assumption | decide); exact rfl) | (apply Wl.neq; exact rfl; exact rfl; exact rfl) | (apply Wl.loadAH; exact rfl; exact rfl; (repeat (first | exact List.Mem.head _ | apply List.Mem.tail)); (repeat (first | apply LSub.z | apply LSub.t | apply LSub.s))) | (apply Wl.nil) | (apply St.seq) | (apply St.region) | (apply St.condF; exact rfl; (first | with_reducible rfl | with_reducible assumption | decide)) | (apply St.skip) | (apply Gt.next) | (apply Wl.splitP; exact rfl; exact rfl; all_goals (intros; try (exfalso; omega))) | (apply Wl.splitB; exact rfl; exact rfl; all_goals intros) | (apply St.condP; exact rfl; all_goals (intros; try (exfalso; omega))) | (apply St.condB; exact rfl; all_goals intros))
    apply Wl.callC
    exact rfl
    (repeat (first | exact Evs.nil | apply Evs.cons rfl))
    intro w3 h3
    refine (encode_any _ m w3 (hv0.hp h3 (by simp; omega))).mono ?_
    rintro e w4 ⟨hu4, ⟨hne, _⟩ | ⟨_, v2, rfl, hb⟩⟩
    · exact absurd h0 hne
    have h4 := h3.newer hu4
    refine ⟨_, _, rfl, h4.rb, ?_⟩
    have hu5 : Upd (fun k => w.heap.size ≤ k) w w4 := h4.on (Upd.refl _ _) (by simp; omega)
    have hv4 := hv0.hp h4 (by simp; omega)
    have l3 := h3.own.lt (.head _)
    simp only at l3
    clear h3 hu4 h4
    repeat' (first | (apply Wl.splitP; exact rfl; exact rfl; all_goals (intros; try (exfalso; omega))) | (apply Wl.splitB; exact rfl; exact rfl; all_goals intros) | (apply St.condP; exact rfl; all_goals (intros; try (exfalso; omega))) | (apply St.condB; exact rfl; all_goals intros))
    apply Wl.callC
    exact rfl
    (repeat (first | exact Evs.nil | apply Evs.cons rfl))
    intro w5 h5
    have hb5 : Bs w5 v2 (encM m) := hb.bs.upd h5.upd fun k hk _ _ y => y ⟨fun e => by have := hb.base hk; simp only at e; omega, trivial⟩
    refine (decode_any v2 (encM m) w5 hb5 (encM_le hok)).mono ?_
    rintro e w6 ⟨v3, rfl, hm3, hu6⟩
    rw [decErr_enc hok h0]
    rw [decMan_enc hok h0] at hm3
    have h6 := h5.newer hu6
    refine ⟨_, _, rfl, hpNil w6, ?_⟩
    have hu7 : Upd (fun k => w.heap.size ≤ k) w w6 := h6.on hu5 (by simp; omega)
    have hv6 : MfV w6 _ m := hv0.upd hu7 fun k hk y => by omega
    have l6 := h6.own.lt (.head _)
    simp only at l6
    have hc1 : ∀ j v, [Value.int .u32 m.counter, .int .i64 m.key, .slice ap _ cp][j]? = some v → w6.cell? ⟨_, 0 + j, none⟩ = some v := fun j v hj => h6.cell (.head _) (by rw [Nat.zero_add]; exact hj)
    clear h5 hu6 h6 hb hb5
    have hm3' := hm3
    obtain ⟨pv, xs, rfl, _, hsv, _⟩ := hm3
    obtain ⟨_, ap', cp', rfl, _⟩ := hsv
    repeat' (first | (apply Wl.loadAP; exact rfl; exact rfl; exact hc1; exact ⟨fun e => by simp only at e; omega, trivial⟩; exact rfl) | (apply Wl.move; exact rfl; exact rfl) | (apply Wl.assign; exact rfl; exact rfl) | (apply Wl.on; exact rfl; exact rfl; (first | with_reducible rfl | with_reducible assumption | decide)) | (apply Wl.extract; exact rfl; exact rfl; exact rfl) | (apply Wl.eql; exact rfl; exact rfl; exact rfl) | (apply Wl.storeA; exact rfl; exact rfl; exact rfl; exact rfl; (repeat (first | apply HSet.here | apply HSet.there)); (repeat (first | apply LPut.s | apply LPut.z | apply LOver.nil | apply LOver.cons))) | (apply Wl.loadAH; exact rfl; exact rfl; (repeat (first | exact List.Mem.head _ | apply List.Mem.tail)); (repeat (first | apply LSub.z | apply LSub.t | apply LSub.s))) | (apply Wl.alloc; exact rfl; intro c hc ho) | (apply Wl.nil) | (apply St.seq) | (apply St.region) | (apply Gt.next) | (apply Wl.splitP; exact rfl; exact rfl; all_goals (intros; try (exfalso; omega))) | (apply Wl.splitB; exact rfl; exact rfl; all_goals intros) | (apply St.condP; exact rfl; all_goals (intros; try (exfalso; omega))) | (apply St.condB; exact rfl; all_goals intros))
    apply Wl.callQ
    exact rfl
    (repeat (first | exact Evs.nil | apply Evs.cons rfl))
    · intro wq hq
      refine (same_hp (hm3'.hp hq (by simp; omega)) (hv6.hp hq (by simp; omega))).mono ?_
      rintro e wr ⟨rfl, hr⟩
      exact ⟨rfl, hq.keep hr⟩
    repeat' (first | (apply Wl.assign; exact rfl; exact rfl) | (apply Wl.pickT; exact rfl; exact rfl; (first | with_reducible rfl | with_reducible assumption | decide); exact rfl) | (apply Wl.nil) | (apply St.ret) | (apply Gt.next) | (apply Gt.out1; exact rfl; exact rfl; intro w' hp) | (apply Wl.splitP; exact rfl; exact rfl; all_goals (intros; try (exfalso; omega))) | (apply Wl.splitB; exact rfl; exact rfl; all_goals intros) | (apply St.condP; exact rfl; all_goals (intros; try (exfalso; omega))) | (apply St.condB; exact rfl; all_goals intros))
    exact ⟨rfl, hp.fin hu7 (by have := hu7.size; simp; omega)⟩
  · have h0' : ((rightOf m : Nat) : Int) ≠ 0 := by omega
    repeat' (first | (apply Wl.assign; exact rfl; exact rfl) | (apply Wl.on; exact rfl; exact rfl; (first | with_reducible rfl | with_reducible assumption | decide)) | (apply Wl.pickF; exact rfl; exact rfl; (first | with_reducible rfl | with_reducible assumption | decide); exact rfl) | (apply Wl.neq; exact rfl; exact rfl; exact rfl) | (apply Wl.nil) | (apply St.seq) | (apply St.region) | (apply St.ret) | (apply Gt.next) | (apply Gt.thenRet) | (apply Gt.out1; exact rfl; exact rfl; intro w' hp) | (apply Wl.splitP; exact rfl; exact rfl; all_goals (intros; try (exfalso; omega))) | (apply Wl.splitB; exact rfl; exact rfl; all_goals intros) | (apply St.condP; exact rfl; all_goals (intros; try (exfalso; omega))) | (apply St.condB; exact rfl; all_goals intros))
    exact ⟨rfl, hp.fin (Upd.refl _ _) (by simp; omega)⟩
end Go.Proofs.Ythdojhldiinkcaa
