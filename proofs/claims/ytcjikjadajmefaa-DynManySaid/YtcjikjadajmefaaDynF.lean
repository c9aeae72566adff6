/-
  Layer 9: porticolaw09.fit answers true; the laws DynReads.
-/
import Derived.Test.YtcjikjadajmefaaDynV
import Derived.Test.YtcjikjadajmefaaFit
namespace Go.Proofs.Ytcjikjadajmefaa
open Go.RowKit Go.Pt

theorem dynAns_plain (b : List UInt8) (hb : b.length ≤ 100000) : dynAns (plainB b) = ⟨0, [⟨0, (b.length + 7) / 4 * 4, 5, b⟩], [], [], 0⟩ := by
  have h1 := pl_ok b [] hb
  have h2 := pl_segs b [] hb
  have h3 := (pl_at b []).2.2.2.2.1
  rw [List.append_nil] at h1 h2 h3
  unfold dynAns
  rw [segAns_some h1 h2, h3]
  rfl
theorem hpOf {w w' : World} (u : Upd (fun k => w.heap.size ≤ k) w w') : Hp w [] w' := ⟨u.mono fun k hk y => by omega, trivial, trivial⟩
theorem fit09_any (w : World) : Calls Try.prog 7 #[] w fun e w' => e = .returned (.bool true) ∧ Upd (fun k => w.heap.size ≤ k) w w' := by
  refine enter (args := []) (Γ := []) Try.func7 Try.ntmps7 rfl (of_decide_eq_true rfl) .nil ?_
  repeat' (first | (apply Wl.assign; exact rfl; exact rfl) | (apply Wl.lit; exact rfl; (repeat (first | exact Parts.nil | apply Parts.cons rfl)); exact rfl; exact rfl; (repeat (first | apply CatP.nil | (apply CatP.one; exact rfl; exact rfl) | (apply CatP.agg; exact rfl) | apply LApp.nil | apply LApp.cons)); intro c hc ho) | (apply Wl.nil) | (apply St.seq) | (apply St.region) | (apply Gt.next) | (apply Wl.splitP; exact rfl; exact rfl; all_goals (intros; try (exfalso; omega))) | (apply Wl.splitB; exact rfl; exact rfl; all_goals intros) | (apply St.condP; exact rfl; all_goals (intros; try (exfalso; omega))) | (apply St.condB; exact rfl; all_goals intros))
  apply Wl.call
  exact rfl
  (repeat (first | exact Evs.nil | apply Evs.cons rfl))
  intro w1 h1
  refine (plain_any _ [1, 2, 3, 4] w1 (Bs.ofBlk (fr := ((0 : Nat), (0 : Nat))) (h1.own.at (.head _)) (by unfold maxLen; simp)) (by simp)).mono ?_
  rintro e w2 ⟨v', rfl, hb2, u2⟩
  refine ⟨_, rfl, ?_⟩
  have h1' := h1.drop (by simp; omega)
  apply Wl.call
  exact rfl
  (repeat (first | exact Evs.nil | apply Evs.cons rfl))
  intro w3 h3
  have hlen := pl_len [1, 2, 3, 4] []
  rw [List.append_nil] at hlen
  have hb3 : Bs w3 v' (plainB [1, 2, 3, 4]) := hb2.bs.upd h3.upd fun _ _ _ _ y => y trivial
  refine (read_any _ _ w3 hb3 (by rw [hlen]; simp)).mono ?_
  rw [dynAns_plain _ (by simp)]
  rintro e w4 ⟨u4, vs, vr, vy, rfl, ⟨xs, hxs, hsx, _⟩, hvr, hvy⟩
  refine ⟨_, rfl, ?_⟩
  have u14 : Upd (fun k => w.heap.size ≤ k) w w4 := by
    have e12 : Ext w w3 := Ext.trans _ _ _ h1'.ext (Ext.trans _ _ _ (u2.mono fun k _ y => by omega) h3.ext)
    exact e12.comp u4 fun k _ hs => hs.elim False.elim fun y => Nat.le_trans e12.size y
  have hl1 : xs.length = 1 := by have := congrArg List.length hxs; simpa using this
  obtain ⟨_, a1, c1, rfl, _⟩ := hsx
  obtain ⟨_, a2, c2, rfl, _⟩ := hvr
  obtain ⟨_, a3, c3, rfl, _⟩ := hvy
  rw [hl1]
  repeat' (first | (apply Wl.move; exact rfl; exact rfl) | (apply Wl.assign; exact rfl; exact rfl) | (apply Wl.on; exact rfl; exact rfl; (first | with_reducible rfl | with_reducible assumption | decide)) | (apply Wl.extract; exact rfl; exact rfl; exact rfl) | (apply Wl.pickT; exact rfl; exact rfl; (first | with_reducible rfl | with_reducible assumption | decide); exact rfl) | (apply Wl.fieldAddrZ; exact rfl; exact rfl) | (apply Wl.loadH; exact rfl; exact rfl; (repeat (first | exact List.Mem.head _ | apply List.Mem.tail)); exact rfl) | (apply Wl.eql; exact rfl; exact rfl; exact rfl) | (apply Wl.add; exact rfl; exact rfl; exact rfl) | (apply Wl.len; exact rfl; exact rfl) | (apply Wl.storeA; exact rfl; exact rfl; exact rfl; exact rfl; (repeat (first | apply HSet.here | apply HSet.there)); (repeat (first | apply LPut.s | apply LPut.z | apply LOver.nil | apply LOver.cons))) | (apply Wl.alloc; exact rfl; intro c hc ho) | (apply Wl.nil) | (apply St.seq) | (apply St.region) | (apply St.ret) | (apply Gt.next) | (apply Gt.out1; exact rfl; exact rfl; intro w' hp) | (apply Wl.splitP; exact rfl; exact rfl; all_goals (intros; try (exfalso; omega))) | (apply Wl.splitB; exact rfl; exact rfl; all_goals intros) | (apply St.condP; exact rfl; all_goals (intros; try (exfalso; omega))) | (apply St.condB; exact rfl; all_goals intros))
  have u14s := u14.size
  exact ⟨rfl, u14.comp hp.upd fun k _ hs => hs.elim id fun y => Classical.byContradiction fun hn => y ⟨by simp only; omega, trivial⟩⟩
theorem dynReads_any (v : Value) (f : List UInt8) (w : World) (hv : Bs w v f) :
    Calls Try.prog 4 #[v] w fun e w' => e = .returned (.bool true) ∧ Hp w [] w' := by
  obtain ⟨a, cap, rfl, hlc, hm⟩ := hv.shape
  unfold maxLen at hm
  refine enter (args := [_]) (Γ := [(0, _)]) Try.func4 Try.ntmps4 rfl (of_decide_eq_true rfl) (.cons rfl .nil) ?_
  repeat' (first | (apply Wl.assign; exact rfl; exact rfl) | (apply Wl.nil) | (apply St.seq) | (apply St.region) | (apply Gt.next) | (apply Wl.splitP; exact rfl; exact rfl; all_goals (intros; try (exfalso; omega))) | (apply Wl.splitB; exact rfl; exact rfl; all_goals intros) | (apply St.condP; exact rfl; all_goals (intros; try (exfalso; omega))) | (apply St.condB; exact rfl; all_goals intros))
  apply Wl.callQ
  exact rfl
  (repeat (first | exact Evs.nil | apply Evs.cons rfl))
  · intro wq hq
    exact (fit09_any wq).mono fun e w' ⟨h1, h2⟩ => ⟨h1, hq.keep (hpOf h2)⟩
  repeat' (first | (apply Wl.move; exact rfl; exact rfl) | (apply Wl.assign; exact rfl; exact rfl) | (apply Wl.on; exact rfl; exact rfl; (first | with_reducible rfl | with_reducible assumption | decide)) | (apply Wl.off; exact rfl; exact rfl; exact rfl; (first | with_reducible rfl | (show _ = false; with_reducible assumption) | (show _ = true; with_reducible assumption) | decide)) | (apply Wl.pickT; exact rfl; exact rfl; (first | with_reducible rfl | with_reducible assumption | decide); exact rfl) | (apply Wl.not; exact rfl; exact rfl) | (apply Wl.gtr; exact rfl; exact rfl; exact rfl) | (apply Wl.len; exact rfl; exact rfl) | (apply Wl.nil) | (apply St.seq) | (apply St.region) | (apply St.condF; exact rfl; (first | with_reducible rfl | with_reducible assumption | decide)) | (apply St.ret) | (apply St.skip) | (apply Gt.next) | (apply Gt.out1; exact rfl; exact rfl; intro w' hp) | (apply Wl.splitP; exact rfl; exact rfl; all_goals (intros; try (exfalso; omega))) | (apply Wl.splitB; exact rfl; exact rfl; all_goals intros) | (apply St.condP; exact rfl; all_goals (intros; try (exfalso; omega))) | (apply St.condB; exact rfl; all_goals intros))
  · exact ⟨rfl, hp⟩
  · skip
    apply Wl.callQ
    exact rfl
    (repeat (first | exact Evs.nil | apply Evs.cons rfl))
    · intro wq hq
      exact (like_any _ f wq (hv.upd hq.upd fun _ _ _ _ y => y trivial) (by omega)).mono fun e w' ⟨h1, h2⟩ => ⟨h1, hq.keep (hpOf h2)⟩
    repeat' (first | (apply Wl.assign; exact rfl; exact rfl) | (apply Wl.pickF; exact rfl; exact rfl; (first | with_reducible rfl | with_reducible assumption | decide); exact rfl) | (apply Wl.nil) | (apply St.ret) | (apply Gt.next) | (apply Gt.out1; exact rfl; exact rfl; intro w' hp) | (apply Wl.splitP; exact rfl; exact rfl; all_goals (intros; try (exfalso; omega))) | (apply Wl.splitB; exact rfl; exact rfl; all_goals intros) | (apply St.condP; exact rfl; all_goals (intros; try (exfalso; omega))) | (apply St.condB; exact rfl; all_goals intros))
    exact ⟨rfl, hp⟩
end Go.Proofs.Ytcjikjadajmefaa
