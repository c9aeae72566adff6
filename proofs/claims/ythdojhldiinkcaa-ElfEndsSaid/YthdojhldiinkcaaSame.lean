/-
  Both readers answer alike: porticolaw08.same answers true. Conditions: the file has at most 3000 bytes.
-/
import Derived.Test.YthdojhldiinkcaaSegR
namespace Go.Proofs.Ythdojhldiinkcaa
open Go.RowKit Go.Pt

/-! ### the answers, told once -/
open Classical in
noncomputable def ansE (f : List UInt8) : Nat := if okHeads f then num f 24 4 else 0
open Classical in
noncomputable def ansN (f : List UInt8) : Nat := if okHeads f then num f 44 2 else 0
open Classical in
noncomputable def ansC (f : List UInt8) : Nat := if okHeads f then 0 else 8
theorem HeadsPost.uni {f : List UInt8} {w : World} {e : Ending} {w' : World} (h : HeadsPost f w e w') :
    Upd (fun k => w.heap.size ≤ k) w w' ∧ ∃ v, e = .returned (.tuple #[.int .u32 (ansE f), v, .int .i64 (ansC f)]) ∧ Sv w' 6 (ansN f) v (hAll f (num f 28 4) (ansN f)) := by
  unfold ansE ansN ansC
  rcases h with ⟨hu, ⟨hno, rfl⟩ | ⟨hok, v, rfl, h⟩⟩
  · simp only [if_neg hno]; exact ⟨hu, _, rfl, Sv.nil _ _⟩
  · simp only [if_pos hok]; exact ⟨hu, _, rfl, Sv.ofOwn h⟩
theorem RHeadsPost.uni {f : List UInt8} {w : World} {e : Ending} {w' : World} (h : RHeadsPost f w e w') :
    Upd (fun k => w.heap.size ≤ k) w w' ∧ ∃ v, e = .returned (.tuple #[.int .i64 (ansE f), v, .int .i64 (ansC f)]) ∧ Sv w' 6 (ansN f) v (rAll f (num f 28 4) (ansN f)) := by
  unfold ansE ansN ansC
  rcases h with ⟨hu, ⟨hno, rfl⟩ | ⟨hok, v, rfl, h⟩⟩
  · simp only [if_neg hno]; exact ⟨hu, _, rfl, Sv.nil _ _⟩
  · simp only [if_pos hok]; exact ⟨hu, _, rfl, Sv.ofOwn h⟩
structure SAns where
  e : Nat
  l : List Sg
  n : Nat
  c : Nat
open Classical in
noncomputable def segAns (f : List UInt8) : SAns :=
  if okHeads f then (if h : ∃ p : List Sg × Nat, SegsOf f p.1 p.2 then ⟨num f 24 4, h.choose.1, h.choose.2, 0⟩ else ⟨0, [], 0, 9⟩) else ⟨0, [], 0, 8⟩
theorem segAns_some {f : List UInt8} (h : okHeads f) {l : List Sg} {n : Nat} (hs : SegsOf f l n) : segAns f = ⟨num f 24 4, l, n, 0⟩ := by
  have hx : ∃ p : List Sg × Nat, SegsOf f p.1 p.2 := ⟨(l, n), hs⟩
  unfold segAns
  rw [if_pos h, dif_pos hx]
  have := hs.one hx.choose_spec
  rw [← this.1, ← this.2]
theorem segAns_none {f : List UInt8} (h : okHeads f) (hs : ∀ l n, ¬ SegsOf f l n) : segAns f = ⟨0, [], 0, 9⟩ := by
  unfold segAns
  rw [if_pos h, dif_neg fun ⟨p, hp⟩ => hs _ _ hp]
theorem segAns_no {f : List UInt8} (h : ¬ okHeads f) : segAns f = ⟨0, [], 0, 8⟩ := by
  unfold segAns
  rw [if_neg h]
theorem SegsPost.uni {f : List UInt8} {w : World} {e : Ending} {w' : World} (h : SegsPost f w e w') :
    Upd (fun k => w.heap.size ≤ k) w w' ∧ ∃ v a c, e = .returned (.tuple #[.int .u32 (segAns f).e, v, .slice a (segAns f).n c, .int .i64 (segAns f).c]) ∧ SegsP w' v (segAns f).l := by
  rcases h with ⟨hu, ⟨hno, rfl⟩ | ⟨hok, hno, rfl⟩ | ⟨hok, l, nd, v, a, c, hs, rfl, h⟩⟩
  · rw [segAns_no hno]; exact ⟨hu, _, _, _, rfl, [], rfl, Sv.nil _ _, fun x hx => by cases hx⟩
  · rw [segAns_none hok hno]; exact ⟨hu, _, _, _, rfl, [], rfl, Sv.nil _ _, fun x hx => by cases hx⟩
  · rw [segAns_some hok hs]; exact ⟨hu, _, _, _, rfl, h⟩
theorem RSegsPost.uni {f : List UInt8} {w : World} {e : Ending} {w' : World} (h : RSegsPost f w e w') :
    Upd (fun k => w.heap.size ≤ k) w w' ∧ ∃ v a c, e = .returned (.tuple #[.int .i64 (segAns f).e, v, .slice a (segAns f).n c, .int .i64 (segAns f).c]) ∧ SegsR w' v (segAns f).l := by
  rcases h with ⟨hu, ⟨hno, rfl⟩ | ⟨hok, hno, rfl⟩ | ⟨hok, l, nd, v, a, c, hs, rfl, h⟩⟩
  · rw [segAns_no hno]; exact ⟨hu, _, _, _, rfl, [], rfl, Sv.nil _ _, fun x hx => by cases hx⟩
  · rw [segAns_none hok hno]; exact ⟨hu, _, _, _, rfl, [], rfl, Sv.nil _ _, fun x hx => by cases hx⟩
  · rw [segAns_some hok hs]; exact ⟨hu, _, _, _, rfl, h⟩
theorem ansE_lt (f : List UInt8) : ansE f ≤ 4294967295 := by
  have := num4 f 24
  unfold ansE; split <;> omega
theorem ansC_lt (f : List UInt8) : ansC f ≤ 9 := by unfold ansC; split <;> omega
theorem segAns_lt (f : List UInt8) : (segAns f).e ≤ 4294967295 ∧ (segAns f).c ≤ 9 := by
  have := num4 f 24
  unfold segAns
  split
  · split <;> (simp only; omega)
  · simp only; omega
theorem ansN_lt (f : List UInt8) : ansN f ≤ 65535 := by
  have := num2 f 44
  unfold ansN; split <;> omega
theorem segAns_sg (f : List UInt8) : ∀ s ∈ (segAns f).l, s.addr + s.size ≤ 4294967292 := by
  unfold segAns
  split
  · split
    · rename_i h
      intro s hs
      exact (segAt_ok h.choose_spec.1 s hs).2.2.2.1
    · intro s hs; cases hs
  · intro s hs; cases hs
/-- the cells of a list of segments, one by one -/
theorem flat4 {α : Type} {g : α → List Value} (hg : ∀ x, (g x).length = 4) {xs : List α} {i j : Nat} {x : α} (hi : xs[i]? = some x) (hj : j < 4) : (xs.flatMap g)[i * 4 + j]? = (g x)[j]? := by
  induction xs generalizing i with
  | nil => simp at hi
  | cons y ys ih =>
    rw [List.flatMap_cons]
    cases i with
    | zero =>
      simp only [List.getElem?_cons_zero, Option.some.injEq] at hi
      subst hi
      rw [List.getElem?_append_left (by rw [hg]; omega)]
      congr 1; omega
    | succ i =>
      rw [List.getElem?_append_right (by rw [hg]; omega), hg]
      rw [List.getElem?_cons_succ] at hi
      rw [← ih hi]
      congr 1; omega
theorem Sv.at {w : World} {sz n : Nat} {v : Value} {xs : List Value} (h : Sv w sz n v xs) {b : Bool} : ∃ a c, v = .slice a n c := by
  obtain ⟨_, a, c, rfl, _⟩ := h
  exact ⟨a, c, rfl⟩

set_option maxHeartbeats 1000000 in
theorem same_any (v : Value) (f : List UInt8) (w : World) (hv : Bs w v f) (h3 : f.length ≤ 3000) :
    Calls Try.prog 33 #[v] w (fun e w' => e = .returned (.bool true) ∧ Upd (fun k => w.heap.size ≤ k) w w') := by
  obtain ⟨a, cap, rfl, hlc, hm⟩ := hv.shape
  unfold maxLen at hm
  refine enter (args := [_]) (Γ := [(0, _)]) Try.func33 Try.ntmps33 rfl (of_decide_eq_true rfl) (.cons rfl .nil) ?_
  repeat' (first | (apply Wl.move; exact rfl; exact rfl) | (apply Wl.assign; exact rfl; exact rfl) | (apply Wl.nil) | (apply St.seq) | (apply St.region) | (apply Gt.next) | (apply Wl.splitP; exact rfl; exact rfl; all_goals (intros; try (exfalso; omega))) | (apply Wl.splitB; exact rfl; exact rfl; all_goals intros) | (apply St.condP; exact rfl; all_goals (intros; try (exfalso; omega))) | (apply St.condB; exact rfl; all_goals intros))
  apply Wl.call
  exact rfl
  (repeat (first | exact Evs.nil | apply Evs.cons rfl))
  intro w1 h1
  have u1 : Upd (fun k => w.heap.size ≤ k) w w1 := h1.upd.mono fun k _ y => (y trivial).elim
  clear h1
  refine (heads_any _ f w1 (hv.upd u1 fun k _ hk _ y => by omega) h3).mono ?_
  intro e w2 hpost
  obtain ⟨u2', vh, rfl, hvh⟩ := hpost.uni
  clear hpost
  refine ⟨_, rfl, ?_⟩
  have u2 : Upd (fun k => w.heap.size ≤ k) w w2 := u1.comp u2' fun k _ hs => hs.elim id fun y => Nat.le_trans u1.size y
  clear u2' u1 w1
  repeat' (first | (apply Wl.move; exact rfl; exact rfl) | (apply Wl.assign; exact rfl; exact rfl) | (apply Wl.extract; exact rfl; exact rfl; exact rfl) | (apply Wl.nil) | (apply St.seq) | (apply St.region) | (apply Gt.next) | (apply Wl.splitP; exact rfl; exact rfl; all_goals (intros; try (exfalso; omega))) | (apply Wl.splitB; exact rfl; exact rfl; all_goals intros) | (apply St.condP; exact rfl; all_goals (intros; try (exfalso; omega))) | (apply St.condB; exact rfl; all_goals intros))
  apply Wl.call
  exact rfl
  (repeat (first | exact Evs.nil | apply Evs.cons rfl))
  intro w3 h3'
  have u3 : Upd (fun _ => False) w2 w3 := h3'.upd.mono fun k _ y => y trivial
  clear h3'
  refine (rheads_any _ f w3 (hv.upd (u2.comp u3 (T := fun k => w.heap.size ≤ k) fun k _ hs => hs.elim id False.elim) fun k _ hk _ y => by omega) h3).mono ?_
  intro e w4 hpost
  obtain ⟨u4', vr, rfl, hvr⟩ := hpost.uni
  clear hpost
  refine ⟨_, rfl, ?_⟩
  have u24 : Upd (fun k => w2.heap.size ≤ k) w2 w4 := u3.comp u4' fun k _ hs => hs.elim False.elim fun y => Nat.le_trans u3.size y
  have hvh4 := Sv.upd hvh u24 fun k _ hk _ y => by omega
  clear hvh
  have u4 : Upd (fun k => w.heap.size ≤ k) w w4 := u2.comp u24 fun k _ hs => hs.elim id fun y => Nat.le_trans u2.size y
  clear u4' u2 u3 u24 w2 w3
  obtain ⟨_, ah, ch, rfl, _, _, _, hcellh⟩ := hvh4
  obtain ⟨_, ar, cr, rfl, _, _, _, hcellr⟩ := hvr
  have bE := ansE_lt f
  have bC := ansC_lt f
  have bN := ansN_lt f
  generalize hEE : ansE f = E at *
  generalize hCC : ansC f = K at *
  generalize hNN : ansN f = n at *
  generalize hAA : num f 28 4 = A at *
  repeat' (first | (apply Wl.move; exact rfl; exact rfl) | (apply Wl.assign; exact rfl; exact rfl) | (apply Wl.on; exact rfl; exact rfl; (first | rfl | assumption)) | (apply Wl.extract; exact rfl; exact rfl; exact rfl) | (apply Wl.pickF; exact rfl; exact rfl; (first | rfl | assumption); exact rfl) | (apply Wl.neqIs; exact rfl; exact rfl; exact rfl; (first | assumption | with_reducible rfl)) | (apply Wl.convI64; exact rfl; exact rfl; (constructor <;> omega)) | (apply Wl.len; exact rfl; exact rfl) | (apply Wl.nil) | (apply St.seq) | (apply St.block) | (apply St.region) | (apply St.condF; exact rfl; (first | rfl | assumption)) | (apply St.skip) | (apply Gt.next) | (apply Wl.splitP; exact rfl; exact rfl; all_goals (intros; try (exfalso; omega))) | (apply Wl.splitB; exact rfl; exact rfl; all_goals intros) | (apply St.condP; exact rfl; all_goals (intros; try (exfalso; omega))) | (apply St.condB; exact rfl; all_goals intros))
  refine St.loop (σ := Nat)
    (fun τ => τ ≤ n)
    (fun τ => [(0, .slice a f.length cap), (7, .slice ar n cr), (49, .slice ah n ch), (50, .int .i64 n), (51, .int .i64 τ)])
    (fun _ => Hp w4 [])
    (fun τ => n - τ) 0 (Nat.zero_le _) (by (repeat (first | exact Sub.nil | apply Sub.cons rfl))) (fun _ h => h) ?_
  intro i hin
  by_cases hlt : i < n
  · obtain ⟨bh, oh, rfl, hch⟩ := hcellh (fun e => by have := hAll_len f A n; rw [e] at this; simp at this; omega)
    obtain ⟨br, or, rfl, hcr⟩ := hcellr (fun e => by have := rAll_len f A n; rw [e] at this; simp at this; omega)
    have hce : ∀ j v, (hCells f (A + 32 * i))[j]? = some v → w4.cell? ⟨bh, oh + (i : Int).toNat * 6 + j, none⟩ = some v := by
      intro j v hj
      have hj6 : j < 6 := by have := (List.getElem?_eq_some_iff.1 hj).1; simpa [hCells] using this
      rw [← hAll_get f A n i j hlt hj6] at hj
      obtain ⟨h1, h2⟩ := List.getElem?_eq_some_iff.1 hj
      have := hch _ h1
      rw [h2] at this
      rw [show oh + (i : Int).toNat * 6 + j = oh + (i * 6 + j) by omega]
      exact this
    have hcr' : ∀ j v, (rCells f (A + 32 * i))[j]? = some v → w4.cell? ⟨br, or + (i : Int).toNat * 6 + j, none⟩ = some v := by
      intro j v hj
      have hj6 : j < 6 := by have := (List.getElem?_eq_some_iff.1 hj).1; simpa [rCells] using this
      rw [← rAll_get f A n i j hlt hj6] at hj
      obtain ⟨h1, h2⟩ := List.getElem?_eq_some_iff.1 hj
      have := hcr _ h1
      rw [h2] at this
      rw [show or + (i : Int).toNat * 6 + j = or + (i * 6 + j) by omega]
      exact this
    generalize hoo : A + 32 * i = o at *
    have r0 := hcr' 0 _ rfl
    have r1 := hcr' 1 _ rfl
    have r2 := hcr' 2 _ rfl
    have r3 := hcr' 3 _ rfl
    have r4 := hcr' 4 _ rfl
    have r5 := hcr' 5 _ rfl
    have hbr := World.block_lt_of_cell? w4 _ r0
    simp only at hbr
    have m0 := num4 f o
    have m4 := num4 f (o + 4)
    have m8 := num4 f (o + 8)
    have m16 := num4 f (o + 16)
    have m20 := num4 f (o + 20)
    repeat' (first | (apply Wl.loadAO; exact rfl; exact rfl; exact hce; exact trivial; exact rfl) | (apply Wl.move; exact rfl; exact rfl) | (apply Wl.assign; exact rfl; exact rfl) | (apply Wl.on; exact rfl; exact rfl; (first | rfl | assumption)) | (apply Wl.pickF; exact rfl; exact rfl; (first | rfl | assumption); exact rfl) | (apply Wl.fieldAddr0; exact rfl; exact rfl) | (apply Wl.fieldAddrZ; exact rfl; exact rfl) | (apply Wl.fieldAddr; exact rfl; exact rfl) | (apply Wl.loadH; exact rfl; exact rfl; (repeat (first | exact List.Mem.head _ | apply List.Mem.tail)); exact rfl) | (apply Wl.loadO; exact rfl; exact rfl; (assumption); (repeat (first | exact trivial | refine ⟨by first | assumption | omega, ?_⟩))) | (apply Wl.neqIs; exact rfl; exact rfl; exact rfl; (first | assumption | with_reducible rfl)) | (apply Wl.lss; exact rfl; exact rfl; exact rfl) | (apply Wl.addI; exact rfl; exact rfl; exact rfl; (constructor <;> omega)) | (apply Wl.convI64; exact rfl; exact rfl; (constructor <;> omega)) | (apply Wl.storeA; exact rfl; exact rfl; exact rfl; exact rfl; (repeat (first | apply HSet.here | apply HSet.there)); (repeat (first | apply LPut.s | apply LPut.z | apply LOver.nil | apply LOver.cons))) | (apply Wl.alloc; exact rfl; intro c hc ho) | (apply Wl.indexAddr; exact rfl; exact rfl; exact rfl; (constructor <;> omega)) | (apply Wl.nil) | (apply Wl.nilQ) | (apply St.seq) | (apply St.block) | (apply St.region) | (apply St.draw; exact mixed; (kernel_rfl); exact (fun _ h => Hp.drew h)) | (apply St.condF; exact rfl; (first | rfl | assumption)) | (apply St.skip) | (apply Gt.next) | (apply Gt.inNormal) | (apply Wl.splitP; exact rfl; exact rfl; all_goals (intros; try (exfalso; omega))) | (apply Wl.splitB; exact rfl; exact rfl; all_goals intros) | (apply St.condP; exact rfl; all_goals (intros; try (exfalso; omega))) | (apply St.condB; exact rfl; all_goals intros))
    all_goals first | exact ⟨fun e => by have e' : c = br := e; omega, trivial⟩ | skip
    apply Gt.round (i + 1)
    · exact hlt
    · omega
    · (repeat (first | exact Sub.nil | apply Sub.cons rfl))
    · exact fun u hu => hu.drop (by simp; omega)
  · have hin' : i = n := by omega
    subst hin'
    have u0 := u4
    clear hcellh hcellr u4
    repeat' (first | (apply Wl.move; exact rfl; exact rfl) | (apply Wl.lss; exact rfl; exact rfl; exact rfl) | (apply Wl.nil) | (apply St.seq) | (apply St.region) | (apply St.exit) | (apply Gt.next) | (apply Gt.thenExit) | (apply Gt.inExit) | (apply Wl.splitP; exact rfl; exact rfl; all_goals (intros; try (exfalso; omega))) | (apply Wl.splitB; exact rfl; exact rfl; all_goals intros) | (apply St.condP; exact rfl; all_goals (intros; try (exfalso; omega))) | (apply St.condB; exact rfl; all_goals intros))
    apply Wl.call
    exact rfl
    (repeat (first | exact Evs.nil | apply Evs.cons rfl))
    intro w1 h1
    have u1 : Upd (fun k => w.heap.size ≤ k) w w1 := u0.comp h1.upd fun k _ hs => hs.elim id fun y => (y trivial).elim
    clear h1 u0
    refine (segs_any _ f w1 (hv.upd u1 fun k _ hk _ y => by omega) h3).mono ?_
    intro e w2 hpost
    obtain ⟨u2', vp, ap, cp, rfl, hvp⟩ := hpost.uni
    clear hpost
    refine ⟨_, rfl, ?_⟩
    have u2 : Upd (fun k => w.heap.size ≤ k) w w2 := u1.comp u2' fun k _ hs => hs.elim id fun y => Nat.le_trans u1.size y
    clear u2' u1 w1
    repeat' (first | (apply Wl.move; exact rfl; exact rfl) | (apply Wl.assign; exact rfl; exact rfl) | (apply Wl.extract; exact rfl; exact rfl; exact rfl) | (apply Wl.nil) | (apply St.seq) | (apply St.region) | (apply Gt.next) | (apply Wl.splitP; exact rfl; exact rfl; all_goals (intros; try (exfalso; omega))) | (apply Wl.splitB; exact rfl; exact rfl; all_goals intros) | (apply St.condP; exact rfl; all_goals (intros; try (exfalso; omega))) | (apply St.condB; exact rfl; all_goals intros))
    apply Wl.call
    exact rfl
    (repeat (first | exact Evs.nil | apply Evs.cons rfl))
    intro w3 h3'
    have u3 : Upd (fun _ => False) w2 w3 := h3'.upd.mono fun k _ y => y trivial
    clear h3'
    refine (rsegs_any _ f w3 (hv.upd (u2.comp u3 (T := fun k => w.heap.size ≤ k) fun k _ hs => hs.elim id False.elim) fun k _ hk _ y => by omega) h3).mono ?_
    intro e w4 hpost
    obtain ⟨u4', vr, aq, cq, rfl, hvr⟩ := hpost.uni
    clear hpost
    refine ⟨_, rfl, ?_⟩
    have u24 : Upd (fun k => w2.heap.size ≤ k) w2 w4 := u3.comp u4' fun k _ hs => hs.elim False.elim fun y => Nat.le_trans u3.size y
    obtain ⟨xs, hxs, hsx, hbx⟩ := hvp
    obtain ⟨ys, hys, hsy, hby⟩ := hvr
    have hsx4 := Sv.upd hsx u24 fun k _ hk _ y => by omega
    have hbx4 : ∀ x ∈ xs, Bs w4 x.2 x.1.bytes := fun x hx => (hbx x hx).upd u24 fun k _ hk _ y => by omega
    have u4 : Upd (fun k => w.heap.size ≤ k) w w4 := u2.comp u24 fun k _ hs => hs.elim id fun y => Nat.le_trans u2.size y
    clear u4' u2 u3 u24 hsx hbx w2 w3
    obtain ⟨hlx, ah', ch', rfl, hcx1, hcx2, _, hcellx⟩ := hsx4
    obtain ⟨hly, ar', cr', rfl, hcy1, hcy2, _, hcelly⟩ := hsy
    have bA := segAns_lt f
    have bS := segAns_sg f
    have hlen : xs.length = ys.length := by have := congrArg List.length (hxs.trans hys.symm); simpa using this
    generalize (segAns f).e = E' at *
    generalize (segAns f).c = K' at *
    generalize (segAns f).n = n' at *
    generalize (segAns f).l = l at *
    unfold maxLen at hcx2
    rw [← hlen]
    repeat' (first | (apply Wl.move; exact rfl; exact rfl) | (apply Wl.assign; exact rfl; exact rfl) | (apply Wl.on; exact rfl; exact rfl; (first | rfl | assumption)) | (apply Wl.extract; exact rfl; exact rfl; exact rfl) | (apply Wl.pickF; exact rfl; exact rfl; (first | rfl | assumption); exact rfl) | (apply Wl.neqIs; exact rfl; exact rfl; exact rfl; (first | assumption | with_reducible rfl)) | (apply Wl.convI64; exact rfl; exact rfl; (constructor <;> omega)) | (apply Wl.len; exact rfl; exact rfl) | (apply Wl.nil) | (apply St.seq) | (apply St.block) | (apply St.region) | (apply St.condF; exact rfl; (first | rfl | assumption)) | (apply St.skip) | (apply Gt.next) | (apply Wl.splitP; exact rfl; exact rfl; all_goals (intros; try (exfalso; omega))) | (apply Wl.splitB; exact rfl; exact rfl; all_goals intros) | (apply St.condP; exact rfl; all_goals (intros; try (exfalso; omega))) | (apply St.condB; exact rfl; all_goals intros))
    refine St.loop (σ := Nat)
      (fun τ => τ ≤ xs.length)
      (fun τ => [(16, .slice ar' xs.length cr'), (156, .slice ah' xs.length ch'), (157, .int .i64 xs.length), (158, .int .i64 τ)])
      (fun _ => Hp w4 [])
      (fun τ => xs.length - τ) 0 (Nat.zero_le _) (by (repeat (first | exact Sub.nil | apply Sub.cons rfl))) (fun _ h => h) ?_
    intro i hin
    by_cases hlt : i < xs.length
    · obtain ⟨bh, oh, rfl, hch⟩ := hcellx (fun e => by rw [e] at hlx; simp at hlx; omega)
      obtain ⟨br, or, rfl, hcr⟩ := hcelly (fun e => by rw [e] at hly; simp at hly; omega)
      obtain ⟨x, hx⟩ : ∃ x, xs[i]? = some x := ⟨_, List.getElem?_eq_getElem hlt⟩
      obtain ⟨y, hy⟩ : ∃ y, ys[i]? = some y := ⟨_, List.getElem?_eq_getElem (hlen ▸ hlt)⟩
      have hxy : x.1 = y.1 := by
        have h1 : (xs.map (·.1))[i]? = some x.1 := by rw [List.getElem?_map, hx]; rfl
        have h2 : (ys.map (·.1))[i]? = some y.1 := by rw [List.getElem?_map, hy]; rfl
        rw [hxs, ← hys, h2] at h1
        exact (Option.some.inj h1).symm
      obtain ⟨s, vx⟩ := x
      obtain ⟨s', vy⟩ := y
      simp only at hxy
      subst hxy
      have hbx' := hbx4 _ (List.mem_of_getElem? hx)
      have hby' := hby _ (List.mem_of_getElem? hy)
      have hsg := bS s (by rw [← hxs]; exact List.mem_map_of_mem (List.mem_of_getElem? hx))
      simp only at hbx' hby'
      obtain ⟨ax, cx, rfl, _, _⟩ := hbx'.shape
      have hce : ∀ j v, [Value.int .u32 s.addr, .slice ax s.bytes.length cx, .int .u32 s.size, .int .i64 s.rights][j]? = some v → w4.cell? ⟨bh, oh + (i : Int).toNat * 4 + j, none⟩ = some v := by
        intro j v hj
        have hj4 : j < 4 := (List.getElem?_eq_some_iff.1 hj).1
        have hj' : (sgP (s, .slice ax s.bytes.length cx))[j]? = some v := hj
        rw [← flat4 (g := sgP) (fun _ => rfl) hx hj4] at hj'
        obtain ⟨h1, h2⟩ := List.getElem?_eq_some_iff.1 hj'
        have := hch _ h1
        rw [h2] at this
        rw [show oh + (i : Int).toNat * 4 + j = oh + (i * 4 + j) by omega]
        exact this
      have hcr' : ∀ j v, [Value.int .i64 s.addr, .int .i64 s.size, .int .i64 s.rights, vy][j]? = some v → w4.cell? ⟨br, or + (i : Int).toNat * 4 + j, none⟩ = some v := by
        intro j v hj
        have hj4 : j < 4 := (List.getElem?_eq_some_iff.1 hj).1
        have hj' : (sgR (s, vy))[j]? = some v := hj
        rw [← flat4 (g := sgR) (fun _ => rfl) hy hj4] at hj'
        obtain ⟨h1, h2⟩ := List.getElem?_eq_some_iff.1 hj'
        have := hcr _ h1
        rw [h2] at this
        rw [show or + (i : Int).toNat * 4 + j = or + (i * 4 + j) by omega]
        exact this
      have r0 := hcr' 0 _ rfl
      have r1 := hcr' 1 _ rfl
      have r2 := hcr' 2 _ rfl
      have r3 := hcr' 3 _ rfl
      obtain ⟨ay, cy, rfl, _, _⟩ := hby'.shape
      have hbr := World.block_lt_of_cell? w4 _ r0
      simp only at hbr
      repeat' (first | (apply Wl.loadAO; exact rfl; exact rfl; exact hce; exact trivial; exact rfl) | (apply Wl.move; exact rfl; exact rfl) | (apply Wl.assign; exact rfl; exact rfl) | (apply Wl.on; exact rfl; exact rfl; (first | rfl | assumption)) | (apply Wl.pickF; exact rfl; exact rfl; (first | rfl | assumption); exact rfl) | (apply Wl.fieldAddr0; exact rfl; exact rfl) | (apply Wl.fieldAddrZ; exact rfl; exact rfl) | (apply Wl.fieldAddr; exact rfl; exact rfl) | (apply Wl.loadH; exact rfl; exact rfl; (repeat (first | exact List.Mem.head _ | apply List.Mem.tail)); exact rfl) | (apply Wl.loadO; exact rfl; exact rfl; (assumption); (repeat (first | exact trivial | refine ⟨by first | assumption | omega, ?_⟩))) | (apply Wl.neqIs; exact rfl; exact rfl; exact rfl; (first | assumption | with_reducible rfl)) | (apply Wl.lss; exact rfl; exact rfl; exact rfl) | (apply Wl.convI64; exact rfl; exact rfl; (constructor <;> omega)) | (apply Wl.storeA; exact rfl; exact rfl; exact rfl; exact rfl; (repeat (first | apply HSet.here | apply HSet.there)); (repeat (first | apply LPut.s | apply LPut.z | apply LOver.nil | apply LOver.cons))) | (apply Wl.alloc; exact rfl; intro c hc ho) | (apply Wl.indexAddr; exact rfl; exact rfl; exact rfl; (constructor <;> omega)) | (apply Wl.nil) | (apply St.seq) | (apply St.block) | (apply St.region) | (apply St.draw; exact mixed; (kernel_rfl); exact (fun _ h => Hp.drew h)) | (apply St.skip) | (apply Gt.next) | (apply Wl.splitP; exact rfl; exact rfl; all_goals (intros; try (exfalso; omega))) | (apply Wl.splitB; exact rfl; exact rfl; all_goals intros) | (apply St.condP; exact rfl; all_goals (intros; try (exfalso; omega))) | (apply St.condB; exact rfl; all_goals intros))
      all_goals first | exact ⟨fun e => by have e' : c = br := e; omega, trivial⟩ | skip
      apply Wl.convBSo
      · exact rfl
      · exact rfl
      · exact hbx'
      · exact fun k _ hk _ => ⟨fun e => by have e' : c = k := e; omega, trivial⟩
      repeat' (first | (apply Wl.loadO; exact rfl; exact rfl; (assumption); exact ⟨fun e => by have e' : c = br := e; omega, trivial⟩) | (apply Wl.move; exact rfl; exact rfl) | (apply Wl.on; exact rfl; exact rfl; (first | rfl | assumption)) | (apply Wl.fieldAddr; exact rfl; exact rfl) | (apply Wl.indexAddr; exact rfl; exact rfl; exact rfl; (constructor <;> omega)) | (apply Wl.splitP; exact rfl; exact rfl; all_goals (intros; try (exfalso; omega))) | (apply Wl.splitB; exact rfl; exact rfl; all_goals intros) | (apply St.condP; exact rfl; all_goals (intros; try (exfalso; omega))) | (apply St.condB; exact rfl; all_goals intros))
      apply Wl.convBSo
      · exact rfl
      · exact rfl
      · exact hby'
      · exact fun k _ hk _ => ⟨fun e => by have e' : c = k := e; omega, trivial⟩
      repeat' (first | (apply Wl.move; exact rfl; exact rfl) | (apply Wl.assign; exact rfl; exact rfl) | (apply Wl.on; exact rfl; exact rfl; (first | rfl | assumption)) | (apply Wl.pickF; exact rfl; exact rfl; (first | rfl | assumption); exact rfl) | (apply Wl.addI; exact rfl; exact rfl; exact rfl; (constructor <;> omega)) | (apply Wl.neqSB; exact rfl; exact rfl; exact rfl) | (apply Wl.nil) | (apply Wl.nilQ) | (apply St.seq) | (apply St.region) | (apply St.ret) | (apply St.skip) | (apply Gt.next) | (apply Gt.thenRet) | (apply Gt.inNormal) | (apply Gt.inRet) | (apply Gt.out1; exact rfl; exact rfl; intro w' hp) | (apply Wl.splitP; exact rfl; exact rfl; all_goals (intros; try (exfalso; omega))) | (apply Wl.splitB; exact rfl; exact rfl; all_goals intros) | (apply St.condP; exact rfl; all_goals (intros; try (exfalso; omega))) | (apply St.condB; exact rfl; all_goals intros))
      · rename_i hne _
        exact absurd rfl hne
      apply Gt.round (i + 1)
      · exact hlt
      · omega
      · (repeat (first | exact Sub.nil | apply Sub.cons rfl))
      · exact fun u hu => hu.drop (by simp; omega)
    · have hin' : i = xs.length := by omega
      subst hin'
      repeat' (first | (apply Wl.assign; exact rfl; exact rfl) | (apply Wl.lss; exact rfl; exact rfl; exact rfl) | (apply Wl.nil) | (apply St.seq) | (apply St.region) | (apply St.ret) | (apply St.exit) | (apply Gt.next) | (apply Gt.thenExit) | (apply Gt.inExit) | (apply Gt.out1; exact rfl; exact rfl; intro w' hp) | (apply Wl.splitP; exact rfl; exact rfl; all_goals (intros; try (exfalso; omega))) | (apply Wl.splitB; exact rfl; exact rfl; all_goals intros) | (apply St.condP; exact rfl; all_goals (intros; try (exfalso; omega))) | (apply St.condB; exact rfl; all_goals intros))
      exact ⟨rfl, u4.comp (hp.drop (by simp)).upd fun k _ hs => hs.elim id fun y => (y trivial).elim⟩
end Go.Proofs.Ythdojhldiinkcaa
