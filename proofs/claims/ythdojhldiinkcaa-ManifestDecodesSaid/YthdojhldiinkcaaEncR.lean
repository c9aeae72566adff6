/-
  porticoref07.Encode: the bytes of a manifest that may be. Conditions: the manifest may be.
-/
import Derived.Test.YthdojhldiinkcaaBagT
import Derived.Test.YthdojhldiinkcaaJoin
import Derived.Test.YthdojhldiinkcaaLaw07
namespace Go.Proofs.Ythdojhldiinkcaa
open Go.RowKit Go.Pt

/-! ### the pieces -/
def grL (g : Gr) : List (List UInt8) := [leB 4 g.start, leB 4 g.size, leB 4 g.rights.toNat]
def pyH (p : Py) : List (List UInt8) := [p.dig, leB 4 p.size, leB 4 p.bias, leB 1 p.calls.toNat ++ (leB 1 p.grants.length ++ leB 2 0)]
def pyL (p : Py) : List (List UInt8) := pyH p ++ p.grants.flatMap grL
def hdL (m : Mf) : List (List UInt8) := [manMark, leB 4 m.counter, leB 1 m.key.toNat ++ (leB 1 m.pays.length ++ leB 2 0)]
def mfL (m : Mf) : List (List UInt8) := hdL m ++ m.pays.flatMap pyL
theorem flatMap_flat {α : Type} (f : α → List (List UInt8)) (g : α → List UInt8) (h : ∀ x, (f x).flatten = g x) (l : List α) : (l.flatMap f).flatten = l.flatMap g := by
  induction l with
  | nil => rfl
  | cons x r ih => rw [List.flatMap_cons, List.flatten_append, h, ih, List.flatMap_cons]
theorem grL_flat (g : Gr) : (grL g).flatten = encG g := by simp [grL, encG]
theorem pyL_flat (p : Py) : (pyL p).flatten = encP p := by
  unfold pyL
  rw [List.flatten_append, flatMap_flat grL encG grL_flat]
  simp [pyH, encP]
theorem mfL_flat (m : Mf) : (mfL m).flatten = encM m := by
  unfold mfL
  rw [List.flatten_append, flatMap_flat pyL encP pyL_flat]
  simp [hdL, encM]
theorem grL_len (gs : List Gr) : (gs.flatMap grL).length = 3 * gs.length := by
  induction gs with
  | nil => rfl
  | cons g r ih => rw [List.flatMap_cons, List.length_append, ih, List.length_cons]; simp [grL]; omega
theorem pyL_len (ps : List Py) (h : ∀ p ∈ ps, p.grants.length ≤ 4) : (ps.flatMap pyL).length ≤ 16 * ps.length := by
  induction ps with
  | nil => exact Nat.le_refl _
  | cons p r ih =>
    have h1 := h p (by simp)
    have h2 := ih fun q hq => h q (by simp [hq])
    have h3 : (pyL p).length = 4 + 3 * p.grants.length := by unfold pyL; rw [List.length_append, grL_len]; rfl
    rw [List.flatMap_cons, List.length_append, List.length_cons, h3]
    omega
theorem lit4 (a b : Nat) (ha : a < 256) (hb : b < 256) : [Value.int .u8 (a : Int), .int .u8 (b : Int), .int .u8 0, .int .u8 0] = byteCells (leB 1 a ++ (leB 1 b ++ leB 2 0)) := by
  rw [u8n a ha, u8n b hb]
  simp [byteCells, leB]

/-! ### pieces that are newly made -/
def Nw (b : Nat) (w : World) (v : Value) (l : List UInt8) : Prop := Bs w v l ∧ ∀ k, v.ownBlock = some k → b ≤ k
theorem Nw.ext {b : Nat} {w w' : World} {v : Value} {l : List UInt8} (h : Nw b w v l) (e : Ext w w') : Nw b w' v l := ⟨h.1.upd e fun _ _ _ _ y => y, h.2⟩
theorem Bo.nw {b base : Nat} {w w' : World} {v : Value} {l : List UInt8} (h : Bo w base v l) (hp : Hp w [] w') (hb : b ≤ base) : Nw b w' v l :=
  ⟨h.bs.upd hp.upd fun _ _ _ _ y => y trivial, fun k hk => by have := h.base hk; omega⟩
inductive NwL (b : Nat) (w : World) : List Value → List (List UInt8) → Prop
  | nil : NwL b w [] []
  | cons {v : Value} {l : List UInt8} {vs : List Value} {ls : List (List UInt8)} (h : Nw b w v l) (hs : NwL b w vs ls) : NwL b w (v :: vs) (l :: ls)
theorem NwL.out {b : Nat} {w : World} {vs : List Value} {ls : List (List UInt8)} (h : NwL b w vs ls) : vs.length = ls.length ∧ ∀ (i : Nat) (x : Value) (l : List UInt8), vs[i]? = some x → ls[i]? = some l → Nw b w x l := by
  induction h with
  | nil => exact ⟨rfl, fun i x l hx _ => by simp at hx⟩
  | @cons v l vs ls h hs ih =>
    refine ⟨by simp [ih.1], fun i x m hx hm => ?_⟩
    cases i with
    | zero => simp only [List.getElem?_cons_zero, Option.some.injEq] at hx hm; subst hx; subst hm; exact h
    | succ i => exact ih.2 i x m (by simpa using hx) (by simpa using hm)
/-- a literal of pieces, newly made -/
def LitN (b : Nat) (w : World) (v : Value) (ls : List (List UInt8)) : Prop :=
  ∃ vs : List Value, vs.length = ls.length ∧ Sv w 1 vs.length v vs ∧ (∀ (i : Nat) (x : Value) (l : List UInt8), vs[i]? = some x → ls[i]? = some l → Nw b w x l) ∧ vs.all Value.oneCell' = true
theorem LitN.ext {b : Nat} {w w' : World} {v : Value} {ls : List (List UInt8)} (h : LitN b w v ls) (e : Ext w w') : LitN b w' v ls := by
  obtain ⟨vs, h1, h2, h3, h4⟩ := h
  exact ⟨vs, h1, Sv.upd h2 e fun _ _ _ _ y => y, fun i x l hx hl => (h3 i x l hx hl).ext e, h4⟩
theorem LitN.mk {b c n : Nat} {w1 w' : World} {vs : List Value} {ls : List (List UInt8)} (h : NwL b w1 vs ls) (hp : Hp w1 [⟨c, vs, 28⟩] w') (hc : w1.heap.size ≤ c) (hn : vs.length = n) (h16 : n ≤ 1000) : LitN b w' (.slice (some ⟨c, 0, none⟩) n n) ls := by
  subst hn
  refine ⟨vs, h.out.1, ⟨by simp, _, _, rfl, Nat.le_refl _, by unfold maxLen; omega, fun e => (by cases e), fun _ => ⟨c, 0, rfl, fun i hi => ?_⟩⟩, fun i x l hx hl => ?_, ?_⟩
  · rw [Nat.zero_add]
    exact hp.cell (.head _) (List.getElem?_eq_getElem hi)
  · have h1 := h.out.2 i x l hx hl
    exact ⟨h1.1.upd hp.upd fun k _ hk _ y => y (off1 (by omega)), h1.2⟩
  · rw [List.all_eq_true]
    intro x hx
    obtain ⟨i, hi, rfl⟩ := List.getElem_of_mem hx
    obtain ⟨_, _, e, _⟩ := (h.out.2 i vs[i] (ls[i]'(h.out.1 ▸ hi)) (List.getElem?_eq_getElem hi) (List.getElem?_eq_getElem (h.out.1 ▸ hi))).1.shape
    rw [e]; rfl
theorem Out.ext {b : Nat} {w w' : World} {v : Value} {ls : List (List UInt8)} (h : Out b w v ls) (e : Ext w w') : Out b w' v ls := h.upd e fun _ y _ => y
/-- several pieces more -/
theorem Out.app {base b : Nat} {w w' : World} {v v' : Value} {ls ls2 : List (List UInt8)} {vs vs2 : List Value} (h1 : vs.length = ls.length)
    (h3 : ∀ (i : Nat) (x : Value) (l : List UInt8), vs[i]? = some x → ls[i]? = some l → Bs w x l ∧ ∀ k, x.ownBlock = some k → l ≠ [] → v.ownBlock ≠ some k) (h4 : vs.all Value.oneCell' = true)
    (g1 : vs2.length = ls2.length) (g3 : ∀ (i : Nat) (x : Value) (l : List UInt8), vs2[i]? = some x → ls2[i]? = some l → Nw b w x l) (g4 : vs2.all Value.oneCell' = true) (hvb : ∀ k, v.ownBlock = some k → k < b)
    (ho : w'.ownsRow base 28 1 v' (vs.length + vs2.length) (vs ++ vs2)) (u : Upd (fun k => v.ownBlock = some k) w w') (hk : ∀ k, v'.ownBlock = some k → v.ownBlock = some k ∨ w.heap.size ≤ k) : Out base w' v' (ls ++ ls2) := by
  refine ⟨vs ++ vs2, by simp [h1, g1], by rw [List.length_append]; exact ho, fun i x m hx hm => ?_, by simp [List.all_append, h4, g4]⟩
  have key : Bs w x m → (∀ k, x.ownBlock = some k → m ≠ [] → v.ownBlock ≠ some k) → Bs w' x m ∧ ∀ k, x.ownBlock = some k → m ≠ [] → v'.ownBlock ≠ some k := fun a1 a2 =>
    ⟨a1.upd u fun k hk _ hne => a2 k hk hne, fun k hxk hne e => (hk k e).elim (a2 k hxk hne) fun hle => by have := Bs.inH' a1 hne k hxk; omega⟩
  rcases Nat.lt_or_ge i vs.length with hi | hi
  · rw [List.getElem?_append_left hi] at hx
    rw [List.getElem?_append_left (by omega)] at hm
    obtain ⟨a1, a2⟩ := h3 i x m hx hm
    exact key a1 a2
  · rw [List.getElem?_append_right hi] at hx
    rw [List.getElem?_append_right (by omega), ← h1] at hm
    obtain ⟨a1, a2⟩ := g3 _ x m hx hm
    exact key a1 fun k hk _ e => by have := a2 k hk; have := hvb k e; omega
theorem ofBlkLit {w w' : World} {c a b : Nat} (hp : Hp w [⟨c, [Value.int .u8 (a : Int), .int .u8 (b : Int), .int .u8 0, .int .u8 0], 5⟩] w') (ha : a < 256) (hb : b < 256) : Bs w' (.slice (some ⟨c, 0, none⟩) 4 4) (leB 1 a ++ (leB 1 b ++ leB 2 0)) := by
  have h := hp.own.1
  simp only [lit4 a b ha hb] at h
  exact Bs.ofBlk (l := leB 1 a ++ (leB 1 b ++ leB 2 0)) (fr := (0, 0)) h (by simp [leB_length, maxLen])

set_option maxHeartbeats 4000000 in
theorem rencode_any (v : Value) (m : Mf) (w : World) (hv : MfV w v m) (h0 : rightOf m = 0) :
    Calls Try.prog 42 #[v] w fun e w' => ∃ v', e = .returned v' ∧ Bs w' v' (encM m) ∧ Upd (fun k => w.heap.size ≤ k) w w' := by
  have hok := hv.ok h0
  have hok0 := hok
  obtain ⟨pv, xs, rfl, hxs, hsv, hpy, hcnt, hkey⟩ := hv
  obtain ⟨_, hk0, hk255, hpl4, hpfit⟩ := hok
  have hlen : xs.length = m.pays.length := by rw [← hxs, List.length_map]
  have hsv0 := hsv
  obtain ⟨_, ap, cp, rfl, hp1, hp2, _, _⟩ := hsv
  unfold maxLen at hp2
  obtain ⟨kn, hkn⟩ := Int.eq_ofNat_of_zero_le hk0
  refine enter (args := [_]) (Γ := [(0, _)]) Try.func42 Try.ntmps42 rfl (of_decide_eq_true rfl) (.cons rfl .nil) ?_
  repeat' (first | (apply Wl.assign; exact rfl; exact rfl) | (apply Wl.boxA; exact rfl; exact rfl; intro c hc ho) | (apply Wl.nil) | (apply St.seq) | (apply St.region) | (apply Gt.next) | (apply Wl.splitP; exact rfl; exact rfl; all_goals (intros; try (exfalso; omega))) | (apply Wl.splitB; exact rfl; exact rfl; all_goals intros) | (apply St.condP; exact rfl; all_goals (intros; try (exfalso; omega))) | (apply St.condB; exact rfl; all_goals intros))
  generalize c = c1 at *
  rw [hkn]
  apply St.reb (H' := [])
  intro wB hB
  refine ⟨trivial, trivial, ?_⟩
  have huB : Upd (fun k => w.heap.size ≤ k) w wB := hB.on (Upd.refl _ _) (by simp; omega)
  have lc1 : c1 < wB.heap.size := hB.own.lt (.head _)
  have hb0 : wB.cell? ⟨c1, 0, none⟩ = some (.int .u32 m.counter) := hB.cell (.head _) rfl
  have hb1 : wB.cell? ⟨c1, 1, none⟩ = some (.int .i64 kn) := hB.cell (.head _) rfl
  have hb2 : wB.cell? ⟨c1, 2, none⟩ = some (.slice ap xs.length cp) := hB.cell (.head _) rfl
  clear hB
  apply St.bag (ExtZ 5 wB.heap.size) ExtZ.trans (fun w' h => ExtZ.start _ w' h) [fun v w' => BLit 5 wB.heap.size w' v manMark, fun v w' => Bs w' v manMark, fun v w' => v = .pointer (some ⟨c1, 0, none⟩), fun v w' => v = .int .u32 m.counter, fun v w' => v = .int .i64 m.counter, fun v w' => Bs w' v (leB 4 m.counter), fun v w' => v = .pointer (some ⟨c1, 1, none⟩), fun v w' => v = .int .i64 kn, fun v w' => v = .int .u8 kn, fun v w' => v = .pointer (some ⟨c1, 2, none⟩), fun v w' => v = .slice ap xs.length cp, fun v w' => v = .int .i64 xs.length, fun v w' => v = .int .u8 xs.length, fun v w' => Bs w' v (leB 1 kn ++ (leB 1 m.pays.length ++ leB 2 0)), fun v w' => Out wB.heap.size w' v [manMark, leB 4 m.counter, leB 1 kn ++ (leB 1 m.pays.length ++ leB 2 0)], fun v w' => Out wB.heap.size w' v [manMark, leB 4 m.counter, leB 1 kn ++ (leB 1 m.pays.length ++ leB 2 0)]] [15]
  · exact mixed
  · kernel_rfl
  · refine .cons ?_ (.cons ?_ (.cons ?_ (.cons ?_ (.cons ?_ (.cons ?_ (.cons ?_ (.cons ?_ (.cons ?_ (.cons ?_ (.cons ?_ (.cons ?_ (.cons ?_ (.cons ?_ (.cons ?_ (.cons ?_ .nil)))))))))))))))
    all_goals intro v w1 w2 e h
    all_goals first | exact e.lit h | exact e.bs h | exact h | exact h.extz e (by decide)
  · rfl
  · apply BagOps.cons
    · intro w1 e1
      change Wl [_] _ _ _ _ _ _ _
      repeat' (first | (apply Wl.lit; exact rfl; (repeat (first | exact Parts.nil | apply Parts.cons rfl)); exact rfl; exact rfl; (repeat (first | apply CatP.nil | (apply CatP.one; exact rfl; exact rfl) | (apply CatP.agg; exact rfl) | apply LApp.nil | apply LApp.cons)); intro c hc ho) | (apply Wl.nil) | (apply Wl.splitP; exact rfl; exact rfl; all_goals (intros; try (exfalso; omega))) | (apply Wl.splitB; exact rfl; exact rfl; all_goals intros) | (apply St.condP; exact rfl; all_goals (intros; try (exfalso; omega))) | (apply St.condB; exact rfl; all_goals intros))
      apply Gt.bagEnd
      · exact rfl
      · exact fun w' h' => ⟨.ofUpd (h'.drop (by simp; omega)).ext, c, (0, 0), rfl, by have := e1.size; omega, by decide, h'.own.1⟩
    apply BagOps.cons
    · intro w1 e1 v1 h1
      change Wl [_] _ _ _ _ _ _ _
      have h1 : BLit 5 wB.heap.size w1 v1 manMark := h1
      apply Wl.convMark
      · exact rfl
      · exact rfl
      · exact h1
      · exact fun w' h' => h'.bs
    apply BagOps.cons
    · intro w1 e1
      repeat intro _
      change Wl [_] _ _ _ _ _ _ _
      repeat' (first | (apply Wl.fieldAddr0; exact rfl; exact rfl) | (apply Wl.nil) | (apply Wl.splitP; exact rfl; exact rfl; all_goals (intros; try (exfalso; omega))) | (apply Wl.splitB; exact rfl; exact rfl; all_goals intros) | (apply St.condP; exact rfl; all_goals (intros; try (exfalso; omega))) | (apply St.condB; exact rfl; all_goals intros))
      apply Gt.bagEnd
      · exact rfl
      · exact fun w' h' => ⟨.ofUpd h'.ext, rfl⟩
    apply BagOps.cons
    · intro w1 e1
      have hb0 := e1.cell hb0
      intro v0 h0
      have h0 : v0 = .pointer (some ⟨c1, 0, none⟩) := h0
      subst h0
      repeat intro _
      change Wl [_] _ _ _ _ _ _ _
      repeat' (first | (apply Wl.loadO; exact rfl; exact rfl; (assumption); (repeat (first | exact trivial | refine ⟨by first | assumption | omega, ?_⟩))) | (apply Wl.nil) | (apply Wl.splitP; exact rfl; exact rfl; all_goals (intros; try (exfalso; omega))) | (apply Wl.splitB; exact rfl; exact rfl; all_goals intros) | (apply St.condP; exact rfl; all_goals (intros; try (exfalso; omega))) | (apply St.condB; exact rfl; all_goals intros))
      apply Gt.bagEnd
      · exact rfl
      · exact fun w' h' => ⟨.ofUpd h'.ext, rfl⟩
    apply BagOps.cons
    · intro w1 e1
      intro v0 h0
      have h0 : v0 = .int .u32 m.counter := h0
      subst h0
      repeat intro _
      change Wl [_] _ _ _ _ _ _ _
      repeat' (first | (apply Wl.convI64; exact rfl; exact rfl; (constructor <;> omega)) | (apply Wl.nil) | (apply Wl.splitP; exact rfl; exact rfl; all_goals (intros; try (exfalso; omega))) | (apply Wl.splitB; exact rfl; exact rfl; all_goals intros) | (apply St.condP; exact rfl; all_goals (intros; try (exfalso; omega))) | (apply St.condB; exact rfl; all_goals intros))
      apply Gt.bagEnd
      · exact rfl
      · exact fun w' h' => ⟨.ofUpd h'.ext, rfl⟩
    apply BagOps.cons
    · intro w1 e1
      intro v0 h0
      have h0 : v0 = .int .i64 m.counter := h0
      subst h0
      repeat intro _
      change Wl [_] _ _ _ _ _ _ _
      apply Wl.call
      exact rfl
      (repeat (first | exact Evs.nil | apply Evs.cons rfl))
      intro wq hq
      refine (put_any 4 m.counter (by decide) (by omega) wq).mono ?_
      rintro e wr ⟨v, rfl, hb, hu⟩
      refine ⟨_, rfl, ?_⟩
      repeat' (first | (apply Wl.nil) | (apply Wl.splitP; exact rfl; exact rfl; all_goals (intros; try (exfalso; omega))) | (apply Wl.splitB; exact rfl; exact rfl; all_goals intros) | (apply St.condP; exact rfl; all_goals (intros; try (exfalso; omega))) | (apply St.condB; exact rfl; all_goals intros))
      apply Gt.bagEnd
      · exact rfl
      · exact fun w' h' => ⟨.ofUpd (bag_call hq hu h'), hb.bs.upd h'.upd fun _ _ _ _ y => y trivial⟩
    apply BagOps.cons
    · intro w1 e1
      repeat intro _
      change Wl [_] _ _ _ _ _ _ _
      repeat' (first | (apply Wl.fieldAddrZ; exact rfl; exact rfl) | (apply Wl.nil) | (apply Wl.splitP; exact rfl; exact rfl; all_goals (intros; try (exfalso; omega))) | (apply Wl.splitB; exact rfl; exact rfl; all_goals intros) | (apply St.condP; exact rfl; all_goals (intros; try (exfalso; omega))) | (apply St.condB; exact rfl; all_goals intros))
      apply Gt.bagEnd
      · exact rfl
      · exact fun w' h' => ⟨.ofUpd h'.ext, rfl⟩
    apply BagOps.cons
    · intro w1 e1
      have hb1 := e1.cell hb1
      intro v0 h0
      have h0 : v0 = .pointer (some ⟨c1, 1, none⟩) := h0
      subst h0
      repeat intro _
      change Wl [_] _ _ _ _ _ _ _
      repeat' (first | (apply Wl.loadO; exact rfl; exact rfl; (assumption); (repeat (first | exact trivial | refine ⟨by first | assumption | omega, ?_⟩))) | (apply Wl.nil) | (apply Wl.splitP; exact rfl; exact rfl; all_goals (intros; try (exfalso; omega))) | (apply Wl.splitB; exact rfl; exact rfl; all_goals intros) | (apply St.condP; exact rfl; all_goals (intros; try (exfalso; omega))) | (apply St.condB; exact rfl; all_goals intros))
      apply Gt.bagEnd
      · exact rfl
      · exact fun w' h' => ⟨.ofUpd h'.ext, rfl⟩
    apply BagOps.cons
    · intro w1 e1
      intro v0 h0
      have h0 : v0 = .int .i64 kn := h0
      subst h0
      repeat intro _
      change Wl [_] _ _ _ _ _ _ _
      repeat' (first | (apply Wl.convU8; exact rfl; exact rfl; (constructor <;> omega)) | (apply Wl.nil) | (apply Wl.splitP; exact rfl; exact rfl; all_goals (intros; try (exfalso; omega))) | (apply Wl.splitB; exact rfl; exact rfl; all_goals intros) | (apply St.condP; exact rfl; all_goals (intros; try (exfalso; omega))) | (apply St.condB; exact rfl; all_goals intros))
      apply Gt.bagEnd
      · exact rfl
      · exact fun w' h' => ⟨.ofUpd h'.ext, rfl⟩
    apply BagOps.cons
    · intro w1 e1
      repeat intro _
      change Wl [_] _ _ _ _ _ _ _
      repeat' (first | (apply Wl.fieldAddrZ; exact rfl; exact rfl) | (apply Wl.nil) | (apply Wl.splitP; exact rfl; exact rfl; all_goals (intros; try (exfalso; omega))) | (apply Wl.splitB; exact rfl; exact rfl; all_goals intros) | (apply St.condP; exact rfl; all_goals (intros; try (exfalso; omega))) | (apply St.condB; exact rfl; all_goals intros))
      apply Gt.bagEnd
      · exact rfl
      · exact fun w' h' => ⟨.ofUpd h'.ext, rfl⟩
    apply BagOps.cons
    · intro w1 e1
      have hb2 := e1.cell hb2
      intro v0 h0
      have h0 : v0 = .pointer (some ⟨c1, 2, none⟩) := h0
      subst h0
      repeat intro _
      change Wl [_] _ _ _ _ _ _ _
      repeat' (first | (apply Wl.loadO; exact rfl; exact rfl; (assumption); (repeat (first | exact trivial | refine ⟨by first | assumption | omega, ?_⟩))) | (apply Wl.nil) | (apply Wl.splitP; exact rfl; exact rfl; all_goals (intros; try (exfalso; omega))) | (apply Wl.splitB; exact rfl; exact rfl; all_goals intros) | (apply St.condP; exact rfl; all_goals (intros; try (exfalso; omega))) | (apply St.condB; exact rfl; all_goals intros))
      apply Gt.bagEnd
      · exact rfl
      · exact fun w' h' => ⟨.ofUpd h'.ext, rfl⟩
    apply BagOps.cons
    · intro w1 e1
      intro v0 h0
      have h0 : v0 = .slice ap xs.length cp := h0
      subst h0
      repeat intro _
      change Wl [_] _ _ _ _ _ _ _
      repeat' (first | (apply Wl.len; exact rfl; exact rfl) | (apply Wl.nil) | (apply Wl.splitP; exact rfl; exact rfl; all_goals (intros; try (exfalso; omega))) | (apply Wl.splitB; exact rfl; exact rfl; all_goals intros) | (apply St.condP; exact rfl; all_goals (intros; try (exfalso; omega))) | (apply St.condB; exact rfl; all_goals intros))
      apply Gt.bagEnd
      · exact rfl
      · exact fun w' h' => ⟨.ofUpd h'.ext, rfl⟩
    apply BagOps.cons
    · intro w1 e1
      intro v0 h0
      have h0 : v0 = .int .i64 xs.length := h0
      subst h0
      repeat intro _
      change Wl [_] _ _ _ _ _ _ _
      repeat' (first | (apply Wl.convU8; exact rfl; exact rfl; (constructor <;> omega)) | (apply Wl.nil) | (apply Wl.splitP; exact rfl; exact rfl; all_goals (intros; try (exfalso; omega))) | (apply Wl.splitB; exact rfl; exact rfl; all_goals intros) | (apply St.condP; exact rfl; all_goals (intros; try (exfalso; omega))) | (apply St.condB; exact rfl; all_goals intros))
      apply Gt.bagEnd
      · exact rfl
      · exact fun w' h' => ⟨.ofUpd h'.ext, rfl⟩
    apply BagOps.cons
    · intro w1 e1
      intro v0 h0
      have h0 : v0 = .int .u8 kn := h0
      subst h0
      intro v1 h1
      have h1 : v1 = .int .u8 xs.length := h1
      subst h1
      repeat intro _
      change Wl [_] _ _ _ _ _ _ _
      repeat' (first | (apply Wl.lit; exact rfl; (repeat (first | exact Parts.nil | apply Parts.cons rfl)); exact rfl; exact rfl; (repeat (first | apply CatP.nil | (apply CatP.one; exact rfl; exact rfl) | (apply CatP.agg; exact rfl) | apply LApp.nil | apply LApp.cons)); intro c hc ho) | (apply Wl.nil) | (apply Wl.splitP; exact rfl; exact rfl; all_goals (intros; try (exfalso; omega))) | (apply Wl.splitB; exact rfl; exact rfl; all_goals intros) | (apply St.condP; exact rfl; all_goals (intros; try (exfalso; omega))) | (apply St.condB; exact rfl; all_goals intros))
      apply Gt.bagEnd
      · exact rfl
      · exact fun w' h' => ⟨.ofUpd (h'.drop (by simp; omega)).ext, hlen ▸ ofBlkLit h' (by omega) (by omega)⟩
    apply BagOps.cons
    · intro w1 e1
      intro v0 h0
      intro v1 h1
      intro v2 h2
      repeat intro _
      change Wl [_] _ _ _ _ _ _ _
      have b0 : Bs w1 v0 (manMark) := h0
      obtain ⟨a0, q0, rfl, _, _⟩ := b0.shape
      have b1 : Bs w1 v1 (leB 4 m.counter) := h1
      obtain ⟨a1, q1, rfl, _, _⟩ := b1.shape
      have b2 : Bs w1 v2 (leB 1 kn ++ (leB 1 m.pays.length ++ leB 2 0)) := h2
      obtain ⟨a2, q2, rfl, _, _⟩ := b2.shape
      clear h0 h1 h2
      apply Wl.lit
      · exact rfl
      · (repeat (first | exact Parts.nil | apply Parts.cons rfl))
      · exact rfl
      · exact rfl
      · (repeat (first | apply CatP.nil | (apply CatP.one; exact rfl; exact rfl) | (apply CatP.agg; exact rfl) | apply LApp.nil | apply LApp.cons))
      intro c hc ho
      repeat' (first | (apply Wl.nil) | (apply Wl.splitP; exact rfl; exact rfl; all_goals (intros; try (exfalso; omega))) | (apply Wl.splitB; exact rfl; exact rfl; all_goals intros) | (apply St.condP; exact rfl; all_goals (intros; try (exfalso; omega))) | (apply St.condB; exact rfl; all_goals intros))
      apply Gt.bagEnd
      · exact rfl
      · exact fun w' h' => ⟨.ofUpd (h'.drop (by simp; omega)).ext, Out.lit (.cons b0 (.cons b1 (.cons b2 .nil))) h' hc (by have := e1.size; omega) rfl (by decide)⟩
    apply BagOps.cons
    · intro w1 e1
      iterate 16 (intro _ _)
      intro v1 h1
      change Wl [_] _ _ _ _ _ _ _
      have h1 : Out wB.heap.size w1 v1 [manMark, leB 4 m.counter, leB 1 kn ++ (leB 1 m.pays.length ++ leB 2 0)] := h1
      repeat' (first | (apply Wl.assign; exact rfl; exact rfl) | (apply Wl.nil) | (apply Wl.splitP; exact rfl; exact rfl; all_goals (intros; try (exfalso; omega))) | (apply Wl.splitB; exact rfl; exact rfl; all_goals intros) | (apply St.condP; exact rfl; all_goals (intros; try (exfalso; omega))) | (apply St.condB; exact rfl; all_goals intros))
      apply Gt.bagEnd
      · exact rfl
      · exact fun w' h' => ⟨.ofUpd h'.ext, h1.upd h'.upd fun k y _ => y trivial⟩
    exact BagOps.nil
  intro w4 e4 v4 hra
  have h4 : Out wB.heap.size w4 v4 (hdL m) := by
    have : Out wB.heap.size w4 v4 [manMark, leB 4 m.counter, leB 1 kn ++ (leB 1 m.pays.length ++ leB 2 0)] := hra
    unfold hdL
    rw [hkn]
    exact this
  clear hra
  change Gt _ _ _ _ _
  apply Gt.next
  refine St.sub (Γ' := [(1, .pointer (some ⟨c1, 0, none⟩)), (3, v4)]) (by (repeat (first | exact Sub.nil | apply Sub.cons rfl))) ?_
  have hu4 : Upd (fun k => wB.heap.size ≤ k) wB w4 := e4.upd
  clear e4
  repeat' (first | (apply Wl.assign; exact rfl; exact rfl) | (apply Wl.nil) | (apply St.seq) | (apply St.block) | (apply St.region) | (apply Gt.next) | (apply Wl.splitP; exact rfl; exact rfl; all_goals (intros; try (exfalso; omega))) | (apply Wl.splitB; exact rfl; exact rfl; all_goals intros) | (apply St.condP; exact rfl; all_goals (intros; try (exfalso; omega))) | (apply St.condB; exact rfl; all_goals intros))
  refine St.loop (σ := Nat × World × Value)
    (fun τ => τ.1 ≤ xs.length ∧ Upd (fun k => wB.heap.size ≤ k) wB τ.2.1 ∧ Out wB.heap.size τ.2.1 τ.2.2 (hdL m ++ (m.pays.take τ.1).flatMap pyL))
    (fun τ => [(1, .pointer (some ⟨c1, 0, none⟩)), (3, τ.2.2), (4, .int .i64 τ.1)])
    (fun τ => Hp τ.2.1 [])
    (fun τ => xs.length - τ.1) (0, w4, v4) ⟨Nat.zero_le _, hu4, by simpa using h4⟩ (by (repeat (first | exact Sub.nil | apply Sub.cons rfl))) (fun _ h => h) ?_
  clear h4 hu4 v4 w4
  rintro ⟨i, w0, vo⟩ ⟨hin, hu, hout⟩
  simp only at hin hu hout ⊢
  have hb2' := hu.cell hb2 (by simp only; omega)
  have hll : (hdL m ++ (m.pays.take i).flatMap pyL).length ≤ 67 := by
    have := pyL_len (m.pays.take i) fun p hp => (hpfit p (List.mem_of_mem_take hp)).2.2.2.2.2.1
    rw [List.length_append]
    rw [List.length_take] at this
    have h3 : (hdL m).length = 3 := rfl
    omega
  by_cases hlt : i < xs.length
  · obtain ⟨x, hx⟩ : ∃ x, xs[i]? = some x := ⟨_, List.getElem?_eq_getElem hlt⟩
    obtain ⟨hsg, hdl, hsz, hbi, hca, hgrs, _⟩ := hpy x (List.mem_of_getElem? hx)
    have hpi : m.pays[i]? = some x.1 := by rw [← hxs, List.getElem?_map, hx]; rfl
    obtain ⟨_, _, _, hca0, hca1, hgl4, hgok⟩ := hpfit x.1 (List.mem_of_getElem? hpi)
    have hpyl : ∀ x ∈ xs, (pyCells x).length = 36 := fun x hx => pyCells_len x (hpy x hx).2.1
    obtain ⟨⟨dig, psz, pbi, gs, pca⟩, gv⟩ := x
    simp only at hsg hdl hsz hbi hca hgrs hpi hca0 hca1 hgl4 hgok
    obtain ⟨d0, d1, d2, d3, d4, d5, d6, d7, d8, d9, d10, d11, d12, d13, d14, d15, d16, d17, d18, d19, d20, d21, d22, d23, d24, d25, d26, d27, d28, d29, d30, d31, hdig⟩ := list32 dig hdl
    obtain ⟨bp, op, cp', hap, _, _⟩ := Sv.some_of hsv0 (fun e => by have := flat36 hpyl hx (j := 33) (by decide); rw [e] at this; simp [pyCells, byteCells, hdl] at this)
    simp only [Value.slice.injEq, true_and] at hap
    obtain ⟨rfl, rfl⟩ := hap
    have hsg0 := hsg
    obtain ⟨_, ga, gc, rfl, hg1, hg2, _, _⟩ := hsg
    unfold maxLen at hg2
    obtain ⟨pc, rfl⟩ := Int.eq_ofNat_of_zero_le hca0
    have hold {a : Addr} {u : Value} (h : w.cell? a = some u) : wB.cell? a = some u := huB.cell h (by have := World.block_lt_of_cell? w _ h; omega)
    have hce : ∀ j v, (Value.int .u8 (d0.toNat : Int) :: Value.int .u8 (d1.toNat : Int) :: Value.int .u8 (d2.toNat : Int) :: Value.int .u8 (d3.toNat : Int) :: Value.int .u8 (d4.toNat : Int) :: Value.int .u8 (d5.toNat : Int) :: Value.int .u8 (d6.toNat : Int) :: Value.int .u8 (d7.toNat : Int) :: Value.int .u8 (d8.toNat : Int) :: Value.int .u8 (d9.toNat : Int) :: Value.int .u8 (d10.toNat : Int) :: Value.int .u8 (d11.toNat : Int) :: Value.int .u8 (d12.toNat : Int) :: Value.int .u8 (d13.toNat : Int) :: Value.int .u8 (d14.toNat : Int) :: Value.int .u8 (d15.toNat : Int) :: Value.int .u8 (d16.toNat : Int) :: Value.int .u8 (d17.toNat : Int) :: Value.int .u8 (d18.toNat : Int) :: Value.int .u8 (d19.toNat : Int) :: Value.int .u8 (d20.toNat : Int) :: Value.int .u8 (d21.toNat : Int) :: Value.int .u8 (d22.toNat : Int) :: Value.int .u8 (d23.toNat : Int) :: Value.int .u8 (d24.toNat : Int) :: Value.int .u8 (d25.toNat : Int) :: Value.int .u8 (d26.toNat : Int) :: Value.int .u8 (d27.toNat : Int) :: Value.int .u8 (d28.toNat : Int) :: Value.int .u8 (d29.toNat : Int) :: Value.int .u8 (d30.toNat : Int) :: Value.int .u8 (d31.toNat : Int) :: [.int .u32 psz, .int .u32 pbi, .slice ga gs.length gc, .int .i64 (pc : Int)])[j]? = some v → w0.cell? ⟨bp, op + (i : Int).toNat * 36 + j, none⟩ = some v := by
      intro j v hj
      have hj36 : j < 36 := (List.getElem?_eq_some_iff.1 hj).1
      have := flat36 hpyl hx hj36
      rw [show op + (i : Int).toNat * 36 + j = op + (i * 36 + j) by omega]
      have hc := hold (Sv.cellN hsv0 (this.trans (by subst hdig; exact hj)))
      exact hu.cell hc (by have hl := World.block_lt_of_cell? w _ (Sv.cellN hsv0 (this.trans (by subst hdig; exact hj))); have := huB.size; simp only at hl ⊢; omega)
    repeat' (first | (apply Wl.loadAP; exact rfl; exact rfl; exact hce; exact trivial; exact rfl) | (apply Wl.move; exact rfl; exact rfl) | (apply Wl.fieldAddrZ; exact rfl; exact rfl) | (apply Wl.loadO; exact rfl; exact rfl; (assumption); (repeat (first | exact trivial | refine ⟨by first | assumption | omega, ?_⟩))) | (apply Wl.lss; exact rfl; exact rfl; exact rfl) | (apply Wl.len; exact rfl; exact rfl) | (apply Wl.storeA; exact rfl; exact rfl; exact rfl; exact rfl; (repeat (first | apply HSet.here | apply HSet.there)); (repeat (first | apply LPut.s | apply LPut.z | apply LOver.nil | apply LOver.cons))) | (apply Wl.alloc; exact rfl; intro c hc ho) | (apply Wl.indexAddr; exact rfl; exact rfl; exact rfl; (constructor <;> omega)) | (apply Wl.nil) | (apply St.seq) | (apply St.block) | (apply St.region) | (apply St.skip) | (apply Gt.next) | (apply Wl.splitP; exact rfl; exact rfl; all_goals (intros; try (exfalso; omega))) | (apply Wl.splitB; exact rfl; exact rfl; all_goals intros) | (apply St.condP; exact rfl; all_goals (intros; try (exfalso; omega))) | (apply St.condB; exact rfl; all_goals intros))
    generalize c = c5 at *
    apply St.reb (H' := [])
    intro w5 h5
    refine ⟨trivial, trivial, ?_⟩
    have lc5 : c5 < w5.heap.size := h5.own.lt (.head _)
    have gc5 : w0.heap.size ≤ c5 := hc
    have hh5 : w5.heap[c5]? = some (.cells (Value.int .u8 (d0.toNat : Int) :: Value.int .u8 (d1.toNat : Int) :: Value.int .u8 (d2.toNat : Int) :: Value.int .u8 (d3.toNat : Int) :: Value.int .u8 (d4.toNat : Int) :: Value.int .u8 (d5.toNat : Int) :: Value.int .u8 (d6.toNat : Int) :: Value.int .u8 (d7.toNat : Int) :: Value.int .u8 (d8.toNat : Int) :: Value.int .u8 (d9.toNat : Int) :: Value.int .u8 (d10.toNat : Int) :: Value.int .u8 (d11.toNat : Int) :: Value.int .u8 (d12.toNat : Int) :: Value.int .u8 (d13.toNat : Int) :: Value.int .u8 (d14.toNat : Int) :: Value.int .u8 (d15.toNat : Int) :: Value.int .u8 (d16.toNat : Int) :: Value.int .u8 (d17.toNat : Int) :: Value.int .u8 (d18.toNat : Int) :: Value.int .u8 (d19.toNat : Int) :: Value.int .u8 (d20.toNat : Int) :: Value.int .u8 (d21.toNat : Int) :: Value.int .u8 (d22.toNat : Int) :: Value.int .u8 (d23.toNat : Int) :: Value.int .u8 (d24.toNat : Int) :: Value.int .u8 (d25.toNat : Int) :: Value.int .u8 (d26.toNat : Int) :: Value.int .u8 (d27.toNat : Int) :: Value.int .u8 (d28.toNat : Int) :: Value.int .u8 (d29.toNat : Int) :: Value.int .u8 (d30.toNat : Int) :: Value.int .u8 (d31.toNat : Int) :: [.int .u32 psz, .int .u32 pbi, .slice ga gs.length gc, .int .i64 (pc : Int)]).toArray 97 (0, 0)) := h5.own.1
    have hd0 : Bs w5 (.slice (some ⟨c5, 0, none⟩) 32 32) dig := by
      refine ⟨by rw [byteCells_length]; omega, some ⟨c5, 0, none⟩, 32, by rw [hdl], by rw [hdl]; exact Nat.le_refl _, by unfold maxLen; decide, fun e => (by cases e), fun _ => ⟨c5, 0, rfl, fun j hj => ?_⟩⟩
      rw [byteCells_length] at hj
      refine h5.cell (.head _) ?_
      rw [Nat.zero_add]
      have h1 : (byteCells [d0, d1, d2, d3, d4, d5, d6, d7, d8, d9, d10, d11, d12, d13, d14, d15, d16, d17, d18, d19, d20, d21, d22, d23, d24, d25, d26, d27, d28, d29, d30, d31] ++ [Value.int .u32 psz, .int .u32 pbi, .slice ga gs.length gc, .int .i64 (pc : Int)])[j]? = some ((byteCells dig)[j]'(by rw [byteCells_length]; exact hj)) := by
        rw [← hdig, List.getElem?_append_left (by rw [byteCells_length]; exact hj), List.getElem?_eq_getElem]
      exact h1
    have hd32 : w5.cell? ⟨c5, 32, none⟩ = some (.int .u32 psz) := h5.cell (.head _) rfl
    have hd33 : w5.cell? ⟨c5, 33, none⟩ = some (.int .u32 pbi) := h5.cell (.head _) rfl
    have hd34 : w5.cell? ⟨c5, 34, none⟩ = some (.slice ga gs.length gc) := h5.cell (.head _) rfl
    have hd35 : w5.cell? ⟨c5, 35, none⟩ = some (.int .i64 (pc : Int)) := h5.cell (.head _) rfl
    have e05 : Ext w0 w5 := (h5.drop (by simp; omega)).ext
    have hu5 : Upd (fun k => wB.heap.size ≤ k) wB w5 := hu.comp e05 fun _ _ hs => hs.elim id False.elim
    have hout5 := hout.ext e05
    clear h5 e05 hce hout
    apply St.bagT 21 Ext Ext.trans (fun w' h => Ext.start _ w' h) [fun v w' => v = vo, fun v w' => v = .pointer (some ⟨c5, 0, none⟩), fun v w' => v = .slice (some ⟨c5, 0, none⟩) 32 32, fun v w' => Nw w5.heap.size w' v dig, fun v w' => v = .pointer (some ⟨c5, 32, none⟩), fun v w' => v = .int .u32 psz, fun v w' => v = .int .i64 psz, fun v w' => Nw w5.heap.size w' v (leB 4 psz), fun v w' => v = .pointer (some ⟨c5, 33, none⟩), fun v w' => v = .int .u32 pbi, fun v w' => v = .int .i64 pbi, fun v w' => Nw w5.heap.size w' v (leB 4 pbi), fun v w' => v = .pointer (some ⟨c5, 35, none⟩), fun v w' => v = .int .i64 pc, fun v w' => v = .int .u8 pc, fun v w' => v = .pointer (some ⟨c5, 34, none⟩), fun v w' => v = .slice ga gs.length gc, fun v w' => v = .int .i64 gs.length, fun v w' => v = .int .u8 gs.length, fun v w' => Nw w5.heap.size w' v (leB 1 pc ++ (leB 1 gs.length ++ leB 2 0)), fun v w' => LitN w5.heap.size w' v [dig, leB 4 psz, leB 4 pbi, leB 1 pc ++ (leB 1 gs.length ++ leB 2 0)]] [0, 20]
    · exact mixed
    · kernel_rfl
    · kernel_rfl
    · refine .cons ?_ (.cons ?_ (.cons ?_ (.cons ?_ (.cons ?_ (.cons ?_ (.cons ?_ (.cons ?_ (.cons ?_ (.cons ?_ (.cons ?_ (.cons ?_ (.cons ?_ (.cons ?_ (.cons ?_ (.cons ?_ (.cons ?_ (.cons ?_ (.cons ?_ (.cons ?_ (.cons ?_ .nil))))))))))))))))))))
      all_goals intro v w1 w2 e h
      all_goals first | exact h | exact h.ext e
    · rfl
    · skip
      apply BagOps.cons
      · intro w1 e1
        repeat intro _
        change Wl [_] _ _ _ _ _ _ _
        repeat' (first | (apply Wl.move; exact rfl; exact rfl) | (apply Wl.nil) | (apply Wl.splitP; exact rfl; exact rfl; all_goals (intros; try (exfalso; omega))) | (apply Wl.splitB; exact rfl; exact rfl; all_goals intros) | (apply St.condP; exact rfl; all_goals (intros; try (exfalso; omega))) | (apply St.condB; exact rfl; all_goals intros))
        apply Gt.bagEnd
        · exact rfl
        · exact fun w' h' => ⟨h'.ext, rfl⟩
      apply BagOps.cons
      · intro w1 e1
        repeat intro _
        change Wl [_] _ _ _ _ _ _ _
        repeat' (first | (apply Wl.fieldAddr0; exact rfl; exact rfl) | (apply Wl.nil) | (apply Wl.splitP; exact rfl; exact rfl; all_goals (intros; try (exfalso; omega))) | (apply Wl.splitB; exact rfl; exact rfl; all_goals intros) | (apply St.condP; exact rfl; all_goals (intros; try (exfalso; omega))) | (apply St.condB; exact rfl; all_goals intros))
        apply Gt.bagEnd
        · exact rfl
        · exact fun w' h' => ⟨h'.ext, rfl⟩
      apply BagOps.cons
      · intro w1 e1
        intro v0 h0
        have h0 : v0 = .pointer (some ⟨c5, 0, none⟩) := h0
        subst h0
        repeat intro _
        change Wl [_] _ _ _ _ _ _ _
        repeat' (first | (apply Wl.sliceArr; exact rfl; exact rfl; decide) | (apply Wl.nil) | (apply Wl.splitP; exact rfl; exact rfl; all_goals (intros; try (exfalso; omega))) | (apply Wl.splitB; exact rfl; exact rfl; all_goals intros) | (apply St.condP; exact rfl; all_goals (intros; try (exfalso; omega))) | (apply St.condB; exact rfl; all_goals intros))
        apply Gt.bagEnd
        · exact rfl
        · exact fun w' h' => ⟨h'.ext, rfl⟩
      apply BagOps.cons
      · intro w1 e1
        intro v0 h0
        have h0 : v0 = .slice (some ⟨c5, 0, none⟩) 32 32 := h0
        subst h0
        repeat intro _
        change Wl [_] _ _ _ _ _ _ _
        have hd1 : Bs w1 (.slice (some ⟨c5, 0, none⟩) 32 32) dig := hd0.upd e1 fun _ _ _ _ y => y
        apply Wl.appendV (news := byteCells dig) (m := 32) (base := w1.heap.size) (n := 0) (xs := [])
        · exact rfl
        · exact rfl
        · exact rfl
        · have := hd1
          unfold Bs at this
          rw [hdl] at this
          exact this
        · exact fun _ _ _ _ => trivial
        · exact World.ownsRow_nil _ _ _ _
        · exact fun _ _ => trivial
        · exact byteCells_all dig
        · exact rfl
        · decide
        · decide
        · decide
        · exact Nat.le_refl _
        intro v' w4 ho4 u4 _ hk4
        repeat' (first | (apply Wl.nil) | (apply Wl.splitP; exact rfl; exact rfl; all_goals (intros; try (exfalso; omega))) | (apply Wl.splitB; exact rfl; exact rfl; all_goals intros) | (apply St.condP; exact rfl; all_goals (intros; try (exfalso; omega))) | (apply St.condB; exact rfl; all_goals intros))
        apply Gt.bagEnd
        · exact rfl
        · refine fun w' h' => ⟨Ext.trans _ _ _ (u4.mono fun k _ hs => hs.elim (fun e => by cases e) fun y => y trivial) h'.ext, ⟨?_, fun k hk => ?_⟩⟩
          · have := Sv.ofOwn (ownsRow_upd ho4 h'.upd fun _ _ y => y trivial)
            unfold Bs
            rw [hdl]
            simpa using this
          · have := (ho4.lt k hk).1
            have := e1.size
            omega
      apply BagOps.cons
      · intro w1 e1
        repeat intro _
        change Wl [_] _ _ _ _ _ _ _
        repeat' (first | (apply Wl.fieldAddrZ; exact rfl; exact rfl) | (apply Wl.nil) | (apply Wl.splitP; exact rfl; exact rfl; all_goals (intros; try (exfalso; omega))) | (apply Wl.splitB; exact rfl; exact rfl; all_goals intros) | (apply St.condP; exact rfl; all_goals (intros; try (exfalso; omega))) | (apply St.condB; exact rfl; all_goals intros))
        apply Gt.bagEnd
        · exact rfl
        · exact fun w' h' => ⟨h'.ext, rfl⟩
      apply BagOps.cons
      · intro w1 e1
        have hd32 := e1.cell hd32 id
        intro v0 h0
        have h0 : v0 = .pointer (some ⟨c5, 32, none⟩) := h0
        subst h0
        repeat intro _
        change Wl [_] _ _ _ _ _ _ _
        repeat' (first | (apply Wl.loadO; exact rfl; exact rfl; (assumption); (repeat (first | exact trivial | refine ⟨by first | assumption | omega, ?_⟩))) | (apply Wl.nil) | (apply Wl.splitP; exact rfl; exact rfl; all_goals (intros; try (exfalso; omega))) | (apply Wl.splitB; exact rfl; exact rfl; all_goals intros) | (apply St.condP; exact rfl; all_goals (intros; try (exfalso; omega))) | (apply St.condB; exact rfl; all_goals intros))
        apply Gt.bagEnd
        · exact rfl
        · exact fun w' h' => ⟨h'.ext, rfl⟩
      apply BagOps.cons
      · intro w1 e1
        intro v0 h0
        have h0 : v0 = .int .u32 psz := h0
        subst h0
        repeat intro _
        change Wl [_] _ _ _ _ _ _ _
        repeat' (first | (apply Wl.convI64; exact rfl; exact rfl; (constructor <;> omega)) | (apply Wl.nil) | (apply Wl.splitP; exact rfl; exact rfl; all_goals (intros; try (exfalso; omega))) | (apply Wl.splitB; exact rfl; exact rfl; all_goals intros) | (apply St.condP; exact rfl; all_goals (intros; try (exfalso; omega))) | (apply St.condB; exact rfl; all_goals intros))
        apply Gt.bagEnd
        · exact rfl
        · exact fun w' h' => ⟨h'.ext, rfl⟩
      apply BagOps.cons
      · intro w1 e1
        intro v0 h0
        have h0 : v0 = .int .i64 psz := h0
        subst h0
        repeat intro _
        change Wl [_] _ _ _ _ _ _ _
        apply Wl.call
        exact rfl
        (repeat (first | exact Evs.nil | apply Evs.cons rfl))
        intro wq hq
        refine (put_any 4 psz (by decide) (by omega) wq).mono ?_
        rintro e wr ⟨v, rfl, hb, hu⟩
        refine ⟨_, rfl, ?_⟩
        repeat' (first | (apply Wl.nil) | (apply Wl.splitP; exact rfl; exact rfl; all_goals (intros; try (exfalso; omega))) | (apply Wl.splitB; exact rfl; exact rfl; all_goals intros) | (apply St.condP; exact rfl; all_goals (intros; try (exfalso; omega))) | (apply St.condB; exact rfl; all_goals intros))
        apply Gt.bagEnd
        · exact rfl
        · exact fun w' h' => ⟨bag_call hq hu h', hb.nw h' (by have := e1.size; have := hq.upd.size; omega)⟩
      apply BagOps.cons
      · intro w1 e1
        repeat intro _
        change Wl [_] _ _ _ _ _ _ _
        repeat' (first | (apply Wl.fieldAddrZ; exact rfl; exact rfl) | (apply Wl.nil) | (apply Wl.splitP; exact rfl; exact rfl; all_goals (intros; try (exfalso; omega))) | (apply Wl.splitB; exact rfl; exact rfl; all_goals intros) | (apply St.condP; exact rfl; all_goals (intros; try (exfalso; omega))) | (apply St.condB; exact rfl; all_goals intros))
        apply Gt.bagEnd
        · exact rfl
        · exact fun w' h' => ⟨h'.ext, rfl⟩
      apply BagOps.cons
      · intro w1 e1
        have hd33 := e1.cell hd33 id
        intro v0 h0
        have h0 : v0 = .pointer (some ⟨c5, 33, none⟩) := h0
        subst h0
        repeat intro _
        change Wl [_] _ _ _ _ _ _ _
        repeat' (first | (apply Wl.loadO; exact rfl; exact rfl; (assumption); (repeat (first | exact trivial | refine ⟨by first | assumption | omega, ?_⟩))) | (apply Wl.nil) | (apply Wl.splitP; exact rfl; exact rfl; all_goals (intros; try (exfalso; omega))) | (apply Wl.splitB; exact rfl; exact rfl; all_goals intros) | (apply St.condP; exact rfl; all_goals (intros; try (exfalso; omega))) | (apply St.condB; exact rfl; all_goals intros))
        apply Gt.bagEnd
        · exact rfl
        · exact fun w' h' => ⟨h'.ext, rfl⟩
      apply BagOps.cons
      · intro w1 e1
        intro v0 h0
        have h0 : v0 = .int .u32 pbi := h0
        subst h0
        repeat intro _
        change Wl [_] _ _ _ _ _ _ _
        repeat' (first | (apply Wl.convI64; exact rfl; exact rfl; (constructor <;> omega)) | (apply Wl.nil) | (apply Wl.splitP; exact rfl; exact rfl; all_goals (intros; try (exfalso; omega))) | (apply Wl.splitB; exact rfl; exact rfl; all_goals intros) | (apply St.condP; exact rfl; all_goals (intros; try (exfalso; omega))) | (apply St.condB; exact rfl; all_goals intros))
        apply Gt.bagEnd
        · exact rfl
        · exact fun w' h' => ⟨h'.ext, rfl⟩
      apply BagOps.cons
      · intro w1 e1
        intro v0 h0
        have h0 : v0 = .int .i64 pbi := h0
        subst h0
        repeat intro _
        change Wl [_] _ _ _ _ _ _ _
        apply Wl.call
        exact rfl
        (repeat (first | exact Evs.nil | apply Evs.cons rfl))
        intro wq hq
        refine (put_any 4 pbi (by decide) (by omega) wq).mono ?_
        rintro e wr ⟨v, rfl, hb, hu⟩
        refine ⟨_, rfl, ?_⟩
        repeat' (first | (apply Wl.nil) | (apply Wl.splitP; exact rfl; exact rfl; all_goals (intros; try (exfalso; omega))) | (apply Wl.splitB; exact rfl; exact rfl; all_goals intros) | (apply St.condP; exact rfl; all_goals (intros; try (exfalso; omega))) | (apply St.condB; exact rfl; all_goals intros))
        apply Gt.bagEnd
        · exact rfl
        · exact fun w' h' => ⟨bag_call hq hu h', hb.nw h' (by have := e1.size; have := hq.upd.size; omega)⟩
      apply BagOps.cons
      · intro w1 e1
        repeat intro _
        change Wl [_] _ _ _ _ _ _ _
        repeat' (first | (apply Wl.fieldAddrZ; exact rfl; exact rfl) | (apply Wl.nil) | (apply Wl.splitP; exact rfl; exact rfl; all_goals (intros; try (exfalso; omega))) | (apply Wl.splitB; exact rfl; exact rfl; all_goals intros) | (apply St.condP; exact rfl; all_goals (intros; try (exfalso; omega))) | (apply St.condB; exact rfl; all_goals intros))
        apply Gt.bagEnd
        · exact rfl
        · exact fun w' h' => ⟨h'.ext, rfl⟩
      apply BagOps.cons
      · intro w1 e1
        have hd35 := e1.cell hd35 id
        intro v0 h0
        have h0 : v0 = .pointer (some ⟨c5, 35, none⟩) := h0
        subst h0
        repeat intro _
        change Wl [_] _ _ _ _ _ _ _
        repeat' (first | (apply Wl.loadO; exact rfl; exact rfl; (assumption); (repeat (first | exact trivial | refine ⟨by first | assumption | omega, ?_⟩))) | (apply Wl.nil) | (apply Wl.splitP; exact rfl; exact rfl; all_goals (intros; try (exfalso; omega))) | (apply Wl.splitB; exact rfl; exact rfl; all_goals intros) | (apply St.condP; exact rfl; all_goals (intros; try (exfalso; omega))) | (apply St.condB; exact rfl; all_goals intros))
        apply Gt.bagEnd
        · exact rfl
        · exact fun w' h' => ⟨h'.ext, rfl⟩
      apply BagOps.cons
      · intro w1 e1
        intro v0 h0
        have h0 : v0 = .int .i64 pc := h0
        subst h0
        repeat intro _
        change Wl [_] _ _ _ _ _ _ _
        repeat' (first | (apply Wl.convU8; exact rfl; exact rfl; (constructor <;> omega)) | (apply Wl.nil) | (apply Wl.splitP; exact rfl; exact rfl; all_goals (intros; try (exfalso; omega))) | (apply Wl.splitB; exact rfl; exact rfl; all_goals intros) | (apply St.condP; exact rfl; all_goals (intros; try (exfalso; omega))) | (apply St.condB; exact rfl; all_goals intros))
        apply Gt.bagEnd
        · exact rfl
        · exact fun w' h' => ⟨h'.ext, rfl⟩
      apply BagOps.cons
      · intro w1 e1
        repeat intro _
        change Wl [_] _ _ _ _ _ _ _
        repeat' (first | (apply Wl.fieldAddrZ; exact rfl; exact rfl) | (apply Wl.nil) | (apply Wl.splitP; exact rfl; exact rfl; all_goals (intros; try (exfalso; omega))) | (apply Wl.splitB; exact rfl; exact rfl; all_goals intros) | (apply St.condP; exact rfl; all_goals (intros; try (exfalso; omega))) | (apply St.condB; exact rfl; all_goals intros))
        apply Gt.bagEnd
        · exact rfl
        · exact fun w' h' => ⟨h'.ext, rfl⟩
      apply BagOps.cons
      · intro w1 e1
        have hd34 := e1.cell hd34 id
        intro v0 h0
        have h0 : v0 = .pointer (some ⟨c5, 34, none⟩) := h0
        subst h0
        repeat intro _
        change Wl [_] _ _ _ _ _ _ _
        repeat' (first | (apply Wl.loadO; exact rfl; exact rfl; (assumption); (repeat (first | exact trivial | refine ⟨by first | assumption | omega, ?_⟩))) | (apply Wl.nil) | (apply Wl.splitP; exact rfl; exact rfl; all_goals (intros; try (exfalso; omega))) | (apply Wl.splitB; exact rfl; exact rfl; all_goals intros) | (apply St.condP; exact rfl; all_goals (intros; try (exfalso; omega))) | (apply St.condB; exact rfl; all_goals intros))
        apply Gt.bagEnd
        · exact rfl
        · exact fun w' h' => ⟨h'.ext, rfl⟩
      apply BagOps.cons
      · intro w1 e1
        intro v0 h0
        have h0 : v0 = .slice ga gs.length gc := h0
        subst h0
        repeat intro _
        change Wl [_] _ _ _ _ _ _ _
        repeat' (first | (apply Wl.len; exact rfl; exact rfl) | (apply Wl.nil) | (apply Wl.splitP; exact rfl; exact rfl; all_goals (intros; try (exfalso; omega))) | (apply Wl.splitB; exact rfl; exact rfl; all_goals intros) | (apply St.condP; exact rfl; all_goals (intros; try (exfalso; omega))) | (apply St.condB; exact rfl; all_goals intros))
        apply Gt.bagEnd
        · exact rfl
        · exact fun w' h' => ⟨h'.ext, rfl⟩
      apply BagOps.cons
      · intro w1 e1
        intro v0 h0
        have h0 : v0 = .int .i64 gs.length := h0
        subst h0
        repeat intro _
        change Wl [_] _ _ _ _ _ _ _
        repeat' (first | (apply Wl.convU8; exact rfl; exact rfl; (constructor <;> omega)) | (apply Wl.nil) | (apply Wl.splitP; exact rfl; exact rfl; all_goals (intros; try (exfalso; omega))) | (apply Wl.splitB; exact rfl; exact rfl; all_goals intros) | (apply St.condP; exact rfl; all_goals (intros; try (exfalso; omega))) | (apply St.condB; exact rfl; all_goals intros))
        apply Gt.bagEnd
        · exact rfl
        · exact fun w' h' => ⟨h'.ext, rfl⟩
      apply BagOps.cons
      · intro w1 e1
        intro v0 h0
        have h0 : v0 = .int .u8 pc := h0
        subst h0
        intro v1 h1
        have h1 : v1 = .int .u8 gs.length := h1
        subst h1
        repeat intro _
        change Wl [_] _ _ _ _ _ _ _
        repeat' (first | (apply Wl.lit; exact rfl; (repeat (first | exact Parts.nil | apply Parts.cons rfl)); exact rfl; exact rfl; (repeat (first | apply CatP.nil | (apply CatP.one; exact rfl; exact rfl) | (apply CatP.agg; exact rfl) | apply LApp.nil | apply LApp.cons)); intro c hc ho) | (apply Wl.nil) | (apply Wl.splitP; exact rfl; exact rfl; all_goals (intros; try (exfalso; omega))) | (apply Wl.splitB; exact rfl; exact rfl; all_goals intros) | (apply St.condP; exact rfl; all_goals (intros; try (exfalso; omega))) | (apply St.condB; exact rfl; all_goals intros))
        apply Gt.bagEnd
        · exact rfl
        · exact fun w' h' => ⟨(h'.drop (by simp; omega)).ext, ofBlkLit h' (by omega) (by omega), fun k hk => by have hk' : c = k := Option.some.inj hk; have := e1.size; omega⟩
      apply BagOps.cons
      · intro w1 e1
        intro v0 h0
        intro v1 h1
        intro v2 h2
        intro v3 h3
        repeat intro _
        change Wl [_] _ _ _ _ _ _ _
        have b0 : Nw w5.heap.size w1 v0 (dig) := h0
        obtain ⟨a0, q0, rfl, _, _⟩ := b0.1.shape
        have b1 : Nw w5.heap.size w1 v1 (leB 4 psz) := h1
        obtain ⟨a1, q1, rfl, _, _⟩ := b1.1.shape
        have b2 : Nw w5.heap.size w1 v2 (leB 4 pbi) := h2
        obtain ⟨a2, q2, rfl, _, _⟩ := b2.1.shape
        have b3 : Nw w5.heap.size w1 v3 (leB 1 pc ++ (leB 1 gs.length ++ leB 2 0)) := h3
        obtain ⟨a3, q3, rfl, _, _⟩ := b3.1.shape
        clear h0 h1 h2 h3
        apply Wl.lit
        · exact rfl
        · (repeat (first | exact Parts.nil | apply Parts.cons rfl))
        · exact rfl
        · exact rfl
        · (repeat (first | apply CatP.nil | (apply CatP.one; exact rfl; exact rfl) | (apply CatP.agg; exact rfl) | apply LApp.nil | apply LApp.cons))
        intro c hc ho
        repeat' (first | (apply Wl.nil) | (apply Wl.splitP; exact rfl; exact rfl; all_goals (intros; try (exfalso; omega))) | (apply Wl.splitB; exact rfl; exact rfl; all_goals intros) | (apply St.condP; exact rfl; all_goals (intros; try (exfalso; omega))) | (apply St.condB; exact rfl; all_goals intros))
        apply Gt.bagEnd
        · exact rfl
        · exact fun w' h' => ⟨(h'.drop (by simp; omega)).ext, LitN.mk (.cons b0 (.cons b1 (.cons b2 (.cons b3 .nil)))) h' hc rfl (by decide)⟩
      exact BagOps.nil
    intro w6 e6 v0 hz
    have h0 : v0 = vo := hz
    clear hz
    subst h0
    intro v1 hz
    change Wl (_ :: _) _ _ _ _ _ _ _
    have h1 : LitN w5.heap.size w6 v1 [dig, leB 4 psz, leB 4 pbi, leB 1 pc ++ (leB 1 gs.length ++ leB 2 0)] := hz
    clear hz
    obtain ⟨vs2, hv1, hv2, hv3, hv4⟩ := h1
    obtain ⟨vs1, ho1, ho2, ho3, ho4⟩ := hout5.ext e6
    have hn2 : vs2.length = 4 := hv1
    apply Wl.appendV (news := vs2)
    · exact rfl
    · exact rfl
    · exact rfl
    · exact hv2
    · exact fun _ _ _ _ => trivial
    · exact ho2
    · exact fun _ _ => trivial
    · exact hv4
    · exact rfl
    · decide
    · unfold maxLen; omega
    · omega
    · have := e6.size; have := hu5.size; have : vs1.length = (hdL m ++ (m.pays.take i).flatMap pyL).length := ho1; omega
    intro v' w7 ho7 u7 _ hk7
    have u67 : Upd (fun k => v0.ownBlock = some k) w6 w7 := u7.mono fun k _ hs => hs.elim id fun y => (y trivial).elim
    have hvlt : ∀ k, v0.ownBlock = some k → k < w5.heap.size := fun k hk => by
      obtain ⟨_, _, q, _, _⟩ := hout5
      exact (q.lt k hk).2
    have hvge : ∀ k, v0.ownBlock = some k → wB.heap.size ≤ k := fun k hk => (ho2.lt k hk).1
    have hout7 : Out wB.heap.size w7 v' (hdL m ++ (m.pays.take i).flatMap pyL ++ [dig, leB 4 psz, leB 4 pbi, leB 1 pc ++ (leB 1 gs.length ++ leB 2 0)]) := Out.app ho1 ho3 ho4 hv1 hv3 hv4 hvlt ho7 u67 fun k hk => (hk7 k hk).2
    clear hv1 hv2 hv3 hv4 ho1 ho2 ho3 ho4 ho7 hk7 u7
    have hvc5 : ∀ k, v0.ownBlock = some k → k ≠ c5 := fun k hk e => by
      obtain ⟨_, _, q, _, _⟩ := hout5
      exact own_ne q hh5 (by decide) (e ▸ hk)
    have hu7 : Upd (fun k => wB.heap.size ≤ k ∧ k ≠ c5) w5 w7 := e6.comp u67 fun k _ hs => hs.elim False.elim fun e => ⟨hvge k e, hvc5 k e⟩
    clear u67 hvlt hvge hvc5
    repeat' (first | (apply Wl.assign; exact rfl; exact rfl) | (apply Wl.nil) | (apply St.seq) | (apply St.block) | (apply St.region) | (apply Gt.next) | (apply Wl.splitP; exact rfl; exact rfl; all_goals (intros; try (exfalso; omega))) | (apply Wl.splitB; exact rfl; exact rfl; all_goals intros) | (apply St.condP; exact rfl; all_goals (intros; try (exfalso; omega))) | (apply St.condB; exact rfl; all_goals intros))
    refine St.loop (σ := Nat × World × Value)
      (fun τ => τ.1 ≤ gs.length ∧ Upd (fun k => wB.heap.size ≤ k ∧ k ≠ c5) w5 τ.2.1 ∧ Out wB.heap.size τ.2.1 τ.2.2 (hdL m ++ (m.pays.take i).flatMap pyL ++ [dig, leB 4 psz, leB 4 pbi, leB 1 pc ++ (leB 1 gs.length ++ leB 2 0)] ++ (gs.take τ.1).flatMap grL))
      (fun τ => [(1, .pointer (some ⟨c1, 0, none⟩)), (3, τ.2.2), (4, .int .i64 i), (5, .pointer (some ⟨c5, 0, none⟩)), (6, .int .i64 τ.1)])
      (fun τ => Hp τ.2.1 [])
      (fun τ => gs.length - τ.1) (0, w7, v') ⟨Nat.zero_le _, hu7, by simpa using hout7⟩ (by (repeat (first | exact Sub.nil | apply Sub.cons rfl))) (fun _ h => h) ?_
    clear hu7 hout7
    rintro ⟨j, w1, vi⟩ ⟨hjn, hu1, hout1⟩
    simp only at hjn hu1 hout1 ⊢
    have hd34' := hu1.cell hd34 (fun h => h.2 rfl)
    have hu1B : Upd (fun k => wB.heap.size ≤ k) wB w1 := hu5.comp hu1 fun k _ hs => hs.elim id (·.1)
    have hlk : (hdL m ++ (m.pays.take i).flatMap pyL ++ [dig, leB 4 psz, leB 4 pbi, leB 1 pc ++ (leB 1 gs.length ++ leB 2 0)] ++ (gs.take j).flatMap grL).length ≤ 90 := by
      rw [List.length_append, List.length_append, grL_len, List.length_take]
      have : ([dig, leB 4 psz, leB 4 pbi, leB 1 pc ++ (leB 1 gs.length ++ leB 2 0)]).length = 4 := rfl
      omega
    by_cases hjl : j < gs.length
    · obtain ⟨g, hg⟩ : ∃ g, gs[j]? = some g := ⟨_, List.getElem?_eq_getElem hjl⟩
      obtain ⟨hg1', hg2', hg3', hg4'⟩ := hgok g (List.mem_of_getElem? hg)
      have hstep := flatMap_take_succ gs grL j g hg
      obtain ⟨gb, go, gc', hga, _, _⟩ := Sv.some_of hsg0 (fun e => by have := flat3 grCells_len hg (j := 0) (by decide); rw [e] at this; simp [grCells] at this)
      simp only [Value.slice.injEq, true_and] at hga
      obtain ⟨rfl, rfl⟩ := hga
      obtain ⟨gst, gsz, gri⟩ := g
      simp only at hg1' hg2' hg3' hg4'
      obtain ⟨gr, rfl⟩ := Int.eq_ofNat_of_zero_le hg3'
      have hge : ∀ k v, [Value.int .u32 gst, .int .u32 gsz, .int .i64 (gr : Int)][k]? = some v → w1.cell? ⟨gb, go + (j : Int).toNat * 3 + k, none⟩ = some v := by
        intro k v hk
        have hk3 : k < 3 := (List.getElem?_eq_some_iff.1 hk).1
        rw [show go + (j : Int).toNat * 3 + k = go + (j * 3 + k) by omega]
        have hc := Sv.cellN hsg0 ((flat3 grCells_len hg hk3).trans hk)
        exact hu1B.cell (hold hc) (by have hl := World.block_lt_of_cell? w _ hc; have := huB.size; simp only at hl ⊢; omega)
      repeat' (first | (apply Wl.loadAP; exact rfl; exact rfl; exact hge; exact trivial; exact rfl) | (apply Wl.move; exact rfl; exact rfl) | (apply Wl.fieldAddrZ; exact rfl; exact rfl) | (apply Wl.loadO; exact rfl; exact rfl; (assumption); (repeat (first | exact trivial | refine ⟨by first | assumption | omega, ?_⟩))) | (apply Wl.lss; exact rfl; exact rfl; exact rfl) | (apply Wl.len; exact rfl; exact rfl) | (apply Wl.storeA; exact rfl; exact rfl; exact rfl; exact rfl; (repeat (first | apply HSet.here | apply HSet.there)); (repeat (first | apply LPut.s | apply LPut.z | apply LOver.nil | apply LOver.cons))) | (apply Wl.alloc; exact rfl; intro c hc ho) | (apply Wl.indexAddr; exact rfl; exact rfl; exact rfl; (constructor <;> omega)) | (apply Wl.nil) | (apply St.seq) | (apply St.block) | (apply St.region) | (apply St.skip) | (apply Gt.next) | (apply Wl.splitP; exact rfl; exact rfl; all_goals (intros; try (exfalso; omega))) | (apply Wl.splitB; exact rfl; exact rfl; all_goals intros) | (apply St.condP; exact rfl; all_goals (intros; try (exfalso; omega))) | (apply St.condB; exact rfl; all_goals intros))
      generalize c = c7 at *
      apply St.reb (H' := [])
      intro w8 h8
      refine ⟨trivial, trivial, ?_⟩
      have gc7 : w1.heap.size ≤ c7 := hc
      have hf0 : w8.cell? ⟨c7, 0, none⟩ = some (.int .u32 gst) := h8.cell (.head _) rfl
      have hf1 : w8.cell? ⟨c7, 1, none⟩ = some (.int .u32 gsz) := h8.cell (.head _) rfl
      have hf2 : w8.cell? ⟨c7, 2, none⟩ = some (.int .i64 (gr : Int)) := h8.cell (.head _) rfl
      have e18 : Ext w1 w8 := (h8.drop (by simp; omega)).ext
      have hu8 : Upd (fun k => wB.heap.size ≤ k ∧ k ≠ c5) w5 w8 := hu1.comp e18 fun _ _ hs => hs.elim id False.elim
      have hout8 := hout1.ext e18
      have hh8 := hu8.heap hh5 (fun h => h.2 rfl)
      have hs8 := hu5.size
      have hs58 := hu8.size
      clear h8 e18 hge hout1
      apply St.bagT 13 Ext Ext.trans (fun w' h => Ext.start _ w' h) [fun v w' => v = vi, fun v w' => v = .pointer (some ⟨c7, 0, none⟩), fun v w' => v = .int .u32 gst, fun v w' => v = .int .i64 gst, fun v w' => Nw w8.heap.size w' v (leB 4 gst), fun v w' => v = .pointer (some ⟨c7, 1, none⟩), fun v w' => v = .int .u32 gsz, fun v w' => v = .int .i64 gsz, fun v w' => Nw w8.heap.size w' v (leB 4 gsz), fun v w' => v = .pointer (some ⟨c7, 2, none⟩), fun v w' => v = .int .i64 gr, fun v w' => Nw w8.heap.size w' v (leB 4 gr), fun v w' => LitN w8.heap.size w' v [leB 4 gst, leB 4 gsz, leB 4 gr]] [0, 12]
      · exact mixed
      · kernel_rfl
      · kernel_rfl
      · refine .cons ?_ (.cons ?_ (.cons ?_ (.cons ?_ (.cons ?_ (.cons ?_ (.cons ?_ (.cons ?_ (.cons ?_ (.cons ?_ (.cons ?_ (.cons ?_ (.cons ?_ .nil))))))))))))
        all_goals intro v w1 w2 e h
        all_goals first | exact h | exact h.ext e
      · rfl
      · skip
        apply BagOps.cons
        · intro w1 e1
          repeat intro _
          change Wl [_] _ _ _ _ _ _ _
          repeat' (first | (apply Wl.move; exact rfl; exact rfl) | (apply Wl.nil) | (apply Wl.splitP; exact rfl; exact rfl; all_goals (intros; try (exfalso; omega))) | (apply Wl.splitB; exact rfl; exact rfl; all_goals intros) | (apply St.condP; exact rfl; all_goals (intros; try (exfalso; omega))) | (apply St.condB; exact rfl; all_goals intros))
          apply Gt.bagEnd
          · exact rfl
          · exact fun w' h' => ⟨h'.ext, rfl⟩
        apply BagOps.cons
        · intro w1 e1
          repeat intro _
          change Wl [_] _ _ _ _ _ _ _
          repeat' (first | (apply Wl.fieldAddr0; exact rfl; exact rfl) | (apply Wl.nil) | (apply Wl.splitP; exact rfl; exact rfl; all_goals (intros; try (exfalso; omega))) | (apply Wl.splitB; exact rfl; exact rfl; all_goals intros) | (apply St.condP; exact rfl; all_goals (intros; try (exfalso; omega))) | (apply St.condB; exact rfl; all_goals intros))
          apply Gt.bagEnd
          · exact rfl
          · exact fun w' h' => ⟨h'.ext, rfl⟩
        apply BagOps.cons
        · intro w1 e1
          have hf0 := e1.cell hf0 id
          intro v0 h0
          have h0 : v0 = .pointer (some ⟨c7, 0, none⟩) := h0
          subst h0
          repeat intro _
          change Wl [_] _ _ _ _ _ _ _
          repeat' (first | (apply Wl.loadO; exact rfl; exact rfl; (assumption); (repeat (first | exact trivial | refine ⟨by first | assumption | omega, ?_⟩))) | (apply Wl.nil) | (apply Wl.splitP; exact rfl; exact rfl; all_goals (intros; try (exfalso; omega))) | (apply Wl.splitB; exact rfl; exact rfl; all_goals intros) | (apply St.condP; exact rfl; all_goals (intros; try (exfalso; omega))) | (apply St.condB; exact rfl; all_goals intros))
          apply Gt.bagEnd
          · exact rfl
          · exact fun w' h' => ⟨h'.ext, rfl⟩
        apply BagOps.cons
        · intro w1 e1
          intro v0 h0
          have h0 : v0 = .int .u32 gst := h0
          subst h0
          repeat intro _
          change Wl [_] _ _ _ _ _ _ _
          repeat' (first | (apply Wl.convI64; exact rfl; exact rfl; (constructor <;> omega)) | (apply Wl.nil) | (apply Wl.splitP; exact rfl; exact rfl; all_goals (intros; try (exfalso; omega))) | (apply Wl.splitB; exact rfl; exact rfl; all_goals intros) | (apply St.condP; exact rfl; all_goals (intros; try (exfalso; omega))) | (apply St.condB; exact rfl; all_goals intros))
          apply Gt.bagEnd
          · exact rfl
          · exact fun w' h' => ⟨h'.ext, rfl⟩
        apply BagOps.cons
        · intro w1 e1
          intro v0 h0
          have h0 : v0 = .int .i64 gst := h0
          subst h0
          repeat intro _
          change Wl [_] _ _ _ _ _ _ _
          apply Wl.call
          exact rfl
          (repeat (first | exact Evs.nil | apply Evs.cons rfl))
          intro wq hq
          refine (put_any 4 gst (by decide) (by omega) wq).mono ?_
          rintro e wr ⟨v, rfl, hb, hu⟩
          refine ⟨_, rfl, ?_⟩
          repeat' (first | (apply Wl.nil) | (apply Wl.splitP; exact rfl; exact rfl; all_goals (intros; try (exfalso; omega))) | (apply Wl.splitB; exact rfl; exact rfl; all_goals intros) | (apply St.condP; exact rfl; all_goals (intros; try (exfalso; omega))) | (apply St.condB; exact rfl; all_goals intros))
          apply Gt.bagEnd
          · exact rfl
          · exact fun w' h' => ⟨bag_call hq hu h', hb.nw h' (by have := e1.size; have := hq.upd.size; omega)⟩
        apply BagOps.cons
        · intro w1 e1
          repeat intro _
          change Wl [_] _ _ _ _ _ _ _
          repeat' (first | (apply Wl.fieldAddrZ; exact rfl; exact rfl) | (apply Wl.nil) | (apply Wl.splitP; exact rfl; exact rfl; all_goals (intros; try (exfalso; omega))) | (apply Wl.splitB; exact rfl; exact rfl; all_goals intros) | (apply St.condP; exact rfl; all_goals (intros; try (exfalso; omega))) | (apply St.condB; exact rfl; all_goals intros))
          apply Gt.bagEnd
          · exact rfl
          · exact fun w' h' => ⟨h'.ext, rfl⟩
        apply BagOps.cons
        · intro w1 e1
          have hf1 := e1.cell hf1 id
          intro v0 h0
          have h0 : v0 = .pointer (some ⟨c7, 1, none⟩) := h0
          subst h0
          repeat intro _
          change Wl [_] _ _ _ _ _ _ _
          repeat' (first | (apply Wl.loadO; exact rfl; exact rfl; (assumption); (repeat (first | exact trivial | refine ⟨by first | assumption | omega, ?_⟩))) | (apply Wl.nil) | (apply Wl.splitP; exact rfl; exact rfl; all_goals (intros; try (exfalso; omega))) | (apply Wl.splitB; exact rfl; exact rfl; all_goals intros) | (apply St.condP; exact rfl; all_goals (intros; try (exfalso; omega))) | (apply St.condB; exact rfl; all_goals intros))
          apply Gt.bagEnd
          · exact rfl
          · exact fun w' h' => ⟨h'.ext, rfl⟩
        apply BagOps.cons
        · intro w1 e1
          intro v0 h0
          have h0 : v0 = .int .u32 gsz := h0
          subst h0
          repeat intro _
          change Wl [_] _ _ _ _ _ _ _
          repeat' (first | (apply Wl.convI64; exact rfl; exact rfl; (constructor <;> omega)) | (apply Wl.nil) | (apply Wl.splitP; exact rfl; exact rfl; all_goals (intros; try (exfalso; omega))) | (apply Wl.splitB; exact rfl; exact rfl; all_goals intros) | (apply St.condP; exact rfl; all_goals (intros; try (exfalso; omega))) | (apply St.condB; exact rfl; all_goals intros))
          apply Gt.bagEnd
          · exact rfl
          · exact fun w' h' => ⟨h'.ext, rfl⟩
        apply BagOps.cons
        · intro w1 e1
          intro v0 h0
          have h0 : v0 = .int .i64 gsz := h0
          subst h0
          repeat intro _
          change Wl [_] _ _ _ _ _ _ _
          apply Wl.call
          exact rfl
          (repeat (first | exact Evs.nil | apply Evs.cons rfl))
          intro wq hq
          refine (put_any 4 gsz (by decide) (by omega) wq).mono ?_
          rintro e wr ⟨v, rfl, hb, hu⟩
          refine ⟨_, rfl, ?_⟩
          repeat' (first | (apply Wl.nil) | (apply Wl.splitP; exact rfl; exact rfl; all_goals (intros; try (exfalso; omega))) | (apply Wl.splitB; exact rfl; exact rfl; all_goals intros) | (apply St.condP; exact rfl; all_goals (intros; try (exfalso; omega))) | (apply St.condB; exact rfl; all_goals intros))
          apply Gt.bagEnd
          · exact rfl
          · exact fun w' h' => ⟨bag_call hq hu h', hb.nw h' (by have := e1.size; have := hq.upd.size; omega)⟩
        apply BagOps.cons
        · intro w1 e1
          repeat intro _
          change Wl [_] _ _ _ _ _ _ _
          repeat' (first | (apply Wl.fieldAddrZ; exact rfl; exact rfl) | (apply Wl.nil) | (apply Wl.splitP; exact rfl; exact rfl; all_goals (intros; try (exfalso; omega))) | (apply Wl.splitB; exact rfl; exact rfl; all_goals intros) | (apply St.condP; exact rfl; all_goals (intros; try (exfalso; omega))) | (apply St.condB; exact rfl; all_goals intros))
          apply Gt.bagEnd
          · exact rfl
          · exact fun w' h' => ⟨h'.ext, rfl⟩
        apply BagOps.cons
        · intro w1 e1
          have hf2 := e1.cell hf2 id
          intro v0 h0
          have h0 : v0 = .pointer (some ⟨c7, 2, none⟩) := h0
          subst h0
          repeat intro _
          change Wl [_] _ _ _ _ _ _ _
          repeat' (first | (apply Wl.loadO; exact rfl; exact rfl; (assumption); (repeat (first | exact trivial | refine ⟨by first | assumption | omega, ?_⟩))) | (apply Wl.nil) | (apply Wl.splitP; exact rfl; exact rfl; all_goals (intros; try (exfalso; omega))) | (apply Wl.splitB; exact rfl; exact rfl; all_goals intros) | (apply St.condP; exact rfl; all_goals (intros; try (exfalso; omega))) | (apply St.condB; exact rfl; all_goals intros))
          apply Gt.bagEnd
          · exact rfl
          · exact fun w' h' => ⟨h'.ext, rfl⟩
        apply BagOps.cons
        · intro w1 e1
          intro v0 h0
          have h0 : v0 = .int .i64 gr := h0
          subst h0
          repeat intro _
          change Wl [_] _ _ _ _ _ _ _
          apply Wl.call
          exact rfl
          (repeat (first | exact Evs.nil | apply Evs.cons rfl))
          intro wq hq
          refine (put_any 4 gr (by decide) (by omega) wq).mono ?_
          rintro e wr ⟨v, rfl, hb, hu⟩
          refine ⟨_, rfl, ?_⟩
          repeat' (first | (apply Wl.nil) | (apply Wl.splitP; exact rfl; exact rfl; all_goals (intros; try (exfalso; omega))) | (apply Wl.splitB; exact rfl; exact rfl; all_goals intros) | (apply St.condP; exact rfl; all_goals (intros; try (exfalso; omega))) | (apply St.condB; exact rfl; all_goals intros))
          apply Gt.bagEnd
          · exact rfl
          · exact fun w' h' => ⟨bag_call hq hu h', hb.nw h' (by have := e1.size; have := hq.upd.size; omega)⟩
        apply BagOps.cons
        · intro w1 e1
          intro v0 h0
          intro v1 h1
          intro v2 h2
          repeat intro _
          change Wl [_] _ _ _ _ _ _ _
          have b0 : Nw w8.heap.size w1 v0 (leB 4 gst) := h0
          obtain ⟨a0, q0, rfl, _, _⟩ := b0.1.shape
          have b1 : Nw w8.heap.size w1 v1 (leB 4 gsz) := h1
          obtain ⟨a1, q1, rfl, _, _⟩ := b1.1.shape
          have b2 : Nw w8.heap.size w1 v2 (leB 4 gr) := h2
          obtain ⟨a2, q2, rfl, _, _⟩ := b2.1.shape
          clear h0 h1 h2
          apply Wl.lit
          · exact rfl
          · (repeat (first | exact Parts.nil | apply Parts.cons rfl))
          · exact rfl
          · exact rfl
          · (repeat (first | apply CatP.nil | (apply CatP.one; exact rfl; exact rfl) | (apply CatP.agg; exact rfl) | apply LApp.nil | apply LApp.cons))
          intro c hc ho
          repeat' (first | (apply Wl.nil) | (apply Wl.splitP; exact rfl; exact rfl; all_goals (intros; try (exfalso; omega))) | (apply Wl.splitB; exact rfl; exact rfl; all_goals intros) | (apply St.condP; exact rfl; all_goals (intros; try (exfalso; omega))) | (apply St.condB; exact rfl; all_goals intros))
          apply Gt.bagEnd
          · exact rfl
          · exact fun w' h' => ⟨(h'.drop (by simp; omega)).ext, LitN.mk (.cons b0 (.cons b1 (.cons b2 .nil))) h' hc rfl (by decide)⟩
        exact BagOps.nil
      intro w6 e6 v0 hz
      have h0 : v0 = vi := hz
      clear hz
      subst h0
      intro v1 hz
      change Wl (_ :: _) _ _ _ _ _ _ _
      have h1 : LitN w8.heap.size w6 v1 [leB 4 gst, leB 4 gsz, leB 4 gr] := hz
      clear hz
      obtain ⟨vs2, hv1, hv2, hv3, hv4⟩ := h1
      obtain ⟨vs1, ho1, ho2, ho3, ho4⟩ := hout8.ext e6
      have hn2 : vs2.length = 3 := hv1
      apply Wl.appendV (news := vs2)
      · exact rfl
      · exact rfl
      · exact rfl
      · exact hv2
      · exact fun _ _ _ _ => trivial
      · exact ho2
      · exact fun _ _ => trivial
      · exact hv4
      · exact rfl
      · decide
      · unfold maxLen; omega
      · omega
      · have := e6.size; have : vs1.length = (hdL m ++ (m.pays.take i).flatMap pyL ++ [dig, leB 4 psz, leB 4 pbi, leB 1 pc ++ (leB 1 gs.length ++ leB 2 0)] ++ (gs.take j).flatMap grL).length := ho1; omega
      intro v' w7 ho7 u7 _ hk7
      have u67 : Upd (fun k => v0.ownBlock = some k) w6 w7 := u7.mono fun k _ hs => hs.elim id fun y => (y trivial).elim
      have hvlt : ∀ k, v0.ownBlock = some k → k < w8.heap.size := fun k hk => by
        obtain ⟨_, _, q, _, _⟩ := hout8
        exact (q.lt k hk).2
      have hvge : ∀ k, v0.ownBlock = some k → wB.heap.size ≤ k := fun k hk => (ho2.lt k hk).1
      have hout7 : Out wB.heap.size w7 v' (hdL m ++ (m.pays.take i).flatMap pyL ++ [dig, leB 4 psz, leB 4 pbi, leB 1 pc ++ (leB 1 gs.length ++ leB 2 0)] ++ (gs.take j).flatMap grL ++ [leB 4 gst, leB 4 gsz, leB 4 gr]) := Out.app ho1 ho3 ho4 hv1 hv3 hv4 hvlt ho7 u67 fun k hk => (hk7 k hk).2
      clear hv1 hv2 hv3 hv4 ho1 ho2 ho3 ho4 ho7 hk7 u7
      have hvc5 : ∀ k, v0.ownBlock = some k → k ≠ c5 := fun k hk e => by
        obtain ⟨_, _, q, _, _⟩ := hout8
        exact own_ne q hh8 (by decide) (e ▸ hk)
      have hu7 : Upd (fun k => wB.heap.size ≤ k ∧ k ≠ c5) w5 w7 := hu8.comp (e6.comp u67 (T := fun k => wB.heap.size ≤ k ∧ k ≠ c5) fun k _ hs => hs.elim False.elim fun e => ⟨hvge k e, hvc5 k e⟩) fun _ _ hs => hs.elim id id
      clear u67 hvlt hvge hvc5
      repeat' (first | (apply Wl.move; exact rfl; exact rfl) | (apply Wl.assign; exact rfl; exact rfl) | (apply Wl.addI; exact rfl; exact rfl; exact rfl; (constructor <;> omega)) | (apply Wl.nil) | (apply St.region) | (apply Gt.next) | (apply Gt.inNormal) | (apply Wl.splitP; exact rfl; exact rfl; all_goals (intros; try (exfalso; omega))) | (apply Wl.splitB; exact rfl; exact rfl; all_goals intros) | (apply St.condP; exact rfl; all_goals (intros; try (exfalso; omega))) | (apply St.condB; exact rfl; all_goals intros))
      apply Gt.round (j + 1, w7, v')
      rotate_left
      · simp only; omega
      · (repeat (first | exact Sub.nil | apply Sub.cons rfl))
      · exact fun _ h => h
      refine ⟨hjl, hu7, ?_⟩
      simp only
      rw [hstep, ← List.append_assoc]
      exact hout7
    · have hjk : j = gs.length := by omega
      subst hjk
      rw [List.take_length] at hout1
      repeat' (first | (apply Wl.move; exact rfl; exact rfl) | (apply Wl.assign; exact rfl; exact rfl) | (apply Wl.fieldAddrZ; exact rfl; exact rfl) | (apply Wl.loadO; exact rfl; exact rfl; (assumption); (repeat (first | exact trivial | refine ⟨by first | assumption | omega, ?_⟩))) | (apply Wl.lss; exact rfl; exact rfl; exact rfl) | (apply Wl.addI; exact rfl; exact rfl; exact rfl; (constructor <;> omega)) | (apply Wl.len; exact rfl; exact rfl) | (apply Wl.nil) | (apply St.seq) | (apply St.region) | (apply St.exit) | (apply Gt.next) | (apply Gt.thenExit) | (apply Gt.inNormal) | (apply Gt.inExit) | (apply Wl.splitP; exact rfl; exact rfl; all_goals (intros; try (exfalso; omega))) | (apply Wl.splitB; exact rfl; exact rfl; all_goals intros) | (apply St.condP; exact rfl; all_goals (intros; try (exfalso; omega))) | (apply St.condB; exact rfl; all_goals intros))
      apply Gt.round (i + 1, w1, vi)
      rotate_left
      · simp only; omega
      · (repeat (first | exact Sub.nil | apply Sub.cons rfl))
      · exact fun _ h => h
      refine ⟨hlt, hu1B, ?_⟩
      simp only
      rw [flatMap_take_succ m.pays pyL i _ hpi, ← List.append_assoc]
      have hz : hdL m ++ (m.pays.take i).flatMap pyL ++ pyL ⟨dig, psz, pbi, gs, (pc : Int)⟩ = hdL m ++ (m.pays.take i).flatMap pyL ++ [dig, leB 4 psz, leB 4 pbi, leB 1 pc ++ (leB 1 gs.length ++ leB 2 0)] ++ gs.flatMap grL := by
        unfold pyL
        rw [← List.append_assoc]
        rfl
      rw [hz]
      exact hout1
  · have hin' : i = xs.length := by omega
    subst hin'
    rw [hlen, List.take_length] at hout
    clear hll
    repeat' (first | (apply Wl.move; exact rfl; exact rfl) | (apply Wl.fieldAddrZ; exact rfl; exact rfl) | (apply Wl.loadO; exact rfl; exact rfl; (assumption); (repeat (first | exact trivial | refine ⟨by first | assumption | omega, ?_⟩))) | (apply Wl.lss; exact rfl; exact rfl; exact rfl) | (apply Wl.len; exact rfl; exact rfl) | (apply Wl.nil) | (apply St.seq) | (apply St.region) | (apply St.exit) | (apply Gt.next) | (apply Gt.thenExit) | (apply Gt.inExit) | (apply Wl.splitP; exact rfl; exact rfl; all_goals (intros; try (exfalso; omega))) | (apply Wl.splitB; exact rfl; exact rfl; all_goals intros) | (apply St.condP; exact rfl; all_goals (intros; try (exfalso; omega))) | (apply St.condB; exact rfl; all_goals intros))
    have hm : Out wB.heap.size w0 vo (mfL m) := hout
    apply Wl.callC
    exact rfl
    (repeat (first | exact Evs.nil | apply Evs.cons rfl))
    intro wq hq
    refine (join_any vo (mfL m) wq (hm.ext hq.ext).bss (by rw [mfL_flat]; have := encM_le hok0; omega)).mono ?_
    rintro e wr ⟨v', rfl, hb, hu'⟩
    refine ⟨_, Hp wr [], rfl, hpNil wr, ?_⟩
    repeat' (first | (apply Wl.assign; exact rfl; exact rfl) | (apply Wl.nil) | (apply St.ret) | (apply Gt.next) | (apply Gt.out1; exact rfl; exact rfl; intro w' hp) | (apply Wl.splitP; exact rfl; exact rfl; all_goals (intros; try (exfalso; omega))) | (apply Wl.splitB; exact rfl; exact rfl; all_goals intros) | (apply St.condP; exact rfl; all_goals (intros; try (exfalso; omega))) | (apply St.condB; exact rfl; all_goals intros))
    rw [mfL_flat] at hb
    exact ⟨_, rfl, hb.bs.upd hp.upd fun _ _ _ _ y => y trivial, Hp.on hp (Hp.on (hq.newer hu') (huB.comp hu fun k _ hs => hs.elim id fun y => by have := huB.size; omega) (by simp)) (by simp)⟩
end Go.Proofs.Ythdojhldiinkcaa
