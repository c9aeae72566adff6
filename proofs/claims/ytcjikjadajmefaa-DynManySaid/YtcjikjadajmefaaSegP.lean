/-
  The program's segments: elf.Segments follows the plain law. Conditions: the file has at most 100000 bytes.
-/
import Derived.Test.YtcjikjadajmefaaSeg
namespace Go.Proofs.Ytcjikjadajmefaa
open Go.RowKit Go.Pt

theorem and6 (x : Nat) (h : x ≤ 7) : bits .and .i64 (x : Int) 6 = 6 ↔ 6 ≤ x := by
  have : x = 0 ∨ x = 1 ∨ x = 2 ∨ x = 3 ∨ x = 4 ∨ x = 5 ∨ x = 6 ∨ x = 7 := by omega
  rcases this with rfl | rfl | rfl | rfl | rfl | rfl | rfl | rfl <;> decide
theorem and4 (x : Nat) (h : x ≤ 7) : 0 < bits .and .i64 (x : Int) 4 ↔ 4 ≤ x := by
  have : x = 0 ∨ x = 1 ∨ x = 2 ∨ x = 3 ∨ x = 4 ∨ x = 5 ∨ x = 6 ∨ x = 7 := by omega
  rcases this with rfl | rfl | rfl | rfl | rfl | rfl | rfl | rfl <;> decide
section
variable {P : Program} {N : Nat} {Γ : Env} {C : World → Prop} {Q : Exit → Act → World → Prop}
/-- statements one behind the other, by the kind of the first: a block is left to be cut -/
theorem St.seqR {i : Nat} {l : Array Oper} {b : Bool} {y : Code} (h : St (.region i l b) P N Γ C (Exit.then (y.wp P Q) Q)) : St (.seq (.region i l b) y) P N Γ C Q := St.seq h
theorem St.seqC {x : Operand} {p q y : Code} (h : St (.cond x p q) P N Γ C (Exit.then (y.wp P Q) Q)) : St (.seq (.cond x p q) y) P N Γ C Q := St.seq h
theorem St.seqS {p q y : Code} (h : St (.seq p q) P N Γ C (Exit.then (y.wp P Q) Q)) : St (.seq (.seq p q) y) P N Γ C Q := St.seq h
end
theorem Hp.under {wB w0 w : World} {H : List Blk} (h : Hp w0 H w) (hu : Upd (fun k => wB.heap.size ≤ k) wB w0) : Hp wB H w :=
  ⟨hu.comp h.upd fun k hk hs => hs.elim (fun y => by omega) id, h.own, h.apart⟩
/-- a load of a struct out of old memory -/
theorem Wl.loadAO {P : Program} {md : Md} {ops : Array Oper} {N : Nat} {rest : List Oper} {Γ : Env} {Q : Exit → Act → World → Prop} {d : Nat} {ty : TypeId} {pos : String} {af : Array Edge} {w0 : World} {H : List Blk} {t n : TypeId} [TyA P t n] {x : Operand} {b o : Nat} {xs : List Value}
    (hd : Nat.blt d N = true) (hx : ev Γ x = some (.pointer (some ⟨b, o, none⟩))) (hc : ∀ j v, xs[j]? = some v → w0.cell? ⟨b, o + j, none⟩ = some v) (ho : Off H b) (hn : xs.length = n)
    (h : Wl rest P md ops N ((d, .agg xs.toArray) :: Γ) (Hp w0 H) Q) : Wl (⟨some d, .load t x, ty, pos, af, none⟩ :: rest) P md ops N Γ (Hp w0 H) Q :=
  Wl.loadAF hd hx hn (fun w hw i v hv => by rw [addLit]; exact hw.old (hc i v hv) ho) h
/-- the program's segments as they read -/
def SegsP (w : World) (v : Value) (l : List Sg) : Prop :=
  ∃ xs : List (Sg × Value), xs.map (·.1) = l ∧ Sv w 4 xs.length v (xs.flatMap sgP) ∧ ∀ x ∈ xs, Bs w x.2 x.1.bytes
def SegsPost (f : List UInt8) (w : World) (e : Ending) (w' : World) : Prop :=
  Upd (fun k => w.heap.size ≤ k) w w' ∧
  ((¬ okHeads f ∧ e = .returned (.tuple #[.int .u32 0, .slice none 0 0, .slice none 0 0, .int .i64 8])) ∨
   (okHeads f ∧ (∀ l nd, ¬ SegsOf f l nd) ∧ e = .returned (.tuple #[.int .u32 0, .slice none 0 0, .slice none 0 0, .int .i64 9])) ∨
   (okHeads f ∧ ∃ l nd v a c, SegsOf f l nd ∧ e = .returned (.tuple #[.int .u32 (num f 24 4), v, .slice a nd c, .int .i64 0]) ∧ SegsP w' v l ∧ Sv w' 6 nd (.slice a nd c) (dynC (hCells f) f (num f 28 4) (num f 44 2))))

theorem hAll_len (f : List UInt8) (a n : Nat) : (hAll f a n).length = n * 6 := by
  induction n with
  | zero => rfl
  | succ n ih => rw [hAll_snoc, List.length_append, ih]; simp [hCells]; omega
theorem hAll_get (f : List UInt8) (a n i j : Nat) (hi : i < n) (hj : j < 6) : (hAll f a n)[i * 6 + j]? = (hCells f (a + 32 * i))[j]? := by
  induction n with
  | zero => omega
  | succ n ih =>
    rw [hAll_snoc]
    by_cases h : i < n
    · rw [List.getElem?_append_left (by rw [hAll_len]; omega), ih h]
    · have : i = n := by omega
      subst this
      rw [List.getElem?_append_right (by rw [hAll_len]; omega), hAll_len]
      congr 1; omega

set_option maxHeartbeats 1000000 in
theorem segs_any (v : Value) (f : List UInt8) (w : World) (hv : Bs w v f) (h3 : f.length ≤ 100000) :
    Calls Try.prog 16 #[v] w (SegsPost f w) := by
  obtain ⟨a, cap, rfl, hlc, hm⟩ := hv.shape
  unfold maxLen at hm
  refine enter (args := [_]) (Γ := [(0, _)]) Try.func16 Try.ntmps16 rfl (of_decide_eq_true rfl) (.cons rfl .nil) ?_
  repeat' (first | (apply Wl.move; exact rfl; exact rfl) | (apply Wl.assign; exact rfl; exact rfl) | (apply Wl.nil) | (apply St.seq) | (apply St.region) | (apply Gt.next) | (apply Wl.splitP; exact rfl; exact rfl; all_goals (intros; try (exfalso; omega))) | (apply Wl.splitB; exact rfl; exact rfl; all_goals intros) | (apply St.condP; exact rfl; all_goals (intros; try (exfalso; omega))) | (apply St.condB; exact rfl; all_goals intros))
  apply Wl.call
  exact rfl
  (repeat (first | exact Evs.nil | apply Evs.cons rfl))
  intro w1 h1
  refine (heads_any _ f w1 (hv.upd h1.upd fun _ _ _ _ y => y trivial) h3).mono ?_
  rintro e wB ⟨huB, ⟨hno, rfl⟩ | ⟨hok, vh, rfl, hvh⟩⟩
  · refine ⟨_, rfl, ?_⟩
    repeat' (first | (apply Wl.move; exact rfl; exact rfl) | (apply Wl.assign; exact rfl; exact rfl) | (apply Wl.extract; exact rfl; exact rfl; exact rfl) | (apply Wl.neq; exact rfl; exact rfl; exact rfl) | (apply Wl.nil) | (apply St.seq) | (apply St.region) | (apply St.condT; exact rfl; (first | rfl | assumption)) | (apply St.ret) | (apply Gt.next) | (apply Gt.thenRet) | (apply Gt.out4; exact rfl; exact rfl; exact rfl; exact rfl; exact rfl; intro w' hp) | (apply Wl.splitP; exact rfl; exact rfl; all_goals (intros; try (exfalso; omega))) | (apply Wl.splitB; exact rfl; exact rfl; all_goals intros) | (apply St.condP; exact rfl; all_goals (intros; try (exfalso; omega))) | (apply St.condB; exact rfl; all_goals intros))
    exact ⟨(h1.upd.comp huB (T := fun k => w.heap.size ≤ k) fun j _ hs => hs.elim (fun y => (y trivial).elim) fun y => Nat.le_trans h1.upd.size y).comp hp.upd fun _ _ hs => hs.elim id fun y => (y trivial).elim, .inl ⟨hno, rfl⟩⟩
  refine ⟨_, rfl, ?_⟩
  have huw : Upd (fun k => w.heap.size ≤ k) w wB := h1.upd.comp huB (T := fun k => w.heap.size ≤ k) fun j _ hs => hs.elim (fun y => (y trivial).elim) fun y => Nat.le_trans h1.upd.size y
  have hvS := Sv.ofOwn hvh
  clear huB hvh h1 w1
  obtain ⟨_, ah, ch, rfl, _, _, _, hcells⟩ := hvS
  have n28 := num4 f 28
  have n44 := num2 f 44
  have hn5 := hok.1.2.2.2.2.2.2.2.2.2.1
  have hAn := hok.1.2.2.2.2.2.2.2.2.2.2
  have hn1 := hok.1.2.2.2.2.2.2.2.2.1
  generalize hA : num f 28 4 = A at *
  generalize hn : num f 44 2 = n at *
  generalize hE : num f 24 4 = E at *
  obtain ⟨bh, oh, rfl, hcell⟩ := hcells (fun e => by have := hAll_len f A n; rw [e] at this; simp at this; omega)
  clear hcells
  have hcell' (i j : Nat) (v : Value) (hi : i < n) (hj : j < 6) (h : (hCells f (A + 32 * i))[j]? = some v) : wB.cell? ⟨bh, oh + (i * 6 + j), none⟩ = some v := by
    rw [← hAll_get f A n i j hi hj] at h
    obtain ⟨h1, h2⟩ := List.getElem?_eq_some_iff.1 h
    rw [hcell _ h1, h2]
  have hbh : bh < wB.heap.size := World.block_lt_of_cell? wB _ (hcell' 0 0 _ (by omega) (by omega) rfl)
  clear hcell
  repeat' (first | (apply Wl.move; exact rfl; exact rfl) | (apply Wl.assign; exact rfl; exact rfl) | (apply Wl.extract; exact rfl; exact rfl; exact rfl) | (apply Wl.neqIs; exact rfl; exact rfl; exact rfl; (first | assumption | with_reducible rfl)) | (apply Wl.len; exact rfl; exact rfl) | (apply Wl.nil) | (apply St.seq) | (apply St.block) | (apply St.region) | (apply St.condF; exact rfl; (first | rfl | assumption)) | (apply St.skip) | (apply Gt.next) | (apply Wl.splitP; exact rfl; exact rfl; all_goals (intros; try (exfalso; omega))) | (apply Wl.splitB; exact rfl; exact rfl; all_goals intros) | (apply St.condP; exact rfl; all_goals (intros; try (exfalso; omega))) | (apply St.condB; exact rfl; all_goals intros))
  refine St.loop (σ := Nat × World × Value × Value × List (Sg × Value) × List Value × Nat × Bool)
    (fun τ => τ.1 ≤ n ∧ segAt f A E τ.1 = some (τ.2.2.2.2.1.map (·.1), τ.2.2.2.2.2.2.1, τ.2.2.2.2.2.2.2) ∧ Upd (fun k => wB.heap.size ≤ k) wB τ.2.1 ∧
      τ.2.1.ownsRow wB.heap.size 64 4 τ.2.2.1 τ.2.2.2.2.1.length (τ.2.2.2.2.1.flatMap sgP) ∧ τ.2.1.ownsRow wB.heap.size 72 6 τ.2.2.2.1 τ.2.2.2.2.2.2.1 τ.2.2.2.2.2.1 ∧
      (∀ k, τ.2.2.1.ownBlock = some k → τ.2.2.2.1.ownBlock ≠ some k) ∧
      (∀ x ∈ τ.2.2.2.2.1, Bs τ.2.1 x.2 x.1.bytes ∧ ∀ k, x.2.ownBlock = some k → k < τ.2.1.heap.size ∧ τ.2.2.1.ownBlock ≠ some k ∧ τ.2.2.2.1.ownBlock ≠ some k) ∧ τ.2.2.2.2.2.1 = dynC (hCells f) f A τ.1)
    (fun τ => [(0, .slice a f.length cap), (6, .int .u32 E), (9, τ.2.2.1), (10, τ.2.2.2.1), (11, .bool τ.2.2.2.2.2.2.2), (24, .slice (some ⟨bh, oh, none⟩) n ch), (25, .int .i64 n), (26, .int .i64 τ.1)])
    (fun τ => Hp τ.2.1 [])
    (fun τ => n - τ.1) (0, wB, .slice none 0 0, .slice none 0 0, [], [], 0, false)
    ⟨Nat.zero_le _, rfl, Upd.refl _ _, World.ownsRow_nil _ _ _ _, World.ownsRow_nil _ _ _ _, fun k hk => (by cases hk), fun x hx => (by cases hx), rfl⟩ (by (repeat (first | exact Sub.nil | apply Sub.cons rfl))) (fun _ h => h) ?_
  rintro ⟨i, w0, vl, vd, xs, yd, nd, b⟩ ⟨hin, hseg, hu, hol, hod, hld, hxs, hyd⟩
  simp only at hin hseg hu hol hod hld hxs hyd ⊢
  have hus := hu.size
  have hlens := segAt_len hseg
  obtain ⟨_, al, cl, rfl, hlc1, hlc2, _, hlcell⟩ := Sv.ofOwn hol
  obtain ⟨_, ad, cd, rfl, _⟩ := Sv.ofOwn hod
  have hall (H : List Blk) (w' : World) (hp : Hp w0 H w') (hH : ∀ x ∈ H, w0.heap.size ≤ x.b) : Upd (fun k => w.heap.size ≤ k) w w' :=
    (huw.comp hu (T := fun k => w.heap.size ≤ k) fun j _ hs => hs.elim id fun y => Nat.le_trans huw.size y).comp (hp.drop hH).upd fun _ _ hs => hs.elim id fun y => (y trivial).elim
  have hbad (H : List Blk) (w' : World) (hp : Hp w0 H w') (hH : ∀ x ∈ H, w0.heap.size ≤ x.b) (hno : ∀ l nd, ¬ SegsOf f l nd) : SegsPost f w (.returned (.tuple #[.int .u32 0, .slice none 0 0, .slice none 0 0, .int .i64 9])) w' :=
    ⟨hall H w' hp hH, .inr (.inl ⟨hok, hno, rfl⟩)⟩
  by_cases hlt : i < n
  · have hce : ∀ j v, (hCells f (A + 32 * i))[j]? = some v → w0.cell? ⟨bh, oh + (i : Int).toNat * 6 + j, none⟩ = some v := by
      intro j v hj
      have hj6 : j < 6 := by have := (List.getElem?_eq_some_iff.1 hj).1; simpa [hCells] using this
      rw [show oh + (i : Int).toNat * 6 + j = oh + (i * 6 + j) by omega]
      exact hu.cell (hcell' i j v hlt hj6 hj) (by simp only; omega)
    have hdyn := segAt_dyn hseg
    have hput := segAt_put hseg
    have hnone (h2 : ¬ num f (A + 32 * i) 4 = 2) (hb : segBad f (A + 32 * i) (xs.map (·.1))) (l : List Sg) (m : Nat) : ¬ SegsOf f l m := fun h => by
      have h1 := h.1
      rw [hA, hE, hn, segAt_none (segAt_bad hseg h2 hb) (by omega)] at h1
      cases h1
    have hdy1 : num f (A + 32 * i) 4 = 2 → dynC (hCells f) f A (i + 1) = yd ++ hCells f (A + 32 * i) := fun h => by rw [dynC_yes h, hyd]
    have hdy0 : ¬ num f (A + 32 * i) 4 = 2 → dynC (hCells f) f A (i + 1) = yd := fun h => by rw [dynC_no h, hyd]
    generalize hoo : A + 32 * i = o at *
    have m8 := num4 f (o + 8)
    have m20 := num4 f (o + 20)
    repeat' (first | (apply Wl.lss; exact rfl; exact rfl; exact rfl) | (apply Wl.nil) | (apply St.region) | (apply St.skip) | (apply Gt.next) | (apply St.seqR) | (apply St.seqC) | (apply Wl.splitP; exact rfl; exact rfl; all_goals (intros; try (exfalso; omega))) | (apply Wl.splitB; exact rfl; exact rfl; all_goals intros) | (apply St.condP; exact rfl; all_goals (intros; try (exfalso; omega))) | (apply St.condB; exact rfl; all_goals intros))
    apply St.seq
    repeat' (first | (apply Wl.loadAO; exact rfl; exact rfl; exact hce; exact trivial; exact rfl) | (apply Wl.move; exact rfl; exact rfl) | (apply Wl.assign; exact rfl; exact rfl) | (apply Wl.fieldAddr0; exact rfl; exact rfl) | (apply Wl.loadH; exact rfl; exact rfl; (repeat (first | exact List.Mem.head _ | apply List.Mem.tail)); exact rfl) | (apply Wl.eql; exact rfl; exact rfl; exact rfl) | (apply Wl.len; exact rfl; exact rfl) | (apply Wl.storeA; exact rfl; exact rfl; exact rfl; exact rfl; (repeat (first | apply HSet.here | apply HSet.there)); (repeat (first | apply LPut.s | apply LPut.z | apply LOver.nil | apply LOver.cons))) | (apply Wl.loadAH; exact rfl; exact rfl; (repeat (first | exact List.Mem.head _ | apply List.Mem.tail)); (repeat (first | apply LSub.z | apply LSub.t | apply LSub.s))) | (apply Wl.lit; exact rfl; (repeat (first | exact Parts.nil | apply Parts.cons rfl)); exact rfl; exact rfl; (repeat (first | apply CatP.nil | (apply CatP.one; exact rfl; exact rfl) | (apply CatP.agg; exact rfl) | apply LApp.nil | apply LApp.cons)); intro c hc ho) | (apply Wl.alloc; exact rfl; intro c hc ho) | (apply Wl.indexAddr; exact rfl; exact rfl; exact rfl; (constructor <;> omega)) | (apply Wl.nil) | (apply St.block) | (apply St.region) | (apply St.skip) | (apply Gt.next) | (apply St.seqR) | (apply St.seqS) | (apply Wl.splitP; exact rfl; exact rfl; all_goals (intros; try (exfalso; omega))) | (apply Wl.splitB; exact rfl; exact rfl; all_goals intros) | (apply St.condP; exact rfl; all_goals (intros; try (exfalso; omega))) | (apply St.condB; exact rfl; all_goals intros))
    · have hcx : w0.heap.size ≤ _ := hc
      have h2 : num f o 4 = 2 := by omega
      apply Wl.appendT
      · exact rfl
      · exact rfl
      · exact rfl
      · exact hc
      · exact rfl
      · exact hod
      · exact fun k hk => ⟨fun e => by have := (hod.lt k hk).2; simp only at e; omega, trivial⟩
      · exact rfl
      · exact rfl
      · decide
      · unfold maxLen; omega
      · omega
      · exact hus
      intro v' w4 ho2 u2 _ hoff2
      apply Wl.reb (H' := [])
      intro w3 h3
      refine ⟨trivial, trivial, ?_⟩
      repeat' (first | (apply Wl.move; exact rfl; exact rfl) | (apply Wl.assign; exact rfl; exact rfl) | (apply Wl.addI; exact rfl; exact rfl; exact rfl; (constructor <;> omega)) | (apply Wl.nil) | (apply St.region) | (apply St.exit) | (apply Gt.next) | (apply Gt.thenExit) | (apply Gt.inExit) | (apply Wl.splitP; exact rfl; exact rfl; all_goals (intros; try (exfalso; omega))) | (apply Wl.splitB; exact rfl; exact rfl; all_goals intros) | (apply St.condP; exact rfl; all_goals (intros; try (exfalso; omega))) | (apply St.condB; exact rfl; all_goals intros))
      apply Gt.round (i + 1, w3, _, v', xs, yd ++ hCells f o, nd + 1, b)
      rotate_left
      · simp only; omega
      · (repeat (first | exact Sub.nil | apply Sub.cons rfl))
      · exact fun _ h => h
      have u03 : Upd (fun k => (Value.slice ad nd cd).ownBlock = some k) w0 w3 := u2.comp h3.upd fun k hk hs => by
        have key : ∀ {cs b t}, w0.heap.size ≤ b → ¬ Off [⟨b, cs, t⟩] k → False := fun hb y => y ⟨fun e => by simp only at e; omega, trivial⟩
        rcases hs with (hs | hs) | hs
        · exact hs
        · exact (key (by assumption) hs).elim
        · exact (key (by assumption) hs).elim
      refine ⟨hlt, hdyn h2, hu.comp u03 fun k _ hs => hs.elim id fun e => (hod.lt k e).1, ownsRow_upd hol u03 fun k hk e => hld k hk e, ownsRow_upd ho2 h3.upd fun k hk y => y (hoff2 k hk).1, fun k hk e => ?_, fun x hx => ?_, (hdy1 h2).symm⟩
      · rcases (hoff2 k e).2 with e | e
        · exact hld k hk e
        · have := (hol.lt k hk).2; omega
      · obtain ⟨h1, h4⟩ := hxs x hx
        refine ⟨h1.upd u03 fun k hk _ _ e => (h4 k hk).2.2 e, fun k hk => ?_⟩
        obtain ⟨a1, a2, a3⟩ := h4 k hk
        refine ⟨Nat.lt_of_lt_of_le a1 u03.size, a2, fun e => ?_⟩
        rcases (hoff2 k e).2 with e | e
        · exact a3 e
        · omega
    have h2 : ¬ num f o 4 = 2 := by omega
    have hrx : rx (num f (o + 24) 4) ≤ 7 := by unfold rx; omega
    refine St.cut (σ := Unit) (fun _ => ¬ segBad f o (xs.map (·.1))) (fun _ => [(0, .slice a f.length cap), (6, .int .u32 E), (9, .slice al xs.length cl), (10, .slice ad nd cd), (11, .bool b), (13, .pointer (some ⟨c, 0, none⟩)), (24, .slice (some ⟨bh, oh, none⟩) n ch), (25, .int .i64 n), (26, .int .i64 i)])
      (fun _ => Hp w0 [⟨c, hCells f o, 72⟩]) ?_ ?_
    · repeat' (first | (apply Wl.move; exact rfl; exact rfl) | (apply Wl.assign; exact rfl; exact rfl) | (apply Wl.on; exact rfl; exact rfl; (first | rfl | assumption)) | (apply Wl.off; exact rfl; exact rfl; exact rfl; (first | rfl | assumption)) | (apply Wl.pickT; exact rfl; exact rfl; (first | rfl | assumption); exact rfl) | (apply Wl.pickF; exact rfl; exact rfl; (first | rfl | assumption); exact rfl) | (apply Wl.fieldAddrZ; exact rfl; exact rfl) | (apply Wl.loadH; exact rfl; exact rfl; (repeat (first | exact List.Mem.head _ | apply List.Mem.tail)); exact rfl) | (apply Wl.eql; exact rfl; exact rfl; exact rfl) | (apply Wl.neq; exact rfl; exact rfl; exact rfl) | (apply Wl.rem; exact rfl; exact rfl; exact rfl; (first | decide | omega)) | (apply Wl.nil) | (apply St.seq) | (apply St.block) | (apply St.region) | (apply St.condT; exact rfl; (first | rfl | assumption)) | (apply St.ret) | (apply Gt.next) | (apply Gt.thenRet) | (apply Gt.inRet) | (apply Gt.out4; exact rfl; exact rfl; exact rfl; exact rfl; exact rfl; intro w' hp) | (apply Wl.splitP; exact rfl; exact rfl; all_goals (intros; try (exfalso; omega))) | (apply Wl.splitB; exact rfl; exact rfl; all_goals intros) | (apply St.condP; exact rfl; all_goals (intros; try (exfalso; omega))) | (apply St.condB; exact rfl; all_goals intros))
      · exact hbad _ _ hp (by simp; omega) (hnone h2 (.inl (by omega)))
      · exact hbad _ _ hp (by simp; omega) (hnone h2 (.inr (.inl fun e => ‹(num f (o + 8) 4 : Int).tmod 4 ≠ 0› (congrArg Nat.cast e))))
      · exact hbad _ _ hp (by simp; omega) (hnone h2 (.inr (.inr (.inl fun e => ‹(num f (o + 20) 4 : Int).tmod 4 ≠ 0› (congrArg Nat.cast e)))))
      have q8 : num f (o + 8) 4 % 4 = 0 := Classical.byContradiction fun e => by
        have := ‹¬ (num f (o + 8) 4 : Int).tmod 4 ≠ 0›
        exact this fun h => e (by have h' : ((num f (o + 8) 4 % 4 : Nat) : Int) = 0 := h; omega)
      have q20 : num f (o + 20) 4 % 4 = 0 := Classical.byContradiction fun e => by
        have := ‹¬ (num f (o + 20) 4 : Int).tmod 4 ≠ 0›
        exact this fun h => e (by have h' : ((num f (o + 20) 4 % 4 : Nat) : Int) = 0 := h; omega)
      apply Wl.callQ
      exact rfl
      (repeat (first | exact Evs.nil | apply Evs.cons rfl))
      · intro wq hq
        refine (within_any (num f (o + 8) 4) (num f (o + 20) 4) 0 4294967292 wq (by unfold U32; omega) (by unfold U32; omega) (by unfold U32; omega) (by unfold U32; omega)).mono ?_
        rintro e wr ⟨rfl, hr⟩
        exact ⟨rfl, hq.keep hr⟩
      repeat' (first | (apply Wl.move; exact rfl; exact rfl) | (apply Wl.assign; exact rfl; exact rfl) | (apply Wl.on; exact rfl; exact rfl; (first | rfl | assumption)) | (apply Wl.off; exact rfl; exact rfl; exact rfl; (first | rfl | assumption)) | (apply Wl.pickT; exact rfl; exact rfl; (first | rfl | assumption); exact rfl) | (apply Wl.pickF; exact rfl; exact rfl; (first | rfl | assumption); exact rfl) | (apply Wl.not; exact rfl; exact rfl) | (apply Wl.fieldAddrZ; exact rfl; exact rfl) | (apply Wl.loadH; exact rfl; exact rfl; (repeat (first | exact List.Mem.head _ | apply List.Mem.tail)); exact rfl) | (apply Wl.eql; exact rfl; exact rfl; exact rfl) | (apply Wl.and; exact rfl; exact rfl; exact rfl) | (apply Wl.nil) | (apply St.seq) | (apply St.region) | (apply St.condT; exact rfl; (first | rfl | assumption)) | (apply St.ret) | (apply Gt.next) | (apply Gt.thenRet) | (apply Gt.inRet) | (apply Gt.out4; exact rfl; exact rfl; exact rfl; exact rfl; exact rfl; intro w' hp) | (apply Wl.splitP; exact rfl; exact rfl; all_goals (intros; try (exfalso; omega))) | (apply Wl.splitB; exact rfl; exact rfl; all_goals intros) | (apply St.condP; exact rfl; all_goals (intros; try (exfalso; omega))) | (apply St.condB; exact rfl; all_goals intros))
      · have hw : inB (num f (o + 8) 4) (num f (o + 20) 4) 0 4294967292 = false := by simpa using ‹(!inB (num f (o + 8) 4) (num f (o + 20) 4) 0 4294967292) = true›
        unfold inB at hw
        simp only [decide_eq_false_iff_not] at hw
        exact hbad _ _ hp (by simp; omega) (hnone h2 (.inr (.inr (.inr (.inl (by omega))))))
      · exact hbad _ _ hp (by simp; omega) (hnone h2 (.inr (.inr (.inr (.inr (.inl (by omega)))))))
      · exact hbad _ _ hp (by simp; omega) (hnone h2 (.inr (.inr (.inr (.inr (.inr (.inl ((and6 _ hrx).1 ‹_›))))))))
      have hr6 : rx (num f (o + 24) 4) < 6 := Nat.lt_of_not_le fun e => ‹¬ bits .and .i64 (rx (num f (o + 24) 4) : Int) 6 = 6› ((and6 _ hrx).2 e)
      have hw : inB (num f (o + 8) 4) (num f (o + 20) 4) 0 4294967292 = true := by simpa using ‹(!inB (num f (o + 8) 4) (num f (o + 20) 4) 0 4294967292) = false›
      unfold inB at hw
      simp only [decide_eq_true_eq] at hw
      apply St.draw
      · exact mixed
      · kernel_rfl
      · exact fun _ h => Hp.drew h
      rcases List.eq_nil_or_concat xs with rfl | ⟨ys, last, hx⟩
      · repeat' (first | (apply Wl.move; exact rfl; exact rfl) | (apply Wl.assign; exact rfl; exact rfl) | (apply Wl.on; exact rfl; exact rfl; (first | rfl | assumption)) | (apply Wl.off; exact rfl; exact rfl; exact rfl; (first | rfl | assumption)) | (apply Wl.pickF; exact rfl; exact rfl; (first | rfl | assumption); exact rfl) | (apply Wl.eql; exact rfl; exact rfl; exact rfl) | (apply Wl.gtr; exact rfl; exact rfl; exact rfl) | (apply Wl.nilQ) | (apply St.condF; exact rfl; (first | rfl | assumption)) | (apply St.skip) | (apply Gt.next) | (apply Gt.inNormal) | (apply Wl.splitP; exact rfl; exact rfl; all_goals (intros; try (exfalso; omega))) | (apply Wl.splitB; exact rfl; exact rfl; all_goals intros) | (apply St.condP; exact rfl; all_goals (intros; try (exfalso; omega))) | (apply St.condB; exact rfl; all_goals intros))
        apply Gt.meet ()
        · rintro (h | h | h | h | h | h | h | ⟨s, h, _⟩)
          · omega
          · omega
          · omega
          · omega
          · omega
          · omega
          · simp at h
          · simp at h
        · (repeat (first | exact Sub.nil | apply Sub.cons rfl))
        · exact fun _ h => h
      · rw [List.concat_eq_append] at hx
        subst hx
        have hlast := segAt_ok hseg last.1 (List.mem_map_of_mem (List.mem_append_right _ (List.mem_singleton.2 rfl)))
        obtain ⟨_, _, _, hl4, _⟩ := hlast
        obtain ⟨g, og, rfl, hgc⟩ := hlcell (by simp [sgP])
        have hlen : (ys ++ [last]).length = ys.length + 1 := by simp
        have hL4 : ys.length + 1 ≤ 4 := by have := hlens.1; rw [List.length_map, hlen] at this; exact this
        have hfl : ((ys ++ [last]).flatMap sgP) = ys.flatMap sgP ++ sgP last := by simp
        have hfy : (ys.flatMap sgP).length = ys.length * 4 := by
          have h1 := (Sv.ofOwn hol).1
          rw [hfl, List.length_append, hlen] at h1
          have h2 : (sgP last).length = 4 := rfl
          omega
        have hget (j : Nat) (v : Value) (h : (sgP last)[j]? = some v) : w0.cell? ⟨g, og + ((ys.length : Int) + 1 - 1).toNat * 4 + j, none⟩ = some v := by
          have hj : j < 4 := (List.getElem?_eq_some_iff.1 h).1
          have h1 : ((ys ++ [last]).flatMap sgP)[ys.length * 4 + j]? = some v := by
            rw [hfl, List.getElem?_append_right (by omega), hfy, Nat.add_sub_cancel_left]; exact h
          obtain ⟨h2, h3⟩ := List.getElem?_eq_some_iff.1 h1
          rw [show og + ((ys.length : Int) + 1 - 1).toNat * 4 + j = og + (ys.length * 4 + j) by omega, hgc _ h2, h3]
        have hg0 := hget 0 _ rfl
        have hg2 := hget 2 _ rfl
        have hgne : c ≠ g := fun e => by have := World.block_lt_of_cell? w0 _ hg0; simp only at this; omega
        have hlI : ((ys ++ [last]).length : Int) = (ys.length : Int) + 1 := by rw [hlen]; rfl
        rw [hlI]
        repeat' (first | (apply Wl.move; exact rfl; exact rfl) | (apply Wl.assign; exact rfl; exact rfl) | (apply Wl.on; exact rfl; exact rfl; (first | rfl | assumption)) | (apply Wl.off; exact rfl; exact rfl; exact rfl; (first | rfl | assumption)) | (apply Wl.offU; exact rfl; exact rfl; exact rfl) | (apply Wl.pickT; exact rfl; exact rfl; (first | rfl | assumption); exact rfl) | (apply Wl.pickF; exact rfl; exact rfl; (first | rfl | assumption); exact rfl) | (apply Wl.fieldAddr0; exact rfl; exact rfl) | (apply Wl.fieldAddrZ; exact rfl; exact rfl) | (apply Wl.fieldAddr; exact rfl; exact rfl) | (apply Wl.loadH; exact rfl; exact rfl; (repeat (first | exact List.Mem.head _ | apply List.Mem.tail)); exact rfl) | (apply Wl.loadO; exact rfl; exact rfl; (assumption); (repeat (first | exact trivial | refine ⟨by first | assumption | omega, ?_⟩))) | (apply Wl.eql; exact rfl; exact rfl; exact rfl) | (apply Wl.lss; exact rfl; exact rfl; exact rfl) | (apply Wl.gtr; exact rfl; exact rfl; exact rfl) | (apply Wl.subI; exact rfl; exact rfl; exact rfl; (constructor <;> omega)) | (apply Wl.addU; exact rfl; exact rfl; exact rfl; (constructor <;> omega)) | (apply Wl.convU64; exact rfl; exact rfl; (constructor <;> omega)) | (apply Wl.indexAddr; exact rfl; exact rfl; exact rfl; (constructor <;> omega)) | (apply Wl.nil) | (apply Wl.nilQ) | (apply St.seq) | (apply St.region) | (apply St.condT; exact rfl; (first | rfl | assumption)) | (apply St.ret) | (apply St.skip) | (apply Gt.next) | (apply Gt.thenRet) | (apply Gt.inNormal) | (apply Gt.inRet) | (apply Gt.out4; exact rfl; exact rfl; exact rfl; exact rfl; exact rfl; intro w' hp) | (apply Wl.splitP; exact rfl; exact rfl; all_goals (intros; try (exfalso; omega))) | (apply Wl.splitB; exact rfl; exact rfl; all_goals intros) | (apply St.condP; exact rfl; all_goals (intros; try (exfalso; omega))) | (apply St.condB; exact rfl; all_goals intros))
        · exact hbad _ _ hp (by simp; omega) (hnone h2 (.inr (.inr (.inr (.inr (.inr (.inr (.inl (by rw [List.length_map, hlen]; omega)))))))))
        · exact hbad _ _ hp (by simp; omega) (hnone h2 (.inr (.inr (.inr (.inr (.inr (.inr (.inr ⟨last.1, by simp, by omega⟩))))))))
        apply Gt.meet ()
        · rintro (h | h | h | h | h | h | h | ⟨s, h, hs⟩)
          · omega
          · omega
          · omega
          · omega
          · omega
          · omega
          · rw [List.length_map, hlen] at h; omega
          · have : s = last.1 := by simpa using h.symm
            subst this
            omega
        · (repeat (first | exact Sub.nil | apply Sub.cons rfl))
        · exact fun _ h => h
    intro _ hgood
    have hokh := hok.2 i (by rw [hn]; exact hlt)
    rw [hA, hoo] at hokh
    have hfile := hokh.2.2.1
    have hwr : IntKind.u32.wrap ((num f (o + 4) 4 : Int) + num f (o + 16) 4) = ((num f (o + 4) 4 + num f (o + 16) 4 : Nat) : Int) := by
      rw [IntWalk.u32_in _ (by omega)]; omega
    apply St.seq
    apply St.mix [0, 1, 2, 3, 4, 5, 6, 7, 8, 9, 10, 11, 13, 14, 15, 16, 12, 17, 18, 19, 20] (Hp wB [⟨c, hCells f o, 72⟩])
    · exact mixed
    · kernel_rfl
    · (repeat (first | exact Pick.nil | apply Pick.cons rfl))
    · rfl
    · kernel_rfl
    · intro u hu'
      exact ⟨Hp.drew hu', Hp.under (Hp.drew hu') hu⟩
    repeat' (first | (apply Wl.move; exact rfl; exact rfl) | (apply Wl.fieldAddrZ; exact rfl; exact rfl) | (apply Wl.loadH; exact rfl; exact rfl; (repeat (first | exact List.Mem.head _ | apply List.Mem.tail)); exact rfl) | (apply Wl.add; exact rfl; exact rfl; exact rfl) | (apply Wl.sliceFull; exact rfl; exact rfl; (first | exact BoundIs.no | exact BoundIs.yes rfl (by omega)); (first | exact BoundIs.no | exact BoundIs.yes rfl (by omega)); (first | exact BoundIs.no | exact BoundIs.yes rfl (by omega)); (first | exact fun _ => rfl | exact fun h => nomatch h); (omega); (omega); (omega)) | (apply Wl.splitP; exact rfl; exact rfl; all_goals (intros; try (exfalso; omega))) | (apply Wl.splitB; exact rfl; exact rfl; all_goals intros) | (apply St.condP; exact rfl; all_goals (intros; try (exfalso; omega))) | (apply St.condB; exact rfl; all_goals intros))
    rw [hwr]
    repeat' (first | (apply Wl.splitP; exact rfl; exact rfl; all_goals (intros; try (exfalso; omega))) | (apply Wl.splitB; exact rfl; exact rfl; all_goals intros) | (apply St.condP; exact rfl; all_goals (intros; try (exfalso; omega))) | (apply St.condB; exact rfl; all_goals intros))
    have hvw0 : Bs w0 (.slice a f.length cap) f := hv.upd (huw.comp hu (T := fun k => w.heap.size ≤ k) fun j _ hs => hs.elim id fun y => Nat.le_trans huw.size y) fun k hk _ _ h => by omega
    have hpiece := hvw0.sub (lo := num f (o + 4) 4) (hi := num f (o + 4) 4 + num f (o + 16) 4) (mx := cap) (by omega) (by omega) (by omega) (Nat.le_refl _)
    simp only [Int.toNat_natCast]
    generalize (Value.slice (if cap = num f (o + 4) 4 then a else Option.map (fun x => x.add (num f (o + 4) 4 * 1)) a) (num f (o + 4) 4 + num f (o + 16) 4 - num f (o + 4) 4) (cap - num f (o + 4) 4)) = y at *
    have hpb : ((f.take (num f (o + 4) 4 + num f (o + 16) 4)).drop (num f (o + 4) 4)) = (sgOf f o).bytes := by
      rw [List.drop_take, Nat.add_sub_cancel_left]; rfl
    rw [hpb] at hpiece
    have hblen : (sgOf f o).bytes.length ≤ 100000 := by simp only [sgOf, List.length_take, List.length_drop]; omega
    apply Wl.mixOf
    · exact rfl
    apply Wl.appendV
    · exact rfl
    · exact rfl
    · exact rfl
    · exact hpiece
    · exact fun k _ hk _ => ⟨fun e => by simp only at e; omega, trivial⟩
    · exact World.ownsRow_nil w0 w0.heap.size _ _
    · exact fun k hk => (by cases hk)
    · simp [byteCells, Value.oneCell']
    · exact rfl
    · decide
    · unfold maxLen; omega
    · omega
    · exact Nat.le_refl _
    intro v1 w1 ho1 u1 hn1 hk1
    have hu1 : Upd (fun k => w0.heap.size ≤ k) w0 w1 := u1.mono fun k hk hs => hs.elim (fun e => by cases e) fun y => (y ⟨fun e => by simp only at e; omega, trivial⟩).elim
    have huB1 : Upd (fun k => wB.heap.size ≤ k) wB w1 := hu.comp hu1 fun k _ hs => hs.elim id fun y => Nat.le_trans hus y
    have hb1 : Bs w1 v1 (sgOf f o).bytes := by
      have := Sv.ofOwn ho1
      rw [Nat.zero_add, List.nil_append] at this
      exact this
    obtain ⟨b1, d1, rfl, _, _⟩ := hb1.shape
    apply Wl.mixEnd
    · exact fun u hu' => Hp.under hu' huB1
    repeat' (first | (apply Wl.buildS; exact rfl; (repeat (first | exact Parts.nil | apply Parts.cons rfl)); (repeat (first | apply Fills.nil | (apply Fills.one; exact rfl; exact rfl; (repeat (first | apply LSet.z | apply LSet.s))) | (apply Fills.agg; exact rfl; exact rfl; (repeat (first | apply LPut.s | apply LPut.z | apply LOver.nil | apply LOver.cons)))))) | (apply Wl.splitP; exact rfl; exact rfl; all_goals (intros; try (exfalso; omega))) | (apply Wl.splitB; exact rfl; exact rfl; all_goals intros) | (apply St.condP; exact rfl; all_goals (intros; try (exfalso; omega))) | (apply St.condB; exact rfl; all_goals intros))
    apply Wl.mixOf
    · exact rfl
    apply Wl.lit
    · exact rfl
    · (repeat (first | exact Parts.nil | apply Parts.cons rfl))
    · exact rfl
    · exact rfl
    · (repeat (first | apply CatP.nil | (apply CatP.one; exact rfl; exact rfl) | (apply CatP.agg; exact rfl) | apply LApp.nil | apply LApp.cons))
    intro d hd hod'
    apply Wl.mixEnd
    · exact fun u hu' => Hp.under (Hp.pop hu' hd) huB1
    repeat' (first | (apply Wl.splitP; exact rfl; exact rfl; all_goals (intros; try (exfalso; omega))) | (apply Wl.splitB; exact rfl; exact rfl; all_goals intros) | (apply St.condP; exact rfl; all_goals (intros; try (exfalso; omega))) | (apply St.condB; exact rfl; all_goals intros))
    have hol1 := ownsRow_upd hol hu1 fun k hk e => by have := (hol.lt k hk).2; omega
    have hlen4 : xs.length < 4 := by
      have h1 := hlens.1
      rw [List.length_map] at h1
      exact Nat.lt_of_le_of_ne h1 fun e => hgood (.inr (.inr (.inr (.inr (.inr (.inr (.inl (by rw [List.length_map]; exact e))))))))
    apply Wl.mixOf
    · exact rfl
    apply Wl.appendT
    · exact rfl
    · exact rfl
    · exact rfl
    · exact hd
    · exact rfl
    · exact hol1
    · exact fun k hk => ⟨fun e => by have := (hol.lt k hk).2; simp only at e; omega, trivial⟩
    · exact rfl
    · exact rfl
    · decide
    · unfold maxLen; omega
    · omega
    · exact Nat.le_trans hus hu1.size
    intro v2 w2 ho2 u2 _ hk2
    have huB2 : Upd (fun k => wB.heap.size ≤ k) wB w2 := huB1.comp u2 fun k hk hs => hs.elim id fun hs => hs.elim (fun e => (hol.lt k e).1) fun y => (y ⟨fun e => by simp only at e; omega, trivial⟩).elim
    apply Wl.mixEnd
    · exact fun u hu' => Hp.under hu' huB2
    apply Wl.assign
    · exact rfl
    · exact rfl
    apply Wl.nilM
    apply Gt.next
    apply St.reb (H' := [])
    intro w3 h3
    refine ⟨trivial, trivial, ?_⟩
    have hc2 : w3.cell? ⟨c, 2, none⟩ = some (.int .u32 (num f (o + 8) 4)) := h3.cell (List.Mem.head _) rfl
    have hc4 : w3.cell? ⟨c, 4, none⟩ = some (.int .u32 (num f (o + 20) 4)) := h3.cell (List.Mem.head _) rfl
    have hc5 : w3.cell? ⟨c, 5, none⟩ = some (.int .i64 (rx (num f (o + 24) 4))) := h3.cell (List.Mem.head _) rfl
    have h2le := u2.size
    have h1le := hu1.size
    have u23 : Upd (fun k => (Value.slice al xs.length cl).ownBlock = some k ∨ k = c) w1 w3 := u2.comp h3.upd fun k hk hs => by
      have key : ∀ {cs t}, ¬ Off [⟨c, cs, t⟩] k → k = c := fun y => Classical.byContradiction fun e => y ⟨fun e' => e e'.symm, trivial⟩
      rcases hs with (hs | hs) | hs
      · exact .inl hs
      · exact .inr (key hs)
      · exact .inr (key hs)
    have u3 : Upd (fun k => (Value.slice al xs.length cl).ownBlock = some k) w0 w3 := hu1.comp u23 fun k hk hs => by
      rcases hs with hs | hs | hs
      · omega
      · exact hs
      · omega
    have hinv (b' : Bool) (hb' : (b || entIn f E o) = b') : i + 1 ≤ n ∧ segAt f A E (i + 1) = some ((xs ++ [(sgOf f o, Value.slice b1 (sgOf f o).bytes.length d1)]).map (·.1), nd, b') ∧ Upd (fun k => wB.heap.size ≤ k) wB w3 ∧
        w3.ownsRow wB.heap.size 64 4 v2 (xs ++ [(sgOf f o, Value.slice b1 (sgOf f o).bytes.length d1)]).length ((xs ++ [(sgOf f o, Value.slice b1 (sgOf f o).bytes.length d1)]).flatMap sgP) ∧ w3.ownsRow wB.heap.size 72 6 (.slice ad nd cd) nd yd ∧
        (∀ k, v2.ownBlock = some k → (Value.slice ad nd cd).ownBlock ≠ some k) ∧
        (∀ x ∈ xs ++ [(sgOf f o, Value.slice b1 (sgOf f o).bytes.length d1)], Bs w3 x.2 x.1.bytes ∧ ∀ k, x.2.ownBlock = some k → k < w3.heap.size ∧ v2.ownBlock ≠ some k ∧ (Value.slice ad nd cd).ownBlock ≠ some k) ∧ yd = dynC (hCells f) f A (i + 1) := by
      subst hb'
      refine ⟨hlt, ?_, hu.comp u3 fun k _ hs => hs.elim id fun e => (hol.lt k e).1, ?_, ownsRow_upd hod u3 fun k hk e => hld k e hk, fun k hk e => ?_, fun x hx => ?_, (hdy0 h2).symm⟩
      · rw [List.map_append]; exact hput h2 hgood
      · rw [List.flatMap_append, List.length_append]
        exact ownsRow_upd ho2 h3.upd fun k hk y => y (hk2 k hk).1
      · rcases (hk2 k hk).2 with e' | e'
        · exact hld k e' e
        · have := (hod.lt k e).2; omega
      · rcases List.mem_append.1 hx with hx | hx
        · obtain ⟨a1, a2⟩ := hxs x hx
          refine ⟨a1.upd u3 fun k hk _ _ e => (a2 k hk).2.1 e, fun k hk => ?_⟩
          obtain ⟨a3, a4, a5⟩ := a2 k hk
          refine ⟨Nat.lt_of_lt_of_le a3 u3.size, fun e => ?_, a5⟩
          rcases (hk2 k e).2 with e' | e'
          · exact a4 e'
          · omega
        · rw [List.mem_singleton] at hx
          subst hx
          refine ⟨hb1.upd u23 fun k hk _ _ e => ?_, fun k hk => ?_⟩
          · rcases e with e | e
            · have := (hol.lt k e).2; have := (ho1.lt k hk).1; omega
            · exact (hk1 k hk).1.1 e.symm
          · have a3 := ho1.lt k hk
            refine ⟨Nat.lt_of_lt_of_le a3.2 u23.size, fun e => ?_, fun e => ?_⟩
            · rcases (hk2 k e).2 with e' | e'
              · have := (hol.lt k e').2; omega
              · omega
            · have := (hod.lt k e).2; omega
    have hEb := num4 f 24
    rw [hE] at hEb
    have hent (h4 : 4 ≤ rx (num f (o + 24) 4)) (hE4 : (E : Int).tmod 4 = 0) : entIn f E o = inB E 4 (num f (o + 8) 4) (num f (o + 20) 4) := by
      have hE4' : E % 4 = 0 := by have h' : ((E % 4 : Nat) : Int) = 0 := hE4; omega
      unfold entIn inB
      rw [Bool.eq_iff_iff]
      simp only [Bool.and_eq_true, decide_eq_true_eq]
      omega
    repeat' (first | (apply Wl.move; exact rfl; exact rfl) | (apply Wl.assign; exact rfl; exact rfl) | (apply Wl.on; exact rfl; exact rfl; (first | rfl | assumption)) | (apply Wl.off; exact rfl; exact rfl; exact rfl; (first | rfl | assumption)) | (apply Wl.offU; exact rfl; exact rfl; exact rfl) | (apply Wl.pickT; exact rfl; exact rfl; (first | rfl | assumption); exact rfl) | (apply Wl.pickF; exact rfl; exact rfl; (first | rfl | assumption); exact rfl) | (apply Wl.fieldAddrZ; exact rfl; exact rfl) | (apply Wl.loadO; exact rfl; exact rfl; (assumption); (repeat (first | exact trivial | refine ⟨by first | assumption | omega, ?_⟩))) | (apply Wl.eql; exact rfl; exact rfl; exact rfl) | (apply Wl.gtr; exact rfl; exact rfl; exact rfl) | (apply Wl.addI; exact rfl; exact rfl; exact rfl; (constructor <;> omega)) | (apply Wl.rem; exact rfl; exact rfl; exact rfl; (first | decide | omega)) | (apply Wl.and; exact rfl; exact rfl; exact rfl) | (apply Wl.nil) | (apply St.region) | (apply Gt.next) | (apply Gt.inNormal) | (apply Wl.splitP; exact rfl; exact rfl; all_goals (intros; try (exfalso; omega))) | (apply Wl.splitB; exact rfl; exact rfl; all_goals intros) | (apply St.condP; exact rfl; all_goals (intros; try (exfalso; omega))) | (apply St.condB; exact rfl; all_goals intros))
    · apply Gt.round (i + 1, w3, v2, .slice ad nd cd, xs ++ [(sgOf f o, Value.slice b1 (sgOf f o).bytes.length d1)], yd, nd, true)
      rotate_left
      · simp only; omega
      · (repeat (first | exact Sub.nil | apply Sub.cons rfl))
      · exact fun _ h => h
      · exact hinv true (by rw [‹b = true›]; rfl)
    · skip
      apply Wl.callQ
      exact rfl
      (repeat (first | exact Evs.nil | apply Evs.cons rfl))
      · intro wq hq
        refine (within_any E 4 (num f (o + 8) 4) (num f (o + 20) 4) wq (by unfold U32; omega) (by unfold U32; omega) (by unfold U32; omega) (by unfold U32; omega)).mono ?_
        rintro e wr ⟨rfl, hr⟩
        exact ⟨rfl, hq.keep hr⟩
      repeat' (first | (apply Wl.move; exact rfl; exact rfl) | (apply Wl.assign; exact rfl; exact rfl) | (apply Wl.on; exact rfl; exact rfl; (first | rfl | assumption)) | (apply Wl.pickT; exact rfl; exact rfl; (first | rfl | assumption); exact rfl) | (apply Wl.pickF; exact rfl; exact rfl; (first | rfl | assumption); exact rfl) | (apply Wl.addI; exact rfl; exact rfl; exact rfl; (constructor <;> omega)) | (apply Wl.nil) | (apply St.region) | (apply Gt.next) | (apply Gt.inNormal) | (apply Wl.splitP; exact rfl; exact rfl; all_goals (intros; try (exfalso; omega))) | (apply Wl.splitB; exact rfl; exact rfl; all_goals intros) | (apply St.condP; exact rfl; all_goals (intros; try (exfalso; omega))) | (apply St.condB; exact rfl; all_goals intros))
      apply Gt.round (i + 1, w3, v2, .slice ad nd cd, xs ++ [(sgOf f o, Value.slice b1 (sgOf f o).bytes.length d1)], yd, nd, inB E 4 (num f (o + 8) 4) (num f (o + 20) 4))
      rotate_left
      · simp only; omega
      · (repeat (first | exact Sub.nil | apply Sub.cons rfl))
      · exact fun _ h => h
      · exact hinv _ (by rw [‹b = false›, hent ((and4 _ hrx).1 ‹_›) ‹_›]; rfl)
    · apply Gt.round (i + 1, w3, v2, .slice ad nd cd, xs ++ [(sgOf f o, Value.slice b1 (sgOf f o).bytes.length d1)], yd, nd, false)
      rotate_left
      · simp only; omega
      · (repeat (first | exact Sub.nil | apply Sub.cons rfl))
      · exact fun _ h => h
      · refine hinv false ?_
        have hne : entIn f E o = false := by
          have h' := ‹¬ (E : Int).tmod 4 = 0›
          have : ¬ E % 4 = 0 := fun e => h' (congrArg Nat.cast e)
          unfold entIn; simp [this]
        rw [‹b = false›, hne]; rfl
    · apply Gt.round (i + 1, w3, v2, .slice ad nd cd, xs ++ [(sgOf f o, Value.slice b1 (sgOf f o).bytes.length d1)], yd, nd, false)
      rotate_left
      · simp only; omega
      · (repeat (first | exact Sub.nil | apply Sub.cons rfl))
      · exact fun _ h => h
      · refine hinv false ?_
        have hne : entIn f E o = false := by
          have h' : ¬ 4 ≤ rx (num f (o + 24) 4) := fun e => ‹¬ 0 < bits .and .i64 (rx (num f (o + 24) 4) : Int) 4› ((and4 _ hrx).2 e)
          unfold entIn; simp only [h', decide_false, Bool.false_and]
        rw [‹b = false›, hne]; rfl
  · have hin' : i = n := by omega
    subst hin'
    repeat' (first | (apply Wl.move; exact rfl; exact rfl) | (apply Wl.assign; exact rfl; exact rfl) | (apply Wl.on; exact rfl; exact rfl; (first | rfl | assumption)) | (apply Wl.off; exact rfl; exact rfl; exact rfl; (first | rfl | assumption)) | (apply Wl.pickT; exact rfl; exact rfl; (first | rfl | assumption); exact rfl) | (apply Wl.pickF; exact rfl; exact rfl; (first | rfl | assumption); exact rfl) | (apply Wl.not; exact rfl; exact rfl) | (apply Wl.lss; exact rfl; exact rfl; exact rfl) | (apply Wl.gtr; exact rfl; exact rfl; exact rfl) | (apply Wl.len; exact rfl; exact rfl) | (apply Wl.nil) | (apply St.seq) | (apply St.region) | (apply St.condT; exact rfl; (first | rfl | assumption)) | (apply St.ret) | (apply St.skip) | (apply St.exit) | (apply Gt.next) | (apply Gt.thenRet) | (apply Gt.thenExit) | (apply Gt.inExit) | (apply Gt.out4; exact rfl; exact rfl; exact rfl; exact rfl; exact rfl; intro w' hp) | (apply Wl.splitP; exact rfl; exact rfl; all_goals (intros; try (exfalso; omega))) | (apply Wl.splitB; exact rfl; exact rfl; all_goals intros) | (apply St.condP; exact rfl; all_goals (intros; try (exfalso; omega))) | (apply St.condB; exact rfl; all_goals intros))
    · refine hbad _ _ hp (by simp) fun l m h => ?_
      have h1 := h.1
      rw [hA, hE, hn, hseg] at h1
      simp only [Option.some.injEq, Prod.mk.injEq] at h1
      have := h.2
      omega
    · refine hbad _ _ hp (by simp) fun l m h => ?_
      have h1 := h.1
      rw [hA, hE, hn, hseg] at h1
      simp only [Option.some.injEq, Prod.mk.injEq] at h1
      have := ‹(!b) = true›
      simp_all
    · have hb : b = true := by simpa using ‹(!b) = false›
      subst hb
      refine ⟨hall _ _ hp (by simp), .inr (.inr ⟨hok, _, nd, _, ad, cd, ⟨by rw [hA, hE, hn]; exact hseg, by omega⟩, by rw [hE], ⟨xs, rfl, (Sv.ofOwn hol).upd hp.upd fun _ _ _ _ y => y trivial, fun x hx => (hxs x hx).1.upd hp.upd fun _ _ _ _ y => y trivial⟩, by rw [hA, hn, ← hyd]; exact (Sv.ofOwn hod).upd hp.upd fun _ _ _ _ y => y trivial⟩)⟩
end Go.Proofs.Ytcjikjadajmefaa
