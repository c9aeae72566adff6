/-
  Layer 9: the law DynMany. Conditions: none.
-/
import Derived.Test.YtcjikjadajmefaaDynK
import Derived.Test.YtcjikjadajmefaaBagN
namespace Go.Proofs.Ytcjikjadajmefaa
open Go.RowKit Go.Pt
def zt (n m : Nat) (more : Int) : Tb := ⟨[], List.replicate n 0, List.replicate m (0, 0, 0), more, true⟩
theorem zt_ok {n m : Nat} {k : Int} (hn : n ≤ 66) (hm : m ≤ 66) : Own7 [0, 0, 0, 0] (zt n m k) :=
  ⟨⟨by decide, by decide, by decide, Nat.zero_le _, by simp only [zt, List.length_replicate]; omega, by simp only [zt, List.length_replicate]; omega⟩, rfl, rfl⟩
theorem many_ans {n m : Nat} (hn : n ≤ 66) (hm : m ≤ 66) : dynAns (fileT [0, 0, 0, 0] (zt n m 0)) = if n ≤ 64 ∧ m ≤ 64 then ⟨0, tbSegs [0, 0, 0, 0] (zt n m 0), List.replicate n 0, (List.replicate m (0, 0, 0)).map toRl, 0⟩ else ⟨0, [], [], [], 12⟩ := by
  have h := zt_ok (k := 0) hn hm
  have hz : ∀ x ∈ (zt n m 0).syms, x < 4294967296 := fun x hx => by rw [(List.mem_replicate.1 hx).2]; decide
  have hr : ∀ x ∈ (zt n m 0).relas, ∀ y ∈ tripL x, y < 4294967296 := fun x hx y hy => by
    rw [(List.mem_replicate.1 hx).2] at hy
    simp [tripL] at hy
    subst hy; decide
  rw [dynAns_tab h, sym_full h rfl hz]
  have e1 : (zt n m 0).syms.length = n := List.length_replicate
  have e2 : (zt n m 0).relas.length = m := List.length_replicate
  rw [e1]
  by_cases h1 : 64 < n
  · rw [if_pos h1, if_neg (by omega)]
  · rw [if_neg h1]
    simp only
    rw [rel_tab h hr, e2]
    by_cases h2 : 64 < m
    · rw [if_pos (.inl h2), if_neg (by omega)]
    · rw [if_neg (by
        rintro (e | ⟨x, hx, e⟩)
        · exact h2 e
        · rw [(List.mem_replicate.1 hx).2] at e
          simp only at e
          omega), if_pos (by omega)]
      rfl
theorem many_out : dynAns (fileT [0, 0, 0, 0] (zt 3 0 60)) = ⟨0, [], [], [], 12⟩ := by
  have h := zt_ok (n := 3) (m := 0) (k := 60) (by decide) (by decide)
  have hc : cnt (zt 3 0 60) = 63 := by decide
  have hb : bytesAt (tbSegs [0, 0, 0, 0] (zt 3 0 60)) (256 + 8) (16 * 63) = none := bytes_out h.ok (by
    rw [h.tb3, List.length_append, tb2_len, tagsB, flatMap_len tagB_len]; decide)
  rw [dynAns_tab h, sym_tab h, hc, show (264 : Nat) = 256 + 8 from rfl, hb]
  rfl
theorem made_u32 (n : Nat) : (madeCells (Value.int .u32 0).cells (n * 1)).toList = u32C (List.replicate n 0) := by
  have h : ∀ i, (#[Value.int .u32 0] : Array Value)[i % (#[Value.int .u32 0] : Array Value).size]! = Value.int .u32 0 := fun i => by
    have : i % (#[Value.int .u32 0] : Array Value).size = 0 := by simp; omega
    rw [this]; rfl
  unfold madeCells
  have hc : (Value.int .u32 0).cells = #[Value.int .u32 0] := rfl
  rw [hc, Nat.mul_one]
  apply List.ext_getElem
  · simp [u32C]
  · intro i h1 h2
    simp only [Array.getElem_toList, Array.getElem_map]
    rw [h]
    simp [u32C]
theorem made_trip (n : Nat) : (madeCells (Value.agg #[.int .u32 0, .int .u32 0, .int .u32 0]).cells (n * 3)).toList = (List.replicate n (0, 0, 0)).flatMap tripC := by
  have h : ∀ i, (#[Value.int .u32 0, .int .u32 0, .int .u32 0] : Array Value)[i % (#[Value.int .u32 0, .int .u32 0, .int .u32 0] : Array Value).size]! = Value.int .u32 0 := fun i => by
    have : i % (#[Value.int .u32 0, .int .u32 0, .int .u32 0] : Array Value).size = 0 ∨ i % (#[Value.int .u32 0, .int .u32 0, .int .u32 0] : Array Value).size = 1 ∨ i % (#[Value.int .u32 0, .int .u32 0, .int .u32 0] : Array Value).size = 2 := by simp; omega
    rcases this with e | e | e <;> rw [e] <;> rfl
  have h2 : (List.replicate n ((0, 0, 0) : Nat × Nat × Nat)).flatMap tripC = List.replicate (n * 3) (.int .u32 0) := by
    induction n with
    | zero => rfl
    | succ n ih =>
      rw [List.replicate_succ, List.flatMap_cons, ih, Nat.succ_mul, Nat.add_comm, ← List.replicate_append_replicate]
      rfl
  rw [h2]
  unfold madeCells
  have hc : (Value.agg #[.int .u32 0, .int .u32 0, .int .u32 0]).cells = #[Value.int .u32 0, .int .u32 0, .int .u32 0] := rfl
  rw [hc]
  apply List.ext_getElem
  · simp
  · intro i h1 h2
    simp only [Array.getElem_toList, Array.getElem_map]
    rw [h]
    simp
theorem zt_syms {n m : Nat} {k : Int} : ∀ x ∈ (zt n m k).syms, x < 4294967296 := fun x hx => by rw [(List.mem_replicate.1 hx).2]; decide
theorem zt_relas {n m : Nat} {k : Int} : ∀ x ∈ (zt n m k).relas, ∀ y ∈ tripL x, y < 4294967296 := fun x hx y hy => by
  rw [(List.mem_replicate.1 hx).2] at hy
  simp [tripL] at hy
  subst hy; decide
theorem zt_tbv {n m : Nat} {k : Int} {w : World} {vs vr : Value} (h1 : Sv w 1 n vs (u32C (List.replicate n 0))) (h2 : Sv w 3 m vr ((List.replicate m (0, 0, 0)).flatMap tripC)) : TbV w (.slice none 0 0) vs vr (zt n m k) := by
  have e1 : (zt n m k).syms.length = n := List.length_replicate
  have e2 : (zt n m k).relas.length = m := List.length_replicate
  exact ⟨Sv.nil _ _, by rw [e1]; exact h1, by rw [e2]; exact h2, fun x hx => (by cases hx), zt_syms, zt_relas⟩
theorem flat_trip (l : List (Nat × Nat × Nat)) : (l.flatMap tripC).length = l.length * 3 := by
  induction l with
  | nil => rfl
  | cons x r ih => rw [List.flatMap_cons, List.length_append, ih, List.length_cons, Nat.succ_mul]; simp [tripC]; omega
theorem len4 {cs : List Value} (h : cs.length = 4) : ∃ x0 x1 x2 x3, cs = [x0, x1, x2, x3] := by
  match cs, h with
  | [a, b, c, d], _ => exact ⟨a, b, c, d, rfl⟩
theorem tmod6 (a : Int) : -5 ≤ a.tmod 6 ∧ a.tmod 6 ≤ 5 := by
  have h := Int.natAbs_tmod a 6
  have : (a.tmod 6).natAbs < 6 := by rw [h]; exact Nat.mod_lt _ (by decide)
  omega
theorem tmod6n (a : Int) (h : 0 ≤ a) : 0 ≤ a.tmod 6 ∧ a.tmod 6 ≤ 5 := by
  have h1 := tmod6 a
  have h2 := Int.tmod_nonneg 6 h
  omega
/-! ### the walk -/
section
variable {P : Program} {md : Md} {ops : Array Oper} {N : Nat} {rest : List Oper} {Γ : Env} {C : World → Prop} {Q : Exit → Act → World → Prop} {d : Nat} {ty : TypeId} {pos : String} {af : Array Edge} {t u : TypeId} {x y : Operand} {k : IntKind} {m n : Int}
theorem Wl.leqT (hd : Nat.blt d N = true) (hx : ev Γ x = some (.int k m)) (hy : ev Γ y = some (.int k n)) (e : m ≤ n) (h : Wl rest P md ops N ((d, .bool true) :: Γ) C Q) : Wl (⟨some d, .binOp .leq t x y u, ty, pos, af, none⟩ :: rest) P md ops N Γ C Q :=
  Wl.leq hd hx hy (by rw [decide_eq_true e]; exact h)
theorem Wl.leqF (hd : Nat.blt d N = true) (hx : ev Γ x = some (.int k m)) (hy : ev Γ y = some (.int k n)) (e : ¬ m ≤ n) (h : Wl rest P md ops N ((d, .bool false) :: Γ) C Q) : Wl (⟨some d, .binOp .leq t x y u, ty, pos, af, none⟩ :: rest) P md ops N Γ C Q :=
  Wl.leq hd hx hy (by rw [decide_eq_false e]; exact h)
end
def RdV (A : DAns) (v : Value) : Prop := ∃ ga gn gc ra rc ya yc, v = .agg #[.int .u32 0, .slice ga gn gc, .slice ra A.re.length rc, .slice ya A.sy.length yc]
def RdG (A : DAns) (cs : List Value) : Prop := ∃ ga gn gc ra rc ya yc, cs = [.int .u32 0, .slice ga gn gc, .slice ra A.re.length rc, .slice ya A.sy.length yc]
theorem RdG.len {A : DAns} {cs : List Value} (h : RdG A cs) : cs.length = 4 := by
  obtain ⟨_, _, _, _, _, _, _, rfl⟩ := h
  rfl
/-- what the calls of a region hand back: shapes -/
theorem readSh {A : DAns} {w : World} {e : Ending} {w' : World} (h0 : A.e = 0) (h : ReadPost A w e w') : Upd (fun k => w.heap.size ≤ k) w w' ∧ ∃ va, e = .returned (.tuple #[va, .int .i64 A.c]) ∧ RdV A va := by
  obtain ⟨u, vs, vr, vy, rfl, hs, hr, hy⟩ := h
  obtain ⟨ga, gn, gc, rfl⟩ : ∃ a n c, vs = .slice a n c := by
    obtain ⟨_, _, ⟨_, a, c, rfl, _⟩, _⟩ := hs
    exact ⟨_, _, _, rfl⟩
  obtain ⟨ya, yc, rfl⟩ : ∃ a c, vy = .slice a A.sy.length c := by
    obtain ⟨_, a, c, rfl, _⟩ := hy
    exact ⟨_, _, rfl⟩
  obtain ⟨qa, qc, rfl⟩ : ∃ a c, vr = .slice a A.re.length c := by
    obtain ⟨_, a, c, rfl, _⟩ := hr
    exact ⟨_, _, rfl⟩
  exact ⟨u, _, rfl, ga, gn, gc, qa, qc, ya, yc, by rw [h0]; rfl⟩
set_option maxHeartbeats 4000000 in
theorem dynMany_any (a0 a1 : Int) (w : World) (_h0 : IntKind.i64.min ≤ a0 ∧ a0 ≤ IntKind.i64.max) (_h1 : IntKind.i64.min ≤ a1 ∧ a1 ≤ IntKind.i64.max) :
    Calls Try.prog 6 #[.int .i64 a0, .int .i64 a1] w fun e w' => e = .returned (.bool true) ∧ Hp w [] w' := by
  have p1 := tmod6 a0
  have p2 := tmod6n (a0.tmod 6 + 6) (by omega)
  have p3 := tmod6 a1
  have p4 := tmod6n (a1.tmod 6 + 6) (by omega)
  refine enter (args := [_, _]) (Γ := [(0, _), (1, _)]) Try.func6 Try.ntmps6 rfl (of_decide_eq_true rfl) (.cons rfl (.cons rfl .nil)) ?_
  repeat' (first | (apply Wl.assign; exact rfl; exact rfl) | (apply Wl.nil) | (apply St.seq) | (apply St.region) | (apply Gt.next) | (apply Wl.splitP; exact rfl; exact rfl; all_goals (intros; try (exfalso; omega))) | (apply Wl.splitB; exact rfl; exact rfl; all_goals intros) | (apply St.condP; exact rfl; all_goals (intros; try (exfalso; omega))) | (apply St.condB; exact rfl; all_goals intros))
  apply Wl.callQ
  exact rfl
  (repeat (first | exact Evs.nil | apply Evs.cons rfl))
  · intro wq hq
    exact (fit09_any wq).mono fun e w' ⟨h1, h2⟩ => ⟨h1, hq.keep (hpOf h2)⟩
  repeat' (first | (apply Wl.move; exact rfl; exact rfl) | (apply Wl.assign; exact rfl; exact rfl) | (apply Wl.not; exact rfl; exact rfl) | (apply Wl.addI; exact rfl; exact rfl; exact rfl; (constructor <;> omega)) | (apply Wl.subI; exact rfl; exact rfl; exact rfl; (constructor <;> omega)) | (apply Wl.rem; exact rfl; exact rfl; exact rfl; (first | decide | omega)) | (apply Wl.nil) | (apply St.seq) | (apply St.region) | (apply St.condF; exact rfl; (first | with_reducible rfl | with_reducible assumption | decide)) | (apply St.skip) | (apply Gt.next) | (apply Wl.splitP; exact rfl; exact rfl; all_goals (intros; try (exfalso; omega))) | (apply Wl.splitB; exact rfl; exact rfl; all_goals intros) | (apply St.condP; exact rfl; all_goals (intros; try (exfalso; omega))) | (apply St.condB; exact rfl; all_goals intros))
  obtain ⟨n, hn⟩ := Int.eq_ofNat_of_zero_le (show (0 : Int) ≤ (a0.tmod 6 + 6).tmod 6 + 64 - 3 from by omega)
  obtain ⟨m, hm⟩ := Int.eq_ofNat_of_zero_le (show (0 : Int) ≤ (a1.tmod 6 + 6).tmod 6 + 64 - 3 from by omega)
  have n1 : n ≤ 66 := by omega
  have m1 : m ≤ 66 := by omega
  refine St.sub (Γ' := [(0, .int .i64 n), (1, .int .i64 m)]) (.cons (by rw [← hn]; rfl) (.cons (by rw [← hm]; rfl) .nil)) ?_
  clear hn hm p1 p2 p3 p4
  have hz := zt_ok (k := 0) n1 m1
  have hzs := fileT_small hz.ok
  have hma := many_ans n1 m1
  obtain ⟨A, hA⟩ : ∃ A, A = dynAns (fileT [0, 0, 0, 0] (zt n m 0)) := ⟨_, rfl⟩
  have hAe : A.e = 0 := by
    rw [hA, hma]
    split <;> rfl
  apply St.bagN (ExtC 38 w.heap.size (RdG A)) ExtC.trans (fun w' h => ExtC.start _ w' h) [fun v w' => Rw 5 w.heap.size 4 (Pt.byteCells [0, 0, 0, 0]) w' v, fun v w' => v = .int .i64 n, fun v w' => Rw 32 w.heap.size n (u32C (List.replicate n 0)) w' v, fun v w' => v = .int .i64 m, fun v w' => Rw 33 w.heap.size m ((List.replicate m (0, 0, 0)).flatMap tripC) w' v, fun v w' => ∃ vs vr, v = .agg #[.slice none 0 0, vs, vr, .int .i64 0, .bool true] ∧ Rw 32 w.heap.size n (u32C (List.replicate n 0)) w' vs ∧ Rw 33 w.heap.size m ((List.replicate m (0, 0, 0)).flatMap tripC) w' vr, fun v w' => Bo w' w.heap.size v (fileT [0, 0, 0, 0] (zt n m 0)), fun v w' => ∃ va, v = .tuple #[va, .int .i64 A.c] ∧ RdV A va, fun v w' => ∃ va, v = .tuple #[va, .int .i64 A.c] ∧ RdV A va, fun v w' => RdV A v, fun v w' => v = .int .i64 A.c, fun v w' => Bk 38 w.heap.size 4 w' v, fun v w' => Bg 38 w.heap.size (RdG A) w' v, fun v w' => v = .int .i64 A.c] [13, 12]
  · exact mixed
  · kernel_rfl
  · kernel_rfl
  · refine .cons ?_ (.cons ?_ (.cons ?_ (.cons ?_ (.cons ?_ (.cons ?_ (.cons ?_ (.cons ?_ (.cons ?_ (.cons ?_ (.cons ?_ (.cons ?_ (.cons ?_ (.cons ?_ .nil)))))))))))))
    · intro v w1 w2 e h
      exact e.rw (by decide) h
    · intro v w1 w2 e h
      exact h
    · intro v w1 w2 e h
      exact e.rw (by decide) h
    · intro v w1 w2 e h
      exact h
    · intro v w1 w2 e h
      exact e.rw (by decide) h
    · intro v w1 w2 e h
      obtain ⟨vs, vr, h1, h2, h3⟩ := h; exact ⟨vs, vr, h1, e.rw (by decide) h2, e.rw (by decide) h3⟩
    · intro v w1 w2 e h
      exact e.own (by decide) h
    · intro v w1 w2 e h
      exact h
    · intro v w1 w2 e h
      exact h
    · intro v w1 w2 e h
      exact h
    · intro v w1 w2 e h
      exact h
    · intro v w1 w2 e h
      exact e.bk (fun cs h => h.len) h
    · intro v w1 w2 e h
      exact e.bg h
    · intro v w1 w2 e h
      exact h
  · rfl
  · apply OpsN.cons
    · intro w1 e1
      have s1 := e1.size
      change Wl [_] _ _ _ _ _ _ _
      apply Wl.makeSlice (n := 4)
      · exact rfl
      · exact rfl
      · exact rfl
      · exact rfl
      · omega
      intro c hc ho
      rw [made_zeros]
      repeat' (first | (apply Wl.nil) | (apply Wl.splitP; exact rfl; exact rfl; all_goals (intros; try (exfalso; omega))) | (apply Wl.splitB; exact rfl; exact rfl; all_goals intros) | (apply St.condP; exact rfl; all_goals (intros; try (exfalso; omega))) | (apply St.condB; exact rfl; all_goals intros))
      apply Gt.endN
      · exact rfl
      · exact fun w' h' => ⟨.ofUpd (h'.drop (by simp; omega)).ext, c, rfl, by omega, h'.own.1⟩
    apply OpsN.cons
    · intro w1 e1
      have s1 := e1.size
      change Wl [_] _ _ _ _ _ _ _
      repeat' (first | (apply Wl.move; exact rfl; exact rfl) | (apply Wl.nil) | (apply Wl.splitP; exact rfl; exact rfl; all_goals (intros; try (exfalso; omega))) | (apply Wl.splitB; exact rfl; exact rfl; all_goals intros) | (apply St.condP; exact rfl; all_goals (intros; try (exfalso; omega))) | (apply St.condB; exact rfl; all_goals intros))
      apply Gt.endN
      · exact rfl
      · exact fun w' h' => ⟨.ofUpd h'.ext, rfl⟩
    apply OpsN.cons
    · intro w1 e1
      have s1 := e1.size
      intro v0 h0
      have h0 : v0 = .int .i64 n := h0
      subst h0
      intro v1 h1
      have h1 : v1 = .int .i64 n := h1
      subst h1
      change Wl [_] _ _ _ _ _ _ _
      apply Wl.makeSlice (n := n)
      · exact rfl
      · exact rfl
      · exact rfl
      · simp only [Nat.ble_eq]; omega
      · omega
      intro c hc ho
      rw [made_u32]
      repeat' (first | (apply Wl.nil) | (apply Wl.splitP; exact rfl; exact rfl; all_goals (intros; try (exfalso; omega))) | (apply Wl.splitB; exact rfl; exact rfl; all_goals intros) | (apply St.condP; exact rfl; all_goals (intros; try (exfalso; omega))) | (apply St.condB; exact rfl; all_goals intros))
      apply Gt.endN
      · exact rfl
      · exact fun w' h' => ⟨.ofUpd (h'.drop (by simp; omega)).ext, c, rfl, by omega, h'.own.1⟩
    apply OpsN.cons
    · intro w1 e1
      have s1 := e1.size
      change Wl [_] _ _ _ _ _ _ _
      repeat' (first | (apply Wl.move; exact rfl; exact rfl) | (apply Wl.nil) | (apply Wl.splitP; exact rfl; exact rfl; all_goals (intros; try (exfalso; omega))) | (apply Wl.splitB; exact rfl; exact rfl; all_goals intros) | (apply St.condP; exact rfl; all_goals (intros; try (exfalso; omega))) | (apply St.condB; exact rfl; all_goals intros))
      apply Gt.endN
      · exact rfl
      · exact fun w' h' => ⟨.ofUpd h'.ext, rfl⟩
    apply OpsN.cons
    · intro w1 e1
      have s1 := e1.size
      intro v0 h0
      have h0 : v0 = .int .i64 m := h0
      subst h0
      intro v1 h1
      have h1 : v1 = .int .i64 m := h1
      subst h1
      change Wl [_] _ _ _ _ _ _ _
      apply Wl.makeSlice (n := m)
      · exact rfl
      · exact rfl
      · exact rfl
      · simp only [Nat.ble_eq]; omega
      · omega
      intro c hc ho
      rw [made_trip]
      repeat' (first | (apply Wl.nil) | (apply Wl.splitP; exact rfl; exact rfl; all_goals (intros; try (exfalso; omega))) | (apply Wl.splitB; exact rfl; exact rfl; all_goals intros) | (apply St.condP; exact rfl; all_goals (intros; try (exfalso; omega))) | (apply St.condB; exact rfl; all_goals intros))
      apply Gt.endN
      · exact rfl
      · exact fun w' h' => ⟨.ofUpd (h'.drop (by simp; omega)).ext, c, rfl, by omega, h'.own.1⟩
    apply OpsN.cons
    · intro w1 e1
      have s1 := e1.size
      intro v0 h0
      intro v1 h1
      obtain ⟨c0, rfl, b0, g0⟩ := h0
      obtain ⟨c1, rfl, b1, g1⟩ := h1
      change Wl [_] _ _ _ _ _ _ _
      repeat' (first | (apply Wl.buildS; exact rfl; (repeat (first | exact Parts.nil | apply Parts.cons rfl)); (repeat (first | apply Fills.nil | (apply Fills.one; exact rfl; exact rfl; (repeat (first | apply LSet.z | apply LSet.s))) | (apply Fills.agg; exact rfl; exact rfl; (repeat (first | apply LPut.s | apply LPut.z | apply LOver.nil | apply LOver.cons)))))) | (apply Wl.nil) | (apply Wl.splitP; exact rfl; exact rfl; all_goals (intros; try (exfalso; omega))) | (apply Wl.splitB; exact rfl; exact rfl; all_goals intros) | (apply St.condP; exact rfl; all_goals (intros; try (exfalso; omega))) | (apply St.condB; exact rfl; all_goals intros))
      apply Gt.endN
      · exact rfl
      · exact fun w' h' => ⟨.ofUpd h'.ext, _, _, rfl, Rw.keep ⟨c0, rfl, b0, g0⟩ h', Rw.keep ⟨c1, rfl, b1, g1⟩ h'⟩
    apply OpsN.cons
    · intro w1 e1
      have s1 := e1.size
      intro v0 h0
      intro v1 h1
      have h0 : Rw 5 w.heap.size 4 (Pt.byteCells [0, 0, 0, 0]) w1 v0 := h0
      obtain ⟨vs, vr, rfl, h2, h3⟩ := h1
      obtain ⟨c2, rfl, b2, g2⟩ := h2
      obtain ⟨c3, rfl, b3, g3⟩ := h3
      have hbs : Bs w1 v0 [0, 0, 0, 0] := h0.sv rfl (by decide)
      obtain ⟨a0, q0, rfl, _, _⟩ := hbs.shape
      change Wl [_] _ _ _ _ _ _ _
      apply Wl.call
      exact rfl
      (repeat (first | exact Evs.nil | apply Evs.cons rfl))
      intro wq hq
      refine (file09_any _ _ _ _ [0, 0, 0, 0] (zt n m 0) wq (hbs.upd hq.upd fun _ _ _ _ y => y trivial) ?_).mono ?_
      · exact zt_tbv (Sv.upd (Sv.ofRw ⟨c2, rfl, b2, g2⟩ (by simp [u32C]) (by simp [maxLen]; omega)) hq.upd fun _ _ _ _ y => y trivial) (Sv.upd (Sv.ofRw ⟨c3, rfl, b3, g3⟩ ((flat_trip _).trans (by simp)) (by simp [maxLen]; omega)) hq.upd fun _ _ _ _ y => y trivial)
      rintro e wr ⟨hu, ⟨hno, _⟩ | ⟨_, v', rfl, hb⟩⟩
      · exact (hno hz.ok).elim
      refine ⟨_, rfl, ?_⟩
      repeat' (first | (apply Wl.nil) | (apply Wl.splitP; exact rfl; exact rfl; all_goals (intros; try (exfalso; omega))) | (apply Wl.splitB; exact rfl; exact rfl; all_goals intros) | (apply St.condP; exact rfl; all_goals (intros; try (exfalso; omega))) | (apply St.condB; exact rfl; all_goals intros))
      apply Gt.endN
      · exact rfl
      · exact fun w' h' => ⟨.ofUpd (bag_call hq hu h'), (hb.upd h'.upd fun _ _ y => y trivial).less (by have := hq.upd.size; omega)⟩
    apply OpsN.cons
    · intro w1 e1
      have s1 := e1.size
      intro v0 _
      intro v1 h1
      have h1 : Bo w1 w.heap.size v1 (fileT [0, 0, 0, 0] (zt n m 0)) := h1
      have hbs := h1.bs
      obtain ⟨a0, q0, rfl, _, _⟩ := hbs.shape
      change Wl [_] _ _ _ _ _ _ _
      apply Wl.call
      exact rfl
      (repeat (first | exact Evs.nil | apply Evs.cons rfl))
      intro wq hq
      refine (read_any _ _ wq (hbs.upd hq.upd fun _ _ _ _ y => y trivial) hzs).mono ?_
      rw [← hA]
      intro e wr hpost
      obtain ⟨hu, va, rfl, hva⟩ := readSh hAe hpost
      refine ⟨_, rfl, ?_⟩
      repeat' (first | (apply Wl.nil) | (apply Wl.splitP; exact rfl; exact rfl; all_goals (intros; try (exfalso; omega))) | (apply Wl.splitB; exact rfl; exact rfl; all_goals intros) | (apply St.condP; exact rfl; all_goals (intros; try (exfalso; omega))) | (apply St.condB; exact rfl; all_goals intros))
      apply Gt.endN
      · exact rfl
      · exact fun w' h' => ⟨.ofUpd (bag_call hq hu h'), va, rfl, hva⟩
    apply OpsN.cons
    · intro w1 e1
      have s1 := e1.size
      intro v0 h0
      obtain ⟨va, rfl, hva⟩ := h0
      change Wl [_] _ _ _ _ _ _ _
      repeat' (first | (apply Wl.move; exact rfl; exact rfl) | (apply Wl.nil) | (apply Wl.splitP; exact rfl; exact rfl; all_goals (intros; try (exfalso; omega))) | (apply Wl.splitB; exact rfl; exact rfl; all_goals intros) | (apply St.condP; exact rfl; all_goals (intros; try (exfalso; omega))) | (apply St.condB; exact rfl; all_goals intros))
      apply Gt.endN
      · exact rfl
      · exact fun w' h' => ⟨.ofUpd h'.ext, va, rfl, hva⟩
    apply OpsN.cons
    · intro w1 e1
      have s1 := e1.size
      intro v0 h0
      obtain ⟨va, rfl, hva⟩ := h0
      change Wl [_] _ _ _ _ _ _ _
      repeat' (first | (apply Wl.extract; exact rfl; exact rfl; exact rfl) | (apply Wl.nil) | (apply Wl.splitP; exact rfl; exact rfl; all_goals (intros; try (exfalso; omega))) | (apply Wl.splitB; exact rfl; exact rfl; all_goals intros) | (apply St.condP; exact rfl; all_goals (intros; try (exfalso; omega))) | (apply St.condB; exact rfl; all_goals intros))
      apply Gt.endN
      · exact rfl
      · exact fun w' h' => ⟨.ofUpd h'.ext, hva⟩
    apply OpsN.cons
    · intro w1 e1
      have s1 := e1.size
      intro v0 h0
      obtain ⟨va, rfl, hva⟩ := h0
      change Wl [_] _ _ _ _ _ _ _
      repeat' (first | (apply Wl.extract; exact rfl; exact rfl; exact rfl) | (apply Wl.nil) | (apply Wl.splitP; exact rfl; exact rfl; all_goals (intros; try (exfalso; omega))) | (apply Wl.splitB; exact rfl; exact rfl; all_goals intros) | (apply St.condP; exact rfl; all_goals (intros; try (exfalso; omega))) | (apply St.condB; exact rfl; all_goals intros))
      apply Gt.endN
      · exact rfl
      · exact fun w' h' => ⟨.ofUpd h'.ext, rfl⟩
    apply OpsN.cons
    · intro w1 e1
      have s1 := e1.size
      change Wl [_] _ _ _ _ _ _ _
      repeat' (first | (apply Wl.alloc; exact rfl; intro c hc ho) | (apply Wl.nil) | (apply Wl.splitP; exact rfl; exact rfl; all_goals (intros; try (exfalso; omega))) | (apply Wl.splitB; exact rfl; exact rfl; all_goals intros) | (apply St.condP; exact rfl; all_goals (intros; try (exfalso; omega))) | (apply St.condB; exact rfl; all_goals intros))
      apply Gt.endN
      · exact rfl
      · exact fun w' h' => ⟨.ofUpd (h'.drop (by simp; omega)).ext, c, _, rfl, by omega, rfl, h'.own.1⟩
    apply OpsN.cons
    · intro w1 e1
      have s1 := e1.size
      iterate 12 (intro _ _)
      intro v9 h9
      intro v5 h5
      obtain ⟨ga, gn, gc, ra, rc, ya, yc, rfl⟩ := h9
      obtain ⟨c, cs, rfl, hcb, hcl, hh⟩ := h5
      change Wl [_] _ _ _ _ _ _ _
      refine Wl.cls (C' := Hp w1 [⟨c, cs, 38⟩]) (fun _ h' => Hp.open h' hh) ?_
      obtain ⟨x0, x1, x2, x3, rfl⟩ : ∃ x0 x1 x2 x3, cs = [x0, x1, x2, x3] := len4 hcl
      repeat' (first | (apply Wl.storeA; exact rfl; exact rfl; exact rfl; exact rfl; (repeat (first | apply HSet.here | apply HSet.there)); (repeat (first | apply LPut.s | apply LPut.z | apply LOver.nil | apply LOver.cons))) | (apply Wl.nil) | (apply Wl.splitP; exact rfl; exact rfl; all_goals (intros; try (exfalso; omega))) | (apply Wl.splitB; exact rfl; exact rfl; all_goals intros) | (apply St.condP; exact rfl; all_goals (intros; try (exfalso; omega))) | (apply St.condB; exact rfl; all_goals intros))
      apply Gt.endN
      · exact rfl
      · exact fun w' h' => ⟨ExtC.turn h' hcb ⟨ga, gn, gc, ra, rc, ya, yc, rfl⟩ hh, c, _, rfl, hcb, ⟨ga, gn, gc, ra, rc, ya, yc, rfl⟩, h'.own.1⟩
    apply OpsN.cons
    · intro w1 e1
      have s1 := e1.size
      iterate 12 (intro _ _)
      intro v0 h0
      have h0 : v0 = .int .i64 A.c := h0
      subst h0
      iterate 2 (intro _ _)
      change Wl [_] _ _ _ _ _ _ _
      repeat' (first | (apply Wl.assign; exact rfl; exact rfl) | (apply Wl.nil) | (apply Wl.splitP; exact rfl; exact rfl; all_goals (intros; try (exfalso; omega))) | (apply Wl.splitB; exact rfl; exact rfl; all_goals intros) | (apply St.condP; exact rfl; all_goals (intros; try (exfalso; omega))) | (apply St.condB; exact rfl; all_goals intros))
      apply Gt.endN
      · exact rfl
      · exact fun w' h' => ⟨.ofUpd h'.ext, rfl⟩
    exact OpsN.nil
  intro w4 e4 v6 h6 v5 h5
  have h6 : v6 = .int .i64 A.c := h6
  subst h6
  obtain ⟨c4, cs, rfl, b4, ⟨ga, gn, gc, ra, rc, ya, yc, rfl⟩, g4⟩ := h5
  change Gt _ _ _ _ _
  apply Gt.next
  refine St.sub (Γ' := [(0, .int .i64 n), (1, .int .i64 m), (5, .pointer (some ⟨c4, 0, none⟩)), (6, .int .i64 A.c)]) (by (repeat (first | exact Sub.nil | apply Sub.cons rfl))) ?_
  have u4 := e4.upd
  have l4 := lt_of_block g4
  clear e4 hz hzs
  have hy : Own7 [0, 0, 0, 0] (zt 3 0 60) := zt_ok (by decide) (by decide)
  have hys := fileT_small hy.ok
  obtain ⟨B, hB⟩ : ∃ B, B = dynAns (fileT [0, 0, 0, 0] (zt 3 0 60)) := ⟨_, rfl⟩
  have hBe : B.e = 0 := by rw [hB, many_out]
  have hBc : (B.c : Int) = 12 := by rw [hB, many_out]; rfl
  repeat' (first | (apply St.seq) | (apply Wl.splitP; exact rfl; exact rfl; all_goals (intros; try (exfalso; omega))) | (apply Wl.splitB; exact rfl; exact rfl; all_goals intros) | (apply St.condP; exact rfl; all_goals (intros; try (exfalso; omega))) | (apply St.condB; exact rfl; all_goals intros))
  apply St.bagN (ExtC 38 w4.heap.size (RdG B)) ExtC.trans (fun w' h => ExtC.start _ w' h) [fun v w' => Rw 5 w4.heap.size 4 (Pt.byteCells [0, 0, 0, 0]) w' v, fun v w' => Rw 32 w4.heap.size 3 (u32C (List.replicate 3 0)) w' v, fun v w' => ∃ vs, v = .agg #[.slice none 0 0, vs, .slice none 0 0, .int .i64 60, .bool true] ∧ Rw 32 w4.heap.size 3 (u32C (List.replicate 3 0)) w' vs, fun v w' => Bo w' w4.heap.size v (fileT [0, 0, 0, 0] (zt 3 0 60)), fun v w' => ∃ va, v = .tuple #[va, .int .i64 B.c] ∧ RdV B va, fun v w' => ∃ va, v = .tuple #[va, .int .i64 B.c] ∧ RdV B va, fun v w' => RdV B v, fun v w' => v = .int .i64 B.c, fun v w' => Bk 38 w4.heap.size 4 w' v, fun v w' => Bg 38 w4.heap.size (RdG B) w' v, fun v w' => v = .int .i64 B.c] [10, 9]
  · exact mixed
  · kernel_rfl
  · kernel_rfl
  · refine .cons ?_ (.cons ?_ (.cons ?_ (.cons ?_ (.cons ?_ (.cons ?_ (.cons ?_ (.cons ?_ (.cons ?_ (.cons ?_ (.cons ?_ .nil))))))))))
    · intro v w1 w2 e h
      exact e.rw (by decide) h
    · intro v w1 w2 e h
      exact e.rw (by decide) h
    · intro v w1 w2 e h
      obtain ⟨vs, h1, h2⟩ := h; exact ⟨vs, h1, e.rw (by decide) h2⟩
    · intro v w1 w2 e h
      exact e.own (by decide) h
    · intro v w1 w2 e h
      exact h
    · intro v w1 w2 e h
      exact h
    · intro v w1 w2 e h
      exact h
    · intro v w1 w2 e h
      exact h
    · intro v w1 w2 e h
      exact e.bk (fun cs h => h.len) h
    · intro v w1 w2 e h
      exact e.bg h
    · intro v w1 w2 e h
      exact h
  · rfl
  · apply OpsN.cons
    · intro w1 e1
      have s1 := e1.size
      change Wl [_] _ _ _ _ _ _ _
      apply Wl.makeSlice (n := 4)
      · exact rfl
      · exact rfl
      · exact rfl
      · exact rfl
      · omega
      intro c hc ho
      rw [made_zeros]
      repeat' (first | (apply Wl.nil) | (apply Wl.splitP; exact rfl; exact rfl; all_goals (intros; try (exfalso; omega))) | (apply Wl.splitB; exact rfl; exact rfl; all_goals intros) | (apply St.condP; exact rfl; all_goals (intros; try (exfalso; omega))) | (apply St.condB; exact rfl; all_goals intros))
      apply Gt.endN
      · exact rfl
      · exact fun w' h' => ⟨.ofUpd (h'.drop (by simp; omega)).ext, c, rfl, by omega, h'.own.1⟩
    apply OpsN.cons
    · intro w1 e1
      have s1 := e1.size
      change Wl [_] _ _ _ _ _ _ _
      apply Wl.makeSlice (n := 3)
      · exact rfl
      · exact rfl
      · exact rfl
      · exact rfl
      · omega
      intro c hc ho
      rw [made_u32]
      repeat' (first | (apply Wl.nil) | (apply Wl.splitP; exact rfl; exact rfl; all_goals (intros; try (exfalso; omega))) | (apply Wl.splitB; exact rfl; exact rfl; all_goals intros) | (apply St.condP; exact rfl; all_goals (intros; try (exfalso; omega))) | (apply St.condB; exact rfl; all_goals intros))
      apply Gt.endN
      · exact rfl
      · exact fun w' h' => ⟨.ofUpd (h'.drop (by simp; omega)).ext, c, rfl, by omega, h'.own.1⟩
    apply OpsN.cons
    · intro w1 e1
      have s1 := e1.size
      intro v0 h0
      obtain ⟨c0, rfl, b0, g0⟩ := h0
      change Wl [_] _ _ _ _ _ _ _
      repeat' (first | (apply Wl.buildS; exact rfl; (repeat (first | exact Parts.nil | apply Parts.cons rfl)); (repeat (first | apply Fills.nil | (apply Fills.one; exact rfl; exact rfl; (repeat (first | apply LSet.z | apply LSet.s))) | (apply Fills.agg; exact rfl; exact rfl; (repeat (first | apply LPut.s | apply LPut.z | apply LOver.nil | apply LOver.cons)))))) | (apply Wl.nil) | (apply Wl.splitP; exact rfl; exact rfl; all_goals (intros; try (exfalso; omega))) | (apply Wl.splitB; exact rfl; exact rfl; all_goals intros) | (apply St.condP; exact rfl; all_goals (intros; try (exfalso; omega))) | (apply St.condB; exact rfl; all_goals intros))
      apply Gt.endN
      · exact rfl
      · exact fun w' h' => ⟨.ofUpd h'.ext, _, rfl, Rw.keep ⟨c0, rfl, b0, g0⟩ h'⟩
    apply OpsN.cons
    · intro w1 e1
      have s1 := e1.size
      intro v0 h0
      intro v1 h1
      have h0 : Rw 5 w4.heap.size 4 (Pt.byteCells [0, 0, 0, 0]) w1 v0 := h0
      obtain ⟨vs, rfl, h2⟩ := h1
      obtain ⟨c2, rfl, b2, g2⟩ := h2
      have hbs : Bs w1 v0 [0, 0, 0, 0] := h0.sv rfl (by decide)
      obtain ⟨a0, q0, rfl, _, _⟩ := hbs.shape
      change Wl [_] _ _ _ _ _ _ _
      apply Wl.call
      exact rfl
      (repeat (first | exact Evs.nil | apply Evs.cons rfl))
      intro wq hq
      refine (file09_any _ _ _ _ [0, 0, 0, 0] (zt 3 0 60) wq (hbs.upd hq.upd fun _ _ _ _ y => y trivial) ?_).mono ?_
      · exact zt_tbv (Sv.upd (Sv.ofRw ⟨c2, rfl, b2, g2⟩ (by simp [u32C]) (by simp [maxLen])) hq.upd fun _ _ _ _ y => y trivial) (Sv.nil _ _)
      rintro e wr ⟨hu, ⟨hno, _⟩ | ⟨_, v', rfl, hb⟩⟩
      · exact (hno hy.ok).elim
      refine ⟨_, rfl, ?_⟩
      repeat' (first | (apply Wl.nil) | (apply Wl.splitP; exact rfl; exact rfl; all_goals (intros; try (exfalso; omega))) | (apply Wl.splitB; exact rfl; exact rfl; all_goals intros) | (apply St.condP; exact rfl; all_goals (intros; try (exfalso; omega))) | (apply St.condB; exact rfl; all_goals intros))
      apply Gt.endN
      · exact rfl
      · exact fun w' h' => ⟨.ofUpd (bag_call hq hu h'), (hb.upd h'.upd fun _ _ y => y trivial).less (by have := hq.upd.size; omega)⟩
    apply OpsN.cons
    · intro w1 e1
      have s1 := e1.size
      intro v0 _
      intro v1 h1
      have h1 : Bo w1 w4.heap.size v1 (fileT [0, 0, 0, 0] (zt 3 0 60)) := h1
      have hbs := h1.bs
      obtain ⟨a0, q0, rfl, _, _⟩ := hbs.shape
      change Wl [_] _ _ _ _ _ _ _
      apply Wl.call
      exact rfl
      (repeat (first | exact Evs.nil | apply Evs.cons rfl))
      intro wq hq
      refine (read_any _ _ wq (hbs.upd hq.upd fun _ _ _ _ y => y trivial) hys).mono ?_
      rw [← hB]
      intro e wr hpost
      obtain ⟨hu, va, rfl, hva⟩ := readSh hBe hpost
      refine ⟨_, rfl, ?_⟩
      repeat' (first | (apply Wl.nil) | (apply Wl.splitP; exact rfl; exact rfl; all_goals (intros; try (exfalso; omega))) | (apply Wl.splitB; exact rfl; exact rfl; all_goals intros) | (apply St.condP; exact rfl; all_goals (intros; try (exfalso; omega))) | (apply St.condB; exact rfl; all_goals intros))
      apply Gt.endN
      · exact rfl
      · exact fun w' h' => ⟨.ofUpd (bag_call hq hu h'), va, rfl, hva⟩
    apply OpsN.cons
    · intro w1 e1
      have s1 := e1.size
      intro v0 h0
      obtain ⟨va, rfl, hva⟩ := h0
      change Wl [_] _ _ _ _ _ _ _
      repeat' (first | (apply Wl.move; exact rfl; exact rfl) | (apply Wl.nil) | (apply Wl.splitP; exact rfl; exact rfl; all_goals (intros; try (exfalso; omega))) | (apply Wl.splitB; exact rfl; exact rfl; all_goals intros) | (apply St.condP; exact rfl; all_goals (intros; try (exfalso; omega))) | (apply St.condB; exact rfl; all_goals intros))
      apply Gt.endN
      · exact rfl
      · exact fun w' h' => ⟨.ofUpd h'.ext, va, rfl, hva⟩
    apply OpsN.cons
    · intro w1 e1
      have s1 := e1.size
      intro v0 h0
      obtain ⟨va, rfl, hva⟩ := h0
      change Wl [_] _ _ _ _ _ _ _
      repeat' (first | (apply Wl.extract; exact rfl; exact rfl; exact rfl) | (apply Wl.nil) | (apply Wl.splitP; exact rfl; exact rfl; all_goals (intros; try (exfalso; omega))) | (apply Wl.splitB; exact rfl; exact rfl; all_goals intros) | (apply St.condP; exact rfl; all_goals (intros; try (exfalso; omega))) | (apply St.condB; exact rfl; all_goals intros))
      apply Gt.endN
      · exact rfl
      · exact fun w' h' => ⟨.ofUpd h'.ext, hva⟩
    apply OpsN.cons
    · intro w1 e1
      have s1 := e1.size
      intro v0 h0
      obtain ⟨va, rfl, hva⟩ := h0
      change Wl [_] _ _ _ _ _ _ _
      repeat' (first | (apply Wl.extract; exact rfl; exact rfl; exact rfl) | (apply Wl.nil) | (apply Wl.splitP; exact rfl; exact rfl; all_goals (intros; try (exfalso; omega))) | (apply Wl.splitB; exact rfl; exact rfl; all_goals intros) | (apply St.condP; exact rfl; all_goals (intros; try (exfalso; omega))) | (apply St.condB; exact rfl; all_goals intros))
      apply Gt.endN
      · exact rfl
      · exact fun w' h' => ⟨.ofUpd h'.ext, rfl⟩
    apply OpsN.cons
    · intro w1 e1
      have s1 := e1.size
      change Wl [_] _ _ _ _ _ _ _
      repeat' (first | (apply Wl.alloc; exact rfl; intro c hc ho) | (apply Wl.nil) | (apply Wl.splitP; exact rfl; exact rfl; all_goals (intros; try (exfalso; omega))) | (apply Wl.splitB; exact rfl; exact rfl; all_goals intros) | (apply St.condP; exact rfl; all_goals (intros; try (exfalso; omega))) | (apply St.condB; exact rfl; all_goals intros))
      apply Gt.endN
      · exact rfl
      · exact fun w' h' => ⟨.ofUpd (h'.drop (by simp; omega)).ext, c, _, rfl, by omega, rfl, h'.own.1⟩
    apply OpsN.cons
    · intro w1 e1
      have s1 := e1.size
      iterate 9 (intro _ _)
      intro v9 h9
      intro v5 h5
      obtain ⟨ga, gn, gc, ra, rc, ya, yc, rfl⟩ := h9
      obtain ⟨c, cs, rfl, hcb, hcl, hh⟩ := h5
      change Wl [_] _ _ _ _ _ _ _
      refine Wl.cls (C' := Hp w1 [⟨c, cs, 38⟩]) (fun _ h' => Hp.open h' hh) ?_
      obtain ⟨x0, x1, x2, x3, rfl⟩ : ∃ x0 x1 x2 x3, cs = [x0, x1, x2, x3] := len4 hcl
      repeat' (first | (apply Wl.storeA; exact rfl; exact rfl; exact rfl; exact rfl; (repeat (first | apply HSet.here | apply HSet.there)); (repeat (first | apply LPut.s | apply LPut.z | apply LOver.nil | apply LOver.cons))) | (apply Wl.nil) | (apply Wl.splitP; exact rfl; exact rfl; all_goals (intros; try (exfalso; omega))) | (apply Wl.splitB; exact rfl; exact rfl; all_goals intros) | (apply St.condP; exact rfl; all_goals (intros; try (exfalso; omega))) | (apply St.condB; exact rfl; all_goals intros))
      apply Gt.endN
      · exact rfl
      · exact fun w' h' => ⟨ExtC.turn h' hcb ⟨ga, gn, gc, ra, rc, ya, yc, rfl⟩ hh, c, _, rfl, hcb, ⟨ga, gn, gc, ra, rc, ya, yc, rfl⟩, h'.own.1⟩
    apply OpsN.cons
    · intro w1 e1
      have s1 := e1.size
      iterate 9 (intro _ _)
      intro v0 h0
      have h0 : v0 = .int .i64 B.c := h0
      subst h0
      iterate 2 (intro _ _)
      change Wl [_] _ _ _ _ _ _ _
      repeat' (first | (apply Wl.assign; exact rfl; exact rfl) | (apply Wl.nil) | (apply Wl.splitP; exact rfl; exact rfl; all_goals (intros; try (exfalso; omega))) | (apply Wl.splitB; exact rfl; exact rfl; all_goals intros) | (apply St.condP; exact rfl; all_goals (intros; try (exfalso; omega))) | (apply St.condB; exact rfl; all_goals intros))
      apply Gt.endN
      · exact rfl
      · exact fun w' h' => ⟨.ofUpd h'.ext, rfl⟩
    exact OpsN.nil
  intro w5 e5 v8 h8 v7 h7
  have h8 : v8 = .int .i64 B.c := h8
  subst h8
  rw [hBc]
  change Gt _ _ _ _ _
  apply Gt.next
  refine St.sub (Γ' := [(0, .int .i64 n), (1, .int .i64 m), (5, .pointer (some ⟨c4, 0, none⟩)), (6, .int .i64 A.c), (8, .int .i64 12)]) (by (repeat (first | exact Sub.nil | apply Sub.cons rfl))) ?_
  have u5 := e5.upd
  clear e5 hy hys hB hBe hBc
  have g5 := u5.heap g4 (by omega)
  have k2 : w5.cell? ⟨c4, 2, none⟩ = some (.slice ra A.re.length rc) := by
    unfold World.cell?
    rw [g5]
    rfl
  have k3 : w5.cell? ⟨c4, 3, none⟩ = some (.slice ya A.sy.length yc) := by
    unfold World.cell?
    rw [g5]
    rfl
  have u45 : Upd (fun k => w.heap.size ≤ k) w w5 := u4.comp u5 fun k _ hs => hs.elim id fun y => Nat.le_trans u4.size y
  by_cases hnm : n ≤ 64 ∧ m ≤ 64
  · rw [if_pos hnm] at hma
    have q1 : (A.c : Int) = 0 := by rw [hA, hma]; rfl
    have q2 : A.re.length = m := by rw [hA, hma]; simp
    have q3 : A.sy.length = n := by rw [hA, hma]; simp
    rw [q1]
    rw [q2] at k2
    rw [q3] at k3
    obtain ⟨y1, y2⟩ := hnm
    clear hma hA h6 h8 g4 g5 q1 q2 q3 _h0 _h1
    repeat' (first | (apply Wl.leqT; exact rfl; exact rfl; exact rfl; omega) | (apply Wl.eqlIs; exact rfl; exact rfl; exact rfl; exact rfl) | (apply Wl.move; exact rfl; exact rfl) | (apply Wl.assign; exact rfl; exact rfl) | (apply Wl.on; exact rfl; exact rfl; (first | with_reducible rfl | with_reducible assumption | decide)) | (apply Wl.off; exact rfl; exact rfl; exact rfl; (first | with_reducible rfl | (show _ = false; with_reducible assumption) | (show _ = true; with_reducible assumption) | decide)) | (apply Wl.pickT; exact rfl; exact rfl; (first | with_reducible rfl | with_reducible assumption | decide); exact rfl) | (apply Wl.pickF; exact rfl; exact rfl; (first | with_reducible rfl | with_reducible assumption | decide); exact rfl) | (apply Wl.not; exact rfl; exact rfl) | (apply Wl.fieldAddrZ; exact rfl; exact rfl) | (apply Wl.loadO; exact rfl; exact rfl; (assumption); (repeat (first | exact trivial | refine ⟨by first | assumption | omega, ?_⟩))) | (apply Wl.eqlBs; exact rfl; exact rfl; exact rfl; (first | with_reducible assumption | with_reducible rfl)) | (apply Wl.len; exact rfl; exact rfl) | (apply Wl.nil) | (apply St.seq) | (apply St.region) | (apply St.ret) | (apply Gt.next) | (apply Gt.out1; exact rfl; exact rfl; intro w' hp) | (apply Wl.splitP; exact rfl; exact rfl; all_goals (intros; try (exfalso; omega))) | (apply Wl.splitB; exact rfl; exact rfl; all_goals intros) | (apply St.condP; exact rfl; all_goals (intros; try (exfalso; omega))) | (apply St.condB; exact rfl; all_goals intros))
    all_goals exact ⟨rfl, hpOf (u45.comp hp.upd fun k _ hs => hs.elim id fun y => (y trivial).elim)⟩
  · rw [if_neg hnm] at hma
    have q1 : (A.c : Int) = 12 := by rw [hA, hma]; rfl
    rw [q1]
    clear hma hA h6 h8 g4 g5 q1 _h0 _h1
    by_cases y1 : n ≤ 64
    · have y2 : ¬ m ≤ 64 := fun y2 => hnm ⟨y1, y2⟩
      clear hnm
      repeat' (first | (apply Wl.leqT; exact rfl; exact rfl; exact rfl; omega) | (apply Wl.leqF; exact rfl; exact rfl; exact rfl; omega) | (apply Wl.eqlIs; exact rfl; exact rfl; exact rfl; exact rfl) | (apply Wl.move; exact rfl; exact rfl) | (apply Wl.assign; exact rfl; exact rfl) | (apply Wl.on; exact rfl; exact rfl; (first | with_reducible rfl | with_reducible assumption | decide)) | (apply Wl.off; exact rfl; exact rfl; exact rfl; (first | with_reducible rfl | (show _ = false; with_reducible assumption) | (show _ = true; with_reducible assumption) | decide)) | (apply Wl.offU; exact rfl; exact rfl; exact rfl) | (apply Wl.pickT; exact rfl; exact rfl; (first | with_reducible rfl | with_reducible assumption | decide); exact rfl) | (apply Wl.pickF; exact rfl; exact rfl; (first | with_reducible rfl | with_reducible assumption | decide); exact rfl) | (apply Wl.not; exact rfl; exact rfl) | (apply Wl.eql; exact rfl; exact rfl; exact rfl) | (apply Wl.eqlB; exact rfl; exact rfl; exact rfl) | (apply Wl.nil) | (apply St.seq) | (apply St.region) | (apply St.ret) | (apply Gt.next) | (apply Gt.out1; exact rfl; exact rfl; intro w' hp) | (apply Wl.splitP; exact rfl; exact rfl; all_goals (intros; try (exfalso; omega))) | (apply Wl.splitB; exact rfl; exact rfl; all_goals intros) | (apply St.condP; exact rfl; all_goals (intros; try (exfalso; omega))) | (apply St.condB; exact rfl; all_goals intros))
      all_goals exact ⟨rfl, hpOf (u45.comp hp.upd fun k _ hs => hs.elim id fun y => (y trivial).elim)⟩
    · clear hnm
      repeat' (first | (apply Wl.leqF; exact rfl; exact rfl; exact rfl; omega) | (apply Wl.eqlIs; exact rfl; exact rfl; exact rfl; exact rfl) | (apply Wl.move; exact rfl; exact rfl) | (apply Wl.assign; exact rfl; exact rfl) | (apply Wl.on; exact rfl; exact rfl; (first | with_reducible rfl | with_reducible assumption | decide)) | (apply Wl.off; exact rfl; exact rfl; exact rfl; (first | with_reducible rfl | (show _ = false; with_reducible assumption) | (show _ = true; with_reducible assumption) | decide)) | (apply Wl.offU; exact rfl; exact rfl; exact rfl) | (apply Wl.pickT; exact rfl; exact rfl; (first | with_reducible rfl | with_reducible assumption | decide); exact rfl) | (apply Wl.pickF; exact rfl; exact rfl; (first | with_reducible rfl | with_reducible assumption | decide); exact rfl) | (apply Wl.not; exact rfl; exact rfl) | (apply Wl.eql; exact rfl; exact rfl; exact rfl) | (apply Wl.eqlB; exact rfl; exact rfl; exact rfl) | (apply Wl.nil) | (apply St.seq) | (apply St.region) | (apply St.ret) | (apply Gt.next) | (apply Gt.out1; exact rfl; exact rfl; intro w' hp) | (apply Wl.splitP; exact rfl; exact rfl; all_goals (intros; try (exfalso; omega))) | (apply Wl.splitB; exact rfl; exact rfl; all_goals intros) | (apply St.condP; exact rfl; all_goals (intros; try (exfalso; omega))) | (apply St.condB; exact rfl; all_goals intros))
      all_goals exact ⟨rfl, hpOf (u45.comp hp.upd fun k _ hs => hs.elim id fun y => (y trivial).elim)⟩
end Go.Proofs.Ytcjikjadajmefaa
