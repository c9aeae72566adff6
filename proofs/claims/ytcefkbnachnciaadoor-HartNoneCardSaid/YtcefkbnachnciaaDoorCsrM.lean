/-
  porticoref15.File: its map's keys and the trap vector in it; Write, Timer, Tick. Conditions: the file and its map lie in blocks of their own.
-/
import Derived.Test.YtcefkbnachnciaaDoorCsrU
namespace Go.Pt
open Go.RowKit
section binE
variable {P : Program} {md : Md} {ops : Array Oper} {N : Nat} {rest : List Oper} {Γ : Env} {C : World → Prop} {Q : Exit → Act → World → Prop} {d : Nat} {ty : TypeId} {pos : String} {af : Array Edge} {t u : TypeId} {x y : Operand} {m n : Int}
theorem Wl.remE (hd : Nat.blt d N = true) (hx : ev Γ x = some (.int .i64 m)) (hy : ev Γ y = some (.int .i64 n)) (hn : n ≠ 0) (hm : 0 ≤ m) (h : Wl rest P md ops N ((d, .int .i64 (m % n)) :: Γ) C Q) : Wl (⟨some d, .binOp .rem t x y u, ty, pos, af, none⟩ :: rest) P md ops N Γ C Q :=
  Wl.rem hd hx hy hn (by rw [Int.tmod_eq_emod_of_nonneg hm]; exact h)
theorem Wl.quoE (hd : Nat.blt d N = true) (hx : ev Γ x = some (.int .i64 m)) (hy : ev Γ y = some (.int .i64 n)) (hn : n ≠ 0) (hm : 0 ≤ m) (hb : -9223372036854775808 ≤ m / n ∧ m / n ≤ 9223372036854775807) (h : Wl rest P md ops N ((d, .int .i64 (m / n)) :: Γ) C Q) : Wl (⟨some d, .binOp .quo t x y u, ty, pos, af, none⟩ :: rest) P md ops N Γ C Q :=
  Wl.quo hd hx hy hn (by rw [Int.tdiv_eq_ediv_of_nonneg hm, IntWalk.i64_in _ hb]; exact h)
end binE
theorem wrapI64 (x : Int) : I64 (IntKind.i64.wrap x) := wrap_within .i64 x
end Go.Pt
namespace Go.Proofs.YtcefkbnachnciaaDoor
open Go.RowKit Go.Pt
/-- the numbers that the document's map holds -/
def IsKey (t : Int) : Prop := t = 768 ∨ t = 772 ∨ t = 773 ∨ (832 ≤ t ∧ t < 837) ∨ (944 ≤ t ∧ t < 960)
instance (n : Int) : Decidable (IsKey n) := by unfold IsKey; infer_instance
/-- the keys are these; 773 holds tv -/
def KeysOk (lk : Int → Option Int) (tv : Int) : Prop := (∀ t, (lk t).isSome = decide (IsKey t)) ∧ lk 773 = some tv
theorem KeysOk.put {lk : Int → Option Int} {tv t v : Int} (h : KeysOk lk tv) (ht : IsKey t) (hne : t ≠ 773) : KeysOk (fun j => if j = t then some v else lk j) tv := by
  refine ⟨fun j => ?_, ?_⟩
  · by_cases e : j = t
    · subst e; simp [ht]
    · simp only [if_neg e]; exact h.1 j
  · simp only; rw [if_neg (fun e => hne e.symm)]; exact h.2
theorem KeysOk.put773 {lk : Int → Option Int} {tv v : Int} (h : KeysOk lk tv) : KeysOk (fun j => if j = 773 then some v else lk j) v := by
  refine ⟨fun j => ?_, by simp⟩
  by_cases e : j = 773
  · subst e; simp [IsKey]
  · simp only [if_neg e]; exact h.1 j
theorem KeysOk.putT {lk : Int → Option Int} {tv t v : Int} (h : KeysOk lk tv) (ht : t = 773) : KeysOk (fun j => if j = t then some v else lk j) v := by subst ht; exact h.put773
/-- the document's file at c, its map at b, of at most n entries -/
def MM (w : World) (c b n : Nat) (tv : Int) : Prop := ∃ md : Int, ∃ cs : List Value, ∃ n' lk, Kd mkd 18 cs ∧ w.heap[c]? = some (.cells (.int .i64 md :: .map (some b) :: cs).toArray 89 (0, 0)) ∧
  MapI Tryd.prog 3 3 w b n' lk ∧ n' ≤ n ∧ KeysOk lk tv
theorem MM.ne {w : World} {c b n : Nat} {tv : Int} (h : MM w c b n tv) : c ≠ b := by
  obtain ⟨md, cs, n', lk, hk, hc, ⟨D, ⟨es, clock, hb, _⟩, _⟩, _⟩ := h
  intro e
  subst e
  rw [hc] at hb
  cases hb
theorem MM.leaf {w w1 w' : World} {c b n' n : Nat} {md tv : Int} {cs : List Value} {lk : Int → Option Int} (hk : Kd mkd 18 cs) (hM : MapI Tryd.prog 3 3 w1 b n' lk) (hcb : c ≠ b) (hu : Upd (fun k => k = c ∨ k = b) w w1) (hn : n' ≤ n) (hK : KeysOk lk tv)
    (h : Hp w1 [⟨c, .int .i64 md :: .map (some b) :: cs, 89⟩] w') : MM w' c b n tv ∧ Upd (fun k => k = c ∨ k = b) w w' :=
  ⟨⟨md, cs, n', lk, hk, h.own.1, hM.upd h.upd fun y => y ⟨hcb, trivial⟩, hn, hK⟩, hu.comp (Hp.turned h) fun k _ hs => hs.elim id .inl⟩
theorem MM.upd {w w' : World} {c b n : Nat} {tv : Int} {S : Nat → Prop} (h : MM w c b n tv) (u : Upd S w w') (hc : ¬ S c) (hb : ¬ S b) : MM w' c b n tv := by
  obtain ⟨md, cs, n', lk, hk, h1, h2, h3⟩ := h
  exact ⟨md, cs, n', lk, hk, u.heap h1 hc, h2.upd u hb, h3⟩
theorem offUpd {w w1 w2 : World} {c b t : Nat} {cs : List Value} (h : Upd (fun k => k = c ∨ k = b) w w1) (k : Upd (fun j => j = b ∨ ¬ Off [⟨c, cs, t⟩] j) w1 w2) : Upd (fun k => k = c ∨ k = b) w w2 :=
  h.comp k fun j _ hs => hs.elim id fun hs => hs.elim .inr fun y => .inl (Classical.byContradiction fun z => y ⟨fun e => z e.symm, trivial⟩)
set_option maxHeartbeats 8000000 in
theorem mwrite (c b n : Nat) (r x : Int) (tv : Int) (w : World) (hr : 0 ≤ r ∧ r < 4294967296) (hx : 0 ≤ x ∧ x < 4294967296) (hM : MM w c b n tv) (hn : n < 1000000) :
    Calls Tryd.prog 33 #[.pointer (some ⟨c, 0, none⟩), .int .i64 r, .int .i64 x] w fun e w' => e = .returned (.bool (decide (IsReg r ∧ r < 3857))) ∧ MM w' c b (n + 1) (if r = 773 then x - x % 4 else tv) ∧ Upd (fun k => k = c ∨ k = b) w w' := by
  have hcb := hM.ne
  obtain ⟨md, cs, n', lk, hk, hc, hm, hn', hK⟩ := hM
  have hmax : n' + 2 < maxLen := by unfold maxLen; omega
  have hlr : I64 r := by unfold I64; omega
  refine enter (args := [_, _, _]) (Γ := [(0, _), (1, _), (2, _)]) Tryd.func33 Tryd.ntmps33 rfl (of_decide_eq_true rfl) (.cons rfl (.cons rfl (.cons rfl .nil))) ?_
  refine St.cls (C' := Hp w [⟨c, .int .i64 md :: .map (some b) :: cs, 89⟩]) (fun _ h' => Hp.open h' hc) ?_
  repeat' (first | (apply Wl.store2; exact rfl; exact rfl; (intro cs'; (repeat (first | apply HSet.here | apply HSet.there))); assumption; omega; omega; exact mkdU (by omega); intro cs' hk') | (apply Wl.load2; exact rfl; exact rfl; (repeat (first | exact List.Mem.head _ | apply List.Mem.tail)); assumption; omega; omega; exact mkdU (by omega); intro z) | (apply Wl.move; exact rfl; exact rfl) | (apply Wl.assign; exact rfl; exact rfl) | (apply Wl.nilCheck; exact rfl; exact rfl) | (apply Wl.fieldAddrZ; exact rfl; exact rfl) | (apply Wl.loadH; exact rfl; exact rfl; (repeat (first | exact List.Mem.head _ | apply List.Mem.tail)); exact rfl) | (apply Wl.eql; exact rfl; exact rfl; exact rfl) | (apply Wl.add; exact rfl; exact rfl; exact rfl) | (apply Wl.rem; exact rfl; exact rfl; exact rfl; (first | decide | omega)) | (apply Wl.shl; exact rfl; exact rfl; exact rfl; (omega)) | (apply Wl.shr; exact rfl; exact rfl; exact rfl; (omega)) | (apply Wl.convU64; exact rfl; exact rfl; (constructor <;> omega)) | (apply Wl.nil) | (apply St.seq) | (apply St.block) | (apply St.region) | (apply St.condT; exact rfl; (first | with_reducible rfl | with_reducible assumption | decide)) | (apply St.ret) | (apply St.skip) | (apply Gt.next) | (apply Gt.thenRet) | (apply Gt.inNormal) | (apply Gt.inRet) | (apply Gt.out1; exact rfl; exact rfl; intro w' hp) | (apply Wl.splitP; exact rfl; exact rfl; all_goals (intros; try (exfalso; omega))) | (apply Wl.splitB; exact rfl; exact rfl; all_goals intros) | (apply St.condP; exact rfl; all_goals (intros; try (exfalso; omega))) | (apply St.condB; exact rfl; all_goals intros))
  iterate 6
    · rw [decide_eq_true (show IsReg r ∧ r < 3857 by unfold IsReg; omega), if_neg (by omega)]
      exact ⟨rfl, MM.leaf (by assumption) hm hcb (Upd.refl _ _) (by omega) hK hp⟩
  iterate 4
    · refine St.loop (σ := Int × List Value) (fun τ => 0 ≤ τ.1 ∧ τ.1 ≤ 4 ∧ Kd mkd 18 τ.2) (fun τ => [(7, .int .i64 τ.1), (0, .pointer (some ⟨c, 0, none⟩)), (1, .int .i64 r), (2, .int .i64 x)])
        (fun τ => Hp w [⟨c, .int .i64 md :: .map (some b) :: τ.2, 89⟩]) (fun τ => (4 - τ.1).toNat) (0, cs) (by simpa using hk) (by (repeat (first | exact Sub.nil | apply Sub.cons rfl))) (fun _ h => h) ?_
      rintro ⟨i, cs1⟩ ⟨hi0, hi, hk1⟩
      simp only at hi0 hi hk1 ⊢
      clear hk
      repeat' (first | (apply Wl.store2; exact rfl; exact rfl; (intro cs'; (repeat (first | apply HSet.here | apply HSet.there))); exact hk1; omega; omega; (first | exact mkdI (by omega) | exact mkdU (by omega)); intro cs' hk') | (apply Wl.load2; exact rfl; exact rfl; (repeat (first | exact List.Mem.head _ | apply List.Mem.tail)); exact hk1; omega; omega; (first | exact mkdI (by omega) | exact mkdU (by omega)); intro z) | (apply Wl.move; exact rfl; exact rfl) | (apply Wl.assign; exact rfl; exact rfl) | (apply Wl.nilCheck; exact rfl; exact rfl) | (apply Wl.fieldAddrZ; exact rfl; exact rfl) | (apply Wl.eql; exact rfl; exact rfl; exact rfl) | (apply Wl.lss; exact rfl; exact rfl; exact rfl) | (apply Wl.addI; exact rfl; exact rfl; exact rfl; (constructor <;> omega)) | (apply Wl.subI; exact rfl; exact rfl; exact rfl; (constructor <;> omega)) | (apply Wl.mulI; exact rfl; exact rfl; exact rfl; (constructor <;> omega)) | (apply Wl.add; exact rfl; exact rfl; exact rfl) | (apply Wl.sub'; exact rfl; exact rfl; exact rfl) | (apply Wl.mul; exact rfl; exact rfl; exact rfl) | (apply Wl.quo; exact rfl; exact rfl; exact rfl; (first | decide | omega)) | (apply Wl.rem; exact rfl; exact rfl; exact rfl; (first | decide | omega)) | (apply Wl.shr; exact rfl; exact rfl; exact rfl; (omega)) | (apply Wl.indexArr; exact rfl; exact rfl; exact rfl; (constructor <;> omega)) | (apply Wl.nil) | (apply St.seq) | (apply St.block) | (apply St.region) | (apply St.ret) | (apply St.skip) | (apply St.exit) | (apply Gt.next) | (apply Gt.thenRet) | (apply Gt.thenExit) | (apply Gt.inNormal) | (apply Gt.inRet) | (apply Gt.inExit) | (apply Gt.out1; exact rfl; exact rfl; intro w' hp) | (apply Wl.splitP; exact rfl; exact rfl; all_goals (intros; try (exfalso; omega))) | (apply Wl.splitB; exact rfl; exact rfl; all_goals intros) | (apply St.condP; exact rfl; all_goals (intros; try (exfalso; omega))) | (apply St.condB; exact rfl; all_goals intros))
      all_goals first
        | (apply Gt.round (i + 1, cs')
           rotate_left
           · simp only; omega
           · (repeat (first | exact Sub.nil | apply Sub.cons rfl))
           · exact fun _ h => h
           · exact ⟨by simp only; omega, by simp only; omega, by simp only; assumption⟩)
        | (apply Gt.round (i + 1, cs1)
           rotate_left
           · simp only; omega
           · (repeat (first | exact Sub.nil | apply Sub.cons rfl))
           · exact fun _ h => h
           · exact ⟨by simp only; omega, by simp only; omega, by simp only; assumption⟩)
        | (rw [decide_eq_true (show IsReg r ∧ r < 3857 by unfold IsReg; omega), if_neg (by omega)]
           exact ⟨rfl, MM.leaf (by assumption) hm hcb (Upd.refl _ _) (by omega) hK hp⟩)
  apply Wl.lookIB (k := 3) (e := 3)
  · exact rfl
  · exact rfl
  · exact rfl
  · exact hlr
  · exact hm
  · exact ⟨hcb, trivial⟩
  · exact rfl
  · exact hK.1 r
  by_cases hkey : IsKey r
  · rw [decide_eq_true hkey]
    have hkey' := hkey
    unfold IsKey at hkey'
    repeat' (first | (apply Wl.load2; exact rfl; exact rfl; (repeat (first | exact List.Mem.head _ | apply List.Mem.tail)); assumption; omega; omega; (first | exact mkdI (by omega) | exact mkdU (by omega)); intro z) | (apply Wl.remE; exact rfl; exact rfl; exact rfl; (decide); (omega)) | (apply Wl.quoE; exact rfl; exact rfl; exact rfl; (decide); (omega); (constructor <;> omega)) | (apply Wl.move; exact rfl; exact rfl) | (apply Wl.assign; exact rfl; exact rfl) | (apply Wl.on; exact rfl; exact rfl; (first | with_reducible rfl | with_reducible assumption | decide)) | (apply Wl.off; exact rfl; exact rfl; exact rfl; (first | with_reducible rfl | (show _ = false; with_reducible assumption) | (show _ = true; with_reducible assumption) | decide)) | (apply Wl.offU; exact rfl; exact rfl; exact rfl) | (apply Wl.extract; exact rfl; exact rfl; exact rfl) | (apply Wl.nilCheck; exact rfl; exact rfl) | (apply Wl.pickT; exact rfl; exact rfl; (first | with_reducible rfl | with_reducible assumption | decide); exact rfl) | (apply Wl.pickF; exact rfl; exact rfl; (first | with_reducible rfl | with_reducible assumption | decide); exact rfl) | (apply Wl.not; exact rfl; exact rfl) | (apply Wl.fieldAddrZ; exact rfl; exact rfl) | (apply Wl.loadH; exact rfl; exact rfl; (repeat (first | exact List.Mem.head _ | apply List.Mem.tail)); exact rfl) | (apply Wl.eql; exact rfl; exact rfl; exact rfl) | (apply Wl.lss; exact rfl; exact rfl; exact rfl) | (apply Wl.geq; exact rfl; exact rfl; exact rfl) | (apply Wl.addI; exact rfl; exact rfl; exact rfl; (constructor <;> omega)) | (apply Wl.subI; exact rfl; exact rfl; exact rfl; (constructor <;> omega)) | (apply Wl.mulI; exact rfl; exact rfl; exact rfl; (constructor <;> omega)) | (apply Wl.quo; exact rfl; exact rfl; exact rfl; (first | decide | omega)) | (apply Wl.rem; exact rfl; exact rfl; exact rfl; (first | decide | omega)) | (apply Wl.indexArr; exact rfl; exact rfl; exact rfl; (constructor <;> omega)) | (apply Wl.nil) | (apply St.seq) | (apply St.block) | (apply St.region) | (apply St.condT; exact rfl; (first | with_reducible rfl | with_reducible assumption | decide)) | (apply St.condF; exact rfl; (first | with_reducible rfl | with_reducible assumption | decide)) | (apply St.ret) | (apply St.skip) | (apply Gt.next) | (apply Gt.thenRet) | (apply Gt.inNormal) | (apply Gt.out1; exact rfl; exact rfl; intro w' hp) | (apply Wl.splitP; exact rfl; exact rfl; all_goals (intros; try (exfalso; omega))) | (apply Wl.splitB; exact rfl; exact rfl; all_goals intros) | (apply St.condP; exact rfl; all_goals (intros; try (exfalso; omega))) | (apply St.condB; exact rfl; all_goals intros))
    all_goals first
      | (rw [decide_eq_true (show IsReg r ∧ r < 3857 by unfold IsReg; omega), if_neg (by omega)]
         exact ⟨rfl, MM.leaf (by assumption) hm hcb (Upd.refl _ _) (by omega) hK hp⟩)
      | skip
    all_goals
      apply Wl.storeI (k := 3) (e := 3) (hown := hm)
      · exact rfl
      · exact rfl
      · exact rfl
      · unfold I64; omega
      · first | exact wrapI64 _ | (unfold I64; omega)
      · omega
      · exact ⟨hcb, trivial⟩
      intro w1 hm1 hu1
      have hU1 := offUpd (Upd.refl (fun k => k = c ∨ k = b) w) hu1
      repeat' (first | (apply Wl.assign; exact rfl; exact rfl) | (apply Wl.nil) | (apply St.seq) | (apply St.region) | (apply St.ret) | (apply Gt.next) | (apply Gt.out1; exact rfl; exact rfl; intro w' hp) | (apply Wl.splitP; exact rfl; exact rfl; all_goals (intros; try (exfalso; omega))) | (apply Wl.splitB; exact rfl; exact rfl; all_goals intros) | (apply St.condP; exact rfl; all_goals (intros; try (exfalso; omega))) | (apply St.condB; exact rfl; all_goals intros))
      rw [decide_eq_true (show IsReg r ∧ r < 3857 by unfold IsReg; omega)]
      first
        | (rw [if_neg (by omega)]
           exact ⟨rfl, MM.leaf (by assumption) hm1 hcb hU1 (by omega) (hK.put hkey (by omega)) hp⟩)
        | (rw [if_pos (by omega)]
           exact ⟨rfl, MM.leaf (by assumption) hm1 hcb hU1 (by omega) (hK.putT (by omega)) hp⟩)
  · rw [decide_eq_false hkey]
    unfold IsKey at hkey
    repeat' (first | (apply Wl.move; exact rfl; exact rfl) | (apply Wl.assign; exact rfl; exact rfl) | (apply Wl.extract; exact rfl; exact rfl; exact rfl) | (apply Wl.not; exact rfl; exact rfl) | (apply Wl.nil) | (apply St.seq) | (apply St.region) | (apply St.condT; exact rfl; (first | with_reducible rfl | with_reducible assumption | decide)) | (apply St.ret) | (apply Gt.next) | (apply Gt.thenRet) | (apply Gt.out1; exact rfl; exact rfl; intro w' hp) | (apply Wl.splitP; exact rfl; exact rfl; all_goals (intros; try (exfalso; omega))) | (apply Wl.splitB; exact rfl; exact rfl; all_goals intros) | (apply St.condP; exact rfl; all_goals (intros; try (exfalso; omega))) | (apply St.condB; exact rfl; all_goals intros))
    rw [decide_eq_false (show ¬ (IsReg r ∧ r < 3857) by unfold IsReg; omega), if_neg (by omega)]
    exact ⟨rfl, MM.leaf (by assumption) hm hcb (Upd.refl _ _) (by omega) hK hp⟩
end Go.Proofs.YtcefkbnachnciaaDoor
