/-
  12 texts, one behind the other; each says what it proves. Conditions: as each text says.
-/
import Derived.Test.YtcefkbnachnciaaDoorM01
import Derived.Laws.ResultCell
import Derived.DeepKeys
import Derived.Laws.BitsLemmas
import Derived.Laws.Bits64
section
namespace Go.Pt
open Go.RowKit
section binE
variable {P : Program} {md : Md} {ops : Array Oper} {N : Nat} {rest : List Oper} {Γ : Env} {C : World → Prop} {Q : Exit → Act → World → Prop} {d : Nat} {ty : TypeId} {pos : String} {af : Array Edge} {t u : TypeId} {x y : Operand} {m n : Int}
theorem Wl.remE (hd : Nat.blt d N = true) (hx : ev Γ x = some (.int .i64 m)) (hy : ev Γ y = some (.int .i64 n)) (hn : n ≠ 0) (hm : 0 ≤ m) (h : Wl rest P md ops N ((d, .int .i64 (m % n)) :: Γ) C Q) : Wl (⟨some d, .binOp .rem t x y u, ty, pos, af, none⟩ :: rest) P md ops N Γ C Q :=
  Wl.rem hd hx hy hn (by rw [Int.tmod_eq_emod_of_nonneg hm]; exact h)
theorem Wl.quoE (hd : Nat.blt d N = true) (hx : ev Γ x = some (.int .i64 m)) (hy : ev Γ y = some (.int .i64 n)) (hn : n ≠ 0) (hm : 0 ≤ m) (hb : -9223372036854775808 ≤ m / n ∧ m / n ≤ 9223372036854775807) (h : Wl rest P md ops N ((d, .int .i64 (m / n)) :: Γ) C Q) : Wl (⟨some d, .binOp .quo t x y u, ty, pos, af, none⟩ :: rest) P md ops N Γ C Q :=
  Wl.quo hd hx hy hn (by rw [Int.tdiv_eq_ediv_of_nonneg hm, IntWalk.i64_in _ hb]; exact h)
end binE
theorem wrapI64 (x : Int) : I64 (IntKind.i64.wrap x) := wrap_within .i64 x
end Go.Pt
namespace Go.Proofs.YtcefkbnachnciaaDoor
open Go.RowKit Go.Pt
def IsKey (t : Int) : Prop := t = 768 ∨ t = 772 ∨ t = 773 ∨ (832 ≤ t ∧ t < 837) ∨ (944 ≤ t ∧ t < 960)
instance (n : Int) : Decidable (IsKey n) := by unfold IsKey; infer_instance
def KeysOk (lk : Int → Option Int) (tv : Int) : Prop := (∀ t, (lk t).isSome = decide (IsKey t)) ∧ lk 773 = some tv
theorem KeysOk.put {lk : Int → Option Int} {tv t v : Int} (h : KeysOk lk tv) (ht : IsKey t) (hne : t ≠ 773) : KeysOk (fun j => if j = t then some v else lk j) tv := by
  refine ⟨fun j => ?_, ?_⟩
  · by_cases e : j = t
    · subst e; simp [ht]
    · simp only [if_neg e]; exact h.1 j
  · simp only; rw [if_neg (fun e => hne e.symm)]; exact h.2
theorem KeysOk.put773 {lk : Int → Option Int} {tv v : Int} (h : KeysOk lk tv) : KeysOk (fun j => if j = 773 then some v else lk j) v := by
  refine ⟨fun j => ?_, by simp⟩
  by_cases e : j = 773
  · subst e; simp [IsKey]
  · simp only [if_neg e]; exact h.1 j
theorem KeysOk.putT {lk : Int → Option Int} {tv t v : Int} (h : KeysOk lk tv) (ht : t = 773) : KeysOk (fun j => if j = t then some v else lk j) v := by subst ht; exact h.put773
def MM (w : World) (c b n : Nat) (tv : Int) : Prop := ∃ md : Int, ∃ cs : List Value, ∃ n' lk, Kd mkd 18 cs ∧ w.heap[c]? = some (.cells (.int .i64 md :: .map (some b) :: cs).toArray 89 (0, 0)) ∧
  MapI Tryd.prog 3 3 w b n' lk ∧ n' ≤ n ∧ KeysOk lk tv
theorem MM.ne {w : World} {c b n : Nat} {tv : Int} (h : MM w c b n tv) : c ≠ b := by
  obtain ⟨md, cs, n', lk, hk, hc, ⟨D, ⟨es, clock, hb, _⟩, _⟩, _⟩ := h
  intro e
  subst e
  rw [hc] at hb
  cases hb
theorem MM.leaf {w w1 w' : World} {c b n' n : Nat} {md tv : Int} {cs : List Value} {lk : Int → Option Int} (hk : Kd mkd 18 cs) (hM : MapI Tryd.prog 3 3 w1 b n' lk) (hcb : c ≠ b) (hu : Upd (fun k => k = c ∨ k = b) w w1) (hn : n' ≤ n) (hK : KeysOk lk tv)
    (h : Hp w1 [⟨c, .int .i64 md :: .map (some b) :: cs, 89⟩] w') : MM w' c b n tv ∧ Upd (fun k => k = c ∨ k = b) w w' :=
  ⟨⟨md, cs, n', lk, hk, h.own.1, hM.upd h.upd fun y => y ⟨hcb, trivial⟩, hn, hK⟩, hu.comp (Hp.turned h) fun k _ hs => hs.elim id .inl⟩
theorem MM.upd {w w' : World} {c b n : Nat} {tv : Int} {S : Nat → Prop} (h : MM w c b n tv) (u : Upd S w w') (hc : ¬ S c) (hb : ¬ S b) : MM w' c b n tv := by
  obtain ⟨md, cs, n', lk, hk, h1, h2, h3⟩ := h
  exact ⟨md, cs, n', lk, hk, u.heap h1 hc, h2.upd u hb, h3⟩
theorem offUpd {w w1 w2 : World} {c b t : Nat} {cs : List Value} (h : Upd (fun k => k = c ∨ k = b) w w1) (k : Upd (fun j => j = b ∨ ¬ Off [⟨c, cs, t⟩] j) w1 w2) : Upd (fun k => k = c ∨ k = b) w w2 :=
  h.comp k fun j _ hs => hs.elim id fun hs => hs.elim .inr fun y => .inl (Classical.byContradiction fun z => y ⟨fun e => z e.symm, trivial⟩)
set_option maxHeartbeats 8000000 in
theorem mwrite (c b n : Nat) (r x : Int) (tv : Int) (w : World) (hr : 0 ≤ r ∧ r < 4294967296) (hx : 0 ≤ x ∧ x < 4294967296) (hM : MM w c b n tv) (hn : n < 1000000) :
    Calls Tryd.prog 33 #[.pointer (some ⟨c, 0, none⟩), .int .i64 r, .int .i64 x] w fun e w' => e = .returned (.bool (decide (IsReg r ∧ r < 3857))) ∧ MM w' c b (n + 1) (if r = 773 then x - x % 4 else tv) ∧ Upd (fun k => k = c ∨ k = b) w w' := by
  have hcb := hM.ne
  obtain ⟨md, cs, n', lk, hk, hc, hm, hn', hK⟩ := hM
  have hmax : n' + 2 < maxLen := by unfold maxLen; omega
  have hlr : I64 r := by unfold I64; omega
  refine enter (args := [_, _, _]) (Γ := [(0, _), (1, _), (2, _)]) Tryd.func33 Tryd.ntmps33 rfl (of_decide_eq_true rfl) (.cons rfl (.cons rfl (.cons rfl .nil))) ?_
  refine St.cls (C' := Hp w [⟨c, .int .i64 md :: .map (some b) :: cs, 89⟩]) (fun _ h' => Hp.open h' hc) ?_
  repeat' (first | (apply Wl.store2; exact rfl; exact rfl; (intro cs'; (repeat (first | apply HSet.here | apply HSet.there))); assumption; omega; omega; exact mkdU (by omega); intro cs' hk') | (apply Wl.load2; exact rfl; exact rfl; (repeat (first | exact List.Mem.head _ | apply List.Mem.tail)); assumption; omega; omega; exact mkdU (by omega); intro z) | (apply Wl.move; exact rfl; exact rfl) | (apply Wl.assign; exact rfl; exact rfl) | (apply Wl.nilCheck; exact rfl; exact rfl) | (apply Wl.fieldAddrZ; exact rfl; exact rfl) | (apply Wl.loadH; exact rfl; exact rfl; (repeat (first | exact List.Mem.head _ | apply List.Mem.tail)); exact rfl) | (apply Wl.eql; exact rfl; exact rfl; exact rfl) | (apply Wl.add; exact rfl; exact rfl; exact rfl) | (apply Wl.rem; exact rfl; exact rfl; exact rfl; (first | decide | omega)) | (apply Wl.shl; exact rfl; exact rfl; exact rfl; (omega)) | (apply Wl.shr; exact rfl; exact rfl; exact rfl; (omega)) | (apply Wl.convU64; exact rfl; exact rfl; (constructor <;> omega)) | (apply Wl.nil) | (apply St.seq) | (apply St.block) | (apply St.region) | (apply St.condT; exact rfl; (first | with_reducible rfl | with_reducible assumption | decide)) | (apply St.ret) | (apply St.skip) | (apply Gt.next) | (apply Gt.thenRet) | (apply Gt.inNormal) | (apply Gt.inRet) | (apply Gt.out1; exact rfl; exact rfl; intro w' hp) | (apply Wl.splitP; exact rfl; exact rfl; all_goals (intros; try (exfalso; omega))) | (apply Wl.splitB; exact rfl; exact rfl; all_goals intros) | (apply St.condP; exact rfl; all_goals (intros; try (exfalso; omega))) | (apply St.condB; exact rfl; all_goals intros))
  iterate 6
    · rw [decide_eq_true (show IsReg r ∧ r < 3857 by unfold IsReg; omega), if_neg (by omega)]
      exact ⟨rfl, MM.leaf (by assumption) hm hcb (Upd.refl _ _) (by omega) hK hp⟩
  iterate 4
    · refine St.loop (σ := Int × List Value) (fun τ => 0 ≤ τ.1 ∧ τ.1 ≤ 4 ∧ Kd mkd 18 τ.2) (fun τ => [(7, .int .i64 τ.1), (0, .pointer (some ⟨c, 0, none⟩)), (1, .int .i64 r), (2, .int .i64 x)])
        (fun τ => Hp w [⟨c, .int .i64 md :: .map (some b) :: τ.2, 89⟩]) (fun τ => (4 - τ.1).toNat) (0, cs) (by simpa using hk) (by (repeat (first | exact Sub.nil | apply Sub.cons rfl))) (fun _ h => h) ?_
      rintro ⟨i, cs1⟩ ⟨hi0, hi, hk1⟩
      simp only at hi0 hi hk1 ⊢
      clear hk
      repeat' (first | (apply Wl.store2; exact rfl; exact rfl; (intro cs'; (repeat (first | apply HSet.here | apply HSet.there))); exact hk1; omega; omega; (first | exact mkdI (by omega) | exact mkdU (by omega)); intro cs' hk') | (apply Wl.load2; exact rfl; exact rfl; (repeat (first | exact List.Mem.head _ | apply List.Mem.tail)); exact hk1; omega; omega; (first | exact mkdI (by omega) | exact mkdU (by omega)); intro z) | (apply Wl.move; exact rfl; exact rfl) | (apply Wl.assign; exact rfl; exact rfl) | (apply Wl.nilCheck; exact rfl; exact rfl) | (apply Wl.fieldAddrZ; exact rfl; exact rfl) | (apply Wl.eql; exact rfl; exact rfl; exact rfl) | (apply Wl.lss; exact rfl; exact rfl; exact rfl) | (apply Wl.addI; exact rfl; exact rfl; exact rfl; (constructor <;> omega)) | (apply Wl.subI; exact rfl; exact rfl; exact rfl; (constructor <;> omega)) | (apply Wl.mulI; exact rfl; exact rfl; exact rfl; (constructor <;> omega)) | (apply Wl.add; exact rfl; exact rfl; exact rfl) | (apply Wl.sub'; exact rfl; exact rfl; exact rfl) | (apply Wl.mul; exact rfl; exact rfl; exact rfl) | (apply Wl.quo; exact rfl; exact rfl; exact rfl; (first | decide | omega)) | (apply Wl.rem; exact rfl; exact rfl; exact rfl; (first | decide | omega)) | (apply Wl.shr; exact rfl; exact rfl; exact rfl; (omega)) | (apply Wl.indexArr; exact rfl; exact rfl; exact rfl; (constructor <;> omega)) | (apply Wl.nil) | (apply St.seq) | (apply St.block) | (apply St.region) | (apply St.ret) | (apply St.skip) | (apply St.exit) | (apply Gt.next) | (apply Gt.thenRet) | (apply Gt.thenExit) | (apply Gt.inNormal) | (apply Gt.inRet) | (apply Gt.inExit) | (apply Gt.out1; exact rfl; exact rfl; intro w' hp) | (apply Wl.splitP; exact rfl; exact rfl; all_goals (intros; try (exfalso; omega))) | (apply Wl.splitB; exact rfl; exact rfl; all_goals intros) | (apply St.condP; exact rfl; all_goals (intros; try (exfalso; omega))) | (apply St.condB; exact rfl; all_goals intros))
      all_goals first
        | (apply Gt.round (i + 1, cs')
           rotate_left
           · simp only; omega
           · (repeat (first | exact Sub.nil | apply Sub.cons rfl))
           · exact fun _ h => h
           · exact ⟨by simp only; omega, by simp only; omega, by simp only; assumption⟩)
        | (apply Gt.round (i + 1, cs1)
           rotate_left
           · simp only; omega
           · (repeat (first | exact Sub.nil | apply Sub.cons rfl))
           · exact fun _ h => h
           · exact ⟨by simp only; omega, by simp only; omega, by simp only; assumption⟩)
        | (rw [decide_eq_true (show IsReg r ∧ r < 3857 by unfold IsReg; omega), if_neg (by omega)]
           exact ⟨rfl, MM.leaf (by assumption) hm hcb (Upd.refl _ _) (by omega) hK hp⟩)
  apply Wl.lookIB (k := 3) (e := 3)
  · exact rfl
  · exact rfl
  · exact rfl
  · exact hlr
  · exact hm
  · exact ⟨hcb, trivial⟩
  · exact rfl
  · exact hK.1 r
  by_cases hkey : IsKey r
  · rw [decide_eq_true hkey]
    have hkey' := hkey
    unfold IsKey at hkey'
    repeat' (first | (apply Wl.load2; exact rfl; exact rfl; (repeat (first | exact List.Mem.head _ | apply List.Mem.tail)); assumption; omega; omega; (first | exact mkdI (by omega) | exact mkdU (by omega)); intro z) | (apply Wl.remE; exact rfl; exact rfl; exact rfl; (decide); (omega)) | (apply Wl.quoE; exact rfl; exact rfl; exact rfl; (decide); (omega); (constructor <;> omega)) | (apply Wl.move; exact rfl; exact rfl) | (apply Wl.assign; exact rfl; exact rfl) | (apply Wl.on; exact rfl; exact rfl; (first | with_reducible rfl | with_reducible assumption | decide)) | (apply Wl.off; exact rfl; exact rfl; exact rfl; (first | with_reducible rfl | (show _ = false; with_reducible assumption) | (show _ = true; with_reducible assumption) | decide)) | (apply Wl.offU; exact rfl; exact rfl; exact rfl) | (apply Wl.extract; exact rfl; exact rfl; exact rfl) | (apply Wl.nilCheck; exact rfl; exact rfl) | (apply Wl.pickT; exact rfl; exact rfl; (first | with_reducible rfl | with_reducible assumption | decide); exact rfl) | (apply Wl.pickF; exact rfl; exact rfl; (first | with_reducible rfl | with_reducible assumption | decide); exact rfl) | (apply Wl.not; exact rfl; exact rfl) | (apply Wl.fieldAddrZ; exact rfl; exact rfl) | (apply Wl.loadH; exact rfl; exact rfl; (repeat (first | exact List.Mem.head _ | apply List.Mem.tail)); exact rfl) | (apply Wl.eql; exact rfl; exact rfl; exact rfl) | (apply Wl.lss; exact rfl; exact rfl; exact rfl) | (apply Wl.geq; exact rfl; exact rfl; exact rfl) | (apply Wl.addI; exact rfl; exact rfl; exact rfl; (constructor <;> omega)) | (apply Wl.subI; exact rfl; exact rfl; exact rfl; (constructor <;> omega)) | (apply Wl.mulI; exact rfl; exact rfl; exact rfl; (constructor <;> omega)) | (apply Wl.quo; exact rfl; exact rfl; exact rfl; (first | decide | omega)) | (apply Wl.rem; exact rfl; exact rfl; exact rfl; (first | decide | omega)) | (apply Wl.indexArr; exact rfl; exact rfl; exact rfl; (constructor <;> omega)) | (apply Wl.nil) | (apply St.seq) | (apply St.block) | (apply St.region) | (apply St.condT; exact rfl; (first | with_reducible rfl | with_reducible assumption | decide)) | (apply St.condF; exact rfl; (first | with_reducible rfl | with_reducible assumption | decide)) | (apply St.ret) | (apply St.skip) | (apply Gt.next) | (apply Gt.thenRet) | (apply Gt.inNormal) | (apply Gt.out1; exact rfl; exact rfl; intro w' hp) | (apply Wl.splitP; exact rfl; exact rfl; all_goals (intros; try (exfalso; omega))) | (apply Wl.splitB; exact rfl; exact rfl; all_goals intros) | (apply St.condP; exact rfl; all_goals (intros; try (exfalso; omega))) | (apply St.condB; exact rfl; all_goals intros))
    all_goals first
      | (rw [decide_eq_true (show IsReg r ∧ r < 3857 by unfold IsReg; omega), if_neg (by omega)]
         exact ⟨rfl, MM.leaf (by assumption) hm hcb (Upd.refl _ _) (by omega) hK hp⟩)
      | skip
    all_goals
      apply Wl.storeI (k := 3) (e := 3) (hown := hm)
      · exact rfl
      · exact rfl
      · exact rfl
      · unfold I64; omega
      · first | exact wrapI64 _ | (unfold I64; omega)
      · omega
      · exact ⟨hcb, trivial⟩
      intro w1 hm1 hu1
      have hU1 := offUpd (Upd.refl (fun k => k = c ∨ k = b) w) hu1
      repeat' (first | (apply Wl.assign; exact rfl; exact rfl) | (apply Wl.nil) | (apply St.seq) | (apply St.region) | (apply St.ret) | (apply Gt.next) | (apply Gt.out1; exact rfl; exact rfl; intro w' hp) | (apply Wl.splitP; exact rfl; exact rfl; all_goals (intros; try (exfalso; omega))) | (apply Wl.splitB; exact rfl; exact rfl; all_goals intros) | (apply St.condP; exact rfl; all_goals (intros; try (exfalso; omega))) | (apply St.condB; exact rfl; all_goals intros))
      rw [decide_eq_true (show IsReg r ∧ r < 3857 by unfold IsReg; omega)]
      first
        | (rw [if_neg (by omega)]
           exact ⟨rfl, MM.leaf (by assumption) hm1 hcb hU1 (by omega) (hK.put hkey (by omega)) hp⟩)
        | (rw [if_pos (by omega)]
           exact ⟨rfl, MM.leaf (by assumption) hm1 hcb hU1 (by omega) (hK.putT (by omega)) hp⟩)
  · rw [decide_eq_false hkey]
    unfold IsKey at hkey
    repeat' (first | (apply Wl.move; exact rfl; exact rfl) | (apply Wl.assign; exact rfl; exact rfl) | (apply Wl.extract; exact rfl; exact rfl; exact rfl) | (apply Wl.not; exact rfl; exact rfl) | (apply Wl.nil) | (apply St.seq) | (apply St.region) | (apply St.condT; exact rfl; (first | with_reducible rfl | with_reducible assumption | decide)) | (apply St.ret) | (apply Gt.next) | (apply Gt.thenRet) | (apply Gt.out1; exact rfl; exact rfl; intro w' hp) | (apply Wl.splitP; exact rfl; exact rfl; all_goals (intros; try (exfalso; omega))) | (apply Wl.splitB; exact rfl; exact rfl; all_goals intros) | (apply St.condP; exact rfl; all_goals (intros; try (exfalso; omega))) | (apply St.condB; exact rfl; all_goals intros))
    rw [decide_eq_false (show ¬ (IsReg r ∧ r < 3857) by unfold IsReg; omega), if_neg (by omega)]
    exact ⟨rfl, MM.leaf (by assumption) hm hcb (Upd.refl _ _) (by omega) hK hp⟩
end Go.Proofs.YtcefkbnachnciaaDoor
end
section
namespace Go.Proofs.YtcefkbnachnciaaDoor
open Go.RowKit Go.Pt
theorem cell_of {w : World} {c i : Nat} {cs : List Value} {t : TypeId} {v : Value} (h : w.heap[c]? = some (.cells cs.toArray t (0, 0))) (hi : cs[i]? = some v) : w.cell? ⟨c, i, none⟩ = some v := by
  rw [cellAt h]; simpa using hi
set_option maxHeartbeats 4000000 in
theorem mprotect (c b n m cap : Nat) (a : Option Addr) (tv : Int) (w0 w : World) (hM : MM w c b n tv) (hn : n < 1000000) (hu : Upd (fun k => w0.heap.size ≤ k) w0 w) (hc0 : w0.heap.size ≤ c) (hb0 : w0.heap.size ≤ b) (hS : EntS w0 a m) :
    Calls Tryd.prog 31 #[.pointer (some ⟨c, 0, none⟩), .slice a m cap] w fun e w' => e = .returned (.tuple #[]) ∧ MM w' c b (n + 32) tv ∧ Upd (fun k => k = c ∨ k = b) w w' := by
  have hcb := hM.ne
  obtain ⟨md, cs, n', lk, hk, hc, hm, hn', hK⟩ := hM
  have hmax : n' + 40 < maxLen := by unfold maxLen; omega
  refine enter (args := [_, _]) (Γ := [(0, _), (1, _)]) Tryd.func31 Tryd.ntmps31 rfl (of_decide_eq_true rfl) (.cons rfl (.cons rfl .nil)) ?_
  refine St.cls (C' := Hp w [⟨c, .int .i64 md :: .map (some b) :: cs, 89⟩]) (fun _ h' => Hp.open h' hc) ?_
  repeat' (first | (apply Wl.assign; exact rfl; exact rfl) | (apply Wl.nil) | (apply St.seq) | (apply St.block) | (apply St.region) | (apply Gt.next) | (apply Wl.splitP; exact rfl; exact rfl; all_goals (intros; try (exfalso; omega))) | (apply Wl.splitB; exact rfl; exact rfl; all_goals intros) | (apply St.condP; exact rfl; all_goals (intros; try (exfalso; omega))) | (apply St.condB; exact rfl; all_goals intros))
  refine St.loop (σ := Nat × List Value × World) (fun τ => τ.1 ≤ 16 ∧ Kd mkd 18 τ.2.1 ∧ (∃ n1 lk1, MapI Tryd.prog 3 3 τ.2.2 b n1 lk1 ∧ n1 ≤ n' + 2 * τ.1 ∧ KeysOk lk1 tv) ∧ Upd (fun k => k = c ∨ k = b) w τ.2.2)
    (fun τ => [(4, .int .i64 τ.1), (0, .pointer (some ⟨c, 0, none⟩)), (1, .slice a m cap)])
    (fun τ => Hp τ.2.2 [⟨c, .int .i64 md :: .map (some b) :: τ.2.1, 89⟩]) (fun τ => 16 - τ.1) (0, cs, w) ⟨by simp, hk, ⟨n', lk, hm, by simp, hK⟩, Upd.refl _ _⟩ (by (repeat (first | exact Sub.nil | apply Sub.cons rfl))) (fun _ h => h) ?_
  rintro ⟨i, cs1, w1⟩ ⟨hi, hk1, ⟨n1, lk1, hm1, hn1, hK1⟩, hU1⟩
  simp only at hi hk1 hm1 hn1 hK1 hU1 ⊢
  have hup : ∀ w1 cs w', Upd (fun k => k = c ∨ k = b) w w1 → Hp w1 [⟨c, .int .i64 md :: .map (some b) :: cs, 89⟩] w' → Upd (fun k => w0.heap.size ≤ k) w0 w' :=
    fun w1 cs w' u h => (hu.comp u fun k _ hs => hs.elim id fun e => by rcases e with e | e <;> omega).comp (Hp.turned h) fun k _ hs => hs.elim id fun e => by omega
  by_cases hlt : i < 16
  · repeat' (first | (apply Wl.store2; exact rfl; exact rfl; (intro cs'; (repeat (first | apply HSet.here | apply HSet.there))); assumption; omega; omega; (first | exact mkdI (by omega) | exact mkdU (by omega)); intro cs' hk') | (apply Wl.move; exact rfl; exact rfl) | (apply Wl.nilCheck; exact rfl; exact rfl) | (apply Wl.fieldAddrZ; exact rfl; exact rfl) | (apply Wl.loadH; exact rfl; exact rfl; (repeat (first | exact List.Mem.head _ | apply List.Mem.tail)); exact rfl) | (apply Wl.lss; exact rfl; exact rfl; exact rfl) | (apply Wl.addI; exact rfl; exact rfl; exact rfl; (constructor <;> omega)) | (apply Wl.indexArr; exact rfl; exact rfl; exact rfl; (constructor <;> omega)) | (apply Wl.nil) | (apply St.seq) | (apply St.block) | (apply St.region) | (apply St.skip) | (apply Gt.next) | (apply Wl.splitP; exact rfl; exact rfl; all_goals (intros; try (exfalso; omega))) | (apply Wl.splitB; exact rfl; exact rfl; all_goals intros) | (apply St.condP; exact rfl; all_goals (intros; try (exfalso; omega))) | (apply St.condB; exact rfl; all_goals intros))
    apply Wl.storeI (k := 3) (e := 3) (hown := hm1)
    · exact rfl
    · exact rfl
    · exact rfl
    · unfold I64; omega
    · first | exact wrapI64 _ | (unfold I64; omega)
    · omega
    · exact ⟨hcb, trivial⟩
    intro w2 hm2 hu2
    have hU2 := offUpd hU1 hu2
    have hK2 : KeysOk _ tv := hK1.put (t := 944 + i) (v := 0) (by unfold IsKey; omega) (by omega)
    by_cases hin : i < m
    · obtain ⟨bb, o, rfl, x, y, z, e1, e2, e3⟩ := hS i hin
      have hbb := cell_old e1
      simp only at hbb
      repeat' (first | (apply Wl.move; exact rfl; exact rfl) | (apply Wl.lss; exact rfl; exact rfl; exact rfl) | (apply Wl.len; exact rfl; exact rfl) | (apply Wl.nil) | (apply St.seq) | (apply St.region) | (apply Gt.next) | (apply Wl.splitP; exact rfl; exact rfl; all_goals (intros; try (exfalso; omega))) | (apply Wl.splitB; exact rfl; exact rfl; all_goals intros) | (apply St.condP; exact rfl; all_goals (intros; try (exfalso; omega))) | (apply St.condB; exact rfl; all_goals intros))
      refine St.tree (fun w' => Upd (fun k => w0.heap.size ≤ k) w0 w') mixed (fun _ h => ⟨Hp.drew h, hup _ _ _ hU2 (Hp.drew h)⟩) ?_
      refine Mt.pure 0 (by decide +kernel) (by exact rfl) (by exact rfl) (by decide +kernel) (by decide +kernel) ?_
      repeat' (first | (apply Wl.move; exact rfl; exact rfl) | (apply Wl.nilM) | (apply Wl.splitP; exact rfl; exact rfl; all_goals (intros; try (exfalso; omega))) | (apply Wl.splitB; exact rfl; exact rfl; all_goals intros) | (apply St.condP; exact rfl; all_goals (intros; try (exfalso; omega))) | (apply St.condB; exact rfl; all_goals intros))
      apply Mt.back
      refine Mt.pure 1 (by decide +kernel) (by exact rfl) (by exact rfl) (by decide +kernel) (by decide +kernel) ?_
      repeat' (first | (apply Wl.move; exact rfl; exact rfl) | (apply Wl.nilM) | (apply Wl.splitP; exact rfl; exact rfl; all_goals (intros; try (exfalso; omega))) | (apply Wl.splitB; exact rfl; exact rfl; all_goals intros) | (apply St.condP; exact rfl; all_goals (intros; try (exfalso; omega))) | (apply St.condB; exact rfl; all_goals intros))
      apply Mt.back
      refine Mt.pure 2 (by decide +kernel) (by exact rfl) (by exact rfl) (by decide +kernel) (by decide +kernel) ?_
      repeat' (first | (apply Wl.move; exact rfl; exact rfl) | (apply Wl.nilM) | (apply Wl.splitP; exact rfl; exact rfl; all_goals (intros; try (exfalso; omega))) | (apply Wl.splitB; exact rfl; exact rfl; all_goals intros) | (apply St.condP; exact rfl; all_goals (intros; try (exfalso; omega))) | (apply St.condB; exact rfl; all_goals intros))
      apply Mt.back
      refine Mt.pure 3 (by decide +kernel) (by exact rfl) (by exact rfl) (by decide +kernel) (by decide +kernel) ?_
      repeat' (first | (apply Wl.move; exact rfl; exact rfl) | (apply Wl.nilM) | (apply Wl.splitP; exact rfl; exact rfl; all_goals (intros; try (exfalso; omega))) | (apply Wl.splitB; exact rfl; exact rfl; all_goals intros) | (apply St.condP; exact rfl; all_goals (intros; try (exfalso; omega))) | (apply St.condB; exact rfl; all_goals intros))
      apply Mt.back
      refine Mt.pure 4 (by decide +kernel) (by exact rfl) (by exact rfl) (by decide +kernel) (by decide +kernel) ?_
      repeat' (first | (apply Wl.indexAddr; exact rfl; exact rfl; exact rfl; (constructor <;> omega)) | (apply Wl.nilM) | (apply Wl.splitP; exact rfl; exact rfl; all_goals (intros; try (exfalso; omega))) | (apply Wl.splitB; exact rfl; exact rfl; all_goals intros) | (apply St.condP; exact rfl; all_goals (intros; try (exfalso; omega))) | (apply St.condB; exact rfl; all_goals intros))
      apply Mt.back
      refine Mt.pure 5 (by decide +kernel) (by exact rfl) (by exact rfl) (by decide +kernel) (by decide +kernel) ?_
      repeat' (first | (apply Wl.fieldAddr; exact rfl; exact rfl) | (apply Wl.nilM) | (apply Wl.splitP; exact rfl; exact rfl; all_goals (intros; try (exfalso; omega))) | (apply Wl.splitB; exact rfl; exact rfl; all_goals intros) | (apply St.condP; exact rfl; all_goals (intros; try (exfalso; omega))) | (apply St.condB; exact rfl; all_goals intros))
      apply Mt.back
      refine Mt.pure 6 (by decide +kernel) (by exact rfl) (by exact rfl) (by decide +kernel) (by decide +kernel) ?_
      repeat' (first | (apply Wl.loadF; exact rfl; exact rfl; (intro w' h; first | exact h.cell e1 (by simp only; omega) | exact h.cell e2 (by simp only; omega) | exact h.cell e3 (by simp only; omega))) | (apply Wl.nilM) | (apply Wl.splitP; exact rfl; exact rfl; all_goals (intros; try (exfalso; omega))) | (apply Wl.splitB; exact rfl; exact rfl; all_goals intros) | (apply St.condP; exact rfl; all_goals (intros; try (exfalso; omega))) | (apply St.condB; exact rfl; all_goals intros))
      apply Mt.back
      refine Mt.pure 7 (by decide +kernel) (by exact rfl) (by exact rfl) (by decide +kernel) (by decide +kernel) ?_
      repeat' (first | (apply Wl.and; exact rfl; exact rfl; exact rfl) | (apply Wl.nilM) | (apply Wl.splitP; exact rfl; exact rfl; all_goals (intros; try (exfalso; omega))) | (apply Wl.splitB; exact rfl; exact rfl; all_goals intros) | (apply St.condP; exact rfl; all_goals (intros; try (exfalso; omega))) | (apply St.condB; exact rfl; all_goals intros))
      apply Mt.back
      refine Mt.pure 8 (by decide +kernel) (by exact rfl) (by exact rfl) (by decide +kernel) (by decide +kernel) ?_
      repeat' (first | (apply Wl.move; exact rfl; exact rfl) | (apply Wl.nilM) | (apply Wl.splitP; exact rfl; exact rfl; all_goals (intros; try (exfalso; omega))) | (apply Wl.splitB; exact rfl; exact rfl; all_goals intros) | (apply St.condP; exact rfl; all_goals (intros; try (exfalso; omega))) | (apply St.condB; exact rfl; all_goals intros))
      apply Mt.back
      refine Mt.pure 9 (by decide +kernel) (by exact rfl) (by exact rfl) (by decide +kernel) (by decide +kernel) ?_
      repeat' (first | (apply Wl.move; exact rfl; exact rfl) | (apply Wl.nilM) | (apply Wl.splitP; exact rfl; exact rfl; all_goals (intros; try (exfalso; omega))) | (apply Wl.splitB; exact rfl; exact rfl; all_goals intros) | (apply St.condP; exact rfl; all_goals (intros; try (exfalso; omega))) | (apply St.condB; exact rfl; all_goals intros))
      apply Mt.back
      refine Mt.pure 10 (by decide +kernel) (by exact rfl) (by exact rfl) (by decide +kernel) (by decide +kernel) ?_
      repeat' (first | (apply Wl.indexAddr; exact rfl; exact rfl; exact rfl; (constructor <;> omega)) | (apply Wl.nilM) | (apply Wl.splitP; exact rfl; exact rfl; all_goals (intros; try (exfalso; omega))) | (apply Wl.splitB; exact rfl; exact rfl; all_goals intros) | (apply St.condP; exact rfl; all_goals (intros; try (exfalso; omega))) | (apply St.condB; exact rfl; all_goals intros))
      apply Mt.back
      refine Mt.pure 11 (by decide +kernel) (by exact rfl) (by exact rfl) (by decide +kernel) (by decide +kernel) ?_
      repeat' (first | (apply Wl.fieldAddr0; exact rfl; exact rfl) | (apply Wl.nilM) | (apply Wl.splitP; exact rfl; exact rfl; all_goals (intros; try (exfalso; omega))) | (apply Wl.splitB; exact rfl; exact rfl; all_goals intros) | (apply St.condP; exact rfl; all_goals (intros; try (exfalso; omega))) | (apply St.condB; exact rfl; all_goals intros))
      apply Mt.back
      refine Mt.pure 12 (by decide +kernel) (by exact rfl) (by exact rfl) (by decide +kernel) (by decide +kernel) ?_
      repeat' (first | (apply Wl.loadF; exact rfl; exact rfl; (intro w' h; first | exact h.cell e1 (by simp only; omega) | exact h.cell e2 (by simp only; omega) | exact h.cell e3 (by simp only; omega))) | (apply Wl.nilM) | (apply Wl.splitP; exact rfl; exact rfl; all_goals (intros; try (exfalso; omega))) | (apply Wl.splitB; exact rfl; exact rfl; all_goals intros) | (apply St.condP; exact rfl; all_goals (intros; try (exfalso; omega))) | (apply St.condB; exact rfl; all_goals intros))
      apply Mt.back
      refine Mt.pure 13 (by decide +kernel) (by exact rfl) (by exact rfl) (by decide +kernel) (by decide +kernel) ?_
      repeat' (first | (apply Wl.and; exact rfl; exact rfl; exact rfl) | (apply Wl.nilM) | (apply Wl.splitP; exact rfl; exact rfl; all_goals (intros; try (exfalso; omega))) | (apply Wl.splitB; exact rfl; exact rfl; all_goals intros) | (apply St.condP; exact rfl; all_goals (intros; try (exfalso; omega))) | (apply St.condB; exact rfl; all_goals intros))
      apply Mt.back
      refine Mt.pure 14 (by decide +kernel) (by exact rfl) (by exact rfl) (by decide +kernel) (by decide +kernel) ?_
      repeat' (first | (apply Wl.mul; exact rfl; exact rfl; exact rfl) | (apply Wl.nilM) | (apply Wl.splitP; exact rfl; exact rfl; all_goals (intros; try (exfalso; omega))) | (apply Wl.splitB; exact rfl; exact rfl; all_goals intros) | (apply St.condP; exact rfl; all_goals (intros; try (exfalso; omega))) | (apply St.condB; exact rfl; all_goals intros))
      apply Mt.back
      refine Mt.pure 15 (by decide +kernel) (by exact rfl) (by exact rfl) (by decide +kernel) (by decide +kernel) ?_
      repeat' (first | (apply Wl.add; exact rfl; exact rfl; exact rfl) | (apply Wl.nilM) | (apply Wl.splitP; exact rfl; exact rfl; all_goals (intros; try (exfalso; omega))) | (apply Wl.splitB; exact rfl; exact rfl; all_goals intros) | (apply St.condP; exact rfl; all_goals (intros; try (exfalso; omega))) | (apply St.condB; exact rfl; all_goals intros))
      apply Mt.back
      refine Mt.pure 16 (by decide +kernel) (by exact rfl) (by exact rfl) (by decide +kernel) (by decide +kernel) ?_
      repeat' (first | (apply Wl.nilCheck; exact rfl; exact rfl) | (apply Wl.nilM) | (apply Wl.splitP; exact rfl; exact rfl; all_goals (intros; try (exfalso; omega))) | (apply Wl.splitB; exact rfl; exact rfl; all_goals intros) | (apply St.condP; exact rfl; all_goals (intros; try (exfalso; omega))) | (apply St.condB; exact rfl; all_goals intros))
      apply Mt.back
      refine Mt.pure 17 (by decide +kernel) (by exact rfl) (by exact rfl) (by decide +kernel) (by decide +kernel) ?_
      repeat' (first | (apply Wl.fieldAddrZ; exact rfl; exact rfl) | (apply Wl.nilM) | (apply Wl.splitP; exact rfl; exact rfl; all_goals (intros; try (exfalso; omega))) | (apply Wl.splitB; exact rfl; exact rfl; all_goals intros) | (apply St.condP; exact rfl; all_goals (intros; try (exfalso; omega))) | (apply St.condB; exact rfl; all_goals intros))
      apply Mt.back
      refine Mt.pure 18 (by decide +kernel) (by exact rfl) (by exact rfl) (by decide +kernel) (by decide +kernel) ?_
      repeat' (first | (apply Wl.indexArr; exact rfl; exact rfl; exact rfl; (constructor <;> omega)) | (apply Wl.nilM) | (apply Wl.splitP; exact rfl; exact rfl; all_goals (intros; try (exfalso; omega))) | (apply Wl.splitB; exact rfl; exact rfl; all_goals intros) | (apply St.condP; exact rfl; all_goals (intros; try (exfalso; omega))) | (apply St.condB; exact rfl; all_goals intros))
      apply Mt.back
      refine Mt.eff1 (i := 19) (by decide +kernel) (by exact rfl) ?_
      apply Wl.store2
      · exact rfl
      · exact rfl
      · intro cs'; (repeat (first | apply HSet.here | apply HSet.there))
      · exact hk'
      · omega
      · omega
      · exact mkdI (by omega)
      intro cs3 hk3
      repeat' (first | (apply Wl.nil) | (apply Wl.splitP; exact rfl; exact rfl; all_goals (intros; try (exfalso; omega))) | (apply Wl.splitB; exact rfl; exact rfl; all_goals intros) | (apply St.condP; exact rfl; all_goals (intros; try (exfalso; omega))) | (apply St.condB; exact rfl; all_goals intros))
      refine Mt.backE (fun _ h => hup _ _ _ hU2 h) ?_
      refine Mt.toGt (by decide +kernel) ?_
      repeat' (first | (apply Gt.next) | (apply Wl.splitP; exact rfl; exact rfl; all_goals (intros; try (exfalso; omega))) | (apply Wl.splitB; exact rfl; exact rfl; all_goals intros) | (apply St.condP; exact rfl; all_goals (intros; try (exfalso; omega))) | (apply St.condB; exact rfl; all_goals intros))
      refine St.tree (fun w' => Upd (fun k => w0.heap.size ≤ k) w0 w' ∧ w'.heap[c]? = some (.cells (.int .i64 md :: .map (some b) :: cs3).toArray 89 (0, 0))) mixed (fun _ h => ⟨Hp.drew h, hup _ _ _ hU2 (Hp.drew h), (Hp.drew h).own.1⟩) ?_
      refine Mt.pure 0 (by decide +kernel) (by exact rfl) (by exact rfl) (by decide +kernel) (by decide +kernel) ?_
      repeat' (first | (apply Wl.move; exact rfl; exact rfl) | (apply Wl.nilM) | (apply Wl.splitP; exact rfl; exact rfl; all_goals (intros; try (exfalso; omega))) | (apply Wl.splitB; exact rfl; exact rfl; all_goals intros) | (apply St.condP; exact rfl; all_goals (intros; try (exfalso; omega))) | (apply St.condB; exact rfl; all_goals intros))
      apply Mt.back
      refine Mt.pure 1 (by decide +kernel) (by exact rfl) (by exact rfl) (by decide +kernel) (by decide +kernel) ?_
      repeat' (first | (apply Wl.nilCheck; exact rfl; exact rfl) | (apply Wl.nilM) | (apply Wl.splitP; exact rfl; exact rfl; all_goals (intros; try (exfalso; omega))) | (apply Wl.splitB; exact rfl; exact rfl; all_goals intros) | (apply St.condP; exact rfl; all_goals (intros; try (exfalso; omega))) | (apply St.condB; exact rfl; all_goals intros))
      apply Mt.back
      refine Mt.pure 2 (by decide +kernel) (by exact rfl) (by exact rfl) (by decide +kernel) (by decide +kernel) ?_
      repeat' (first | (apply Wl.fieldAddrZ; exact rfl; exact rfl) | (apply Wl.nilM) | (apply Wl.splitP; exact rfl; exact rfl; all_goals (intros; try (exfalso; omega))) | (apply Wl.splitB; exact rfl; exact rfl; all_goals intros) | (apply St.condP; exact rfl; all_goals (intros; try (exfalso; omega))) | (apply St.condB; exact rfl; all_goals intros))
      apply Mt.back
      refine Mt.pure 3 (by decide +kernel) (by exact rfl) (by exact rfl) (by decide +kernel) (by decide +kernel) ?_
      repeat' (first | (apply Wl.loadF; exact rfl; exact rfl; (intro w' h; first | exact cell_of h.2 rfl | exact h.1.cell e3 (by simp only; omega))) | (apply Wl.nilM) | (apply Wl.splitP; exact rfl; exact rfl; all_goals (intros; try (exfalso; omega))) | (apply Wl.splitB; exact rfl; exact rfl; all_goals intros) | (apply St.condP; exact rfl; all_goals (intros; try (exfalso; omega))) | (apply St.condB; exact rfl; all_goals intros))
      apply Mt.back
      refine Mt.pure 4 (by decide +kernel) (by exact rfl) (by exact rfl) (by decide +kernel) (by decide +kernel) ?_
      repeat' (first | (apply Wl.move; exact rfl; exact rfl) | (apply Wl.nilM) | (apply Wl.splitP; exact rfl; exact rfl; all_goals (intros; try (exfalso; omega))) | (apply Wl.splitB; exact rfl; exact rfl; all_goals intros) | (apply St.condP; exact rfl; all_goals (intros; try (exfalso; omega))) | (apply St.condB; exact rfl; all_goals intros))
      apply Mt.back
      refine Mt.pure 5 (by decide +kernel) (by exact rfl) (by exact rfl) (by decide +kernel) (by decide +kernel) ?_
      repeat' (first | (apply Wl.addI; exact rfl; exact rfl; exact rfl; (constructor <;> omega)) | (apply Wl.nilM) | (apply Wl.splitP; exact rfl; exact rfl; all_goals (intros; try (exfalso; omega))) | (apply Wl.splitB; exact rfl; exact rfl; all_goals intros) | (apply St.condP; exact rfl; all_goals (intros; try (exfalso; omega))) | (apply St.condB; exact rfl; all_goals intros))
      apply Mt.back
      refine Mt.pure 6 (by decide +kernel) (by exact rfl) (by exact rfl) (by decide +kernel) (by decide +kernel) ?_
      repeat' (first | (apply Wl.move; exact rfl; exact rfl) | (apply Wl.nilM) | (apply Wl.splitP; exact rfl; exact rfl; all_goals (intros; try (exfalso; omega))) | (apply Wl.splitB; exact rfl; exact rfl; all_goals intros) | (apply St.condP; exact rfl; all_goals (intros; try (exfalso; omega))) | (apply St.condB; exact rfl; all_goals intros))
      apply Mt.back
      refine Mt.pure 7 (by decide +kernel) (by exact rfl) (by exact rfl) (by decide +kernel) (by decide +kernel) ?_
      repeat' (first | (apply Wl.move; exact rfl; exact rfl) | (apply Wl.nilM) | (apply Wl.splitP; exact rfl; exact rfl; all_goals (intros; try (exfalso; omega))) | (apply Wl.splitB; exact rfl; exact rfl; all_goals intros) | (apply St.condP; exact rfl; all_goals (intros; try (exfalso; omega))) | (apply St.condB; exact rfl; all_goals intros))
      apply Mt.back
      refine Mt.pure 8 (by decide +kernel) (by exact rfl) (by exact rfl) (by decide +kernel) (by decide +kernel) ?_
      repeat' (first | (apply Wl.indexAddr; exact rfl; exact rfl; exact rfl; (constructor <;> omega)) | (apply Wl.nilM) | (apply Wl.splitP; exact rfl; exact rfl; all_goals (intros; try (exfalso; omega))) | (apply Wl.splitB; exact rfl; exact rfl; all_goals intros) | (apply St.condP; exact rfl; all_goals (intros; try (exfalso; omega))) | (apply St.condB; exact rfl; all_goals intros))
      apply Mt.back
      refine Mt.pure 9 (by decide +kernel) (by exact rfl) (by exact rfl) (by decide +kernel) (by decide +kernel) ?_
      repeat' (first | (apply Wl.fieldAddr; exact rfl; exact rfl) | (apply Wl.nilM) | (apply Wl.splitP; exact rfl; exact rfl; all_goals (intros; try (exfalso; omega))) | (apply Wl.splitB; exact rfl; exact rfl; all_goals intros) | (apply St.condP; exact rfl; all_goals (intros; try (exfalso; omega))) | (apply St.condB; exact rfl; all_goals intros))
      apply Mt.back
      refine Mt.pure 10 (by decide +kernel) (by exact rfl) (by exact rfl) (by decide +kernel) (by decide +kernel) ?_
      repeat' (first | (apply Wl.loadF; exact rfl; exact rfl; (intro w' h; first | exact cell_of h.2 rfl | exact h.1.cell e3 (by simp only; omega))) | (apply Wl.nilM) | (apply Wl.splitP; exact rfl; exact rfl; all_goals (intros; try (exfalso; omega))) | (apply Wl.splitB; exact rfl; exact rfl; all_goals intros) | (apply St.condP; exact rfl; all_goals (intros; try (exfalso; omega))) | (apply St.condB; exact rfl; all_goals intros))
      apply Mt.back
      refine Mt.pure 11 (by decide +kernel) (by exact rfl) (by exact rfl) (by decide +kernel) (by decide +kernel) ?_
      repeat' (first | (apply Wl.convI; exact rfl; exact rfl) | (apply Wl.nilM) | (apply Wl.splitP; exact rfl; exact rfl; all_goals (intros; try (exfalso; omega))) | (apply Wl.splitB; exact rfl; exact rfl; all_goals intros) | (apply St.condP; exact rfl; all_goals (intros; try (exfalso; omega))) | (apply St.condB; exact rfl; all_goals intros))
      apply Mt.back
      refine Mt.eff1 (i := 12) (by decide +kernel) (by exact rfl) ?_
      apply Wl.storeI (k := 3) (e := 3) (hown := hm2)
      · exact rfl
      · exact rfl
      · exact rfl
      · unfold I64; omega
      · first | exact wrapI64 _ | (unfold I64; omega)
      · omega
      · exact ⟨hcb, trivial⟩
      intro w3 hm3 hu3
      have hU3 := offUpd hU2 hu3
      repeat' (first | (apply Wl.nil) | (apply Wl.splitP; exact rfl; exact rfl; all_goals (intros; try (exfalso; omega))) | (apply Wl.splitB; exact rfl; exact rfl; all_goals intros) | (apply St.condP; exact rfl; all_goals (intros; try (exfalso; omega))) | (apply St.condB; exact rfl; all_goals intros))
      refine Mt.backE (fun _ h => ⟨hup _ _ _ hU3 h, h.own.1⟩) ?_
      refine Mt.toGt (by decide +kernel) ?_
      repeat' (first | (apply Wl.move; exact rfl; exact rfl) | (apply Wl.assign; exact rfl; exact rfl) | (apply Wl.addI; exact rfl; exact rfl; exact rfl; (constructor <;> omega)) | (apply Wl.nil) | (apply St.region) | (apply Gt.next) | (apply Gt.inNormal) | (apply Wl.splitP; exact rfl; exact rfl; all_goals (intros; try (exfalso; omega))) | (apply Wl.splitB; exact rfl; exact rfl; all_goals intros) | (apply St.condP; exact rfl; all_goals (intros; try (exfalso; omega))) | (apply St.condB; exact rfl; all_goals intros))
      apply Gt.round (i + 1, cs3, w3)
      rotate_left
      · simp only; omega
      · (repeat (first | exact Sub.nil | apply Sub.cons rfl))
      · exact fun _ h => h
      · exact ⟨by simp only; omega, hk3, ⟨_, _, hm3, by simp only; omega, hK2.put (by unfold IsKey; omega) (by omega)⟩, hU3⟩
    · repeat' (first | (apply Wl.move; exact rfl; exact rfl) | (apply Wl.assign; exact rfl; exact rfl) | (apply Wl.lss; exact rfl; exact rfl; exact rfl) | (apply Wl.addI; exact rfl; exact rfl; exact rfl; (constructor <;> omega)) | (apply Wl.len; exact rfl; exact rfl) | (apply Wl.nil) | (apply St.seq) | (apply St.region) | (apply St.skip) | (apply Gt.next) | (apply Gt.inNormal) | (apply Wl.splitP; exact rfl; exact rfl; all_goals (intros; try (exfalso; omega))) | (apply Wl.splitB; exact rfl; exact rfl; all_goals intros) | (apply St.condP; exact rfl; all_goals (intros; try (exfalso; omega))) | (apply St.condB; exact rfl; all_goals intros))
      apply Gt.round (i + 1, cs', w2)
      rotate_left
      · simp only; omega
      · (repeat (first | exact Sub.nil | apply Sub.cons rfl))
      · exact fun _ h => h
      · exact ⟨by simp only; omega, hk', ⟨_, _, hm2, by simp only; omega, hK2⟩, hU2⟩
  · repeat' (first | (apply Wl.move; exact rfl; exact rfl) | (apply Wl.lss; exact rfl; exact rfl; exact rfl) | (apply Wl.nil) | (apply St.seq) | (apply St.region) | (apply St.exit) | (apply Gt.next) | (apply Gt.thenExit) | (apply Gt.inExit) | (apply Gt.out0n; exact rfl; intro w' hp) | (apply Wl.splitP; exact rfl; exact rfl; all_goals (intros; try (exfalso; omega))) | (apply Wl.splitB; exact rfl; exact rfl; all_goals intros) | (apply St.condP; exact rfl; all_goals (intros; try (exfalso; omega))) | (apply St.condB; exact rfl; all_goals intros))
    exact ⟨rfl, MM.leaf hk1 hm1 hcb hU1 (by omega) hK1 hp⟩
end Go.Proofs.YtcefkbnachnciaaDoor
end
section
namespace Go.Proofs.YtcefkbnachnciaaDoor
open Go.RowKit Go.Pt
def mzero : List Value := [.int .i64 0, .int .i64 0, .int .i64 0, .int .i64 0, .int .i64 0, .int .i64 0, .int .i64 0, .int .i64 0, .int .i64 0, .int .i64 0, .int .i64 0, .int .i64 0, .int .i64 0, .int .i64 0, .int .i64 0, .int .i64 0, .int .u64 0, .int .u64 0]
theorem mzero_kd : Kd mkd 18 mzero := by
  have : mzero = (List.range 18).map fun i => Value.int (mkd i) ((fun _ => 0 : Nat → Int) i) := by rfl
  rw [this]; exact Kd.mk'
def keys15 : List Int := [768, 772, 773, 832, 833, 834, 835, 836]
set_option maxHeartbeats 4000000 in
theorem mnew (w : World) : Calls Tryd.prog 29 #[] w fun e w' => ∃ c b, e = .returned (.pointer (some ⟨c, 0, none⟩)) ∧ MM w' c b 24 0 ∧ w.heap.size ≤ c ∧ w.heap.size ≤ b ∧ Upd (fun k => w.heap.size ≤ k) w w' := by
  refine enter (args := []) (Γ := []) Tryd.func29 Tryd.ntmps29 rfl (of_decide_eq_true rfl) .nil ?_
  repeat' (first | (apply Wl.assign; exact rfl; exact rfl) | (apply Wl.nil) | (apply St.seq) | (apply St.region) | (apply Gt.next) | (apply Wl.splitP; exact rfl; exact rfl; all_goals (intros; try (exfalso; omega))) | (apply Wl.splitB; exact rfl; exact rfl; all_goals intros) | (apply St.condP; exact rfl; all_goals (intros; try (exfalso; omega))) | (apply St.condB; exact rfl; all_goals intros))
  apply Wl.makeMapI (k := 3) (e := 3)
  · exact rfl
  intro b wm hbm hmm hum hoff
  repeat' (first | (apply Wl.assign; exact rfl; exact rfl) | (apply Wl.buildS; exact rfl; (repeat (first | exact Parts.nil | apply Parts.cons rfl)); (repeat (first | apply Fills.nil | (apply Fills.one; exact rfl; exact rfl; (repeat (first | apply LSet.z | apply LSet.s))) | (apply Fills.agg; exact rfl; exact rfl; (repeat (first | apply LPut.s | apply LPut.z | apply LOver.nil | apply LOver.cons)))))) | (apply Wl.lit; exact rfl; (repeat (first | exact Parts.nil | apply Parts.cons rfl)); exact rfl; exact rfl; (repeat (first | apply CatP.nil | (apply CatP.one; exact rfl; exact rfl) | (apply CatP.agg; exact rfl) | apply LApp.nil | apply LApp.cons)); intro c hc ho) | (apply Wl.boxA; exact rfl; exact rfl; intro c hc ho) | (apply Wl.nil) | (apply St.seq) | (apply St.block) | (apply St.region) | (apply Gt.next) | (apply Wl.splitP; exact rfl; exact rfl; all_goals (intros; try (exfalso; omega))) | (apply Wl.splitB; exact rfl; exact rfl; all_goals intros) | (apply St.condP; exact rfl; all_goals (intros; try (exfalso; omega))) | (apply St.condB; exact rfl; all_goals intros))
  rename_i cf hcf hof
  have hb := hmm.lt
  have hcfb : cf ≠ b := by omega
  have hcb : c ≠ b := by omega
  have hcc : c ≠ cf := fun e => ho.1 e.symm
  have hmax : 40 < maxLen := by unfold maxLen; omega
  refine St.loop (σ := Nat × World) (fun τ => τ.1 ≤ 8 ∧ (∃ lk, MapI Tryd.prog 3 3 τ.2 b τ.1 lk ∧ ∀ t, lk t = if t ∈ keys15.take τ.1 then some 0 else none) ∧ Upd (fun k => w.heap.size ≤ k) w τ.2)
    (fun τ => [(3, .int .i64 τ.1), (2, .slice (some ⟨c, 0, none⟩) 8 8), (1, .pointer (some ⟨cf, 0, none⟩)), (0, .pointer none)])
    (fun τ => Hp τ.2 [⟨c, keys15.map (Value.int .i64), 3⟩, ⟨cf, .int .i64 3 :: .map (some b) :: mzero, 89⟩]) (fun τ => 8 - τ.1) (0, wm) ⟨by simp, ⟨_, hmm, fun _ => rfl⟩, hum.mono fun _ _ y => (y trivial).elim⟩ (by (repeat (first | exact Sub.nil | apply Sub.cons rfl))) (fun _ h => h) ?_
  rintro ⟨i, w1⟩ ⟨hi, ⟨lk, hm, hlk⟩, hU⟩
  simp only at hi hm hlk hU ⊢
  by_cases hlt : i < 8
  · obtain ⟨k, hk⟩ : ∃ k, keys15[i]? = some k := ⟨_, List.getElem?_eq_getElem hlt⟩
    have hki : (keys15.map (Value.int .i64))[0 + (i : Int).toNat]? = some (.int .i64 k) := by rw [Nat.zero_add, Int.toNat_natCast, List.getElem?_map, hk]; rfl
    have hkr : k ∈ keys15 := List.mem_of_getElem? hk
    have hkI : I64 k := by simp only [keys15, List.mem_cons, List.not_mem_nil, or_false] at hkr; unfold I64; omega
    repeat' (first | (apply Wl.move; exact rfl; exact rfl) | (apply Wl.lss; exact rfl; exact rfl; exact rfl) | (apply Wl.len; exact rfl; exact rfl) | (apply Wl.nil) | (apply St.seq) | (apply St.block) | (apply St.region) | (apply St.skip) | (apply Gt.next) | (apply Wl.splitP; exact rfl; exact rfl; all_goals (intros; try (exfalso; omega))) | (apply Wl.splitB; exact rfl; exact rfl; all_goals intros) | (apply St.condP; exact rfl; all_goals (intros; try (exfalso; omega))) | (apply St.condB; exact rfl; all_goals intros))
    refine St.tree (fun w' => w'.heap[c]? = some (.cells (keys15.map (Value.int .i64)).toArray 3 (0, 0)) ∧ w'.heap[cf]? = some (.cells (.int .i64 3 :: .map (some b) :: mzero).toArray 89 (0, 0))) mixed (fun _ h => ⟨Hp.drew h, (Hp.drew h).own.1, (Hp.drew h).own.2.1⟩) ?_
    refine Mt.pure 0 (by decide +kernel) (by exact rfl) (by exact rfl) (by decide +kernel) (by decide +kernel) ?_
    repeat' (first | (apply Wl.move; exact rfl; exact rfl) | (apply Wl.nilM) | (apply Wl.splitP; exact rfl; exact rfl; all_goals (intros; try (exfalso; omega))) | (apply Wl.splitB; exact rfl; exact rfl; all_goals intros) | (apply St.condP; exact rfl; all_goals (intros; try (exfalso; omega))) | (apply St.condB; exact rfl; all_goals intros))
    apply Mt.back
    refine Mt.pure 1 (by decide +kernel) (by exact rfl) (by exact rfl) (by decide +kernel) (by decide +kernel) ?_
    repeat' (first | (apply Wl.nilCheck; exact rfl; exact rfl) | (apply Wl.nilM) | (apply Wl.splitP; exact rfl; exact rfl; all_goals (intros; try (exfalso; omega))) | (apply Wl.splitB; exact rfl; exact rfl; all_goals intros) | (apply St.condP; exact rfl; all_goals (intros; try (exfalso; omega))) | (apply St.condB; exact rfl; all_goals intros))
    apply Mt.back
    refine Mt.pure 2 (by decide +kernel) (by exact rfl) (by exact rfl) (by decide +kernel) (by decide +kernel) ?_
    repeat' (first | (apply Wl.fieldAddrZ; exact rfl; exact rfl) | (apply Wl.nilM) | (apply Wl.splitP; exact rfl; exact rfl; all_goals (intros; try (exfalso; omega))) | (apply Wl.splitB; exact rfl; exact rfl; all_goals intros) | (apply St.condP; exact rfl; all_goals (intros; try (exfalso; omega))) | (apply St.condB; exact rfl; all_goals intros))
    apply Mt.back
    refine Mt.pure 3 (by decide +kernel) (by exact rfl) (by exact rfl) (by decide +kernel) (by decide +kernel) ?_
    repeat' (first | (apply Wl.loadF; exact rfl; exact rfl; (intro w' h; first | exact cell_of h.1 hki | exact cell_of h.2 rfl)) | (apply Wl.nilM) | (apply Wl.splitP; exact rfl; exact rfl; all_goals (intros; try (exfalso; omega))) | (apply Wl.splitB; exact rfl; exact rfl; all_goals intros) | (apply St.condP; exact rfl; all_goals (intros; try (exfalso; omega))) | (apply St.condB; exact rfl; all_goals intros))
    apply Mt.back
    refine Mt.pure 4 (by decide +kernel) (by exact rfl) (by exact rfl) (by decide +kernel) (by decide +kernel) ?_
    repeat' (first | (apply Wl.move; exact rfl; exact rfl) | (apply Wl.nilM) | (apply Wl.splitP; exact rfl; exact rfl; all_goals (intros; try (exfalso; omega))) | (apply Wl.splitB; exact rfl; exact rfl; all_goals intros) | (apply St.condP; exact rfl; all_goals (intros; try (exfalso; omega))) | (apply St.condB; exact rfl; all_goals intros))
    apply Mt.back
    refine Mt.pure 5 (by decide +kernel) (by exact rfl) (by exact rfl) (by decide +kernel) (by decide +kernel) ?_
    repeat' (first | (apply Wl.move; exact rfl; exact rfl) | (apply Wl.nilM) | (apply Wl.splitP; exact rfl; exact rfl; all_goals (intros; try (exfalso; omega))) | (apply Wl.splitB; exact rfl; exact rfl; all_goals intros) | (apply St.condP; exact rfl; all_goals (intros; try (exfalso; omega))) | (apply St.condB; exact rfl; all_goals intros))
    apply Mt.back
    refine Mt.pure 6 (by decide +kernel) (by exact rfl) (by exact rfl) (by decide +kernel) (by decide +kernel) ?_
    repeat' (first | (apply Wl.indexAddr1; exact rfl; exact rfl; exact rfl; (constructor <;> omega)) | (apply Wl.nilM) | (apply Wl.splitP; exact rfl; exact rfl; all_goals (intros; try (exfalso; omega))) | (apply Wl.splitB; exact rfl; exact rfl; all_goals intros) | (apply St.condP; exact rfl; all_goals (intros; try (exfalso; omega))) | (apply St.condB; exact rfl; all_goals intros))
    apply Mt.back
    refine Mt.pure 7 (by decide +kernel) (by exact rfl) (by exact rfl) (by decide +kernel) (by decide +kernel) ?_
    repeat' (first | (apply Wl.loadF; exact rfl; exact rfl; (intro w' h; first | exact cell_of h.1 hki | exact cell_of h.2 rfl)) | (apply Wl.nilM) | (apply Wl.splitP; exact rfl; exact rfl; all_goals (intros; try (exfalso; omega))) | (apply Wl.splitB; exact rfl; exact rfl; all_goals intros) | (apply St.condP; exact rfl; all_goals (intros; try (exfalso; omega))) | (apply St.condB; exact rfl; all_goals intros))
    apply Mt.back
    refine Mt.eff1 (i := 8) (by decide +kernel) (by exact rfl) ?_
    apply Wl.storeI (k := 3) (e := 3) (hown := hm)
    · exact rfl
    · exact rfl
    · exact rfl
    · exact hkI
    · unfold I64; omega
    · omega
    · exact ⟨hcb, hcfb, trivial⟩
    intro w2 hm2 hu2
    have hU2 : Upd (fun k => w.heap.size ≤ k) w w2 := hU.comp hu2 fun j _ hs => hs.elim id fun hs => hs.elim (fun e => by omega) fun y => Classical.byContradiction fun z => y ⟨fun e => by simp only at e; omega, fun e => by simp only at e; omega, trivial⟩
    repeat' (first | (apply Wl.nil) | (apply Wl.splitP; exact rfl; exact rfl; all_goals (intros; try (exfalso; omega))) | (apply Wl.splitB; exact rfl; exact rfl; all_goals intros) | (apply St.condP; exact rfl; all_goals (intros; try (exfalso; omega))) | (apply St.condB; exact rfl; all_goals intros))
    refine Mt.backE (fun _ h => ⟨h.own.1, h.own.2.1⟩) ?_
    refine Mt.toGt (by decide +kernel) ?_
    repeat' (first | (apply Wl.move; exact rfl; exact rfl) | (apply Wl.assign; exact rfl; exact rfl) | (apply Wl.addI; exact rfl; exact rfl; exact rfl; (constructor <;> omega)) | (apply Wl.nil) | (apply St.region) | (apply Gt.next) | (apply Gt.inNormal) | (apply Wl.splitP; exact rfl; exact rfl; all_goals (intros; try (exfalso; omega))) | (apply Wl.splitB; exact rfl; exact rfl; all_goals intros) | (apply St.condP; exact rfl; all_goals (intros; try (exfalso; omega))) | (apply St.condB; exact rfl; all_goals intros))
    apply Gt.round (i + 1, w2)
    rotate_left
    · simp only; omega
    · (repeat (first | exact Sub.nil | apply Sub.cons rfl))
    · exact fun _ h => h
    · refine ⟨by simp only; omega, ⟨_, hm2, fun t => ?_⟩, hU2⟩
      simp only
      rw [List.take_add_one, hk, hlk t]
      by_cases e : t = k
      · subst e; simp
      · simp [e]
  · have hi8 : i = 8 := by omega
    subst hi8
    repeat' (first | (apply Wl.move; exact rfl; exact rfl) | (apply Wl.assign; exact rfl; exact rfl) | (apply Wl.lss; exact rfl; exact rfl; exact rfl) | (apply Wl.len; exact rfl; exact rfl) | (apply Wl.nil) | (apply St.seq) | (apply St.block) | (apply St.region) | (apply St.condF; exact rfl; (first | with_reducible rfl | with_reducible assumption | decide)) | (apply St.exit) | (apply Gt.next) | (apply Gt.thenExit) | (apply Gt.inExit) | (apply Wl.splitP; exact rfl; exact rfl; all_goals (intros; try (exfalso; omega))) | (apply Wl.splitB; exact rfl; exact rfl; all_goals intros) | (apply St.condP; exact rfl; all_goals (intros; try (exfalso; omega))) | (apply St.condB; exact rfl; all_goals intros))
    refine St.loop (σ := Nat × World) (fun τ => τ.1 ≤ 16 ∧ (∃ lk, MapI Tryd.prog 3 3 τ.2 b (8 + τ.1) lk ∧ ∀ t, lk t = if t ∈ keys15 ∨ (944 ≤ t ∧ t < 944 + (τ.1 : Int)) then some 0 else none) ∧ Upd (fun k => w.heap.size ≤ k) w τ.2)
      (fun τ => [(4, .int .i64 τ.1), (1, .pointer (some ⟨cf, 0, none⟩)), (0, .pointer none)])
      (fun τ => Hp τ.2 [⟨c, keys15.map (Value.int .i64), 3⟩, ⟨cf, .int .i64 3 :: .map (some b) :: mzero, 89⟩]) (fun τ => 16 - τ.1) (0, w1)
      ⟨by simp, ⟨_, hm, fun t => by rw [hlk t, show keys15.take 8 = keys15 from rfl]; congr 1; simp only [eq_iff_iff]; constructor <;> (intro h; first | exact .inl h | (rcases h with h | h; exact h; exact absurd h (by omega)))⟩, hU⟩ (by (repeat (first | exact Sub.nil | apply Sub.cons rfl))) (fun _ h => h) ?_
    rintro ⟨i, w1⟩ ⟨hi, ⟨lk, hm, hlk⟩, hU⟩
    simp only at hi hm hlk hU ⊢
    by_cases hlt : i < 16
    · repeat' (first | (apply Wl.move; exact rfl; exact rfl) | (apply Wl.nilCheck; exact rfl; exact rfl) | (apply Wl.fieldAddrZ; exact rfl; exact rfl) | (apply Wl.loadH; exact rfl; exact rfl; (repeat (first | exact List.Mem.head _ | apply List.Mem.tail)); exact rfl) | (apply Wl.lss; exact rfl; exact rfl; exact rfl) | (apply Wl.addI; exact rfl; exact rfl; exact rfl; (constructor <;> omega)) | (apply Wl.nil) | (apply St.seq) | (apply St.block) | (apply St.region) | (apply St.skip) | (apply Gt.next) | (apply Wl.splitP; exact rfl; exact rfl; all_goals (intros; try (exfalso; omega))) | (apply Wl.splitB; exact rfl; exact rfl; all_goals intros) | (apply St.condP; exact rfl; all_goals (intros; try (exfalso; omega))) | (apply St.condB; exact rfl; all_goals intros))
      apply Wl.storeI (k := 3) (e := 3) (hown := hm)
      · exact rfl
      · exact rfl
      · exact rfl
      · unfold I64; omega
      · unfold I64; omega
      · omega
      · exact ⟨hcb, hcfb, trivial⟩
      intro w2 hm2 hu2
      have hU2 : Upd (fun k => w.heap.size ≤ k) w w2 := hU.comp hu2 fun j _ hs => hs.elim id fun hs => hs.elim (fun e => by omega) fun y => Classical.byContradiction fun z => y ⟨fun e => by simp only at e; omega, fun e => by simp only at e; omega, trivial⟩
      repeat' (first | (apply Wl.move; exact rfl; exact rfl) | (apply Wl.assign; exact rfl; exact rfl) | (apply Wl.addI; exact rfl; exact rfl; exact rfl; (constructor <;> omega)) | (apply Wl.nil) | (apply St.region) | (apply Gt.next) | (apply Gt.inNormal) | (apply Wl.splitP; exact rfl; exact rfl; all_goals (intros; try (exfalso; omega))) | (apply Wl.splitB; exact rfl; exact rfl; all_goals intros) | (apply St.condP; exact rfl; all_goals (intros; try (exfalso; omega))) | (apply St.condB; exact rfl; all_goals intros))
      apply Gt.round (i + 1, w2)
      rotate_left
      · simp only; omega
      · (repeat (first | exact Sub.nil | apply Sub.cons rfl))
      · exact fun _ h => h
      · refine ⟨by simp only; omega, ⟨_, hm2, fun t => ?_⟩, hU2⟩
        simp only
        rw [hlk t]
        by_cases e : t = 944 + i
        · rw [if_pos e, if_pos (.inr (by omega))]
        · rw [if_neg e]
          congr 1
          simp only [eq_iff_iff]
          constructor
          · rintro (h | h)
            · exact .inl h
            · exact .inr (by omega)
          · rintro (h | h)
            · exact .inl h
            · exact .inr (by omega)
    · have hi16 : i = 16 := by omega
      subst hi16
      repeat' (first | (apply Wl.move; exact rfl; exact rfl) | (apply Wl.assign; exact rfl; exact rfl) | (apply Wl.lss; exact rfl; exact rfl; exact rfl) | (apply Wl.nil) | (apply St.seq) | (apply St.region) | (apply St.condF; exact rfl; (first | with_reducible rfl | with_reducible assumption | decide)) | (apply St.ret) | (apply St.exit) | (apply Gt.next) | (apply Gt.thenExit) | (apply Gt.inExit) | (apply Gt.out1; exact rfl; exact rfl; intro w' hp) | (apply Wl.splitP; exact rfl; exact rfl; all_goals (intros; try (exfalso; omega))) | (apply Wl.splitB; exact rfl; exact rfl; all_goals intros) | (apply St.condP; exact rfl; all_goals (intros; try (exfalso; omega))) | (apply St.condB; exact rfl; all_goals intros))
      have hKO : KeysOk lk 0 := by
        refine ⟨fun t => ?_, ?_⟩
        · rw [hlk t]
          by_cases h : IsKey t
          · rw [if_pos (by unfold IsKey at h; simp only [keys15, List.mem_cons, List.not_mem_nil, or_false]; omega), decide_eq_true h]; rfl
          · rw [if_neg (by unfold IsKey at h; simp only [keys15, List.mem_cons, List.not_mem_nil, or_false]; omega), decide_eq_false h]; rfl
        · rw [hlk, if_pos (.inl (by decide))]
      exact ⟨cf, b, rfl, ⟨3, mzero, 24, lk, mzero_kd, hp.own.2.1, hm.upd hp.upd fun y => y ⟨hcb, hcfb, trivial⟩, Nat.le_refl _, hKO⟩, by omega, hbm,
        hU.comp hp.upd fun j _ hs => hs.elim id fun y => Classical.byContradiction fun z => y ⟨fun e => by simp only at e; omega, fun e => by simp only at e; omega, trivial⟩⟩
end Go.Proofs.YtcefkbnachnciaaDoor
end
section
namespace Go.Pt
open Go.RowKit
def memC (f : Nat → Int) : List Value := (List.range 65536).map fun j => Value.int .u8 (f j)
def updI (f : Nat → Int) (i : Nat) (x : Int) : Nat → Int := fun j => if j = i then x else f j
theorem memC_len (f : Nat → Int) : (memC f).length = 65536 := by unfold memC; rw [List.length_map, List.length_range]
theorem memC_get {i : Nat} {f : Nat → Int} (h : i < 65536) : (memC f)[i]? = some (.int .u8 (f i)) := by
  unfold memC
  rw [List.getElem?_map, List.getElem?_range h]; rfl
theorem memC_set {i : Nat} {x : Int} {f : Nat → Int} (h : i < 65536) : LSet (memC f) i (.int .u8 x) (memC (updI f i x)) := by
  have e : memC (updI f i x) = (memC f).set i (.int .u8 x) := by
    apply List.ext_getElem?
    intro j
    rw [List.getElem?_set]
    by_cases hj : j < 65536
    · rw [memC_get hj]
      by_cases e : i = j
      · subst e; rw [if_pos rfl, if_pos (by rw [memC_len]; exact h)]; simp [updI]
      · rw [if_neg e, memC_get hj]; rw [updI, if_neg (fun h => e h.symm)]
    · rw [List.getElem?_eq_none (by rw [memC_len]; omega)]
      rw [if_neg (by omega), List.getElem?_eq_none (by rw [memC_len]; omega)]
  rw [e]
  exact LSet.of (by rw [memC_len]; exact h)
def isZ (v : Value) : Bool := match v with
  | .int .u8 n => n == 0
  | _ => false
theorem isZ_all {l : List Value} (h : l.all isZ = true) (hl : l.length = 65536) : l = memC fun _ => 0 := by
  apply List.ext_getElem?
  intro j
  by_cases hj : j < 65536
  · rw [memC_get hj]
    rw [List.all_eq_true] at h
    have hm := h l[j] (List.getElem_mem _)
    rw [List.getElem?_eq_getElem (by omega)]
    congr 1
    revert hm
    generalize l[j] = v
    intro hm
    unfold isZ at hm
    split at hm
    · simp only [beq_iff_eq] at hm; rw [hm]
    · cases hm
  · rw [List.getElem?_eq_none (by omega), List.getElem?_eq_none (by rw [memC_len]; omega)]
section
variable {P : Program} {md : Md} {N : Nat} {ops : Array Oper} {rest : List Oper} {Γ : Env} {Q : Exit → Act → World → Prop} {d : Nat} {ty : TypeId} {pos : String} {af : Array Edge} {t : TypeId} {x y : Operand}
theorem Wl.loadM {w0 : World} {H : List Blk} {bt : TypeId} [TyC P t] {c j : Nat} {f : Nat → Int} (hd : Nat.blt d N = true) (hx : ev Γ x = some (.pointer (some ⟨c, j, none⟩))) (hm : (⟨c, memC f, bt⟩ : Blk) ∈ H) (hj : j < 65536)
    (h : Wl rest P md ops N ((d, .int .u8 (f j)) :: Γ) (Hp w0 H) Q) : Wl (⟨some d, .load t x, ty, pos, af, none⟩ :: rest) P md ops N Γ (Hp w0 H) Q := Wl.loadH hd hx hm (memC_get hj) h
theorem Wl.storeM {w0 : World} {H H' : List Blk} {bt by_ : TypeId} [TyS P t 1 by_] {c j : Nat} {v : Int} {f : Nat → Int} (hx : ev Γ x = some (.pointer (some ⟨c, j, none⟩))) (hy : ev Γ y = some (.int .u8 v)) (hs : HSet c (memC f) (memC (updI f j v)) bt H H') (hj : j < 65536)
    (h : Wl rest P .seq ops N Γ (Hp w0 H') Q) : Wl (⟨none, .store t x y, ty, pos, af, none⟩ :: rest) P .seq ops N Γ (Hp w0 H) Q := Wl.store hx hy rfl hs (memC_set hj) h
end
attribute [irreducible] memC
def loadX (f : Nat → Int) (a : Nat) : Nat → Int
  | 0 => 0
  | i + 1 => bits .or .u32 (loadX f a i) (IntKind.u32.wrap (IntKind.u32.wrap (f (a + i)) * 2 ^ min (Int.toNat (8 * (i : Int))) IntKind.u32.bits))
theorem loadX_succ (f : Nat → Int) (a i : Nat) : loadX f a (i + 1) = bits .or .u32 (loadX f a i) (IntKind.u32.wrap (IntKind.u32.wrap (f (a + i)) * 2 ^ min (Int.toNat (8 * (i : Int))) IntKind.u32.bits)) := rfl
def storeX (f : Nat → Int) (a : Nat) (x : Int) : Nat → Nat → Int
  | 0 => f
  | i + 1 => updI (storeX f a x i) (a + i) (IntKind.u8.wrap (x.fdiv (2 ^ min (Int.toNat (8 * (i : Int))) IntKind.u32.bits)))
theorem storeX_out {f : Nat → Int} {a n j : Nat} {x : Int} (h : j < a ∨ a + n ≤ j) : storeX f a x n j = f j := by
  induction n with
  | zero => rfl
  | succ n ih => unfold storeX updI; rw [if_neg (by omega), ih (by omega)]
end Go.Pt
namespace Go.Proofs.YtcefkbnachnciaaDoor
open Go.RowKit Go.Pt
theorem zcells : Tryd.zeroCells94.toList = memC fun _ => 0 := isZ_all (by kernel_rfl) (by rw [Array.length_toList]; exact Tryd.zeroCells94_size)
theorem tyP0 : TyP Tryd.prog 94 [(0, 65536)] Tryd.zeroCells94.toList := ⟨by kernel_rfl⟩
instance tyPM : TyP Tryd.prog 94 [(0, 65536)] (memC fun _ => 0) := zcells ▸ tyP0
theorem newMem (w : World) : Calls Tryd.prog 19 #[] w fun e w' => ∃ c, e = .returned (.pointer (some ⟨c, 0, none⟩)) ∧ Hp w [⟨c, memC fun _ => 0, 94⟩] w' ∧ w.heap.size ≤ c := by
  refine enter (args := []) (Γ := []) Tryd.func19 Tryd.ntmps19 rfl (of_decide_eq_true rfl) .nil ?_
  repeat' (first | (apply Wl.assign; exact rfl; exact rfl) | (apply Wl.buildS; exact rfl; (repeat (first | exact Parts.nil | apply Parts.cons rfl)); (repeat (first | apply Fills.nil | (apply Fills.one; exact rfl; exact rfl; (repeat (first | apply LSet.z | apply LSet.s))) | (apply Fills.agg; exact rfl; exact rfl; (repeat (first | apply LPut.s | apply LPut.z | apply LOver.nil | apply LOver.cons)))))) | (apply Wl.boxA; exact rfl; exact rfl; intro c hc ho) | (apply Wl.nil) | (apply St.seq) | (apply St.region) | (apply St.ret) | (apply Gt.next) | (apply Gt.out1; exact rfl; exact rfl; intro w' hp) | (apply Wl.splitP; exact rfl; exact rfl; all_goals (intros; try (exfalso; omega))) | (apply Wl.splitB; exact rfl; exact rfl; all_goals intros) | (apply St.condP; exact rfl; all_goals (intros; try (exfalso; omega))) | (apply St.condB; exact rfl; all_goals intros))
  exact ⟨_, rfl, hp, by assumption⟩
theorem within_mem (a n b m : Int) (w : World) (ha : 0 ≤ a ∧ a < 4294967296) (hn : 0 ≤ n ∧ n < 4294967296) (hb : 0 ≤ b ∧ b < 4294967296) (hm : 0 ≤ m ∧ m < 4294967296) :
    Calls Tryd.prog 37 #[.int .u32 a, .int .u32 n, .int .u32 b, .int .u32 m] w fun e w' => e = .returned (.bool (decide (b ≤ a ∧ a + n ≤ b + m))) ∧ Hp w [] w' := by
  refine enter (args := [_, _, _, _]) (Γ := [(0, _), (1, _), (2, _), (3, _)]) Tryd.func37 Tryd.ntmps37 rfl (of_decide_eq_true rfl) (.cons rfl (.cons rfl (.cons rfl (.cons rfl .nil)))) ?_
  repeat' (first | (apply Wl.move; exact rfl; exact rfl) | (apply Wl.assign; exact rfl; exact rfl) | (apply Wl.on; exact rfl; exact rfl; (first | with_reducible rfl | with_reducible assumption | decide)) | (apply Wl.off; exact rfl; exact rfl; exact rfl; (first | with_reducible rfl | (show _ = false; with_reducible assumption) | (show _ = true; with_reducible assumption) | decide)) | (apply Wl.pickT; exact rfl; exact rfl; (first | with_reducible rfl | with_reducible assumption | decide); exact rfl) | (apply Wl.pickF; exact rfl; exact rfl; (first | with_reducible rfl | with_reducible assumption | decide); exact rfl) | (apply Wl.leq; exact rfl; exact rfl; exact rfl) | (apply Wl.geq; exact rfl; exact rfl; exact rfl) | (apply Wl.addU; exact rfl; exact rfl; exact rfl; (constructor <;> omega)) | (apply Wl.convU64; exact rfl; exact rfl; (constructor <;> omega)) | (apply Wl.nil) | (apply St.seq) | (apply St.region) | (apply St.ret) | (apply Gt.next) | (apply Gt.out1; exact rfl; exact rfl; intro w' hp) | (apply Wl.splitP; exact rfl; exact rfl; all_goals (intros; try (exfalso; omega))) | (apply Wl.splitB; exact rfl; exact rfl; all_goals intros) | (apply St.condP; exact rfl; all_goals (intros; try (exfalso; omega))) | (apply St.condB; exact rfl; all_goals intros))
  · rename_i h1 _
    exact ⟨by simp [h1], hp⟩
  · rename_i h1 _
    exact ⟨by simp [h1], hp⟩
theorem has_any (c : Nat) (a n : Int) (w : World) (ha : 0 ≤ a ∧ a < 4294967296) (hn : 0 ≤ n ∧ n < 4294967296) :
    Calls Tryd.prog 18 #[.pointer (some ⟨c, 0, none⟩), .int .u32 a, .int .u32 n] w fun e w' => e = .returned (.bool (decide (2147483648 ≤ a ∧ a + n ≤ 2147483648 + 65536))) ∧ Hp w [] w' := by
  refine enter (args := [_, _, _]) (Γ := [(0, _), (1, _), (2, _)]) Tryd.func18 Tryd.ntmps18 rfl (of_decide_eq_true rfl) (.cons rfl (.cons rfl (.cons rfl .nil))) ?_
  repeat' (first | (apply Wl.move; exact rfl; exact rfl) | (apply Wl.assign; exact rfl; exact rfl) | (apply Wl.on; exact rfl; exact rfl; (first | with_reducible rfl | with_reducible assumption | decide)) | (apply Wl.neqPN; exact rfl; exact rfl; exact rfl) | (apply Wl.nil) | (apply St.seq) | (apply St.region) | (apply Gt.next) | (apply Wl.splitP; exact rfl; exact rfl; all_goals (intros; try (exfalso; omega))) | (apply Wl.splitB; exact rfl; exact rfl; all_goals intros) | (apply St.condP; exact rfl; all_goals (intros; try (exfalso; omega))) | (apply St.condB; exact rfl; all_goals intros))
  apply Wl.callQ
  exact rfl
  (repeat (first | exact Evs.nil | apply Evs.cons rfl))
  · intro wq hq
    refine (within_mem a n 2147483648 65536 wq ha hn (by decide) (by decide)).mono ?_
    rintro e wr ⟨rfl, hr⟩
    exact ⟨rfl, hq.keep hr⟩
  repeat' (first | (apply Wl.assign; exact rfl; exact rfl) | (apply Wl.pickT; exact rfl; exact rfl; (first | with_reducible rfl | with_reducible assumption | decide); exact rfl) | (apply Wl.nil) | (apply St.ret) | (apply Gt.next) | (apply Gt.out1; exact rfl; exact rfl; intro w' hp) | (apply Wl.splitP; exact rfl; exact rfl; all_goals (intros; try (exfalso; omega))) | (apply Wl.splitB; exact rfl; exact rfl; all_goals intros) | (apply St.condP; exact rfl; all_goals (intros; try (exfalso; omega))) | (apply St.condB; exact rfl; all_goals intros))
  exact ⟨rfl, hp⟩
def W124 (n : Int) : Prop := n = 1 ∨ n = 2 ∨ n = 4
set_option maxHeartbeats 4000000 in
theorem mload (c : Nat) (a n : Int) (f : Nat → Int) (w : World) (ha : 0 ≤ a ∧ a < 4294967296) (hn : W124 n) (hc : w.heap[c]? = some (.cells (memC f).toArray 94 (0, 0))) :
    Calls Tryd.prog 24 #[.pointer (some ⟨c, 0, none⟩), .int .u32 a, .int .i64 n] w fun e w' => e = .returned (if 2147483648 ≤ a ∧ a + n ≤ 2147483648 + 65536 then .tuple #[.int .u32 (loadX f (a - 2147483648).toNat n.toNat), .int .i64 0] else .tuple #[.int .u32 0, .int .i64 18]) ∧ Hp w [] w' := by
  unfold W124 at hn
  refine enter (args := [_, _, _]) (Γ := [(0, _), (1, _), (2, _)]) Tryd.func24 Tryd.ntmps24 rfl (of_decide_eq_true rfl) (.cons rfl (.cons rfl (.cons rfl .nil))) ?_
  refine St.cls (C' := Hp w [⟨c, memC f, 94⟩]) (fun _ h' => Hp.open h' hc) ?_
  repeat' (first | (apply Wl.move; exact rfl; exact rfl) | (apply Wl.assign; exact rfl; exact rfl) | (apply Wl.on; exact rfl; exact rfl; (first | with_reducible rfl | with_reducible assumption | decide)) | (apply Wl.off; exact rfl; exact rfl; exact rfl; (first | with_reducible rfl | (show _ = false; with_reducible assumption) | (show _ = true; with_reducible assumption) | decide)) | (apply Wl.pickT; exact rfl; exact rfl; (first | with_reducible rfl | with_reducible assumption | decide); exact rfl) | (apply Wl.pickF; exact rfl; exact rfl; (first | with_reducible rfl | with_reducible assumption | decide); exact rfl) | (apply Wl.neq; exact rfl; exact rfl; exact rfl) | (apply Wl.convU32; exact rfl; exact rfl; (constructor <;> omega)) | (apply Wl.nil) | (apply St.seq) | (apply St.region) | (apply Gt.next) | (apply Wl.splitP; exact rfl; exact rfl; all_goals (intros; try (exfalso; omega))) | (apply Wl.splitB; exact rfl; exact rfl; all_goals intros) | (apply St.condP; exact rfl; all_goals (intros; try (exfalso; omega))) | (apply St.condB; exact rfl; all_goals intros))
  all_goals
    apply Wl.callQ
    exact rfl
    (repeat (first | exact Evs.nil | apply Evs.cons rfl))
    · intro wq hq
      refine (has_any c a n wq ha (by constructor <;> omega)).mono ?_
      rintro e wr ⟨rfl, hr⟩
      exact ⟨rfl, hq.keep hr⟩
    by_cases hh : 2147483648 ≤ a ∧ a + n ≤ 2147483648 + 65536
    · rw [decide_eq_true hh, if_pos hh]
      repeat' (first | (apply Wl.move; exact rfl; exact rfl) | (apply Wl.assign; exact rfl; exact rfl) | (apply Wl.on; exact rfl; exact rfl; (first | with_reducible rfl | with_reducible assumption | decide)) | (apply Wl.pickF; exact rfl; exact rfl; (first | with_reducible rfl | with_reducible assumption | decide); exact rfl) | (apply Wl.not; exact rfl; exact rfl) | (apply Wl.nil) | (apply St.seq) | (apply St.block) | (apply St.region) | (apply St.condF; exact rfl; (first | with_reducible rfl | with_reducible assumption | decide)) | (apply St.skip) | (apply Gt.next) | (apply Wl.splitP; exact rfl; exact rfl; all_goals (intros; try (exfalso; omega))) | (apply Wl.splitB; exact rfl; exact rfl; all_goals intros) | (apply St.condP; exact rfl; all_goals (intros; try (exfalso; omega))) | (apply St.condB; exact rfl; all_goals intros))
      refine St.loop (σ := Nat) (fun i => (i : Int) ≤ n) (fun i => [(29, .int .i64 i), (28, .int .i64 n), (8, .int .u32 (loadX f (a - 2147483648).toNat i)), (0, .pointer (some ⟨c, 0, none⟩)), (1, .int .u32 a)])
        (fun _ => Hp w [⟨c, memC f, 94⟩]) (fun i => n.toNat - i) 0 (by show ((0 : Nat) : Int) ≤ n; omega) (by (repeat (first | exact Sub.nil | apply Sub.cons rfl))) (fun _ h => h) ?_
      intro i hi
      by_cases hlt : (i : Int) < n
      · repeat' (first | (apply Wl.loadM; exact rfl; exact rfl; (repeat (first | exact List.Mem.head _ | apply List.Mem.tail)); omega) | (apply Wl.sub32; exact rfl; exact rfl; exact rfl; (constructor <;> omega)) | (apply Wl.add32; exact rfl; exact rfl; exact rfl; (constructor <;> omega)) | (apply Wl.move; exact rfl; exact rfl) | (apply Wl.assign; exact rfl; exact rfl) | (apply Wl.nilCheck; exact rfl; exact rfl) | (apply Wl.fieldAddr0; exact rfl; exact rfl) | (apply Wl.lss; exact rfl; exact rfl; exact rfl) | (apply Wl.addI; exact rfl; exact rfl; exact rfl; (constructor <;> omega)) | (apply Wl.mulI; exact rfl; exact rfl; exact rfl; (constructor <;> omega)) | (apply Wl.or; exact rfl; exact rfl; exact rfl) | (apply Wl.shl; exact rfl; exact rfl; exact rfl; (omega)) | (apply Wl.convU32; exact rfl; exact rfl; (constructor <;> omega)) | (apply Wl.convI; exact rfl; exact rfl) | (apply Wl.indexArr; exact rfl; exact rfl; exact rfl; (constructor <;> omega)) | (apply Wl.nil) | (apply St.seq) | (apply St.block) | (apply St.region) | (apply St.skip) | (apply Gt.next) | (apply Gt.inNormal) | (apply Wl.splitP; exact rfl; exact rfl; all_goals (intros; try (exfalso; omega))) | (apply Wl.splitB; exact rfl; exact rfl; all_goals intros) | (apply St.condP; exact rfl; all_goals (intros; try (exfalso; omega))) | (apply St.condB; exact rfl; all_goals intros))
        apply Gt.round (i + 1)
        rotate_left
        · omega
        · rw [loadX_succ, show (a - 2147483648).toNat + i = 0 + (a - 2147483648 + (i : Int)).toNat * 1 by omega]
          (repeat (first | exact Sub.nil | apply Sub.cons rfl))
        · exact fun _ h => h
        · omega
      · have hie : i = n.toNat := by omega
        subst hie
        repeat' (first | (apply Wl.move; exact rfl; exact rfl) | (apply Wl.assign; exact rfl; exact rfl) | (apply Wl.lss; exact rfl; exact rfl; exact rfl) | (apply Wl.nil) | (apply St.seq) | (apply St.region) | (apply St.ret) | (apply St.exit) | (apply Gt.next) | (apply Gt.thenExit) | (apply Gt.inExit) | (apply Gt.out2; exact rfl; exact rfl; exact rfl; intro w' hp) | (apply Wl.splitP; exact rfl; exact rfl; all_goals (intros; try (exfalso; omega))) | (apply Wl.splitB; exact rfl; exact rfl; all_goals intros) | (apply St.condP; exact rfl; all_goals (intros; try (exfalso; omega))) | (apply St.condB; exact rfl; all_goals intros))
        exact ⟨rfl, Hp.same hp hc⟩
    · rw [decide_eq_false hh, if_neg hh]
      repeat' (first | (apply Wl.assign; exact rfl; exact rfl) | (apply Wl.on; exact rfl; exact rfl; (first | with_reducible rfl | with_reducible assumption | decide)) | (apply Wl.pickF; exact rfl; exact rfl; (first | with_reducible rfl | with_reducible assumption | decide); exact rfl) | (apply Wl.not; exact rfl; exact rfl) | (apply Wl.nil) | (apply St.seq) | (apply St.region) | (apply St.condT; exact rfl; (first | with_reducible rfl | with_reducible assumption | decide)) | (apply St.ret) | (apply Gt.next) | (apply Gt.thenRet) | (apply Gt.out2; exact rfl; exact rfl; exact rfl; intro w' hp) | (apply Wl.splitP; exact rfl; exact rfl; all_goals (intros; try (exfalso; omega))) | (apply Wl.splitB; exact rfl; exact rfl; all_goals intros) | (apply St.condP; exact rfl; all_goals (intros; try (exfalso; omega))) | (apply St.condB; exact rfl; all_goals intros))
      exact ⟨rfl, Hp.same hp hc⟩
set_option maxHeartbeats 4000000 in
theorem mstore (c : Nat) (a n x : Int) (f : Nat → Int) (w : World) (ha : 0 ≤ a ∧ a < 4294967296) (hn : W124 n) (hc : w.heap[c]? = some (.cells (memC f).toArray 94 (0, 0))) :
    Calls Tryd.prog 20 #[.pointer (some ⟨c, 0, none⟩), .int .u32 a, .int .i64 n, .int .u32 x] w fun e w' => (∃ v, e = .returned (.int .i64 v)) ∧ Hp w [⟨c, memC (if 2147483648 ≤ a ∧ a + n ≤ 2147483648 + 65536 then storeX f (a - 2147483648).toNat x n.toNat else f), 94⟩] w' := by
  unfold W124 at hn
  refine enter (args := [_, _, _, _]) (Γ := [(0, _), (1, _), (2, _), (3, _)]) Tryd.func20 Tryd.ntmps20 rfl (of_decide_eq_true rfl) (.cons rfl (.cons rfl (.cons rfl (.cons rfl .nil)))) ?_
  refine St.cls (C' := Hp w [⟨c, memC f, 94⟩]) (fun _ h' => Hp.open h' hc) ?_
  repeat' (first | (apply Wl.move; exact rfl; exact rfl) | (apply Wl.assign; exact rfl; exact rfl) | (apply Wl.on; exact rfl; exact rfl; (first | with_reducible rfl | with_reducible assumption | decide)) | (apply Wl.off; exact rfl; exact rfl; exact rfl; (first | with_reducible rfl | (show _ = false; with_reducible assumption) | (show _ = true; with_reducible assumption) | decide)) | (apply Wl.pickT; exact rfl; exact rfl; (first | with_reducible rfl | with_reducible assumption | decide); exact rfl) | (apply Wl.pickF; exact rfl; exact rfl; (first | with_reducible rfl | with_reducible assumption | decide); exact rfl) | (apply Wl.neq; exact rfl; exact rfl; exact rfl) | (apply Wl.convU32; exact rfl; exact rfl; (constructor <;> omega)) | (apply Wl.nil) | (apply St.seq) | (apply St.region) | (apply Gt.next) | (apply Wl.splitP; exact rfl; exact rfl; all_goals (intros; try (exfalso; omega))) | (apply Wl.splitB; exact rfl; exact rfl; all_goals intros) | (apply St.condP; exact rfl; all_goals (intros; try (exfalso; omega))) | (apply St.condB; exact rfl; all_goals intros))
  all_goals
    apply Wl.callQ
    exact rfl
    (repeat (first | exact Evs.nil | apply Evs.cons rfl))
    · intro wq hq
      refine (has_any c a n wq ha (by constructor <;> omega)).mono ?_
      rintro e wr ⟨rfl, hr⟩
      exact ⟨rfl, hq.keep hr⟩
    by_cases hh : 2147483648 ≤ a ∧ a + n ≤ 2147483648 + 65536
    · rw [decide_eq_true hh, if_pos hh]
      repeat' (first | (apply Wl.move; exact rfl; exact rfl) | (apply Wl.on; exact rfl; exact rfl; (first | with_reducible rfl | with_reducible assumption | decide)) | (apply Wl.pickF; exact rfl; exact rfl; (first | with_reducible rfl | with_reducible assumption | decide); exact rfl) | (apply Wl.not; exact rfl; exact rfl) | (apply Wl.nil) | (apply St.seq) | (apply St.block) | (apply St.region) | (apply St.condF; exact rfl; (first | with_reducible rfl | with_reducible assumption | decide)) | (apply St.skip) | (apply Gt.next) | (apply Wl.splitP; exact rfl; exact rfl; all_goals (intros; try (exfalso; omega))) | (apply Wl.splitB; exact rfl; exact rfl; all_goals intros) | (apply St.condP; exact rfl; all_goals (intros; try (exfalso; omega))) | (apply St.condB; exact rfl; all_goals intros))
      refine St.loop (σ := Nat) (fun i => (i : Int) ≤ n) (fun i => [(29, .int .i64 i), (28, .int .i64 n), (0, .pointer (some ⟨c, 0, none⟩)), (1, .int .u32 a), (3, .int .u32 x)])
        (fun i => Hp w [⟨c, memC (storeX f (a - 2147483648).toNat x i), 94⟩]) (fun i => n.toNat - i) 0 (by show ((0 : Nat) : Int) ≤ n; omega) (by (repeat (first | exact Sub.nil | apply Sub.cons rfl))) (fun _ h => h) ?_
      intro i hi
      by_cases hlt : (i : Int) < n
      · repeat' (first | (apply Wl.move; exact rfl; exact rfl) | (apply Wl.assign; exact rfl; exact rfl) | (apply Wl.lss; exact rfl; exact rfl; exact rfl) | (apply Wl.nil) | (apply St.seq) | (apply St.block) | (apply St.region) | (apply St.skip) | (apply Gt.next) | (apply Wl.splitP; exact rfl; exact rfl; all_goals (intros; try (exfalso; omega))) | (apply Wl.splitB; exact rfl; exact rfl; all_goals intros) | (apply St.condP; exact rfl; all_goals (intros; try (exfalso; omega))) | (apply St.condB; exact rfl; all_goals intros))
        refine St.tree (fun _ => True) mixed (fun _ h => ⟨Hp.drew h, trivial⟩) ?_
        refine Mt.pure 0 (by decide +kernel) (by exact rfl) (by exact rfl) (by decide +kernel) (by decide +kernel) ?_
        repeat' (first | (apply Wl.move; exact rfl; exact rfl) | (apply Wl.nilM) | (apply Wl.splitP; exact rfl; exact rfl; all_goals (intros; try (exfalso; omega))) | (apply Wl.splitB; exact rfl; exact rfl; all_goals intros) | (apply St.condP; exact rfl; all_goals (intros; try (exfalso; omega))) | (apply St.condB; exact rfl; all_goals intros))
        apply Mt.back
        refine Mt.pure 1 (by decide +kernel) (by exact rfl) (by exact rfl) (by decide +kernel) (by decide +kernel) ?_
        repeat' (first | (apply Wl.move; exact rfl; exact rfl) | (apply Wl.nilM) | (apply Wl.splitP; exact rfl; exact rfl; all_goals (intros; try (exfalso; omega))) | (apply Wl.splitB; exact rfl; exact rfl; all_goals intros) | (apply St.condP; exact rfl; all_goals (intros; try (exfalso; omega))) | (apply St.condB; exact rfl; all_goals intros))
        apply Mt.back
        refine Mt.pure 2 (by decide +kernel) (by exact rfl) (by exact rfl) (by decide +kernel) (by decide +kernel) ?_
        repeat' (first | (apply Wl.sub32; exact rfl; exact rfl; exact rfl; (constructor <;> omega)) | (apply Wl.nilM) | (apply Wl.splitP; exact rfl; exact rfl; all_goals (intros; try (exfalso; omega))) | (apply Wl.splitB; exact rfl; exact rfl; all_goals intros) | (apply St.condP; exact rfl; all_goals (intros; try (exfalso; omega))) | (apply St.condB; exact rfl; all_goals intros))
        apply Mt.back
        refine Mt.pure 3 (by decide +kernel) (by exact rfl) (by exact rfl) (by decide +kernel) (by decide +kernel) ?_
        repeat' (first | (apply Wl.move; exact rfl; exact rfl) | (apply Wl.nilM) | (apply Wl.splitP; exact rfl; exact rfl; all_goals (intros; try (exfalso; omega))) | (apply Wl.splitB; exact rfl; exact rfl; all_goals intros) | (apply St.condP; exact rfl; all_goals (intros; try (exfalso; omega))) | (apply St.condB; exact rfl; all_goals intros))
        apply Mt.back
        refine Mt.pure 4 (by decide +kernel) (by exact rfl) (by exact rfl) (by decide +kernel) (by decide +kernel) ?_
        repeat' (first | (apply Wl.convU32; exact rfl; exact rfl; (constructor <;> omega)) | (apply Wl.nilM) | (apply Wl.splitP; exact rfl; exact rfl; all_goals (intros; try (exfalso; omega))) | (apply Wl.splitB; exact rfl; exact rfl; all_goals intros) | (apply St.condP; exact rfl; all_goals (intros; try (exfalso; omega))) | (apply St.condB; exact rfl; all_goals intros))
        apply Mt.back
        refine Mt.pure 5 (by decide +kernel) (by exact rfl) (by exact rfl) (by decide +kernel) (by decide +kernel) ?_
        repeat' (first | (apply Wl.add32; exact rfl; exact rfl; exact rfl; (constructor <;> omega)) | (apply Wl.nilM) | (apply Wl.splitP; exact rfl; exact rfl; all_goals (intros; try (exfalso; omega))) | (apply Wl.splitB; exact rfl; exact rfl; all_goals intros) | (apply St.condP; exact rfl; all_goals (intros; try (exfalso; omega))) | (apply St.condB; exact rfl; all_goals intros))
        apply Mt.back
        refine Mt.pure 6 (by decide +kernel) (by exact rfl) (by exact rfl) (by decide +kernel) (by decide +kernel) ?_
        repeat' (first | (apply Wl.move; exact rfl; exact rfl) | (apply Wl.nilM) | (apply Wl.splitP; exact rfl; exact rfl; all_goals (intros; try (exfalso; omega))) | (apply Wl.splitB; exact rfl; exact rfl; all_goals intros) | (apply St.condP; exact rfl; all_goals (intros; try (exfalso; omega))) | (apply St.condB; exact rfl; all_goals intros))
        apply Mt.back
        refine Mt.pure 7 (by decide +kernel) (by exact rfl) (by exact rfl) (by decide +kernel) (by decide +kernel) ?_
        repeat' (first | (apply Wl.move; exact rfl; exact rfl) | (apply Wl.nilM) | (apply Wl.splitP; exact rfl; exact rfl; all_goals (intros; try (exfalso; omega))) | (apply Wl.splitB; exact rfl; exact rfl; all_goals intros) | (apply St.condP; exact rfl; all_goals (intros; try (exfalso; omega))) | (apply St.condB; exact rfl; all_goals intros))
        apply Mt.back
        refine Mt.pure 8 (by decide +kernel) (by exact rfl) (by exact rfl) (by decide +kernel) (by decide +kernel) ?_
        repeat' (first | (apply Wl.mulI; exact rfl; exact rfl; exact rfl; (constructor <;> omega)) | (apply Wl.nilM) | (apply Wl.splitP; exact rfl; exact rfl; all_goals (intros; try (exfalso; omega))) | (apply Wl.splitB; exact rfl; exact rfl; all_goals intros) | (apply St.condP; exact rfl; all_goals (intros; try (exfalso; omega))) | (apply St.condB; exact rfl; all_goals intros))
        apply Mt.back
        refine Mt.pure 9 (by decide +kernel) (by exact rfl) (by exact rfl) (by decide +kernel) (by decide +kernel) ?_
        repeat' (first | (apply Wl.shr; exact rfl; exact rfl; exact rfl; (omega)) | (apply Wl.nilM) | (apply Wl.splitP; exact rfl; exact rfl; all_goals (intros; try (exfalso; omega))) | (apply Wl.splitB; exact rfl; exact rfl; all_goals intros) | (apply St.condP; exact rfl; all_goals (intros; try (exfalso; omega))) | (apply St.condB; exact rfl; all_goals intros))
        apply Mt.back
        refine Mt.pure 10 (by decide +kernel) (by exact rfl) (by exact rfl) (by decide +kernel) (by decide +kernel) ?_
        repeat' (first | (apply Wl.convI; exact rfl; exact rfl) | (apply Wl.nilM) | (apply Wl.splitP; exact rfl; exact rfl; all_goals (intros; try (exfalso; omega))) | (apply Wl.splitB; exact rfl; exact rfl; all_goals intros) | (apply St.condP; exact rfl; all_goals (intros; try (exfalso; omega))) | (apply St.condB; exact rfl; all_goals intros))
        apply Mt.back
        refine Mt.pure 11 (by decide +kernel) (by exact rfl) (by exact rfl) (by decide +kernel) (by decide +kernel) ?_
        repeat' (first | (apply Wl.nilCheck; exact rfl; exact rfl) | (apply Wl.nilM) | (apply Wl.splitP; exact rfl; exact rfl; all_goals (intros; try (exfalso; omega))) | (apply Wl.splitB; exact rfl; exact rfl; all_goals intros) | (apply St.condP; exact rfl; all_goals (intros; try (exfalso; omega))) | (apply St.condB; exact rfl; all_goals intros))
        apply Mt.back
        refine Mt.pure 12 (by decide +kernel) (by exact rfl) (by exact rfl) (by decide +kernel) (by decide +kernel) ?_
        repeat' (first | (apply Wl.fieldAddr0; exact rfl; exact rfl) | (apply Wl.nilM) | (apply Wl.splitP; exact rfl; exact rfl; all_goals (intros; try (exfalso; omega))) | (apply Wl.splitB; exact rfl; exact rfl; all_goals intros) | (apply St.condP; exact rfl; all_goals (intros; try (exfalso; omega))) | (apply St.condB; exact rfl; all_goals intros))
        apply Mt.back
        refine Mt.pure 13 (by decide +kernel) (by exact rfl) (by exact rfl) (by decide +kernel) (by decide +kernel) ?_
        repeat' (first | (apply Wl.indexArr; exact rfl; exact rfl; exact rfl; (constructor <;> omega)) | (apply Wl.nilM) | (apply Wl.splitP; exact rfl; exact rfl; all_goals (intros; try (exfalso; omega))) | (apply Wl.splitB; exact rfl; exact rfl; all_goals intros) | (apply St.condP; exact rfl; all_goals (intros; try (exfalso; omega))) | (apply St.condB; exact rfl; all_goals intros))
        apply Mt.back
        refine Mt.eff1 (i := 14) (by decide +kernel) (by exact rfl) ?_
        rw [show 0 + (a - 2147483648 + (i : Int)).toNat * 1 = (a - 2147483648).toNat + i by omega]
        apply Wl.storeM
        · exact rfl
        · exact rfl
        · (repeat (first | apply HSet.here | apply HSet.there))
        · omega
        repeat' (first | (apply Wl.nil) | (apply Wl.splitP; exact rfl; exact rfl; all_goals (intros; try (exfalso; omega))) | (apply Wl.splitB; exact rfl; exact rfl; all_goals intros) | (apply St.condP; exact rfl; all_goals (intros; try (exfalso; omega))) | (apply St.condB; exact rfl; all_goals intros))
        refine Mt.backE (fun _ h => trivial) ?_
        refine Mt.toGt (by decide +kernel) ?_
        repeat' (first | (apply Wl.move; exact rfl; exact rfl) | (apply Wl.addI; exact rfl; exact rfl; exact rfl; (constructor <;> omega)) | (apply Wl.nil) | (apply St.region) | (apply Gt.next) | (apply Gt.inNormal) | (apply Wl.splitP; exact rfl; exact rfl; all_goals (intros; try (exfalso; omega))) | (apply Wl.splitB; exact rfl; exact rfl; all_goals intros) | (apply St.condP; exact rfl; all_goals (intros; try (exfalso; omega))) | (apply St.condB; exact rfl; all_goals intros))
        apply Gt.round (i + 1)
        rotate_left
        · omega
        · (repeat (first | exact Sub.nil | apply Sub.cons rfl))
        · exact fun _ h => h
        · omega
      · have hie : i = n.toNat := by omega
        subst hie
        repeat' (first | (apply Wl.assign; exact rfl; exact rfl) | (apply Wl.lss; exact rfl; exact rfl; exact rfl) | (apply Wl.nil) | (apply St.seq) | (apply St.region) | (apply St.ret) | (apply St.exit) | (apply Gt.next) | (apply Gt.thenExit) | (apply Gt.inExit) | (apply Gt.out1; exact rfl; exact rfl; intro w' hp) | (apply Wl.splitP; exact rfl; exact rfl; all_goals (intros; try (exfalso; omega))) | (apply Wl.splitB; exact rfl; exact rfl; all_goals intros) | (apply St.condP; exact rfl; all_goals (intros; try (exfalso; omega))) | (apply St.condB; exact rfl; all_goals intros))
        exact ⟨⟨_, rfl⟩, hp⟩
    · rw [decide_eq_false hh, if_neg hh]
      repeat' (first | (apply Wl.assign; exact rfl; exact rfl) | (apply Wl.on; exact rfl; exact rfl; (first | with_reducible rfl | with_reducible assumption | decide)) | (apply Wl.pickF; exact rfl; exact rfl; (first | with_reducible rfl | with_reducible assumption | decide); exact rfl) | (apply Wl.not; exact rfl; exact rfl) | (apply Wl.nil) | (apply St.seq) | (apply St.region) | (apply St.condT; exact rfl; (first | with_reducible rfl | with_reducible assumption | decide)) | (apply St.ret) | (apply Gt.next) | (apply Gt.thenRet) | (apply Gt.out1; exact rfl; exact rfl; intro w' hp) | (apply Wl.splitP; exact rfl; exact rfl; all_goals (intros; try (exfalso; omega))) | (apply Wl.splitB; exact rfl; exact rfl; all_goals intros) | (apply St.condP; exact rfl; all_goals (intros; try (exfalso; omega))) | (apply St.condB; exact rfl; all_goals intros))
      exact ⟨⟨_, rfl⟩, hp⟩
end Go.Proofs.YtcefkbnachnciaaDoor
end
section
namespace Go.Proofs.YtcefkbnachnciaaDoor
open Go.RowKit Go.Pt
theorem FF.lt {w : World} {c : Nat} {md tv : Int} (h : FF w c md tv) : c < w.heap.size := by
  obtain ⟨st, mie, mip, sc, ep, ca, tl, cs, hk, hc⟩ := h
  exact lt_of_block hc
theorem MM.ltc {w : World} {c b n : Nat} {tv : Int} (h : MM w c b n tv) : c < w.heap.size := by
  obtain ⟨md, cs, n', lk, hk, h1, h2, h3⟩ := h
  exact lt_of_block h1
theorem MM.ltb {w : World} {c b n : Nat} {tv : Int} (h : MM w c b n tv) : b < w.heap.size := by
  obtain ⟨md, cs, n', lk, hk, h1, h2, h3⟩ := h
  exact h2.lt
theorem Hp.rest {S : Nat → Prop} {w0 w w' : World} {H : List Blk} (h : Hp w0 H w) (u : Upd S w w') (hs : ∀ x ∈ H, ¬ S x.b) : Hp w' H w' := ⟨Upd.refl _ _, h.own.upd u hs, h.apart⟩
end Go.Proofs.YtcefkbnachnciaaDoor
end
section
namespace Go.Proofs.YtcefkbnachnciaaDoor
open Go.RowKit Go.Pt
def tb (a : Int) (j : Nat) : Bool := (BitVec.ofInt 32 a).getLsbD j
theorem ofInt_toNat (x : BitVec 32) : BitVec.ofInt 32 (x.toNat : Int) = x := by
  rw [BitVec.ofInt_natCast]; simp
theorem bits_and32 (a b : Int) : bits .and .u32 a b = (((BitVec.ofInt 32 a) &&& (BitVec.ofInt 32 b)).toNat : Int) := by
  show IntKind.u32.wrap (((BitVec.ofInt 32 a) &&& (BitVec.ofInt 32 b)).toNat : Int) = _
  exact IntWalk.u32_in _ ⟨by omega, by have := ((BitVec.ofInt 32 a) &&& (BitVec.ofInt 32 b)).isLt; omega⟩
theorem bits_or32 (a b : Int) : bits .or .u32 a b = (((BitVec.ofInt 32 a) ||| (BitVec.ofInt 32 b)).toNat : Int) := by
  show IntKind.u32.wrap (((BitVec.ofInt 32 a) ||| (BitVec.ofInt 32 b)).toNat : Int) = _
  exact IntWalk.u32_in _ ⟨by omega, by have := ((BitVec.ofInt 32 a) ||| (BitVec.ofInt 32 b)).isLt; omega⟩
theorem bits_andNot32 (a b : Int) : bits .andNot .u32 a b = (((BitVec.ofInt 32 a) &&& ~~~(BitVec.ofInt 32 b)).toNat : Int) := by
  show IntKind.u32.wrap (((BitVec.ofInt 32 a) &&& ~~~(BitVec.ofInt 32 b)).toNat : Int) = _
  exact IntWalk.u32_in _ ⟨by omega, by have := ((BitVec.ofInt 32 a) &&& ~~~(BitVec.ofInt 32 b)).isLt; omega⟩
theorem tb_or (a b : Int) (j : Nat) : tb (bits .or .u32 a b) j = (tb a j || tb b j) := by unfold tb; rw [bits_or32, ofInt_toNat, BitVec.getLsbD_or]
theorem tb_andNot (a b : Int) (j : Nat) (hj : j < 32) : tb (bits .andNot .u32 a b) j = (tb a j && !tb b j) := by unfold tb; rw [bits_andNot32, ofInt_toNat, BitVec.getLsbD_and, BitVec.getLsbD_not]; simp [hj]
theorem and8 (a : Int) : bits .and .u32 a 8 = if tb a 3 then 8 else 0 := by
  rw [bits_and32]
  have : BitVec.ofInt 32 a &&& BitVec.ofInt 32 8 = if tb a 3 then 8#32 else 0#32 := by
    apply BitVec.eq_of_getLsbD_eq
    intro i hi
    have hb : ∀ k : Fin 32, (BitVec.ofInt 32 8).getLsbD k.val = decide (k.val = 3) := by decide
    have hb2 : ∀ k : Fin 32, (8#32).getLsbD k.val = decide (k.val = 3) := by decide
    rw [BitVec.getLsbD_and, hb ⟨i, hi⟩]
    unfold tb
    by_cases e : i = 3
    · subst e; split <;> simp_all
    · split
      · rw [hb2 ⟨i, hi⟩]; simp [e]
      · simp [e]
  rw [this]; split <;> rfl
set_option linter.unusedVariables false
def dueOf (md st mie mip : Int) : Bool := decide (bits .and .u32 (bits .and .u32 mie mip) 128 ≠ 0) && (decide (md = 0) || tb st 3)
set_option maxHeartbeats 4000000 in
theorem fdue (c : Nat) (md st mie mip tv sc ep ca tl : Int) (cs : List Value) (w : World) (hc : w.heap[c]? = some (.cells (.int .i64 md :: .int .u32 st :: .int .u32 mie :: .int .u32 mip :: .int .u32 tv :: .int .u32 sc :: .int .u32 ep :: .int .u32 ca :: .int .u32 tl :: cs).toArray 54 (0, 0))) :
    Calls Tryd.prog 22 #[.pointer (some ⟨c, 0, none⟩)] w fun e w' => e = .returned (.bool (dueOf md st mie mip)) ∧ Hp w [] w' := by
  refine enter (args := [_]) (Γ := [(0, _)]) Tryd.func22 Tryd.ntmps22 rfl (of_decide_eq_true rfl) (.cons rfl .nil) ?_
  refine St.cls (C' := Hp w [⟨c, .int .i64 md :: .int .u32 st :: .int .u32 mie :: .int .u32 mip :: .int .u32 tv :: .int .u32 sc :: .int .u32 ep :: .int .u32 ca :: .int .u32 tl :: cs, 54⟩]) (fun _ h' => Hp.open h' hc) ?_
  repeat' (first | (apply Wl.move; exact rfl; exact rfl) | (apply Wl.assign; exact rfl; exact rfl) | (apply Wl.on; exact rfl; exact rfl; (first | with_reducible rfl | with_reducible assumption | decide)) | (apply Wl.off; exact rfl; exact rfl; exact rfl; (first | with_reducible rfl | (show _ = false; with_reducible assumption) | (show _ = true; with_reducible assumption) | decide)) | (apply Wl.offU; exact rfl; exact rfl; exact rfl) | (apply Wl.nilCheck; exact rfl; exact rfl) | (apply Wl.pickT; exact rfl; exact rfl; (first | with_reducible rfl | with_reducible assumption | decide); exact rfl) | (apply Wl.pickF; exact rfl; exact rfl; (first | with_reducible rfl | with_reducible assumption | decide); exact rfl) | (apply Wl.fieldAddr0; exact rfl; exact rfl) | (apply Wl.fieldAddrZ; exact rfl; exact rfl) | (apply Wl.loadH; exact rfl; exact rfl; (repeat (first | exact List.Mem.head _ | apply List.Mem.tail)); exact rfl) | (apply Wl.neqPN; exact rfl; exact rfl; exact rfl) | (apply Wl.eql; exact rfl; exact rfl; exact rfl) | (apply Wl.neq; exact rfl; exact rfl; exact rfl) | (apply Wl.and; exact rfl; exact rfl; exact rfl) | (apply Wl.nil) | (apply Wl.nilQ) | (apply St.seq) | (apply St.region) | (apply St.draw; exact mixed; (kernel_rfl); exact (fun _ h => Hp.drew h)) | (apply St.ret) | (apply Gt.next) | (apply Gt.out1; exact rfl; exact rfl; intro w' hp) | (apply Wl.splitP; exact rfl; exact rfl; all_goals (intros; try (exfalso; omega))) | (apply Wl.splitB; exact rfl; exact rfl; all_goals intros) | (apply St.condP; exact rfl; all_goals (intros; try (exfalso; omega))) | (apply St.condB; exact rfl; all_goals intros))
  · rename_i h1 _ h2 _
    refine ⟨?_, Hp.same hp hc⟩
    unfold dueOf
    rw [decide_eq_true h1, decide_eq_true h2]; rfl
  · rename_i h1 _ h2 _
    refine ⟨?_, Hp.same hp hc⟩
    unfold dueOf
    rw [decide_eq_true h1, decide_eq_false h2, and8]
    cases tb st 3 <;> rfl
  · rename_i h1 _
    refine ⟨?_, Hp.same hp hc⟩
    unfold dueOf
    rw [decide_eq_false h1]; rfl
set_option maxHeartbeats 4000000 in
theorem ftrapX (c : Nat) (md st mie mip tv sc ep ca tl : Int) (cs : List Value) (w : World) (pc ca1 tl1 : Int) (hpc : 0 ≤ pc ∧ pc < 4294967296) (hmd : md = 0 ∨ md = 3) (hc : w.heap[c]? = some (.cells (.int .i64 md :: .int .u32 st :: .int .u32 mie :: .int .u32 mip :: .int .u32 tv :: .int .u32 sc :: .int .u32 ep :: .int .u32 ca :: .int .u32 tl :: cs).toArray 54 (0, 0))) :
    Calls Tryd.prog 38 #[.pointer (some ⟨c, 0, none⟩), .int .u32 pc, .int .u32 ca1, .int .u32 tl1] w fun e w' => e = .returned (.int .u32 tv) ∧ ∃ s', Hp w [⟨c, .int .i64 3 :: .int .u32 s' :: .int .u32 mie :: .int .u32 mip :: .int .u32 tv :: .int .u32 sc :: .int .u32 (pc - pc % 4) :: .int .u32 ca1 :: .int .u32 tl1 :: cs, 54⟩] w' ∧
      (0 ≤ s' ∧ s' < 4294967296) ∧ tb s' 3 = false ∧ tb s' 7 = tb st 3 ∧ tb s' 11 = decide (md = 3) ∧ tb s' 12 = decide (md = 3) := by
  refine enter (args := [_, _, _, _]) (Γ := [(0, _), (1, _), (2, _), (3, _)]) Tryd.func38 Tryd.ntmps38 rfl (of_decide_eq_true rfl) (.cons rfl (.cons rfl (.cons rfl (.cons rfl .nil)))) ?_
  refine St.cls (C' := Hp w [⟨c, .int .i64 md :: .int .u32 st :: .int .u32 mie :: .int .u32 mip :: .int .u32 tv :: .int .u32 sc :: .int .u32 ep :: .int .u32 ca :: .int .u32 tl :: cs, 54⟩]) (fun _ h' => Hp.open h' hc) ?_
  rw [← low2 pc hpc]
  repeat' (first | (apply Wl.move; exact rfl; exact rfl) | (apply Wl.assign; exact rfl; exact rfl) | (apply Wl.nilCheck; exact rfl; exact rfl) | (apply Wl.fieldAddr0; exact rfl; exact rfl) | (apply Wl.fieldAddrZ; exact rfl; exact rfl) | (apply Wl.loadH; exact rfl; exact rfl; (repeat (first | exact List.Mem.head _ | apply List.Mem.tail)); exact rfl) | (apply Wl.eqlPN; exact rfl; exact rfl; exact rfl) | (apply Wl.neq; exact rfl; exact rfl; exact rfl) | (apply Wl.and; exact rfl; exact rfl; exact rfl) | (apply Wl.or; exact rfl; exact rfl; exact rfl) | (apply Wl.andNot; exact rfl; exact rfl; exact rfl) | (apply Wl.shl; exact rfl; exact rfl; exact rfl; (omega)) | (apply Wl.convU32; exact rfl; exact rfl; (constructor <;> omega)) | (apply Wl.store; exact rfl; exact rfl; exact rfl; (repeat (first | apply HSet.here | apply HSet.there)); (repeat (first | apply LSet.z | apply LSet.s))) | (apply Wl.nil) | (apply St.seq) | (apply St.region) | (apply St.condF; exact rfl; (first | with_reducible rfl | with_reducible assumption | decide)) | (apply St.ret) | (apply St.skip) | (apply Gt.next) | (apply Gt.out1; exact rfl; exact rfl; intro w' hp) | (apply Wl.splitP; exact rfl; exact rfl; all_goals (intros; try (exfalso; omega))) | (apply Wl.splitB; exact rfl; exact rfl; all_goals intros) | (apply St.condP; exact rfl; all_goals (intros; try (exfalso; omega))) | (apply St.condB; exact rfl; all_goals intros))
  all_goals
    rename_i h1 _
    refine ⟨rfl, _, hp, ⟨bits_lo_u32 _ _ _, by have := bits_hi_u32; have := this BinOp.or; exact Int.lt_of_le_of_lt (this _ _) (by decide)⟩, ?_⟩
    rw [and8] at h1
    have e0 : IntKind.u32.wrap (0 * 2 ^ min (Int.toNat 11) IntKind.u32.bits) = 0 := by rfl
    have e3 : IntKind.u32.wrap (3 * 2 ^ min (Int.toNat 11) IntKind.u32.bits) = 6144 := by rfl
    rcases hmd with rfl | rfl
    all_goals
      first | rw [e0] | rw [e3]
      simp [tb_or, tb_andNot, show tb 8 3 = true from by decide, show tb 8 7 = false from by decide, show tb 8 11 = false from by decide, show tb 8 12 = false from by decide,
        show tb 6272 7 = true from by decide, show tb 6272 11 = true from by decide, show tb 6272 12 = true from by decide, show tb 128 7 = true from by decide, show tb 128 11 = false from by decide, show tb 128 12 = false from by decide,
        show tb 0 3 = false from by decide, show tb 0 7 = false from by decide, show tb 0 11 = false from by decide, show tb 0 12 = false from by decide,
        show tb 6144 3 = false from by decide, show tb 6144 7 = false from by decide, show tb 6144 11 = true from by decide, show tb 6144 12 = true from by decide]
      simpa using h1
end Go.Proofs.YtcefkbnachnciaaDoor
end
section
namespace Go.Proofs.YtcefkbnachnciaaDoor
end Go.Proofs.YtcefkbnachnciaaDoor
end
section
namespace Go.Pt
open Go.RowKit
def cellsN (k : IntKind) (n : Nat) (f : Nat → Nat) : List Value := (List.range n).map fun j => Value.int k (f j)
theorem cellsN_len (k : IntKind) (n : Nat) (f : Nat → Nat) : (cellsN k n f).length = n := by simp [cellsN]
theorem cellsN_get {k : IntKind} {n i : Nat} {f : Nat → Nat} (h : i < n) : (cellsN k n f)[i]? = some (.int k (f i)) := by simp [cellsN, h]
theorem cellsN_one (k : IntKind) (n : Nat) (f : Nat → Nat) : (cellsN k n f).all Value.oneCell' = true := by simp [cellsN, Value.oneCell']
theorem run_neq_agg {P : Program} (w : World) {t : TypeId} {xs ys : Array Value} {la lb : List Lit} (hk : P.keyTypeAt 8 t = true) (fx : (Value.agg xs).formed P t = true) (fy : (Value.agg ys).formed P t = true) (hx : P.keyLits 8 t xs.toList = some la) (hy : P.keyLits 8 t ys.toList = some lb) :
    ∃ r : Bool, (binOp .eql t (.agg xs) (.agg ys)).run P w = .ok (.bool r) w ∧ (binOp .neq t (.agg xs) (.agg ys)).run P w = .ok (.bool (!r)) w ∧ (r = true ↔ la = lb) := by
  obtain ⟨r, hr, hiff⟩ := run_equalIn_deep 9992 8 t hk w 8 8 (.agg xs) (.agg ys) la lb fx fy hx hy
  refine ⟨r, ?_, ?_, hiff⟩ <;>
  · have : (Op.equal t (.agg xs) (.agg ys)).run P w = .ok r w := hr
    simp [binOp, this]
theorem mapM_some {α β : Type} {f : α → Option β} {g : α → β} {l : List α} (h : ∀ x ∈ l, f x = some (g x)) : l.mapM f = some (l.map g) := by
  induction l with
  | nil => rfl
  | cons x r ih => rw [List.mapM_cons, h x (by simp), ih fun y hy => h y (by simp [hy])]; rfl
theorem flat1 {α β : Type} (h : α → β) (l : List α) : (l.map fun i => [h i]).flatten = l.map h := by
  induction l with
  | nil => rfl
  | cons x r ih => simp [ih]
theorem klInt {P : Program} {d t : Nat} {q : IntKind} {n : Int} (ht : P.underlying t = some (.int q)) (hn : q.min ≤ n ∧ n ≤ q.max) : P.keyLits (d + 1) t [.int q n] = some [.int q n] := by
  simp [Program.keyLits, ht, Lit.wf, hn.1, hn.2]
theorem klInts {P : Program} {d t n e : Nat} {q : IntKind} (ht : P.underlying t = some (.array n e)) (he : P.underlying e = some (.int q)) (hs : P.cellsOf t = n) (hse : P.cellsOf e = 1) (f : Nat → Nat) (hf : ∀ j, j < n → q.min ≤ (f j : Int) ∧ (f j : Int) ≤ q.max) :
    P.keyLits (d + 2) t (cellsN q n f) = some ((List.range n).map fun j => Lit.int q (f j)) := by
  show P.keyLits ((d + 1) + 1) t _ = _
  unfold Program.keyLits
  simp only [ht]
  rw [if_pos (by rw [cellsN_len, hs]), mapM_some (g := fun i => [Lit.int q (f i)]) ?_]
  · simp only [Option.map_some, flat1]
  · intro i hi
    have hi' : i < n := by simpa using hi
    rw [hse, Nat.mul_one]
    have e1 : ((cellsN q n f).drop i).take 1 = [.int q (f i)] := by
      have h2 : i < (cellsN q n f).length := by rw [cellsN_len]; exact hi'
      rw [List.drop_eq_getElem_cons h2]
      simp [cellsN]
    rw [e1]
    exact klInt he (hf i hi')
theorem guard_agg {op : BinOp} {t : TypeId} {P : Program} (hg : P.eqGuardType P.depth t = false) (x y : Operand) (a b : Array Value) (w : World) : (eqGuard op t x y (.agg a) (.agg b)).run P w = .ok () w := by
  cases op <;> simp [eqGuard, hg]
theorem run_ints {P : Program} (w : World) {t e n : Nat} {q : IntKind} (ht : P.underlying t = some (.array n e)) (he : P.underlying e = some (.int q)) (hs : P.cellsOf t = n) (hse : P.cellsOf e = 1) (hk : P.keyTypeAt 8 t = true) (f g : Nat → Nat)
    (hf : ∀ j, j < n → q.min ≤ (f j : Int) ∧ (f j : Int) ≤ q.max) (hg : ∀ j, j < n → q.min ≤ (g j : Int) ∧ (g j : Int) ≤ q.max) :
    ∃ r : Bool, (binOp .eql t (.agg (cellsN q n f).toArray) (.agg (cellsN q n g).toArray)).run P w = .ok (.bool r) w ∧ (binOp .neq t (.agg (cellsN q n f).toArray) (.agg (cellsN q n g).toArray)).run P w = .ok (.bool (!r)) w ∧ (r = true ↔ ∀ j, j < n → f j = g j) := by
  have form (f : Nat → Nat) : (Value.agg (cellsN q n f).toArray).formed P t = true := by
    simp [Value.formed, ht, hs, cellsN_len]
  obtain ⟨r, h1, h2, hiff⟩ := run_neq_agg (P := P) w (t := t) hk (form f) (form g) (klInts ht he hs hse f hf) (klInts ht he hs hse g hg)
  refine ⟨r, h1, h2, hiff.trans ⟨fun h j hj => ?_, fun h => ?_⟩⟩
  · have := congrArg (fun l => l[j]?) h
    simp [hj] at this
    exact Int.ofNat_inj.1 this
  · apply List.map_congr_left
    intro j hj
    rw [h j (List.mem_range.1 hj)]

section
variable {P : Program} {md : Md} {N : Nat} {ops : Array Oper} {rest : List Oper} {Γ : Env} {C : World → Prop} {Q : Exit → Act → World → Prop} {d : Nat} {ty : TypeId} {pos : String} {af : Array Edge} {t u : TypeId} {x y : Operand}
section
variable {m n : Nat}
end
theorem Wl.indexA {e by_ n : TypeId} [ht : TyD P t (.array n e)] [TyS P e 1 by_] {i : Operand} {b : Nat} {k : IntKind} {j : Nat} (hd : Nat.blt d N = true) (hx : ev Γ x = some (.pointer (some ⟨b, 0, none⟩))) (hi : ev Γ i = some (.int k (j : Int)))
    (hj : j < n) (h : Wl rest P md ops N ((d, .pointer (some ⟨b, j, none⟩)) :: Γ) C Q) : Wl (⟨some d, .indexAddr t x i, ty, pos, af, none⟩ :: rest) P md ops N Γ C Q :=
  Wl.indexArr hd hx hi ⟨by omega, by omega⟩ (by rw [Int.toNat_natCast, Nat.mul_one, Nat.zero_add]; exact h)
theorem Wl.indexAo {e by_ n : TypeId} [ht : TyD P t (.array n e)] [TyS P e 1 by_] {i : Operand} {b o : Nat} {k : IntKind} {j : Nat} (hd : Nat.blt d N = true) (hx : ev Γ x = some (.pointer (some ⟨b, o, none⟩))) (hi : ev Γ i = some (.int k (j : Int)))
    (hj : j < n) (h : Wl rest P md ops N ((d, .pointer (some ⟨b, o + j, none⟩)) :: Γ) C Q) : Wl (⟨some d, .indexAddr t x i, ty, pos, af, none⟩ :: rest) P md ops N Γ C Q :=
  Wl.indexArr hd hx hi ⟨by omega, by omega⟩ (by rw [Int.toNat_natCast, Nat.mul_one]; exact h)
theorem Wl.eqlA {e n : Nat} {q : IntKind} {f g : Nat → Nat} [ht : TyD P t (.array n e)] [he : TyD P e (.int q)] (hd : Nat.blt d N = true) (hx : ev Γ x = some (.agg (cellsN q n f).toArray)) (hy : ev Γ y = some (.agg (cellsN q n g).toArray)) (hs : P.cellsOf t = n) (hse : P.cellsOf e = 1) (hk : P.keyTypeAt 8 t = true) (hg0 : P.eqGuardType P.depth t = false)
    (hf : ∀ j, j < n → q.min ≤ (f j : Int) ∧ (f j : Int) ≤ q.max) (hg : ∀ j, j < n → q.min ≤ (g j : Int) ∧ (g j : Int) ≤ q.max) (b : Bool) (hb : b = true ↔ ∀ j, j < n → f j = g j) (h : Wl rest P md ops N ((d, .bool b) :: Γ) C Q) : Wl (⟨some d, .binOp .eql t x y u, ty, pos, af, none⟩ :: rest) P md ops N Γ C Q :=
  Wl.val hd (fun a w ha _ => by
    obtain ⟨r, h1, _, h3⟩ := run_ints (P := P) w ht.out he.out hs hse hk f g hf hg
    have : r = b := by rw [Bool.eq_iff_iff, h3, hb]
    subst this
    simp only [execOp, ha.ev hx, ha.ev hy, pure_bind, Sem.run_bind, guard_agg (P := P) hg0, Result.andThen_ok, h1]; rfl) h
end
attribute [irreducible] cellsN
theorem LOver.whole {l xs : List Value} (h : l.length = xs.length) : LOver l xs xs := by
  induction xs generalizing l with
  | nil => cases l with
    | nil => exact .nil
    | cons _ _ => simp at h
  | cons x r ih => cases l with
    | nil => simp at h
    | cons y s => exact .cons (ih (by simpa using h))
theorem LSub.whole {l : List Value} {n : Nat} (h : l.length = n) : LSub l 0 n l := by
  induction l generalizing n with
  | nil => subst h; exact .z
  | cons x r ih => subst h; exact .t (ih rfl)
section
variable {P : Program} {md : Md} {N : Nat} {ops : Array Oper} {rest : List Oper} {Γ : Env} {Q : Exit → Act → World → Prop} {d : Nat} {ty : TypeId} {pos : String} {af : Array Edge} {t : TypeId} {x y : Operand}
theorem Wl.loadW {w0 : World} {H : List Blk} {n m bt : TypeId} [TyA P t n] {c : Nat} {k : IntKind} {f : Nat → Nat} (hd : Nat.blt d N = true) (hx : ev Γ x = some (.pointer (some ⟨c, 0, none⟩))) (hm : (⟨c, cellsN k m f, bt⟩ : Blk) ∈ H) (hn : Nat.beq m n = true)
    (h : Wl rest P md ops N ((d, .agg (cellsN k m f).toArray) :: Γ) (Hp w0 H) Q) : Wl (⟨some d, .load t x, ty, pos, af, none⟩ :: rest) P md ops N Γ (Hp w0 H) Q :=
  Wl.loadAH hd hx hm (LSub.whole ((cellsN_len k m f).trans (Nat.eq_of_beq_eq_true hn))) h
end
theorem Gt.outC' {P : Program} {N : Nat} {Γ : Env} {w0 : World} {H : List Blk} {fn : Func} {R : Ending → World → Prop} {t ty n c i bt : Nat} {cs xs : List Value} (hr : fn.results = #[.cell t ty]) (hT : TyA P ty n) (ht : look Γ t = some (.pointer (some ⟨c, i, none⟩))) (hm : (⟨c, cs, bt⟩ : Blk) ∈ H) (hi' : LSub cs i n xs)
    (h : ∀ w, Hp w0 H w → R (.returned (.agg xs.toArray)) w) : Gt N .ret Γ (Hp w0 H) (bodyPost P fn R) := Gt.outC hr ht hm hi' h
end Go.Pt
end
section
namespace Go.Pt
open Go.RowKit
theorem LSet.app {xs r r' : List Value} {i : Nat} {v : Value} (h : LSet r i v r') : LSet (xs ++ r) (xs.length + i) v (xs ++ r') := by
  induction xs with
  | nil => simpa using h
  | cons x s ih => rw [List.length_cons, show s.length + 1 + i = (s.length + i) + 1 by omega]; exact .s ih
section
variable {P : Program} {md : Md} {N : Nat} {ops : Array Oper} {rest : List Oper} {Γ : Env} {Q : Exit → Act → World → Prop} {d : Nat} {ty : TypeId} {pos : String} {af : Array Edge} {t : TypeId} {x y : Operand}
theorem Wl.loadHi (i : Nat) {w0 : World} {H : List Blk} {bt : TypeId} [TyC P t] {c j : Nat} {xs r : List Value} {v : Value} (hd : Nat.blt d N = true) (hx : ev Γ x = some (.pointer (some ⟨c, j, none⟩))) (hm : (⟨c, xs ++ r, bt⟩ : Blk) ∈ H) (hl : xs.length = 32) (hj : j = 32 + i) (hv : r[i]? = some v)
    (h : Wl rest P md ops N ((d, v) :: Γ) (Hp w0 H) Q) : Wl (⟨some d, .load t x, ty, pos, af, none⟩ :: rest) P md ops N Γ (Hp w0 H) Q :=
  Wl.loadH hd hx hm (by rw [hj, ← hl, List.getElem?_append_right (by omega), Nat.add_sub_cancel_left]; exact hv) h
theorem Wl.storeHi (i : Nat) {w0 : World} {H H' : List Blk} {bt by_ : TypeId} [TyS P t 1 by_] {c j : Nat} {v : Value} {xs r r' : List Value} (hx : ev Γ x = some (.pointer (some ⟨c, j, none⟩))) (hy : ev Γ y = some v) (h1 : v.oneCell' = true) (hs : HSet c (xs ++ r) (xs ++ r') bt H H') (hl : xs.length = 32) (hj : j = 32 + i) (hr : LSet r i v r')
    (h : Wl rest P .seq ops N Γ (Hp w0 H') Q) : Wl (⟨none, .store t x y, ty, pos, af, none⟩ :: rest) P .seq ops N Γ (Hp w0 H) Q := Wl.store hx hy h1 hs (by rw [hj, ← hl]; exact hr.app) h
end
end Go.Pt
namespace Go.Proofs.YtcefkbnachnciaaDoor
open Go.RowKit Go.Pt
def HH (w : World) (h c : Nat) (vM : Value) (xs : List Value) (pc : Int) : Prop := xs.length = 32 ∧ w.heap[h]? = some (.cells (xs ++ [.int .u32 pc, .pointer (some ⟨c, 0, none⟩), vM]).toArray 30 (0, 0))
theorem HH.ne {w : World} {h c c' : Nat} {vM : Value} {xs : List Value} {pc md tv : Int} (k : HH w h c vM xs pc) (f : FF w c' md tv) : h ≠ c' := by
  obtain ⟨st, mie, mip, sc, ep, ca, tl, cs, hk, hc⟩ := f
  intro e
  have := k.2
  rw [e, hc] at this
  simp at this
theorem HH.lt {w : World} {h c : Nat} {vM : Value} {xs : List Value} {pc : Int} (k : HH w h c vM xs pc) : h < w.heap.size := lt_of_block k.2
theorem HH.upd {w w' : World} {h c : Nat} {vM : Value} {xs : List Value} {pc : Int} {S : Nat → Prop} (k : HH w h c vM xs pc) (u : Upd S w w') (hs : ¬ S h) : HH w' h c vM xs pc := ⟨k.1, u.heap k.2 hs⟩
set_option maxHeartbeats 4000000 in
theorem htrap (h cf : Nat) (vM : Value) (xs : List Value) (pc md tv wd ca tl at_ wi ca0 tl0 : Int) (tr st0 : Bool) (w : World) (hH : HH w h cf vM xs pc) (hF : FF w cf md tv) :
    Calls Tryd.prog 23 #[.pointer (some ⟨h, 0, none⟩), .agg #[.int .u32 wd, .bool tr, .int .u32 ca0, .int .u32 tl0, .int .u32 at_, .int .i64 wi, .bool st0], .int .u32 ca, .int .u32 tl] w
      fun e w' => e = .returned (.agg #[.int .u32 wd, .bool true, .int .u32 ca, .int .u32 tl, .int .u32 at_, .int .i64 wi, .bool st0]) ∧ HH w' h cf vM xs tv ∧ FF w' cf 3 tv ∧ Upd (fun k => k = h ∨ k = cf) w w' := by
  have hne := hH.ne hF
  have hlc := hF.lt
  have hlh := hH.lt
  obtain ⟨hl, hh⟩ := hH
  refine enter (args := [_, _, _, _]) (Γ := [(0, _), (1, _), (2, _), (3, _)]) Tryd.func23 Tryd.ntmps23 rfl (of_decide_eq_true rfl) (.cons rfl (.cons rfl (.cons rfl (.cons rfl .nil)))) ?_
  refine St.cls (C' := Hp w [⟨h, xs ++ [.int .u32 pc, .pointer (some ⟨cf, 0, none⟩), vM], 30⟩]) (fun _ h' => Hp.open h' hh) ?_
  repeat' (first | (apply Wl.boxA; exact rfl; exact rfl; intro c hc ho) | (apply Wl.alloc; exact rfl; intro c hc ho) | (apply Wl.nil) | (apply St.seq) | (apply St.region) | (apply Gt.next) | (apply Wl.splitP; exact rfl; exact rfl; all_goals (intros; try (exfalso; omega))) | (apply Wl.splitB; exact rfl; exact rfl; all_goals intros) | (apply St.condP; exact rfl; all_goals (intros; try (exfalso; omega))) | (apply St.condB; exact rfl; all_goals intros))
  rename_i cT hcT hoT
  have hF33 : ∀ (w' : World) (pc' : Int), w'.heap[h]? = some (.cells (xs ++ [.int .u32 pc', .pointer (some ⟨cf, 0, none⟩), vM]).toArray 30 (0, 0)) → w'.cell? ⟨h, 33, none⟩ = some (.pointer (some ⟨cf, 0, none⟩)) := fun w' pc' h' =>
    cell_of h' (by rw [show (33 : Nat) = xs.length + 1 by omega, List.getElem?_append_right (by omega), Nat.add_sub_cancel_left]; rfl)
  have hTc : cT < c ∨ c < cT := by have := ho.1; simp only at this; omega
  refine St.tree (fun w' => w'.cell? ⟨h, 33, none⟩ = some (.pointer (some ⟨cf, 0, none⟩))) mixed (fun _ h' => ⟨Hp.drew h', hF33 _ pc ((Hp.drew h').own.at (.tail _ (.tail _ (.head _))))⟩) ?_
  refine Mt.pure 0 (by decide +kernel) (by exact rfl) (by exact rfl) (by decide +kernel) (by decide +kernel) ?_
  repeat' (first | (apply Wl.move; exact rfl; exact rfl) | (apply Wl.nilM) | (apply Wl.splitP; exact rfl; exact rfl; all_goals (intros; try (exfalso; omega))) | (apply Wl.splitB; exact rfl; exact rfl; all_goals intros) | (apply St.condP; exact rfl; all_goals (intros; try (exfalso; omega))) | (apply St.condB; exact rfl; all_goals intros))
  apply Mt.back
  refine Mt.pure 1 (by decide +kernel) (by exact rfl) (by exact rfl) (by decide +kernel) (by decide +kernel) ?_
  repeat' (first | (apply Wl.move; exact rfl; exact rfl) | (apply Wl.nilM) | (apply Wl.splitP; exact rfl; exact rfl; all_goals (intros; try (exfalso; omega))) | (apply Wl.splitB; exact rfl; exact rfl; all_goals intros) | (apply St.condP; exact rfl; all_goals (intros; try (exfalso; omega))) | (apply St.condB; exact rfl; all_goals intros))
  apply Mt.back
  refine Mt.pure 2 (by decide +kernel) (by exact rfl) (by exact rfl) (by decide +kernel) (by decide +kernel) ?_
  repeat' (first | (apply Wl.nilCheck; exact rfl; exact rfl) | (apply Wl.nilM) | (apply Wl.splitP; exact rfl; exact rfl; all_goals (intros; try (exfalso; omega))) | (apply Wl.splitB; exact rfl; exact rfl; all_goals intros) | (apply St.condP; exact rfl; all_goals (intros; try (exfalso; omega))) | (apply St.condB; exact rfl; all_goals intros))
  apply Mt.back
  refine Mt.pure 3 (by decide +kernel) (by exact rfl) (by exact rfl) (by decide +kernel) (by decide +kernel) ?_
  repeat' (first | (apply Wl.fieldAddrZ; exact rfl; exact rfl) | (apply Wl.nilM) | (apply Wl.splitP; exact rfl; exact rfl; all_goals (intros; try (exfalso; omega))) | (apply Wl.splitB; exact rfl; exact rfl; all_goals intros) | (apply St.condP; exact rfl; all_goals (intros; try (exfalso; omega))) | (apply St.condB; exact rfl; all_goals intros))
  apply Mt.back
  refine Mt.pure 4 (by decide +kernel) (by exact rfl) (by exact rfl) (by decide +kernel) (by decide +kernel) ?_
  repeat' (first | (apply Wl.loadF; exact rfl; exact rfl; (intro w' h'; exact h')) | (apply Wl.nilM) | (apply Wl.splitP; exact rfl; exact rfl; all_goals (intros; try (exfalso; omega))) | (apply Wl.splitB; exact rfl; exact rfl; all_goals intros) | (apply St.condP; exact rfl; all_goals (intros; try (exfalso; omega))) | (apply St.condB; exact rfl; all_goals intros))
  apply Mt.back
  refine Mt.pure 5 (by decide +kernel) (by exact rfl) (by exact rfl) (by decide +kernel) (by decide +kernel) ?_
  repeat' (first | (apply Wl.move; exact rfl; exact rfl) | (apply Wl.nilM) | (apply Wl.splitP; exact rfl; exact rfl; all_goals (intros; try (exfalso; omega))) | (apply Wl.splitB; exact rfl; exact rfl; all_goals intros) | (apply St.condP; exact rfl; all_goals (intros; try (exfalso; omega))) | (apply St.condB; exact rfl; all_goals intros))
  apply Mt.back
  refine Mt.pure 6 (by decide +kernel) (by exact rfl) (by exact rfl) (by decide +kernel) (by decide +kernel) ?_
  repeat' (first | (apply Wl.nilCheck; exact rfl; exact rfl) | (apply Wl.nilM) | (apply Wl.splitP; exact rfl; exact rfl; all_goals (intros; try (exfalso; omega))) | (apply Wl.splitB; exact rfl; exact rfl; all_goals intros) | (apply St.condP; exact rfl; all_goals (intros; try (exfalso; omega))) | (apply St.condB; exact rfl; all_goals intros))
  apply Mt.back
  refine Mt.pure 7 (by decide +kernel) (by exact rfl) (by exact rfl) (by decide +kernel) (by decide +kernel) ?_
  repeat' (first | (apply Wl.fieldAddrZ; exact rfl; exact rfl) | (apply Wl.nilM) | (apply Wl.splitP; exact rfl; exact rfl; all_goals (intros; try (exfalso; omega))) | (apply Wl.splitB; exact rfl; exact rfl; all_goals intros) | (apply St.condP; exact rfl; all_goals (intros; try (exfalso; omega))) | (apply St.condB; exact rfl; all_goals intros))
  apply Mt.back
  refine Mt.pure 9 (by decide +kernel) (by exact rfl) (by exact rfl) (by decide +kernel) (by decide +kernel) ?_
  repeat' (first | (apply Wl.move; exact rfl; exact rfl) | (apply Wl.nilM) | (apply Wl.splitP; exact rfl; exact rfl; all_goals (intros; try (exfalso; omega))) | (apply Wl.splitB; exact rfl; exact rfl; all_goals intros) | (apply St.condP; exact rfl; all_goals (intros; try (exfalso; omega))) | (apply St.condB; exact rfl; all_goals intros))
  apply Mt.back
  refine Mt.pure 10 (by decide +kernel) (by exact rfl) (by exact rfl) (by decide +kernel) (by decide +kernel) ?_
  repeat' (first | (apply Wl.move; exact rfl; exact rfl) | (apply Wl.nilM) | (apply Wl.splitP; exact rfl; exact rfl; all_goals (intros; try (exfalso; omega))) | (apply Wl.splitB; exact rfl; exact rfl; all_goals intros) | (apply St.condP; exact rfl; all_goals (intros; try (exfalso; omega))) | (apply St.condB; exact rfl; all_goals intros))
  apply Mt.back
  refine Mt.eff1 (i := 8) (by decide +kernel) (by exact rfl) ?_
  repeat' (first | (apply Wl.loadHi 0; exact rfl; exact rfl; (repeat (first | exact List.Mem.head _ | apply List.Mem.tail)); exact hl; exact rfl; exact rfl) | (apply Wl.nil) | (apply Wl.splitP; exact rfl; exact rfl; all_goals (intros; try (exfalso; omega))) | (apply Wl.splitB; exact rfl; exact rfl; all_goals intros) | (apply St.condP; exact rfl; all_goals (intros; try (exfalso; omega))) | (apply St.condB; exact rfl; all_goals intros))
  refine Mt.backE (fun _ h' => hF33 _ pc (h'.own.at (.tail _ (.tail _ (.head _))))) ?_
  refine Mt.eff1 (i := 11) (by decide +kernel) (by exact rfl) ?_
  apply Wl.callC
  · exact rfl
  · (repeat (first | exact Evs.nil | apply Evs.cons rfl))
  intro wq hq
  refine (ftrap cf pc ca tl md tv wq (hF.upd hq.upd fun y => y ⟨by simp only; omega, by simp only; omega, fun e => hne e, trivial⟩)).mono ?_
  rintro e w1 ⟨rfl, f1, u1⟩
  refine ⟨_, _, rfl, Hp.rest hq u1 (by simp only [List.mem_cons, List.not_mem_nil, or_false, forall_eq_or_imp, forall_eq]; omega), ?_⟩
  have hsz := hq.upd.size
  have hqu := hq.upd
  have hfz := f1.lt
  clear hq
  repeat' (first | (apply Wl.nil) | (apply Wl.splitP; exact rfl; exact rfl; all_goals (intros; try (exfalso; omega))) | (apply Wl.splitB; exact rfl; exact rfl; all_goals intros) | (apply St.condP; exact rfl; all_goals (intros; try (exfalso; omega))) | (apply St.condB; exact rfl; all_goals intros))
  refine Mt.backE (fun _ h' => hF33 _ pc (h'.own.at (.tail _ (.tail _ (.head _))))) ?_
  refine Mt.pure 12 (by decide +kernel) (by exact rfl) (by exact rfl) (by decide +kernel) (by decide +kernel) ?_
  repeat' (first | (apply Wl.nilCheck; exact rfl; exact rfl) | (apply Wl.nilM) | (apply Wl.splitP; exact rfl; exact rfl; all_goals (intros; try (exfalso; omega))) | (apply Wl.splitB; exact rfl; exact rfl; all_goals intros) | (apply St.condP; exact rfl; all_goals (intros; try (exfalso; omega))) | (apply St.condB; exact rfl; all_goals intros))
  apply Mt.back
  refine Mt.pure 13 (by decide +kernel) (by exact rfl) (by exact rfl) (by decide +kernel) (by decide +kernel) ?_
  repeat' (first | (apply Wl.fieldAddrZ; exact rfl; exact rfl) | (apply Wl.nilM) | (apply Wl.splitP; exact rfl; exact rfl; all_goals (intros; try (exfalso; omega))) | (apply Wl.splitB; exact rfl; exact rfl; all_goals intros) | (apply St.condP; exact rfl; all_goals (intros; try (exfalso; omega))) | (apply St.condB; exact rfl; all_goals intros))
  apply Mt.back
  refine Mt.eff1 (i := 14) (by decide +kernel) (by exact rfl) ?_
  apply Wl.storeHi 0
  · exact rfl
  · exact rfl
  · exact rfl
  · (repeat (first | apply HSet.here | apply HSet.there))
  · exact hl
  · exact rfl
  · (repeat (first | apply LSet.z | apply LSet.s))
  repeat' (first | (apply Wl.nil) | (apply Wl.splitP; exact rfl; exact rfl; all_goals (intros; try (exfalso; omega))) | (apply Wl.splitB; exact rfl; exact rfl; all_goals intros) | (apply St.condP; exact rfl; all_goals (intros; try (exfalso; omega))) | (apply St.condB; exact rfl; all_goals intros))
  refine Mt.backE (fun _ h' => hF33 _ tv (h'.own.at (.tail _ (.tail _ (.head _))))) ?_
  refine Mt.toGt (by decide +kernel) ?_
  repeat' (first | (apply Wl.loadHi 1; exact rfl; exact rfl; (repeat (first | exact List.Mem.head _ | apply List.Mem.tail)); exact hl; exact rfl; exact rfl) | (apply Wl.move; exact rfl; exact rfl) | (apply Wl.nilCheck; exact rfl; exact rfl) | (apply Wl.fieldAddrZ; exact rfl; exact rfl) | (apply Wl.store; exact rfl; exact rfl; exact rfl; (repeat (first | apply HSet.here | apply HSet.there)); (repeat (first | apply LSet.z | apply LSet.s))) | (apply Wl.nil) | (apply St.seq) | (apply St.region) | (apply Gt.next) | (apply Wl.splitP; exact rfl; exact rfl; all_goals (intros; try (exfalso; omega))) | (apply Wl.splitB; exact rfl; exact rfl; all_goals intros) | (apply St.condP; exact rfl; all_goals (intros; try (exfalso; omega))) | (apply St.condB; exact rfl; all_goals intros))
  apply Wl.callC
  · exact rfl
  · (repeat (first | exact Evs.nil | apply Evs.cons rfl))
  intro wq2 hq2
  refine (ftick cf false 3 tv wq2 (f1.upd hq2.upd fun y => y ⟨by simp only; omega, by simp only; omega, fun e => hne e, trivial⟩)).mono ?_
  rintro e w2 ⟨rfl, f2, u2⟩
  refine ⟨_, _, rfl, Hp.rest hq2 u2 (by simp only [List.mem_cons, List.not_mem_nil, or_false, forall_eq_or_imp, forall_eq]; omega), ?_⟩
  have hsz2 := hq2.upd.size
  have hsz1 := u1.size
  have hqu2 := hq2.upd
  have hfz2 := f2.lt
  clear hq2
  repeat' (first | (apply Gt.outC'; exact rfl; infer_instance; exact rfl; (repeat (first | exact List.Mem.head _ | apply List.Mem.tail)); (repeat (first | apply LSub.z | apply LSub.t | apply LSub.s)); intro w' hp) | (apply Wl.storeA; exact rfl; exact rfl; exact rfl; exact rfl; (repeat (first | apply HSet.here | apply HSet.there)); (repeat (first | apply LPut.s | apply LPut.z | apply LOver.nil | apply LOver.cons))) | (apply Wl.loadAH; exact rfl; exact rfl; (repeat (first | exact List.Mem.head _ | apply List.Mem.tail)); (repeat (first | apply LSub.z | apply LSub.t | apply LSub.s))) | (apply Wl.nil) | (apply St.seq) | (apply St.region) | (apply St.ret) | (apply Gt.next) | (apply Wl.splitP; exact rfl; exact rfl; all_goals (intros; try (exfalso; omega))) | (apply Wl.splitB; exact rfl; exact rfl; all_goals intros) | (apply St.condP; exact rfl; all_goals (intros; try (exfalso; omega))) | (apply St.condB; exact rfl; all_goals intros))
  have key : ∀ (a b : World) (x1 x2 x3 : List Value) (t1 t2 t3 : Nat), w.heap.size ≤ a.heap.size → Upd (fun k => ¬ Off [⟨c, x1, t1⟩, ⟨cT, x2, t2⟩, ⟨h, x3, t3⟩] k) a b → Upd (fun k => k = h ∨ w.heap.size ≤ k) a b := fun a b x1 x2 x3 t1 t2 t3 _ u =>
    u.mono fun k _ hs => Classical.byContradiction fun z => hs ⟨fun e => z (.inr (by simp only at e; omega)), fun e => z (.inr (by simp only at e; omega)), fun e => z (.inl e.symm), trivial⟩
  have key2 : Upd (fun k => k = h ∨ k = cf ∨ w.heap.size ≤ k) w w' :=
    ((((key _ _ _ _ _ _ _ _ (Nat.le_refl _) hqu).mono fun k _ hs => hs.elim .inl fun e => .inr (.inr e)).trans (u1.mono fun k _ e => .inr (.inl e))).trans (((key _ _ _ _ _ _ _ _ (by omega) hqu2).mono fun k _ hs => hs.elim .inl fun e => .inr (.inr e)).trans (u2.mono fun k _ e => .inr (.inl e)))).trans
      ((key _ _ _ _ _ _ _ _ (by have := u2.size; omega) hp.upd).mono fun k _ hs => hs.elim .inl fun e => .inr (.inr e))
  exact ⟨rfl, ⟨hl, hp.own.2.2.1⟩, f2.upd hp.upd fun y => y ⟨by simp only; omega, by simp only; omega, fun e => hne e, trivial⟩, key2.mono fun k hk hs => by rcases hs with e | e | e; exact .inl e; exact .inr e; omega⟩
end Go.Proofs.YtcefkbnachnciaaDoor
end
section
namespace Go.Proofs.YtcefkbnachnciaaDoor
open Go.RowKit Go.Pt
theorem pick_any (b : Nat) (f : Int) (l : List Int) (n cap : Nat) (w : World) (hf : 0 ≤ f) (hn : n = l.length) (hb : w.heap[b]? = some (.cells (l.map (Value.int .i64)).toArray 3 (0, 0))) (r : Int) (hr : l[f.toNat]?.getD 0 = r) :
    Calls Tryd.prog 53 #[.int .i64 f, .slice (some ⟨b, 0, none⟩) n cap] w fun e w' => e = .returned (.int .i64 r) ∧ Hp w [] w' := by
  subst hn hr
  refine enter (args := [_, _]) (Γ := [(0, _), (1, _)]) Tryd.func53 Tryd.ntmps53 rfl (of_decide_eq_true rfl) (.cons rfl (.cons rfl .nil)) ?_
  by_cases hlt : f < l.length
  · have hl : f.toNat < l.length := by omega
    have hc : w.cell? ⟨b, 0 + f.toNat, none⟩ = some (.int .i64 l[f.toNat]) := cell_of hb (by rw [Nat.zero_add, List.getElem?_map, List.getElem?_eq_getElem hl]; rfl)
    repeat' (first | (apply Wl.loadO; exact rfl; exact rfl; exact hc; exact trivial) | (apply Wl.move; exact rfl; exact rfl) | (apply Wl.assign; exact rfl; exact rfl) | (apply Wl.lss; exact rfl; exact rfl; exact rfl) | (apply Wl.len; exact rfl; exact rfl) | (apply Wl.indexAddr1; exact rfl; exact rfl; exact rfl; (constructor <;> omega)) | (apply Wl.nil) | (apply St.seq) | (apply St.region) | (apply St.ret) | (apply Gt.next) | (apply Gt.thenRet) | (apply Gt.out1; exact rfl; exact rfl; intro w' hp) | (apply Wl.splitP; exact rfl; exact rfl; all_goals (intros; try (exfalso; omega))) | (apply Wl.splitB; exact rfl; exact rfl; all_goals intros) | (apply St.condP; exact rfl; all_goals (intros; try (exfalso; omega))) | (apply St.condB; exact rfl; all_goals intros))
    rw [List.getElem?_eq_getElem hl]
    exact ⟨rfl, hp⟩
  · repeat' (first | (apply Wl.move; exact rfl; exact rfl) | (apply Wl.assign; exact rfl; exact rfl) | (apply Wl.lss; exact rfl; exact rfl; exact rfl) | (apply Wl.len; exact rfl; exact rfl) | (apply Wl.nil) | (apply St.seq) | (apply St.region) | (apply St.ret) | (apply St.skip) | (apply Gt.next) | (apply Gt.out1; exact rfl; exact rfl; intro w' hp) | (apply Wl.splitP; exact rfl; exact rfl; all_goals (intros; try (exfalso; omega))) | (apply Wl.splitB; exact rfl; exact rfl; all_goals intros) | (apply St.condP; exact rfl; all_goals (intros; try (exfalso; omega))) | (apply St.condB; exact rfl; all_goals intros))
    rw [List.getElem?_eq_none (by omega)]
    exact ⟨rfl, hp⟩
theorem of_any (op o rd r1 r2 im : Int) (w : World) :
    Calls Tryd.prog 52 #[.int .i64 op, .agg #[.int .i64 o, .int .i64 rd, .int .i64 r1, .int .i64 r2, .int .u32 im]] w fun e w' => e = .returned (if op = 0 then .agg #[.int .i64 0, .int .i64 0, .int .i64 0, .int .i64 0, .int .u32 0] else .agg #[.int .i64 op, .int .i64 rd, .int .i64 r1, .int .i64 r2, .int .u32 im]) ∧ Hp w [] w' := by
  refine enter (args := [_, _]) (Γ := [(0, _), (1, _)]) Tryd.func52 Tryd.ntmps52 rfl (of_decide_eq_true rfl) (.cons rfl (.cons rfl .nil)) ?_
  repeat' (first | (apply Gt.outC'; exact rfl; infer_instance; exact rfl; (repeat (first | exact List.Mem.head _ | apply List.Mem.tail)); (repeat (first | apply LSub.z | apply LSub.t | apply LSub.s)); intro w' hp) | (apply Wl.move; exact rfl; exact rfl) | (apply Wl.fieldAddr0; exact rfl; exact rfl) | (apply Wl.eql; exact rfl; exact rfl; exact rfl) | (apply Wl.store; exact rfl; exact rfl; exact rfl; (repeat (first | apply HSet.here | apply HSet.there)); (repeat (first | apply LSet.z | apply LSet.s))) | (apply Wl.storeA; exact rfl; exact rfl; exact rfl; exact rfl; (repeat (first | apply HSet.here | apply HSet.there)); (repeat (first | apply LPut.s | apply LPut.z | apply LOver.nil | apply LOver.cons))) | (apply Wl.loadAH; exact rfl; exact rfl; (repeat (first | exact List.Mem.head _ | apply List.Mem.tail)); (repeat (first | apply LSub.z | apply LSub.t | apply LSub.s))) | (apply Wl.buildS; exact rfl; (repeat (first | exact Parts.nil | apply Parts.cons rfl)); (repeat (first | apply Fills.nil | (apply Fills.one; exact rfl; exact rfl; (repeat (first | apply LSet.z | apply LSet.s))) | (apply Fills.agg; exact rfl; exact rfl; (repeat (first | apply LPut.s | apply LPut.z | apply LOver.nil | apply LOver.cons)))))) | (apply Wl.boxA; exact rfl; exact rfl; intro c hc ho) | (apply Wl.alloc; exact rfl; intro c hc ho) | (apply Wl.nil) | (apply St.seq) | (apply St.region) | (apply St.ret) | (apply St.skip) | (apply Gt.next) | (apply Gt.thenRet) | (apply Wl.splitP; exact rfl; exact rfl; all_goals (intros; try (exfalso; omega))) | (apply Wl.splitB; exact rfl; exact rfl; all_goals intros) | (apply St.condP; exact rfl; all_goals (intros; try (exfalso; omega))) | (apply St.condB; exact rfl; all_goals intros))
  · rw [if_pos (by assumption)]
    exact ⟨rfl, hp.drop (by simp; omega)⟩
  · rw [if_neg (by assumption)]
    exact ⟨rfl, hp.drop (by simp; omega)⟩
theorem immI5 (w : World) : Calls Tryd.prog 51 #[.int .u32 5243155] w fun e w' => e = .returned (.int .u32 5) ∧ Hp w [] w' := by
  refine enter (args := [_]) (Γ := [(0, _)]) Tryd.func51 Tryd.ntmps51 rfl (of_decide_eq_true rfl) (.cons rfl .nil) ?_
  repeat' (first | (apply Gt.inl1; exact rfl; exact rfl) | (apply Wl.inline; exact rfl; (repeat (first | exact Evs.nil | apply Evs.cons rfl)); exact rfl; exact rfl) | (apply Wl.move; exact rfl; exact rfl) | (apply Wl.assign; exact rfl; exact rfl) | (apply Wl.subI; exact rfl; exact rfl; exact rfl; (constructor <;> omega)) | (apply Wl.shl; exact rfl; exact rfl; exact rfl; (omega)) | (apply Wl.shr; exact rfl; exact rfl; exact rfl; (omega)) | (apply Wl.convI; exact rfl; exact rfl) | (apply Wl.nil) | (apply St.seq) | (apply St.region) | (apply St.ret) | (apply Gt.next) | (apply Gt.out1; exact rfl; exact rfl; intro w' hp) | (apply Wl.splitP; exact rfl; exact rfl; all_goals (intros; try (exfalso; omega))) | (apply Wl.splitB; exact rfl; exact rfl; all_goals intros) | (apply St.condP; exact rfl; all_goals (intros; try (exfalso; omega))) | (apply St.condB; exact rfl; all_goals intros))
  exact ⟨by kernel_rfl, hp⟩
theorem immI0 (w : World) : Calls Tryd.prog 51 #[.int .u32 0] w fun e w' => e = .returned (.int .u32 0) ∧ Hp w [] w' := by
  refine enter (args := [_]) (Γ := [(0, _)]) Tryd.func51 Tryd.ntmps51 rfl (of_decide_eq_true rfl) (.cons rfl .nil) ?_
  repeat' (first | (apply Gt.inl1; exact rfl; exact rfl) | (apply Wl.inline; exact rfl; (repeat (first | exact Evs.nil | apply Evs.cons rfl)); exact rfl; exact rfl) | (apply Wl.move; exact rfl; exact rfl) | (apply Wl.assign; exact rfl; exact rfl) | (apply Wl.subI; exact rfl; exact rfl; exact rfl; (constructor <;> omega)) | (apply Wl.shl; exact rfl; exact rfl; exact rfl; (omega)) | (apply Wl.shr; exact rfl; exact rfl; exact rfl; (omega)) | (apply Wl.convI; exact rfl; exact rfl) | (apply Wl.nil) | (apply St.seq) | (apply St.region) | (apply St.ret) | (apply Gt.next) | (apply Gt.out1; exact rfl; exact rfl; intro w' hp) | (apply Wl.splitP; exact rfl; exact rfl; all_goals (intros; try (exfalso; omega))) | (apply Wl.splitB; exact rfl; exact rfl; all_goals intros) | (apply St.condP; exact rfl; all_goals (intros; try (exfalso; omega))) | (apply St.condB; exact rfl; all_goals intros))
  exact ⟨by kernel_rfl, hp⟩
theorem own_at {w : World} {H : List Blk} {b t : Nat} {cs : List Value} (h : Own w H) (hm : (⟨b, cs, t⟩ : Blk) ∈ H) : w.heap[b]? = some (.cells cs.toArray t (0, 0)) := h.at hm
theorem agg_of {w : World} {c : Nat} {cs : List Value} {t : TypeId} (h : w.heap[c]? = some (.cells cs.toArray t (0, 0))) : ∀ j v, cs[j]? = some v → w.cell? ((⟨c, 0, none⟩ : Addr).add j) = some v := by
  intro j v hj
  rw [addLit, Nat.zero_add]
  exact cell_of h hj
set_option maxHeartbeats 4000000 in
theorem more5 (w : World) : Calls Tryd.prog 55 #[.int .u32 5243155, .agg #[.int .i64 0, .int .i64 2, .int .i64 0, .int .i64 5, .int .u32 0], .int .i64 0, .int .u32 0] w fun e w' => e = .returned (.agg #[.int .i64 19, .int .i64 2, .int .i64 0, .int .i64 0, .int .u32 5]) ∧ Hp w [] w' := by
  refine enter (args := [_, _, _, _]) (Γ := [(0, _), (1, _), (2, _), (3, _)]) Tryd.func55 Tryd.ntmps55 rfl (of_decide_eq_true rfl) (.cons rfl (.cons rfl (.cons rfl (.cons rfl .nil)))) ?_
  repeat' (first | (apply Wl.boxA; exact rfl; exact rfl; intro c hc ho) | (apply Wl.alloc; exact rfl; intro c hc ho) | (apply Wl.nil) | (apply St.seq) | (apply St.region) | (apply Gt.next) | (apply Wl.splitP; exact rfl; exact rfl; all_goals (intros; try (exfalso; omega))) | (apply Wl.splitB; exact rfl; exact rfl; all_goals intros) | (apply St.condP; exact rfl; all_goals (intros; try (exfalso; omega))) | (apply St.condB; exact rfl; all_goals intros))
  rename_i cX hcX hoX
  refine St.tree (fun w' => w'.heap[cX]? = some (.cells [.int .i64 0, .int .i64 2, .int .i64 0, .int .i64 5, .int .u32 0].toArray 73 (0, 0))) mixed (fun _ h => ⟨Hp.drew h, (Hp.drew h).own.2.1⟩) ?_
  refine Mt.pure 0 (by decide +kernel) (by exact rfl) (by exact rfl) (by decide +kernel) (by decide +kernel) ?_
  repeat' (first | (apply Wl.fieldAddrZ; exact rfl; exact rfl) | (apply Wl.nilM) | (apply Wl.splitP; exact rfl; exact rfl; all_goals (intros; try (exfalso; omega))) | (apply Wl.splitB; exact rfl; exact rfl; all_goals intros) | (apply St.condP; exact rfl; all_goals (intros; try (exfalso; omega))) | (apply St.condB; exact rfl; all_goals intros))
  apply Mt.back
  refine Mt.pure 1 (by decide +kernel) (by exact rfl) (by exact rfl) (by decide +kernel) (by decide +kernel) ?_
  repeat' (first | (apply Wl.loadF; exact rfl; exact rfl; (intro w' h'; exact cell_of h' rfl)) | (apply Wl.nilM) | (apply Wl.splitP; exact rfl; exact rfl; all_goals (intros; try (exfalso; omega))) | (apply Wl.splitB; exact rfl; exact rfl; all_goals intros) | (apply St.condP; exact rfl; all_goals (intros; try (exfalso; omega))) | (apply St.condB; exact rfl; all_goals intros))
  apply Mt.back
  refine Mt.pure 2 (by decide +kernel) (by exact rfl) (by exact rfl) (by decide +kernel) (by decide +kernel) ?_
  repeat' (first | (apply Wl.fieldAddrZ; exact rfl; exact rfl) | (apply Wl.nilM) | (apply Wl.splitP; exact rfl; exact rfl; all_goals (intros; try (exfalso; omega))) | (apply Wl.splitB; exact rfl; exact rfl; all_goals intros) | (apply St.condP; exact rfl; all_goals (intros; try (exfalso; omega))) | (apply St.condB; exact rfl; all_goals intros))
  apply Mt.back
  refine Mt.pure 3 (by decide +kernel) (by exact rfl) (by exact rfl) (by decide +kernel) (by decide +kernel) ?_
  repeat' (first | (apply Wl.loadF; exact rfl; exact rfl; (intro w' h'; exact cell_of h' rfl)) | (apply Wl.nilM) | (apply Wl.splitP; exact rfl; exact rfl; all_goals (intros; try (exfalso; omega))) | (apply Wl.splitB; exact rfl; exact rfl; all_goals intros) | (apply St.condP; exact rfl; all_goals (intros; try (exfalso; omega))) | (apply St.condB; exact rfl; all_goals intros))
  apply Mt.back
  refine Mt.pure 4 (by decide +kernel) (by exact rfl) (by exact rfl) (by decide +kernel) (by decide +kernel) ?_
  repeat' (first | (apply Wl.move; exact rfl; exact rfl) | (apply Wl.nilM) | (apply Wl.splitP; exact rfl; exact rfl; all_goals (intros; try (exfalso; omega))) | (apply Wl.splitB; exact rfl; exact rfl; all_goals intros) | (apply St.condP; exact rfl; all_goals (intros; try (exfalso; omega))) | (apply St.condB; exact rfl; all_goals intros))
  apply Mt.back
  refine Mt.eff2 (i := 5) (j := 7) (by decide +kernel) (by exact rfl) (by exact rfl) ?_ ?_
  · skip
    apply Wl.callQ
    exact rfl
    (repeat (first | exact Evs.nil | apply Evs.cons rfl))
    · intro wq hq
      refine (immI5 wq).mono ?_
      rintro e wr ⟨rfl, hr⟩
      exact ⟨rfl, hq.keep hr⟩
    repeat' (first | (apply Wl.nil) | (apply Wl.splitP; exact rfl; exact rfl; all_goals (intros; try (exfalso; omega))) | (apply Wl.splitB; exact rfl; exact rfl; all_goals intros) | (apply St.condP; exact rfl; all_goals (intros; try (exfalso; omega))) | (apply St.condB; exact rfl; all_goals intros))
    refine Mt.backE (fun _ h => h.own.2.1) ?_
    refine Mt.pure 6 (by decide +kernel) (by exact rfl) (by exact rfl) (by decide +kernel) (by decide +kernel) ?_
    repeat' (first | (apply Wl.buildS; exact rfl; (repeat (first | exact Parts.nil | apply Parts.cons rfl)); (repeat (first | apply Fills.nil | (apply Fills.one; exact rfl; exact rfl; (repeat (first | apply LSet.z | apply LSet.s))) | (apply Fills.agg; exact rfl; exact rfl; (repeat (first | apply LPut.s | apply LPut.z | apply LOver.nil | apply LOver.cons)))))) | (apply Wl.nilM) | (apply Wl.splitP; exact rfl; exact rfl; all_goals (intros; try (exfalso; omega))) | (apply Wl.splitB; exact rfl; exact rfl; all_goals intros) | (apply St.condP; exact rfl; all_goals (intros; try (exfalso; omega))) | (apply St.condB; exact rfl; all_goals intros))
    apply Mt.back
    refine Mt.eff1 (i := 7) (by decide +kernel) (by exact rfl) ?_
    apply Wl.alloc
    · exact rfl
    intro c9 hc9 ho9
    repeat' (first | (apply Wl.nil) | (apply Wl.splitP; exact rfl; exact rfl; all_goals (intros; try (exfalso; omega))) | (apply Wl.splitB; exact rfl; exact rfl; all_goals intros) | (apply St.condP; exact rfl; all_goals (intros; try (exfalso; omega))) | (apply St.condB; exact rfl; all_goals intros))
    refine Mt.backE (fun _ h => h.own.2.2.1) ?_
    refine Mt.eff1 (i := 8) (by decide +kernel) (by exact rfl) ?_
    repeat' (first | (apply Wl.storeA; exact rfl; exact rfl; exact rfl; exact rfl; (repeat (first | apply HSet.here | apply HSet.there)); (repeat (first | apply LPut.s | apply LPut.z | apply LOver.nil | apply LOver.cons))) | (apply Wl.nil) | (apply Wl.splitP; exact rfl; exact rfl; all_goals (intros; try (exfalso; omega))) | (apply Wl.splitB; exact rfl; exact rfl; all_goals intros) | (apply St.condP; exact rfl; all_goals (intros; try (exfalso; omega))) | (apply St.condB; exact rfl; all_goals intros))
    refine Mt.backE (fun _ h => h.own.2.2.1) ?_
    refine Mt.toGt (by decide +kernel) ?_
    repeat' (first | (apply Wl.move; exact rfl; exact rfl) | (apply Wl.assign; exact rfl; exact rfl) | (apply Wl.off; exact rfl; exact rfl; exact rfl; (first | with_reducible rfl | (show _ = false; with_reducible assumption) | (show _ = true; with_reducible assumption) | decide)) | (apply Wl.pickF; exact rfl; exact rfl; (first | with_reducible rfl | with_reducible assumption | decide); exact rfl) | (apply Wl.fieldAddrZ; exact rfl; exact rfl) | (apply Wl.loadH; exact rfl; exact rfl; (repeat (first | exact List.Mem.head _ | apply List.Mem.tail)); exact rfl) | (apply Wl.eql; exact rfl; exact rfl; exact rfl) | (apply Wl.and; exact rfl; exact rfl; exact rfl) | (apply Wl.convU32; exact rfl; exact rfl; (constructor <;> omega)) | (apply Wl.storeA; exact rfl; exact rfl; exact rfl; exact rfl; (repeat (first | apply HSet.here | apply HSet.there)); (repeat (first | apply LPut.s | apply LPut.z | apply LOver.nil | apply LOver.cons))) | (apply Wl.buildS; exact rfl; (repeat (first | exact Parts.nil | apply Parts.cons rfl)); (repeat (first | apply Fills.nil | (apply Fills.one; exact rfl; exact rfl; (repeat (first | apply LSet.z | apply LSet.s))) | (apply Fills.agg; exact rfl; exact rfl; (repeat (first | apply LPut.s | apply LPut.z | apply LOver.nil | apply LOver.cons)))))) | (apply Wl.alloc; exact rfl; intro c hc ho) | (apply Wl.nil) | (apply St.seq) | (apply St.block) | (apply St.region) | (apply St.condT; exact rfl; (first | with_reducible rfl | with_reducible assumption | decide)) | (apply St.condF; exact rfl; (first | with_reducible rfl | with_reducible assumption | decide)) | (apply St.skip) | (apply Gt.next) | (apply Gt.inNormal) | (apply Wl.splitP; exact rfl; exact rfl; all_goals (intros; try (exfalso; omega))) | (apply Wl.splitB; exact rfl; exact rfl; all_goals intros) | (apply St.condP; exact rfl; all_goals (intros; try (exfalso; omega))) | (apply St.condB; exact rfl; all_goals intros))
    refine St.tree (fun w' => w'.heap[c9]? = some (.cells [.int .i64 0, .int .i64 2, .int .i64 0, .int .i64 0, .int .u32 5].toArray 73 (0, 0))) mixed (fun _ h => ⟨Hp.drew h, own_at (Hp.drew h).own (by (repeat (first | exact List.Mem.head _ | apply List.Mem.tail)))⟩) ?_
    refine Mt.pure 0 (by decide +kernel) (by exact rfl) (by exact rfl) (by decide +kernel) (by decide +kernel) ?_
    repeat' (first | (apply Wl.move; exact rfl; exact rfl) | (apply Wl.nilM) | (apply Wl.splitP; exact rfl; exact rfl; all_goals (intros; try (exfalso; omega))) | (apply Wl.splitB; exact rfl; exact rfl; all_goals intros) | (apply St.condP; exact rfl; all_goals (intros; try (exfalso; omega))) | (apply St.condB; exact rfl; all_goals intros))
    apply Mt.back
    refine Mt.pure 3 (by decide +kernel) (by exact rfl) (by exact rfl) (by decide +kernel) (by decide +kernel) ?_
    repeat' (first | (apply Wl.loadAF (xs := [.int .i64 0, .int .i64 2, .int .i64 0, .int .i64 0, .int .u32 5]); exact rfl; exact rfl; exact rfl; (intro w' h'; exact agg_of h')) | (apply Wl.nilM) | (apply Wl.splitP; exact rfl; exact rfl; all_goals (intros; try (exfalso; omega))) | (apply Wl.splitB; exact rfl; exact rfl; all_goals intros) | (apply St.condP; exact rfl; all_goals (intros; try (exfalso; omega))) | (apply St.condB; exact rfl; all_goals intros))
    apply Mt.back
    refine Mt.eff1 (i := 1) (by decide +kernel) (by exact rfl) ?_
    repeat' (first | (apply Wl.lit; exact rfl; (repeat (first | exact Parts.nil | apply Parts.cons rfl)); exact rfl; exact rfl; (repeat (first | apply CatP.nil | (apply CatP.one; exact rfl; exact rfl) | (apply CatP.agg; exact rfl) | apply LApp.nil | apply LApp.cons)); intro c hc ho) | (apply Wl.nil) | (apply Wl.splitP; exact rfl; exact rfl; all_goals (intros; try (exfalso; omega))) | (apply Wl.splitB; exact rfl; exact rfl; all_goals intros) | (apply St.condP; exact rfl; all_goals (intros; try (exfalso; omega))) | (apply St.condB; exact rfl; all_goals intros))
    refine Mt.backE (fun _ h => own_at h.own (by (repeat (first | exact List.Mem.head _ | apply List.Mem.tail)))) ?_
    refine Mt.eff1 (i := 2) (by decide +kernel) (by exact rfl) ?_
    apply Wl.callQ
    exact rfl
    (repeat (first | exact Evs.nil | apply Evs.cons rfl))
    · intro wq hq
      refine (pick_any c 0 [19, 0, 20, 21, 22, 0, 23, 24] 8 8 wq (by decide) rfl (own_at hq.own (by (repeat (first | exact List.Mem.head _ | apply List.Mem.tail)))) 19 (by decide)).mono ?_
      rintro e wr ⟨rfl, hr⟩
      exact ⟨rfl, hq.keep hr⟩
    repeat' (first | (apply Wl.nil) | (apply Wl.splitP; exact rfl; exact rfl; all_goals (intros; try (exfalso; omega))) | (apply Wl.splitB; exact rfl; exact rfl; all_goals intros) | (apply St.condP; exact rfl; all_goals (intros; try (exfalso; omega))) | (apply St.condB; exact rfl; all_goals intros))
    refine Mt.backE (fun _ h => own_at h.own (by (repeat (first | exact List.Mem.head _ | apply List.Mem.tail)))) ?_
    refine Mt.eff1 (i := 4) (by decide +kernel) (by exact rfl) ?_
    apply Wl.callQ
    exact rfl
    (repeat (first | exact Evs.nil | apply Evs.cons rfl))
    · intro wq hq
      refine (of_any 19 0 2 0 0 5 wq).mono ?_
      rintro e wr ⟨rfl, hr⟩
      exact ⟨rfl, hq.keep hr⟩
    repeat' (first | (apply Wl.nil) | (apply Wl.splitP; exact rfl; exact rfl; all_goals (intros; try (exfalso; omega))) | (apply Wl.splitB; exact rfl; exact rfl; all_goals intros) | (apply St.condP; exact rfl; all_goals (intros; try (exfalso; omega))) | (apply St.condB; exact rfl; all_goals intros))
    refine Mt.backE (fun _ h => own_at h.own (by (repeat (first | exact List.Mem.head _ | apply List.Mem.tail)))) ?_
    refine Mt.eff1 (i := 5) (by decide +kernel) (by exact rfl) ?_
    repeat' (first | (apply Wl.storeA; exact rfl; exact rfl; exact rfl; exact rfl; (repeat (first | apply HSet.here | apply HSet.there)); (repeat (first | apply LPut.s | apply LPut.z | apply LOver.nil | apply LOver.cons))) | (apply Wl.nil) | (apply Wl.splitP; exact rfl; exact rfl; all_goals (intros; try (exfalso; omega))) | (apply Wl.splitB; exact rfl; exact rfl; all_goals intros) | (apply St.condP; exact rfl; all_goals (intros; try (exfalso; omega))) | (apply St.condB; exact rfl; all_goals intros))
    refine Mt.backE (fun _ h => own_at h.own (by (repeat (first | exact List.Mem.head _ | apply List.Mem.tail)))) ?_
    refine Mt.toGt (by decide +kernel) ?_
    repeat' (first | (apply Gt.outC'; exact rfl; infer_instance; exact rfl; (repeat (first | exact List.Mem.head _ | apply List.Mem.tail)); (repeat (first | apply LSub.z | apply LSub.t | apply LSub.s)); intro w' hp) | (apply St.ret) | (apply Gt.next) | (apply Gt.thenRet) | (apply Gt.inRet) | (apply Wl.splitP; exact rfl; exact rfl; all_goals (intros; try (exfalso; omega))) | (apply Wl.splitB; exact rfl; exact rfl; all_goals intros) | (apply St.condP; exact rfl; all_goals (intros; try (exfalso; omega))) | (apply St.condB; exact rfl; all_goals intros))
    exact ⟨rfl, hp.drop (by simp; omega)⟩
  · apply Wl.alloc
    · exact rfl
    intro c9 hc9 ho9
    repeat' (first | (apply Wl.nil) | (apply Wl.splitP; exact rfl; exact rfl; all_goals (intros; try (exfalso; omega))) | (apply Wl.splitB; exact rfl; exact rfl; all_goals intros) | (apply St.condP; exact rfl; all_goals (intros; try (exfalso; omega))) | (apply St.condB; exact rfl; all_goals intros))
    refine Mt.backE (fun _ h => h.own.2.2.1) ?_
    refine Mt.eff1 (i := 5) (by decide +kernel) (by exact rfl) ?_
    apply Wl.callQ
    exact rfl
    (repeat (first | exact Evs.nil | apply Evs.cons rfl))
    · intro wq hq
      refine (immI5 wq).mono ?_
      rintro e wr ⟨rfl, hr⟩
      exact ⟨rfl, hq.keep hr⟩
    repeat' (first | (apply Wl.nil) | (apply Wl.splitP; exact rfl; exact rfl; all_goals (intros; try (exfalso; omega))) | (apply Wl.splitB; exact rfl; exact rfl; all_goals intros) | (apply St.condP; exact rfl; all_goals (intros; try (exfalso; omega))) | (apply St.condB; exact rfl; all_goals intros))
    refine Mt.backE (fun _ h => h.own.2.2.1) ?_
    refine Mt.pure 6 (by decide +kernel) (by exact rfl) (by exact rfl) (by decide +kernel) (by decide +kernel) ?_
    repeat' (first | (apply Wl.buildS; exact rfl; (repeat (first | exact Parts.nil | apply Parts.cons rfl)); (repeat (first | apply Fills.nil | (apply Fills.one; exact rfl; exact rfl; (repeat (first | apply LSet.z | apply LSet.s))) | (apply Fills.agg; exact rfl; exact rfl; (repeat (first | apply LPut.s | apply LPut.z | apply LOver.nil | apply LOver.cons)))))) | (apply Wl.nilM) | (apply Wl.splitP; exact rfl; exact rfl; all_goals (intros; try (exfalso; omega))) | (apply Wl.splitB; exact rfl; exact rfl; all_goals intros) | (apply St.condP; exact rfl; all_goals (intros; try (exfalso; omega))) | (apply St.condB; exact rfl; all_goals intros))
    apply Mt.back
    refine Mt.eff1 (i := 8) (by decide +kernel) (by exact rfl) ?_
    repeat' (first | (apply Wl.storeA; exact rfl; exact rfl; exact rfl; exact rfl; (repeat (first | apply HSet.here | apply HSet.there)); (repeat (first | apply LPut.s | apply LPut.z | apply LOver.nil | apply LOver.cons))) | (apply Wl.nil) | (apply Wl.splitP; exact rfl; exact rfl; all_goals (intros; try (exfalso; omega))) | (apply Wl.splitB; exact rfl; exact rfl; all_goals intros) | (apply St.condP; exact rfl; all_goals (intros; try (exfalso; omega))) | (apply St.condB; exact rfl; all_goals intros))
    refine Mt.backE (fun _ h => h.own.2.2.1) ?_
    refine Mt.toGt (by decide +kernel) ?_
    repeat' (first | (apply Wl.move; exact rfl; exact rfl) | (apply Wl.assign; exact rfl; exact rfl) | (apply Wl.off; exact rfl; exact rfl; exact rfl; (first | with_reducible rfl | (show _ = false; with_reducible assumption) | (show _ = true; with_reducible assumption) | decide)) | (apply Wl.pickF; exact rfl; exact rfl; (first | with_reducible rfl | with_reducible assumption | decide); exact rfl) | (apply Wl.fieldAddrZ; exact rfl; exact rfl) | (apply Wl.loadH; exact rfl; exact rfl; (repeat (first | exact List.Mem.head _ | apply List.Mem.tail)); exact rfl) | (apply Wl.eql; exact rfl; exact rfl; exact rfl) | (apply Wl.and; exact rfl; exact rfl; exact rfl) | (apply Wl.convU32; exact rfl; exact rfl; (constructor <;> omega)) | (apply Wl.storeA; exact rfl; exact rfl; exact rfl; exact rfl; (repeat (first | apply HSet.here | apply HSet.there)); (repeat (first | apply LPut.s | apply LPut.z | apply LOver.nil | apply LOver.cons))) | (apply Wl.buildS; exact rfl; (repeat (first | exact Parts.nil | apply Parts.cons rfl)); (repeat (first | apply Fills.nil | (apply Fills.one; exact rfl; exact rfl; (repeat (first | apply LSet.z | apply LSet.s))) | (apply Fills.agg; exact rfl; exact rfl; (repeat (first | apply LPut.s | apply LPut.z | apply LOver.nil | apply LOver.cons)))))) | (apply Wl.alloc; exact rfl; intro c hc ho) | (apply Wl.nil) | (apply St.seq) | (apply St.block) | (apply St.region) | (apply St.condT; exact rfl; (first | with_reducible rfl | with_reducible assumption | decide)) | (apply St.condF; exact rfl; (first | with_reducible rfl | with_reducible assumption | decide)) | (apply St.skip) | (apply Gt.next) | (apply Gt.inNormal) | (apply Wl.splitP; exact rfl; exact rfl; all_goals (intros; try (exfalso; omega))) | (apply Wl.splitB; exact rfl; exact rfl; all_goals intros) | (apply St.condP; exact rfl; all_goals (intros; try (exfalso; omega))) | (apply St.condB; exact rfl; all_goals intros))
    refine St.tree (fun w' => w'.heap[c9]? = some (.cells [.int .i64 0, .int .i64 2, .int .i64 0, .int .i64 0, .int .u32 5].toArray 73 (0, 0))) mixed (fun _ h => ⟨Hp.drew h, own_at (Hp.drew h).own (by (repeat (first | exact List.Mem.head _ | apply List.Mem.tail)))⟩) ?_
    refine Mt.pure 0 (by decide +kernel) (by exact rfl) (by exact rfl) (by decide +kernel) (by decide +kernel) ?_
    repeat' (first | (apply Wl.move; exact rfl; exact rfl) | (apply Wl.nilM) | (apply Wl.splitP; exact rfl; exact rfl; all_goals (intros; try (exfalso; omega))) | (apply Wl.splitB; exact rfl; exact rfl; all_goals intros) | (apply St.condP; exact rfl; all_goals (intros; try (exfalso; omega))) | (apply St.condB; exact rfl; all_goals intros))
    apply Mt.back
    refine Mt.pure 3 (by decide +kernel) (by exact rfl) (by exact rfl) (by decide +kernel) (by decide +kernel) ?_
    repeat' (first | (apply Wl.loadAF (xs := [.int .i64 0, .int .i64 2, .int .i64 0, .int .i64 0, .int .u32 5]); exact rfl; exact rfl; exact rfl; (intro w' h'; exact agg_of h')) | (apply Wl.nilM) | (apply Wl.splitP; exact rfl; exact rfl; all_goals (intros; try (exfalso; omega))) | (apply Wl.splitB; exact rfl; exact rfl; all_goals intros) | (apply St.condP; exact rfl; all_goals (intros; try (exfalso; omega))) | (apply St.condB; exact rfl; all_goals intros))
    apply Mt.back
    refine Mt.eff1 (i := 1) (by decide +kernel) (by exact rfl) ?_
    repeat' (first | (apply Wl.lit; exact rfl; (repeat (first | exact Parts.nil | apply Parts.cons rfl)); exact rfl; exact rfl; (repeat (first | apply CatP.nil | (apply CatP.one; exact rfl; exact rfl) | (apply CatP.agg; exact rfl) | apply LApp.nil | apply LApp.cons)); intro c hc ho) | (apply Wl.nil) | (apply Wl.splitP; exact rfl; exact rfl; all_goals (intros; try (exfalso; omega))) | (apply Wl.splitB; exact rfl; exact rfl; all_goals intros) | (apply St.condP; exact rfl; all_goals (intros; try (exfalso; omega))) | (apply St.condB; exact rfl; all_goals intros))
    refine Mt.backE (fun _ h => own_at h.own (by (repeat (first | exact List.Mem.head _ | apply List.Mem.tail)))) ?_
    refine Mt.eff1 (i := 2) (by decide +kernel) (by exact rfl) ?_
    apply Wl.callQ
    exact rfl
    (repeat (first | exact Evs.nil | apply Evs.cons rfl))
    · intro wq hq
      refine (pick_any c 0 [19, 0, 20, 21, 22, 0, 23, 24] 8 8 wq (by decide) rfl (own_at hq.own (by (repeat (first | exact List.Mem.head _ | apply List.Mem.tail)))) 19 (by decide)).mono ?_
      rintro e wr ⟨rfl, hr⟩
      exact ⟨rfl, hq.keep hr⟩
    repeat' (first | (apply Wl.nil) | (apply Wl.splitP; exact rfl; exact rfl; all_goals (intros; try (exfalso; omega))) | (apply Wl.splitB; exact rfl; exact rfl; all_goals intros) | (apply St.condP; exact rfl; all_goals (intros; try (exfalso; omega))) | (apply St.condB; exact rfl; all_goals intros))
    refine Mt.backE (fun _ h => own_at h.own (by (repeat (first | exact List.Mem.head _ | apply List.Mem.tail)))) ?_
    refine Mt.eff1 (i := 4) (by decide +kernel) (by exact rfl) ?_
    apply Wl.callQ
    exact rfl
    (repeat (first | exact Evs.nil | apply Evs.cons rfl))
    · intro wq hq
      refine (of_any 19 0 2 0 0 5 wq).mono ?_
      rintro e wr ⟨rfl, hr⟩
      exact ⟨rfl, hq.keep hr⟩
    repeat' (first | (apply Wl.nil) | (apply Wl.splitP; exact rfl; exact rfl; all_goals (intros; try (exfalso; omega))) | (apply Wl.splitB; exact rfl; exact rfl; all_goals intros) | (apply St.condP; exact rfl; all_goals (intros; try (exfalso; omega))) | (apply St.condB; exact rfl; all_goals intros))
    refine Mt.backE (fun _ h => own_at h.own (by (repeat (first | exact List.Mem.head _ | apply List.Mem.tail)))) ?_
    refine Mt.eff1 (i := 5) (by decide +kernel) (by exact rfl) ?_
    repeat' (first | (apply Wl.storeA; exact rfl; exact rfl; exact rfl; exact rfl; (repeat (first | apply HSet.here | apply HSet.there)); (repeat (first | apply LPut.s | apply LPut.z | apply LOver.nil | apply LOver.cons))) | (apply Wl.nil) | (apply Wl.splitP; exact rfl; exact rfl; all_goals (intros; try (exfalso; omega))) | (apply Wl.splitB; exact rfl; exact rfl; all_goals intros) | (apply St.condP; exact rfl; all_goals (intros; try (exfalso; omega))) | (apply St.condB; exact rfl; all_goals intros))
    refine Mt.backE (fun _ h => own_at h.own (by (repeat (first | exact List.Mem.head _ | apply List.Mem.tail)))) ?_
    refine Mt.toGt (by decide +kernel) ?_
    repeat' (first | (apply Gt.outC'; exact rfl; infer_instance; exact rfl; (repeat (first | exact List.Mem.head _ | apply List.Mem.tail)); (repeat (first | apply LSub.z | apply LSub.t | apply LSub.s)); intro w' hp) | (apply St.ret) | (apply Gt.next) | (apply Gt.thenRet) | (apply Gt.inRet) | (apply Wl.splitP; exact rfl; exact rfl; all_goals (intros; try (exfalso; omega))) | (apply Wl.splitB; exact rfl; exact rfl; all_goals intros) | (apply St.condP; exact rfl; all_goals (intros; try (exfalso; omega))) | (apply St.condB; exact rfl; all_goals intros))
    exact ⟨rfl, hp.drop (by simp; omega)⟩
set_option maxHeartbeats 4000000 in
theorem more0 (w : World) : Calls Tryd.prog 55 #[.int .u32 0, .agg #[.int .i64 0, .int .i64 0, .int .i64 0, .int .i64 0, .int .u32 0], .int .i64 0, .int .u32 0] w fun e w' => e = .returned (.agg #[.int .i64 0, .int .i64 0, .int .i64 0, .int .i64 0, .int .u32 0]) ∧ Hp w [] w' := by
  refine enter (args := [_, _, _, _]) (Γ := [(0, _), (1, _), (2, _), (3, _)]) Tryd.func55 Tryd.ntmps55 rfl (of_decide_eq_true rfl) (.cons rfl (.cons rfl (.cons rfl (.cons rfl .nil)))) ?_
  repeat' (first | (apply Wl.boxA; exact rfl; exact rfl; intro c hc ho) | (apply Wl.alloc; exact rfl; intro c hc ho) | (apply Wl.nil) | (apply St.seq) | (apply St.region) | (apply Gt.next) | (apply Wl.splitP; exact rfl; exact rfl; all_goals (intros; try (exfalso; omega))) | (apply Wl.splitB; exact rfl; exact rfl; all_goals intros) | (apply St.condP; exact rfl; all_goals (intros; try (exfalso; omega))) | (apply St.condB; exact rfl; all_goals intros))
  rename_i cX hcX hoX
  refine St.tree (fun w' => w'.heap[cX]? = some (.cells [.int .i64 0, .int .i64 0, .int .i64 0, .int .i64 0, .int .u32 0].toArray 73 (0, 0))) mixed (fun _ h => ⟨Hp.drew h, (Hp.drew h).own.2.1⟩) ?_
  refine Mt.pure 0 (by decide +kernel) (by exact rfl) (by exact rfl) (by decide +kernel) (by decide +kernel) ?_
  repeat' (first | (apply Wl.fieldAddrZ; exact rfl; exact rfl) | (apply Wl.nilM) | (apply Wl.splitP; exact rfl; exact rfl; all_goals (intros; try (exfalso; omega))) | (apply Wl.splitB; exact rfl; exact rfl; all_goals intros) | (apply St.condP; exact rfl; all_goals (intros; try (exfalso; omega))) | (apply St.condB; exact rfl; all_goals intros))
  apply Mt.back
  refine Mt.pure 1 (by decide +kernel) (by exact rfl) (by exact rfl) (by decide +kernel) (by decide +kernel) ?_
  repeat' (first | (apply Wl.loadF; exact rfl; exact rfl; (intro w' h'; exact cell_of h' rfl)) | (apply Wl.nilM) | (apply Wl.splitP; exact rfl; exact rfl; all_goals (intros; try (exfalso; omega))) | (apply Wl.splitB; exact rfl; exact rfl; all_goals intros) | (apply St.condP; exact rfl; all_goals (intros; try (exfalso; omega))) | (apply St.condB; exact rfl; all_goals intros))
  apply Mt.back
  refine Mt.pure 2 (by decide +kernel) (by exact rfl) (by exact rfl) (by decide +kernel) (by decide +kernel) ?_
  repeat' (first | (apply Wl.fieldAddrZ; exact rfl; exact rfl) | (apply Wl.nilM) | (apply Wl.splitP; exact rfl; exact rfl; all_goals (intros; try (exfalso; omega))) | (apply Wl.splitB; exact rfl; exact rfl; all_goals intros) | (apply St.condP; exact rfl; all_goals (intros; try (exfalso; omega))) | (apply St.condB; exact rfl; all_goals intros))
  apply Mt.back
  refine Mt.pure 3 (by decide +kernel) (by exact rfl) (by exact rfl) (by decide +kernel) (by decide +kernel) ?_
  repeat' (first | (apply Wl.loadF; exact rfl; exact rfl; (intro w' h'; exact cell_of h' rfl)) | (apply Wl.nilM) | (apply Wl.splitP; exact rfl; exact rfl; all_goals (intros; try (exfalso; omega))) | (apply Wl.splitB; exact rfl; exact rfl; all_goals intros) | (apply St.condP; exact rfl; all_goals (intros; try (exfalso; omega))) | (apply St.condB; exact rfl; all_goals intros))
  apply Mt.back
  refine Mt.pure 4 (by decide +kernel) (by exact rfl) (by exact rfl) (by decide +kernel) (by decide +kernel) ?_
  repeat' (first | (apply Wl.move; exact rfl; exact rfl) | (apply Wl.nilM) | (apply Wl.splitP; exact rfl; exact rfl; all_goals (intros; try (exfalso; omega))) | (apply Wl.splitB; exact rfl; exact rfl; all_goals intros) | (apply St.condP; exact rfl; all_goals (intros; try (exfalso; omega))) | (apply St.condB; exact rfl; all_goals intros))
  apply Mt.back
  refine Mt.eff2 (i := 5) (j := 7) (by decide +kernel) (by exact rfl) (by exact rfl) ?_ ?_
  · skip
    apply Wl.callQ
    exact rfl
    (repeat (first | exact Evs.nil | apply Evs.cons rfl))
    · intro wq hq
      refine (immI0 wq).mono ?_
      rintro e wr ⟨rfl, hr⟩
      exact ⟨rfl, hq.keep hr⟩
    repeat' (first | (apply Wl.nil) | (apply Wl.splitP; exact rfl; exact rfl; all_goals (intros; try (exfalso; omega))) | (apply Wl.splitB; exact rfl; exact rfl; all_goals intros) | (apply St.condP; exact rfl; all_goals (intros; try (exfalso; omega))) | (apply St.condB; exact rfl; all_goals intros))
    refine Mt.backE (fun _ h => h.own.2.1) ?_
    refine Mt.pure 6 (by decide +kernel) (by exact rfl) (by exact rfl) (by decide +kernel) (by decide +kernel) ?_
    repeat' (first | (apply Wl.buildS; exact rfl; (repeat (first | exact Parts.nil | apply Parts.cons rfl)); (repeat (first | apply Fills.nil | (apply Fills.one; exact rfl; exact rfl; (repeat (first | apply LSet.z | apply LSet.s))) | (apply Fills.agg; exact rfl; exact rfl; (repeat (first | apply LPut.s | apply LPut.z | apply LOver.nil | apply LOver.cons)))))) | (apply Wl.nilM) | (apply Wl.splitP; exact rfl; exact rfl; all_goals (intros; try (exfalso; omega))) | (apply Wl.splitB; exact rfl; exact rfl; all_goals intros) | (apply St.condP; exact rfl; all_goals (intros; try (exfalso; omega))) | (apply St.condB; exact rfl; all_goals intros))
    apply Mt.back
    refine Mt.eff1 (i := 7) (by decide +kernel) (by exact rfl) ?_
    apply Wl.alloc
    · exact rfl
    intro c9 hc9 ho9
    repeat' (first | (apply Wl.nil) | (apply Wl.splitP; exact rfl; exact rfl; all_goals (intros; try (exfalso; omega))) | (apply Wl.splitB; exact rfl; exact rfl; all_goals intros) | (apply St.condP; exact rfl; all_goals (intros; try (exfalso; omega))) | (apply St.condB; exact rfl; all_goals intros))
    refine Mt.backE (fun _ h => h.own.2.2.1) ?_
    refine Mt.eff1 (i := 8) (by decide +kernel) (by exact rfl) ?_
    repeat' (first | (apply Wl.storeA; exact rfl; exact rfl; exact rfl; exact rfl; (repeat (first | apply HSet.here | apply HSet.there)); (repeat (first | apply LPut.s | apply LPut.z | apply LOver.nil | apply LOver.cons))) | (apply Wl.nil) | (apply Wl.splitP; exact rfl; exact rfl; all_goals (intros; try (exfalso; omega))) | (apply Wl.splitB; exact rfl; exact rfl; all_goals intros) | (apply St.condP; exact rfl; all_goals (intros; try (exfalso; omega))) | (apply St.condB; exact rfl; all_goals intros))
    refine Mt.backE (fun _ h => h.own.2.2.1) ?_
    refine Mt.toGt (by decide +kernel) ?_
    repeat' (first | (apply Gt.outC'; exact rfl; infer_instance; exact rfl; (repeat (first | exact List.Mem.head _ | apply List.Mem.tail)); (repeat (first | apply LSub.z | apply LSub.t | apply LSub.s)); intro w' hp) | (apply Wl.move; exact rfl; exact rfl) | (apply Wl.assign; exact rfl; exact rfl) | (apply Wl.eql; exact rfl; exact rfl; exact rfl) | (apply Wl.and; exact rfl; exact rfl; exact rfl) | (apply Wl.storeA; exact rfl; exact rfl; exact rfl; exact rfl; (repeat (first | apply HSet.here | apply HSet.there)); (repeat (first | apply LPut.s | apply LPut.z | apply LOver.nil | apply LOver.cons))) | (apply Wl.buildS; exact rfl; (repeat (first | exact Parts.nil | apply Parts.cons rfl)); (repeat (first | apply Fills.nil | (apply Fills.one; exact rfl; exact rfl; (repeat (first | apply LSet.z | apply LSet.s))) | (apply Fills.agg; exact rfl; exact rfl; (repeat (first | apply LPut.s | apply LPut.z | apply LOver.nil | apply LOver.cons)))))) | (apply Wl.nil) | (apply St.seq) | (apply St.block) | (apply St.region) | (apply St.condF; exact rfl; (first | with_reducible rfl | with_reducible assumption | decide)) | (apply St.ret) | (apply St.skip) | (apply Gt.next) | (apply Gt.inNormal) | (apply Wl.splitP; exact rfl; exact rfl; all_goals (intros; try (exfalso; omega))) | (apply Wl.splitB; exact rfl; exact rfl; all_goals intros) | (apply St.condP; exact rfl; all_goals (intros; try (exfalso; omega))) | (apply St.condB; exact rfl; all_goals intros))
    exact ⟨rfl, hp.drop (by simp; omega)⟩
  · apply Wl.alloc
    · exact rfl
    intro c9 hc9 ho9
    repeat' (first | (apply Wl.nil) | (apply Wl.splitP; exact rfl; exact rfl; all_goals (intros; try (exfalso; omega))) | (apply Wl.splitB; exact rfl; exact rfl; all_goals intros) | (apply St.condP; exact rfl; all_goals (intros; try (exfalso; omega))) | (apply St.condB; exact rfl; all_goals intros))
    refine Mt.backE (fun _ h => h.own.2.2.1) ?_
    refine Mt.eff1 (i := 5) (by decide +kernel) (by exact rfl) ?_
    apply Wl.callQ
    exact rfl
    (repeat (first | exact Evs.nil | apply Evs.cons rfl))
    · intro wq hq
      refine (immI0 wq).mono ?_
      rintro e wr ⟨rfl, hr⟩
      exact ⟨rfl, hq.keep hr⟩
    repeat' (first | (apply Wl.nil) | (apply Wl.splitP; exact rfl; exact rfl; all_goals (intros; try (exfalso; omega))) | (apply Wl.splitB; exact rfl; exact rfl; all_goals intros) | (apply St.condP; exact rfl; all_goals (intros; try (exfalso; omega))) | (apply St.condB; exact rfl; all_goals intros))
    refine Mt.backE (fun _ h => h.own.2.2.1) ?_
    refine Mt.pure 6 (by decide +kernel) (by exact rfl) (by exact rfl) (by decide +kernel) (by decide +kernel) ?_
    repeat' (first | (apply Wl.buildS; exact rfl; (repeat (first | exact Parts.nil | apply Parts.cons rfl)); (repeat (first | apply Fills.nil | (apply Fills.one; exact rfl; exact rfl; (repeat (first | apply LSet.z | apply LSet.s))) | (apply Fills.agg; exact rfl; exact rfl; (repeat (first | apply LPut.s | apply LPut.z | apply LOver.nil | apply LOver.cons)))))) | (apply Wl.nilM) | (apply Wl.splitP; exact rfl; exact rfl; all_goals (intros; try (exfalso; omega))) | (apply Wl.splitB; exact rfl; exact rfl; all_goals intros) | (apply St.condP; exact rfl; all_goals (intros; try (exfalso; omega))) | (apply St.condB; exact rfl; all_goals intros))
    apply Mt.back
    refine Mt.eff1 (i := 8) (by decide +kernel) (by exact rfl) ?_
    repeat' (first | (apply Wl.storeA; exact rfl; exact rfl; exact rfl; exact rfl; (repeat (first | apply HSet.here | apply HSet.there)); (repeat (first | apply LPut.s | apply LPut.z | apply LOver.nil | apply LOver.cons))) | (apply Wl.nil) | (apply Wl.splitP; exact rfl; exact rfl; all_goals (intros; try (exfalso; omega))) | (apply Wl.splitB; exact rfl; exact rfl; all_goals intros) | (apply St.condP; exact rfl; all_goals (intros; try (exfalso; omega))) | (apply St.condB; exact rfl; all_goals intros))
    refine Mt.backE (fun _ h => h.own.2.2.1) ?_
    refine Mt.toGt (by decide +kernel) ?_
    repeat' (first | (apply Gt.outC'; exact rfl; infer_instance; exact rfl; (repeat (first | exact List.Mem.head _ | apply List.Mem.tail)); (repeat (first | apply LSub.z | apply LSub.t | apply LSub.s)); intro w' hp) | (apply Wl.move; exact rfl; exact rfl) | (apply Wl.assign; exact rfl; exact rfl) | (apply Wl.eql; exact rfl; exact rfl; exact rfl) | (apply Wl.and; exact rfl; exact rfl; exact rfl) | (apply Wl.storeA; exact rfl; exact rfl; exact rfl; exact rfl; (repeat (first | apply HSet.here | apply HSet.there)); (repeat (first | apply LPut.s | apply LPut.z | apply LOver.nil | apply LOver.cons))) | (apply Wl.buildS; exact rfl; (repeat (first | exact Parts.nil | apply Parts.cons rfl)); (repeat (first | apply Fills.nil | (apply Fills.one; exact rfl; exact rfl; (repeat (first | apply LSet.z | apply LSet.s))) | (apply Fills.agg; exact rfl; exact rfl; (repeat (first | apply LPut.s | apply LPut.z | apply LOver.nil | apply LOver.cons)))))) | (apply Wl.nil) | (apply St.seq) | (apply St.block) | (apply St.region) | (apply St.condF; exact rfl; (first | with_reducible rfl | with_reducible assumption | decide)) | (apply St.ret) | (apply St.skip) | (apply Gt.next) | (apply Gt.inNormal) | (apply Wl.splitP; exact rfl; exact rfl; all_goals (intros; try (exfalso; omega))) | (apply Wl.splitB; exact rfl; exact rfl; all_goals intros) | (apply St.condP; exact rfl; all_goals (intros; try (exfalso; omega))) | (apply St.condB; exact rfl; all_goals intros))
    exact ⟨rfl, hp.drop (by simp; omega)⟩
set_option maxHeartbeats 4000000 in
theorem dec5 (w : World) : Calls Tryd.prog 26 #[.int .u32 5243155] w fun e w' => e = .returned (.agg #[.int .i64 19, .int .i64 2, .int .i64 0, .int .i64 0, .int .u32 5]) ∧ Hp w [] w' := by
  refine enter (args := [_]) (Γ := [(0, _)]) Tryd.func26 Tryd.ntmps26 rfl (of_decide_eq_true rfl) (.cons rfl .nil) ?_
  repeat' (first | (apply Wl.move; exact rfl; exact rfl) | (apply Wl.assign; exact rfl; exact rfl) | (apply Wl.eql; exact rfl; exact rfl; exact rfl) | (apply Wl.and; exact rfl; exact rfl; exact rfl) | (apply Wl.shr; exact rfl; exact rfl; exact rfl; (omega)) | (apply Wl.convI; exact rfl; exact rfl) | (apply Wl.storeA; exact rfl; exact rfl; exact rfl; exact rfl; (repeat (first | apply HSet.here | apply HSet.there)); (repeat (first | apply LPut.s | apply LPut.z | apply LOver.nil | apply LOver.cons))) | (apply Wl.loadAH; exact rfl; exact rfl; (repeat (first | exact List.Mem.head _ | apply List.Mem.tail)); (repeat (first | apply LSub.z | apply LSub.t | apply LSub.s))) | (apply Wl.buildS; exact rfl; (repeat (first | exact Parts.nil | apply Parts.cons rfl)); (repeat (first | apply Fills.nil | (apply Fills.one; exact rfl; exact rfl; (repeat (first | apply LSet.z | apply LSet.s))) | (apply Fills.agg; exact rfl; exact rfl; (repeat (first | apply LPut.s | apply LPut.z | apply LOver.nil | apply LOver.cons)))))) | (apply Wl.alloc; exact rfl; intro c hc ho) | (apply Wl.nil) | (apply St.seq) | (apply St.block) | (apply St.region) | (apply St.condF; exact rfl; (first | with_reducible rfl | with_reducible assumption | decide)) | (apply St.skip) | (apply Gt.next) | (apply Gt.inNormal) | (apply Wl.splitP; exact rfl; exact rfl; all_goals (intros; try (exfalso; omega))) | (apply Wl.splitB; exact rfl; exact rfl; all_goals intros) | (apply St.condP; exact rfl; all_goals (intros; try (exfalso; omega))) | (apply St.condB; exact rfl; all_goals intros))
  apply Wl.callQ
  exact rfl
  (repeat (first | exact Evs.nil | apply Evs.cons rfl))
  · intro wq hq
    refine (more5 wq).mono ?_
    rintro e wr ⟨rfl, hr⟩
    exact ⟨rfl, hq.keep hr⟩
  repeat' (first | (apply Gt.outC'; exact rfl; infer_instance; exact rfl; (repeat (first | exact List.Mem.head _ | apply List.Mem.tail)); (repeat (first | apply LSub.z | apply LSub.t | apply LSub.s)); intro w' hp) | (apply Wl.storeA; exact rfl; exact rfl; exact rfl; exact rfl; (repeat (first | apply HSet.here | apply HSet.there)); (repeat (first | apply LPut.s | apply LPut.z | apply LOver.nil | apply LOver.cons))) | (apply Wl.nil) | (apply St.ret) | (apply Gt.next) | (apply Wl.splitP; exact rfl; exact rfl; all_goals (intros; try (exfalso; omega))) | (apply Wl.splitB; exact rfl; exact rfl; all_goals intros) | (apply St.condP; exact rfl; all_goals (intros; try (exfalso; omega))) | (apply St.condB; exact rfl; all_goals intros))
  exact ⟨rfl, hp.drop (by simp; omega)⟩
set_option maxHeartbeats 4000000 in
theorem dec0 (w : World) : Calls Tryd.prog 26 #[.int .u32 0] w fun e w' => e = .returned (.agg #[.int .i64 0, .int .i64 0, .int .i64 0, .int .i64 0, .int .u32 0]) ∧ Hp w [] w' := by
  refine enter (args := [_]) (Γ := [(0, _)]) Tryd.func26 Tryd.ntmps26 rfl (of_decide_eq_true rfl) (.cons rfl .nil) ?_
  repeat' (first | (apply Wl.move; exact rfl; exact rfl) | (apply Wl.assign; exact rfl; exact rfl) | (apply Wl.eql; exact rfl; exact rfl; exact rfl) | (apply Wl.and; exact rfl; exact rfl; exact rfl) | (apply Wl.shr; exact rfl; exact rfl; exact rfl; (omega)) | (apply Wl.convI; exact rfl; exact rfl) | (apply Wl.storeA; exact rfl; exact rfl; exact rfl; exact rfl; (repeat (first | apply HSet.here | apply HSet.there)); (repeat (first | apply LPut.s | apply LPut.z | apply LOver.nil | apply LOver.cons))) | (apply Wl.loadAH; exact rfl; exact rfl; (repeat (first | exact List.Mem.head _ | apply List.Mem.tail)); (repeat (first | apply LSub.z | apply LSub.t | apply LSub.s))) | (apply Wl.buildS; exact rfl; (repeat (first | exact Parts.nil | apply Parts.cons rfl)); (repeat (first | apply Fills.nil | (apply Fills.one; exact rfl; exact rfl; (repeat (first | apply LSet.z | apply LSet.s))) | (apply Fills.agg; exact rfl; exact rfl; (repeat (first | apply LPut.s | apply LPut.z | apply LOver.nil | apply LOver.cons)))))) | (apply Wl.alloc; exact rfl; intro c hc ho) | (apply Wl.nil) | (apply St.seq) | (apply St.block) | (apply St.region) | (apply St.condF; exact rfl; (first | with_reducible rfl | with_reducible assumption | decide)) | (apply St.skip) | (apply Gt.next) | (apply Gt.inNormal) | (apply Wl.splitP; exact rfl; exact rfl; all_goals (intros; try (exfalso; omega))) | (apply Wl.splitB; exact rfl; exact rfl; all_goals intros) | (apply St.condP; exact rfl; all_goals (intros; try (exfalso; omega))) | (apply St.condB; exact rfl; all_goals intros))
  apply Wl.callQ
  exact rfl
  (repeat (first | exact Evs.nil | apply Evs.cons rfl))
  · intro wq hq
    refine (more0 wq).mono ?_
    rintro e wr ⟨rfl, hr⟩
    exact ⟨rfl, hq.keep hr⟩
  repeat' (first | (apply Gt.outC'; exact rfl; infer_instance; exact rfl; (repeat (first | exact List.Mem.head _ | apply List.Mem.tail)); (repeat (first | apply LSub.z | apply LSub.t | apply LSub.s)); intro w' hp) | (apply Wl.storeA; exact rfl; exact rfl; exact rfl; exact rfl; (repeat (first | apply HSet.here | apply HSet.there)); (repeat (first | apply LPut.s | apply LPut.z | apply LOver.nil | apply LOver.cons))) | (apply Wl.nil) | (apply St.ret) | (apply Gt.next) | (apply Wl.splitP; exact rfl; exact rfl; all_goals (intros; try (exfalso; omega))) | (apply Wl.splitB; exact rfl; exact rfl; all_goals intros) | (apply St.condP; exact rfl; all_goals (intros; try (exfalso; omega))) | (apply St.condB; exact rfl; all_goals intros))
  exact ⟨rfl, hp.drop (by simp; omega)⟩
end Go.Proofs.YtcefkbnachnciaaDoor
end
section
namespace Go.Pt
open Go.RowKit
theorem Gt.inlC' {P : Program} {N N' d : Nat} {ops : Array Oper} {rest : List Oper} {Γ Γ' : Env} {Q : Exit → Act → World → Prop} {w0 : World} {H : List Blk} {fn : Func} {t ty n c i bt : Nat} {cs xs : List Value} (hr : fn.results = #[.cell t ty]) (hT : TyA P ty n) (ht : look Γ' t = some (.pointer (some ⟨c, i, none⟩))) (hm : (⟨c, cs, bt⟩ : Blk) ∈ H) (hi' : LSub cs i n xs)
    (h : Wl rest P .seq ops N ((d, .agg xs.toArray) :: Γ) (Hp w0 H) Q) : Gt N' .ret Γ' (Hp w0 H) (bodyPost P fn (InlPost P ops N d rest Γ Q)) := Gt.inlC hr ht hm hi' h
end Go.Pt
namespace Go.Proofs.YtcefkbnachnciaaDoor
open Go.RowKit Go.Pt
def xz : List Value := [.int .u32 0, .int .u32 0, .int .u32 0, .int .u32 0, .int .u32 0, .int .u32 0, .int .u32 0, .int .u32 0, .int .u32 0, .int .u32 0, .int .u32 0, .int .u32 0, .int .u32 0, .int .u32 0, .int .u32 0, .int .u32 0, .int .u32 0, .int .u32 0, .int .u32 0, .int .u32 0, .int .u32 0, .int .u32 0, .int .u32 0, .int .u32 0, .int .u32 0, .int .u32 0, .int .u32 0, .int .u32 0, .int .u32 0, .int .u32 0, .int .u32 0, .int .u32 0]
def xfive : List Value := [.int .u32 0, .int .u32 0, .int .u32 5, .int .u32 0, .int .u32 0, .int .u32 0, .int .u32 0, .int .u32 0, .int .u32 0, .int .u32 0, .int .u32 0, .int .u32 0, .int .u32 0, .int .u32 0, .int .u32 0, .int .u32 0, .int .u32 0, .int .u32 0, .int .u32 0, .int .u32 0, .int .u32 0, .int .u32 0, .int .u32 0, .int .u32 0, .int .u32 0, .int .u32 0, .int .u32 0, .int .u32 0, .int .u32 0, .int .u32 0, .int .u32 0, .int .u32 0]
def fz (n : Int) : List Value := .int .i64 3 :: .int .u32 0 :: .int .u32 0 :: .int .u32 0 :: .int .u32 0 :: .int .u32 0 :: .int .u32 0 :: .int .u32 0 :: .int .u32 0 :: [.int .u8 0, .int .u8 0, .int .u8 0, .int .u8 0, .int .u8 0, .int .u8 0, .int .u8 0, .int .u8 0, .int .u8 0, .int .u8 0, .int .u8 0, .int .u8 0, .int .u8 0, .int .u8 0, .int .u8 0, .int .u8 0,
  .int .u32 0, .int .u32 0, .int .u32 0, .int .u32 0, .int .u32 0, .int .u32 0, .int .u32 0, .int .u32 0, .int .u32 0, .int .u32 0, .int .u32 0, .int .u32 0, .int .u32 0, .int .u32 0, .int .u32 0, .int .u32 0, .int .u64 n, .int .u64 n]
set_option maxHeartbeats 8000000 in
theorem do5 (h cf cM : Nat) (w : World) (hne : h ≠ cf) (h1 : w.heap[h]? = some (.cells (xz ++ [Value.int .u32 2147487744, Value.pointer (some ⟨cf, 0, none⟩), Value.pointer (some ⟨cM, 0, none⟩)]).toArray 30 (0, 0))) (h2 : w.heap[cf]? = some (.cells (fz 0).toArray 54 (0, 0))) :
    Calls Tryd.prog 25 #[.pointer (some ⟨h, 0, none⟩), .agg #[.int .u32 5243155, .bool false, .int .u32 0, .int .u32 0, .int .u32 0, .int .i64 0, .bool false], .agg #[.int .i64 19, .int .i64 2, .int .i64 0, .int .i64 0, .int .u32 5]] w
      fun e w' => e = .returned (.agg #[.int .u32 5243155, .bool false, .int .u32 0, .int .u32 0, .int .u32 0, .int .i64 0, .bool false]) ∧ Hp w [⟨h, xfive ++ [.int .u32 2147487748, .pointer (some ⟨cf, 0, none⟩), .pointer (some ⟨cM, 0, none⟩)], 30⟩, ⟨cf, fz 1, 54⟩] w' := by
  have lh := lt_of_block h1
  have lf := lt_of_block h2
  refine enter (args := [_, _, _]) (Γ := [(0, _), (1, _), (2, _)]) Tryd.func25 Tryd.ntmps25 rfl (of_decide_eq_true rfl) (.cons rfl (.cons rfl (.cons rfl .nil))) ?_
  refine St.cls (C' := Hp w [⟨h, xz ++ [Value.int .u32 2147487744, Value.pointer (some ⟨cf, 0, none⟩), Value.pointer (some ⟨cM, 0, none⟩)], 30⟩, ⟨cf, fz 0, 54⟩]) (fun _ h' => Hp.open (Hp.open h' h2) h1 ⟨fun e => hne e.symm, trivial⟩) ?_
  simp only [xz, fz, List.cons_append, List.nil_append]
  repeat' (first | (apply Gt.inlC'; exact rfl; infer_instance; exact rfl; (repeat (first | exact List.Mem.head _ | apply List.Mem.tail)); (repeat (first | apply LSub.z | apply LSub.t | apply LSub.s))) | (apply Gt.outC'; exact rfl; infer_instance; exact rfl; (repeat (first | exact List.Mem.head _ | apply List.Mem.tail)); (repeat (first | apply LSub.z | apply LSub.t | apply LSub.s)); intro w' hp) | (apply Gt.inl1; exact rfl; exact rfl) | (apply Gt.inl2; exact rfl; exact rfl; exact rfl) | (apply Gt.inl00n; exact rfl) | (apply Wl.inline; exact rfl; (repeat (first | exact Evs.nil | apply Evs.cons rfl)); exact rfl; exact rfl) | (apply Wl.move; exact rfl; exact rfl) | (apply Wl.assign; exact rfl; exact rfl) | (apply Wl.on; exact rfl; exact rfl; (first | with_reducible rfl | with_reducible assumption | decide)) | (apply Wl.off; exact rfl; exact rfl; exact rfl; (first | with_reducible rfl | (show _ = false; with_reducible assumption) | (show _ = true; with_reducible assumption) | decide)) | (apply Wl.extract; exact rfl; exact rfl; exact rfl) | (apply Wl.nilCheck; exact rfl; exact rfl) | (apply Wl.pickT; exact rfl; exact rfl; (first | with_reducible rfl | with_reducible assumption | decide); exact rfl) | (apply Wl.pickF; exact rfl; exact rfl; (first | with_reducible rfl | with_reducible assumption | decide); exact rfl) | (apply Wl.fieldAddr0; exact rfl; exact rfl) | (apply Wl.fieldAddrZ; exact rfl; exact rfl) | (apply Wl.loadH; exact rfl; exact rfl; (repeat (first | exact List.Mem.head _ | apply List.Mem.tail)); exact rfl) | (apply Wl.eqlPN; exact rfl; exact rfl; exact rfl) | (apply Wl.eqlIs; exact rfl; exact rfl; exact rfl; (first | with_reducible assumption | with_reducible rfl)) | (apply Wl.eql; exact rfl; exact rfl; exact rfl) | (apply Wl.neq; exact rfl; exact rfl; exact rfl) | (apply Wl.leq; exact rfl; exact rfl; exact rfl) | (apply Wl.gtr; exact rfl; exact rfl; exact rfl) | (apply Wl.geq; exact rfl; exact rfl; exact rfl) | (apply Wl.addU; exact rfl; exact rfl; exact rfl; (constructor <;> omega)) | (apply Wl.add; exact rfl; exact rfl; exact rfl) | (apply Wl.store; exact rfl; exact rfl; exact rfl; (repeat (first | apply HSet.here | apply HSet.there)); (repeat (first | apply LSet.z | apply LSet.s))) | (apply Wl.storeA; exact rfl; exact rfl; exact rfl; exact rfl; (repeat (first | apply HSet.here | apply HSet.there)); (repeat (first | apply LPut.s | apply LPut.z | apply LOver.nil | apply LOver.cons))) | (apply Wl.loadAH; exact rfl; exact rfl; (repeat (first | exact List.Mem.head _ | apply List.Mem.tail)); (repeat (first | apply LSub.z | apply LSub.t | apply LSub.s))) | (apply Wl.boxA; exact rfl; exact rfl; intro c hc ho) | (apply Wl.alloc; exact rfl; intro c hc ho) | (apply Wl.indexArr; exact rfl; exact rfl; exact rfl; (constructor <;> omega)) | (apply Wl.nil) | (apply Wl.nilQ) | (apply St.seq) | (apply St.block) | (apply St.region) | (apply St.draw; exact mixed; (kernel_rfl); exact (fun _ h => Hp.drew h)) | (apply St.condT; exact rfl; (first | with_reducible rfl | with_reducible assumption | decide)) | (apply St.condF; exact rfl; (first | with_reducible rfl | with_reducible assumption | decide)) | (apply St.ret) | (apply St.skip) | (apply Gt.next) | (apply Gt.thenRet) | (apply Gt.inNormal) | (apply Gt.inRet) | (apply Wl.splitP; exact rfl; exact rfl; all_goals (intros; try (exfalso; omega))) | (apply Wl.splitB; exact rfl; exact rfl; all_goals intros) | (apply St.condP; exact rfl; all_goals (intros; try (exfalso; omega))) | (apply St.condB; exact rfl; all_goals intros))
  refine ⟨rfl, ?_⟩
  have hp := Hp.pop (Hp.pop (Hp.pop (Hp.pop (Hp.pop hp (by simp only; omega)) (by simp only; omega)) (by simp only; omega)) (by simp only; omega)) (by simp only; omega)
  exact hp
theorem onlyNew {w a b : World} {H : List Blk} (h : Hp a H b) (hn : ∀ x ∈ H, w.heap.size ≤ x.b) : Upd (fun k => w.heap.size ≤ k) a b :=
  h.upd.mono fun k _ hs => Classical.byContradiction fun z => hs (Off.of fun x hx e => by have := hn x hx; omega)
theorem FF.two {w : World} {c : Nat} {md tv : Int} (h : FF w c md tv) : w.cell? ⟨c, 0, none⟩ = some (.int .i64 md) := by
  obtain ⟨st, mie, mip, sc, ep, ca, tl, cs, hk, hc⟩ := h
  exact cell_of hc rfl
theorem HH.at1 {w : World} {h c : Nat} {vM : Value} {xs : List Value} {pc : Int} (k : HH w h c vM xs pc) : w.cell? ⟨h, 32, none⟩ = some (.int .u32 pc) ∧ w.cell? ⟨h, 33, none⟩ = some (.pointer (some ⟨c, 0, none⟩)) ∧ w.cell? ⟨h, 34, none⟩ = some vM := by
  obtain ⟨hl, hh⟩ := k
  refine ⟨cell_of hh ?_, cell_of hh ?_, cell_of hh ?_⟩
  · rw [show (32 : Nat) = xs.length + 0 by omega, List.getElem?_append_right (by omega), Nat.add_sub_cancel_left]; rfl
  · rw [show (33 : Nat) = xs.length + 1 by omega, List.getElem?_append_right (by omega), Nat.add_sub_cancel_left]; rfl
  · rw [show (34 : Nat) = xs.length + 2 by omega, List.getElem?_append_right (by omega), Nat.add_sub_cancel_left]; rfl
set_option maxHeartbeats 8000000 in
theorem system0 (h cf : Nat) (vM : Value) (xs : List Value) (pc md tv nx : Int) (w : World) (hH : HH w h cf vM xs pc) (hF : FF w cf md tv) :
    Calls Tryd.prog 47 #[.pointer (some ⟨h, 0, none⟩), .agg #[.int .u32 0, .bool false, .int .u32 0, .int .u32 0, .int .u32 0, .int .i64 0, .bool false], .agg #[.int .i64 0, .int .i64 0, .int .i64 0, .int .i64 0, .int .u32 0], .int .u32 nx] w
      fun e w' => e = .returned (.agg #[.int .u32 0, .bool true, .int .u32 2, .int .u32 0, .int .u32 0, .int .i64 0, .bool false]) ∧ HH w' h cf vM xs tv ∧ FF w' cf 3 tv ∧ Upd (fun k => k = h ∨ k = cf) w w' := by
  have lh := hH.lt
  have lf := hF.lt
  obtain ⟨c32, c33, c34⟩ := hH.at1
  have m0 := hF.two
  refine enter (args := [_, _, _, _]) (Γ := [(0, _), (1, _), (2, _), (3, _)]) Tryd.func47 Tryd.ntmps47 rfl (of_decide_eq_true rfl) (.cons rfl (.cons rfl (.cons rfl (.cons rfl .nil)))) ?_
  repeat' (first | (apply Wl.loadO; exact rfl; exact rfl; (first | exact c33 | exact m0); (repeat (first | exact trivial | refine ⟨by simp only; omega, ?_⟩))) | (apply Wl.move; exact rfl; exact rfl) | (apply Wl.assign; exact rfl; exact rfl) | (apply Wl.off; exact rfl; exact rfl; exact rfl; (first | with_reducible rfl | (show _ = false; with_reducible assumption) | (show _ = true; with_reducible assumption) | decide)) | (apply Wl.nilCheck; exact rfl; exact rfl) | (apply Wl.pickF; exact rfl; exact rfl; (first | with_reducible rfl | with_reducible assumption | decide); exact rfl) | (apply Wl.fieldAddr0; exact rfl; exact rfl) | (apply Wl.fieldAddrZ; exact rfl; exact rfl) | (apply Wl.loadH; exact rfl; exact rfl; (repeat (first | exact List.Mem.head _ | apply List.Mem.tail)); exact rfl) | (apply Wl.eql; exact rfl; exact rfl; exact rfl) | (apply Wl.loadAH; exact rfl; exact rfl; (repeat (first | exact List.Mem.head _ | apply List.Mem.tail)); (repeat (first | apply LSub.z | apply LSub.t | apply LSub.s))) | (apply Wl.boxA; exact rfl; exact rfl; intro c hc ho) | (apply Wl.alloc; exact rfl; intro c hc ho) | (apply Wl.nil) | (apply St.seq) | (apply St.block) | (apply St.region) | (apply St.condF; exact rfl; (first | with_reducible rfl | with_reducible assumption | decide)) | (apply St.skip) | (apply Gt.next) | (apply Gt.inNormal) | (apply Wl.splitP; exact rfl; exact rfl; all_goals (intros; try (exfalso; omega))) | (apply Wl.splitB; exact rfl; exact rfl; all_goals intros) | (apply St.condP; exact rfl; all_goals (intros; try (exfalso; omega))) | (apply St.condB; exact rfl; all_goals intros))
  all_goals
    apply Wl.callC
    · exact rfl
    · (repeat (first | exact Evs.nil | apply Evs.cons rfl))
    intro wq hq
    refine (htrap h cf vM xs pc md tv 0 2 0 0 0 0 0 false false wq (hH.upd hq.upd fun y => y (by repeat (first | exact trivial | refine ⟨by simp only; omega, ?_⟩))) (hF.upd hq.upd fun y => y (by repeat (first | exact trivial | refine ⟨by simp only; omega, ?_⟩)))).mono ?_
    rintro e w1 ⟨rfl, k1, f1, u1⟩
    have hn := onlyNew (w := w) hq (by simp only [List.mem_cons, List.not_mem_nil, or_false, forall_eq_or_imp, forall_eq]; omega)
    have hq1 := Hp.rest hq u1 (by simp only [List.mem_cons, List.not_mem_nil, or_false, forall_eq_or_imp, forall_eq]; omega)
    refine ⟨_, _, rfl, hq1, ?_⟩
    have hs1 := hq.upd.size
    have hs2 := u1.size
    clear hq hq1
    repeat' (first | (apply Gt.outC'; exact rfl; infer_instance; exact rfl; (repeat (first | exact List.Mem.head _ | apply List.Mem.tail)); (repeat (first | apply LSub.z | apply LSub.t | apply LSub.s)); intro w' hp) | (apply Wl.storeA; exact rfl; exact rfl; exact rfl; exact rfl; (repeat (first | apply HSet.here | apply HSet.there)); (repeat (first | apply LPut.s | apply LPut.z | apply LOver.nil | apply LOver.cons))) | (apply Wl.nil) | (apply St.ret) | (apply Gt.next) | (apply Wl.splitP; exact rfl; exact rfl; all_goals (intros; try (exfalso; omega))) | (apply Wl.splitB; exact rfl; exact rfl; all_goals intros) | (apply St.condP; exact rfl; all_goals (intros; try (exfalso; omega))) | (apply St.condB; exact rfl; all_goals intros))
    have hn2 := onlyNew (w := w) hp (by simp only [List.mem_cons, List.not_mem_nil, or_false, forall_eq_or_imp, forall_eq]; omega)
    refine ⟨rfl, k1.upd hn2 (by omega), f1.upd hn2 (by omega), ?_⟩
    exact ((hn.mono (S' := fun k => (k = h ∨ k = cf) ∨ w.heap.size ≤ k) fun _ _ e => .inr e).trans ((u1.mono fun _ _ e => .inl e).trans (hn2.mono fun _ _ e => .inr e))).mono fun k hk e => e.elim id fun y => by omega
theorem form0 (w : World) : Calls Tryd.prog 40 #[.int .i64 0] w fun e w' => e = .returned (.int .i64 (-1)) ∧ Hp w [] w' := by
  refine enter (args := [_]) (Γ := [(0, _)]) Tryd.func40 Tryd.ntmps40 rfl (of_decide_eq_true rfl) (.cons rfl .nil) ?_
  repeat' (first | (apply Wl.move; exact rfl; exact rfl) | (apply Wl.assign; exact rfl; exact rfl) | (apply Wl.on; exact rfl; exact rfl; (first | with_reducible rfl | with_reducible assumption | decide)) | (apply Wl.off; exact rfl; exact rfl; exact rfl; (first | with_reducible rfl | (show _ = false; with_reducible assumption) | (show _ = true; with_reducible assumption) | decide)) | (apply Wl.pickF; exact rfl; exact rfl; (first | with_reducible rfl | with_reducible assumption | decide); exact rfl) | (apply Wl.eql; exact rfl; exact rfl; exact rfl) | (apply Wl.geq; exact rfl; exact rfl; exact rfl) | (apply Wl.nil) | (apply St.seq) | (apply St.block) | (apply St.region) | (apply St.condF; exact rfl; (first | with_reducible rfl | with_reducible assumption | decide)) | (apply St.ret) | (apply St.skip) | (apply Gt.next) | (apply Gt.inNormal) | (apply Gt.out1; exact rfl; exact rfl; intro w' hp) | (apply Wl.splitP; exact rfl; exact rfl; all_goals (intros; try (exfalso; omega))) | (apply Wl.splitB; exact rfl; exact rfl; all_goals intros) | (apply St.condP; exact rfl; all_goals (intros; try (exfalso; omega))) | (apply St.condB; exact rfl; all_goals intros))
  exact ⟨by kernel_rfl, hp⟩
theorem width0 (w : World) : Calls Tryd.prog 43 #[.int .i64 0] w fun e w' => e = .returned (.int .i64 0) ∧ Hp w [] w' := by
  refine enter (args := [_]) (Γ := [(0, _)]) Tryd.func43 Tryd.ntmps43 rfl (of_decide_eq_true rfl) (.cons rfl .nil) ?_
  repeat' (first | (apply Wl.move; exact rfl; exact rfl) | (apply Wl.assign; exact rfl; exact rfl) | (apply Wl.eql; exact rfl; exact rfl; exact rfl) | (apply Wl.nil) | (apply St.seq) | (apply St.block) | (apply St.region) | (apply St.condF; exact rfl; (first | with_reducible rfl | with_reducible assumption | decide)) | (apply St.ret) | (apply St.skip) | (apply Gt.next) | (apply Gt.inNormal) | (apply Gt.out1; exact rfl; exact rfl; intro w' hp) | (apply Wl.splitP; exact rfl; exact rfl; all_goals (intros; try (exfalso; omega))) | (apply Wl.splitB; exact rfl; exact rfl; all_goals intros) | (apply St.condP; exact rfl; all_goals (intros; try (exfalso; omega))) | (apply St.condB; exact rfl; all_goals intros))
  exact ⟨by kernel_rfl, hp⟩
set_option maxHeartbeats 8000000 in
theorem do0 (h cf : Nat) (vM : Value) (pc md tv : Int) (w : World) (hH : HH w h cf vM xfive pc) (hF : FF w cf md tv) :
    Calls Tryd.prog 25 #[.pointer (some ⟨h, 0, none⟩), .agg #[.int .u32 0, .bool false, .int .u32 0, .int .u32 0, .int .u32 0, .int .i64 0, .bool false], .agg #[.int .i64 0, .int .i64 0, .int .i64 0, .int .i64 0, .int .u32 0]] w
      fun e w' => e = .returned (.agg #[.int .u32 0, .bool true, .int .u32 2, .int .u32 0, .int .u32 0, .int .i64 0, .bool false]) ∧ HH w' h cf vM xfive tv ∧ FF w' cf 3 tv ∧ Upd (fun k => k = h ∨ k = cf) w w' := by
  have lh := hH.lt
  have lf := hF.lt
  obtain ⟨c32, c33, c34⟩ := hH.at1
  have cX : w.cell? ⟨h, 0 + Int.toNat 0 * 1, none⟩ = some (.int .u32 0) := cell_of hH.2 rfl
  refine enter (args := [_, _, _]) (Γ := [(0, _), (1, _), (2, _)]) Tryd.func25 Tryd.ntmps25 rfl (of_decide_eq_true rfl) (.cons rfl (.cons rfl (.cons rfl .nil))) ?_
  repeat' (first | (apply Wl.loadO; exact rfl; exact rfl; (first | exact c32 | exact c33 | exact cX); (repeat (first | exact trivial | refine ⟨by simp only; omega, ?_⟩))) | (apply Wl.move; exact rfl; exact rfl) | (apply Wl.assign; exact rfl; exact rfl) | (apply Wl.nilCheck; exact rfl; exact rfl) | (apply Wl.fieldAddr0; exact rfl; exact rfl) | (apply Wl.fieldAddrZ; exact rfl; exact rfl) | (apply Wl.loadH; exact rfl; exact rfl; (repeat (first | exact List.Mem.head _ | apply List.Mem.tail)); exact rfl) | (apply Wl.add; exact rfl; exact rfl; exact rfl) | (apply Wl.boxA; exact rfl; exact rfl; intro c hc ho) | (apply Wl.alloc; exact rfl; intro c hc ho) | (apply Wl.indexArr; exact rfl; exact rfl; exact rfl; (constructor <;> omega)) | (apply Wl.nil) | (apply Wl.nilQ) | (apply St.seq) | (apply St.region) | (apply St.draw; exact mixed; (kernel_rfl); exact (fun _ h => Hp.drew h)) | (apply Gt.next) | (apply Wl.splitP; exact rfl; exact rfl; all_goals (intros; try (exfalso; omega))) | (apply Wl.splitB; exact rfl; exact rfl; all_goals intros) | (apply St.condP; exact rfl; all_goals (intros; try (exfalso; omega))) | (apply St.condB; exact rfl; all_goals intros))
  apply Wl.callQ
  exact rfl
  (repeat (first | exact Evs.nil | apply Evs.cons rfl))
  · intro wq hq
    refine (form0 wq).mono ?_
    rintro e wr ⟨rfl, hr⟩
    exact ⟨rfl, hq.keep hr⟩
  repeat' (first | (apply Wl.move; exact rfl; exact rfl) | (apply Wl.assign; exact rfl; exact rfl) | (apply Wl.on; exact rfl; exact rfl; (first | with_reducible rfl | with_reducible assumption | decide)) | (apply Wl.pickF; exact rfl; exact rfl; (first | with_reducible rfl | with_reducible assumption | decide); exact rfl) | (apply Wl.fieldAddr0; exact rfl; exact rfl) | (apply Wl.loadH; exact rfl; exact rfl; (repeat (first | exact List.Mem.head _ | apply List.Mem.tail)); exact rfl) | (apply Wl.eql; exact rfl; exact rfl; exact rfl) | (apply Wl.nil) | (apply St.seq) | (apply St.block) | (apply St.region) | (apply St.condF; exact rfl; (first | with_reducible rfl | with_reducible assumption | decide)) | (apply Gt.next) | (apply Wl.splitP; exact rfl; exact rfl; all_goals (intros; try (exfalso; omega))) | (apply Wl.splitB; exact rfl; exact rfl; all_goals intros) | (apply St.condP; exact rfl; all_goals (intros; try (exfalso; omega))) | (apply St.condB; exact rfl; all_goals intros))
  apply Wl.callQ
  exact rfl
  (repeat (first | exact Evs.nil | apply Evs.cons rfl))
  · intro wq hq
    refine (width0 wq).mono ?_
    rintro e wr ⟨rfl, hr⟩
    exact ⟨rfl, hq.keep hr⟩
  repeat' (first | (apply Wl.move; exact rfl; exact rfl) | (apply Wl.assign; exact rfl; exact rfl) | (apply Wl.on; exact rfl; exact rfl; (first | with_reducible rfl | with_reducible assumption | decide)) | (apply Wl.pickF; exact rfl; exact rfl; (first | with_reducible rfl | with_reducible assumption | decide); exact rfl) | (apply Wl.eql; exact rfl; exact rfl; exact rfl) | (apply Wl.gtr; exact rfl; exact rfl; exact rfl) | (apply Wl.loadAH; exact rfl; exact rfl; (repeat (first | exact List.Mem.head _ | apply List.Mem.tail)); (repeat (first | apply LSub.z | apply LSub.t | apply LSub.s))) | (apply Wl.nil) | (apply St.seq) | (apply St.region) | (apply St.condF; exact rfl; (first | with_reducible rfl | with_reducible assumption | decide)) | (apply Gt.next) | (apply Wl.splitP; exact rfl; exact rfl; all_goals (intros; try (exfalso; omega))) | (apply Wl.splitB; exact rfl; exact rfl; all_goals intros) | (apply St.condP; exact rfl; all_goals (intros; try (exfalso; omega))) | (apply St.condB; exact rfl; all_goals intros))
  · apply Wl.callC
    · exact rfl
    · (repeat (first | exact Evs.nil | apply Evs.cons rfl))
    intro wq hq
    refine (system0 h cf vM xfive pc md tv _ wq (hH.upd hq.upd fun y => y (by repeat (first | exact trivial | refine ⟨by simp only; omega, ?_⟩))) (hF.upd hq.upd fun y => y (by repeat (first | exact trivial | refine ⟨by simp only; omega, ?_⟩)))).mono ?_
    rintro e w1 ⟨rfl, k1, f1, u1⟩
    have hn := onlyNew (w := w) hq (by simp only [List.mem_cons, List.not_mem_nil, or_false, forall_eq_or_imp, forall_eq]; omega)
    have hq1 := Hp.rest hq u1 (by simp only [List.mem_cons, List.not_mem_nil, or_false, forall_eq_or_imp, forall_eq]; omega)
    refine ⟨_, _, rfl, hq1, ?_⟩
    have hs1 := hq.upd.size
    have hs2 := u1.size
    clear hq hq1
    repeat' (first | (apply Gt.outC'; exact rfl; infer_instance; exact rfl; (repeat (first | exact List.Mem.head _ | apply List.Mem.tail)); (repeat (first | apply LSub.z | apply LSub.t | apply LSub.s)); intro w' hp) | (apply Wl.storeA; exact rfl; exact rfl; exact rfl; exact rfl; (repeat (first | apply HSet.here | apply HSet.there)); (repeat (first | apply LPut.s | apply LPut.z | apply LOver.nil | apply LOver.cons))) | (apply Wl.nil) | (apply St.ret) | (apply Gt.next) | (apply Gt.thenRet) | (apply Gt.inRet) | (apply Wl.splitP; exact rfl; exact rfl; all_goals (intros; try (exfalso; omega))) | (apply Wl.splitB; exact rfl; exact rfl; all_goals intros) | (apply St.condP; exact rfl; all_goals (intros; try (exfalso; omega))) | (apply St.condB; exact rfl; all_goals intros))
    have hn2 := onlyNew (w := w) hp (by simp only [List.mem_cons, List.not_mem_nil, or_false, forall_eq_or_imp, forall_eq]; omega)
    refine ⟨rfl, k1.upd hn2 (by omega), f1.upd hn2 (by omega), ?_⟩
    exact ((hn.mono (S' := fun k => (k = h ∨ k = cf) ∨ w.heap.size ≤ k) fun _ _ e => .inr e).trans ((u1.mono fun _ _ e => .inl e).trans (hn2.mono fun _ _ e => .inr e))).mono fun k hk e => e.elim id fun y => by omega
theorem fz_FF {w : World} {c : Nat} {n : Int} (h : w.heap[c]? = some (.cells (fz n).toArray 54 (0, 0))) : FF w c 3 0 := by
  refine ⟨0, 0, 0, 0, 0, 0, 0, (fz n).drop 9, ?_, h⟩
  have : (fz n).drop 9 = (List.range 34).map fun i => Value.int (fkd i) ((fun i => if i < 32 then 0 else n : Nat → Int) i) := by rfl
  rw [this]; exact Kd.mk'
def fitF : Nat → Int := storeX (fun _ => 0) 4096 5243155 4
theorem fitload1 (c : Nat) (w : World) (hc : w.heap[c]? = some (.cells (memC fitF).toArray 94 (0, 0))) :
    Calls Tryd.prog 24 #[.pointer (some ⟨c, 0, none⟩), .int .u32 2147487744, .int .i64 4] w fun e w' => e = .returned (.tuple #[.int .u32 5243155, .int .i64 0]) ∧ Hp w [] w' := by
  refine (mload c 2147487744 4 fitF w (by decide) (.inr (.inr rfl)) hc).mono ?_
  rintro e w' ⟨rfl, h⟩
  rw [if_pos (by decide), show loadX fitF ((2147487744 : Int) - 2147483648).toNat (4 : Int).toNat = 5243155 by decide +kernel]
  exact ⟨rfl, h⟩
theorem fitload2 (c : Nat) (w : World) (hc : w.heap[c]? = some (.cells (memC fitF).toArray 94 (0, 0))) :
    Calls Tryd.prog 24 #[.pointer (some ⟨c, 0, none⟩), .int .u32 2147487748, .int .i64 4] w fun e w' => e = .returned (.tuple #[.int .u32 0, .int .i64 0]) ∧ Hp w [] w' := by
  refine (mload c 2147487748 4 fitF w (by decide) (.inr (.inr rfl)) hc).mono ?_
  rintro e w' ⟨rfl, h⟩
  rw [if_pos (by decide), show loadX fitF ((2147487748 : Int) - 2147483648).toNat (4 : Int).toNat = 0 by decide +kernel]
  exact ⟨rfl, h⟩
set_option maxHeartbeats 2000000 in
theorem mayM (b : Nat) (at_ r : Int) (w : World) (hat : 0 ≤ at_ ∧ at_ < 4294967296) (hb : b < w.heap.size) (hmode : w.cell? ⟨b, 0, none⟩ = some (.int .i64 3)) (hcfg : ∀ j : Nat, j < 16 → w.cell? ⟨b, 9 + j, none⟩ = some (.int .u8 0)) (haddr : ∀ j : Nat, j < 16 → w.cell? ⟨b, 25 + j, none⟩ = some (.int .u32 0)) :
    Calls Tryd.prog 17 #[.pointer (some ⟨b, 0, none⟩), .int .u32 at_, .int .i64 4, .int .i64 r] w fun e w' => e = .returned (.bool true) ∧ Hp w [] w' := by
  refine enter (args := [_, _, _, _]) (Γ := [(0, _), (1, _), (2, _), (3, _)]) Tryd.func17 Tryd.ntmps17 rfl (of_decide_eq_true rfl) (.cons rfl (.cons rfl (.cons rfl (.cons rfl .nil)))) ?_
  repeat' (first | (apply Wl.move; exact rfl; exact rfl) | (apply Wl.assign; exact rfl; exact rfl) | (apply Wl.nilCheck; exact rfl; exact rfl) | (apply Wl.fieldAddr0; exact rfl; exact rfl) | (apply Wl.loadO; exact rfl; exact rfl; (assumption); (repeat (first | exact trivial | refine ⟨by first | assumption | omega, ?_⟩))) | (apply Wl.eqlPN; exact rfl; exact rfl; exact rfl) | (apply Wl.eql; exact rfl; exact rfl; exact rfl) | (apply Wl.nil) | (apply St.seq) | (apply St.region) | (apply St.condF; exact rfl; (first | with_reducible rfl | with_reducible assumption | decide)) | (apply St.skip) | (apply Gt.next) | (apply Wl.splitP; exact rfl; exact rfl; all_goals (intros; try (exfalso; omega))) | (apply Wl.splitB; exact rfl; exact rfl; all_goals intros) | (apply St.condP; exact rfl; all_goals (intros; try (exfalso; omega))) | (apply St.condB; exact rfl; all_goals intros))
  apply Wl.callC
  · exact rfl
  · (repeat (first | exact Evs.nil | apply Evs.cons rfl))
  intro wq hq
  have cellq {p : Addr} {x : Value} (h : w.cell? p = some x) : wq.cell? p = some x := hq.upd.cell h fun y => y trivial
  have hsz := hq.upd.size
  refine (entries0 b wq (by omega) (fun j hj => cellq (hcfg j hj)) (fun j hj => cellq (haddr j hj))).mono ?_
  rintro e wr ⟨v, rfl, hov, hur⟩
  obtain ⟨k, o, cap, rfl, hc⟩ := ents0_cells hov
  have hu : Upd (fun k => w.heap.size ≤ k) w wr := hq.upd.comp hur fun k _ hs => hs.elim (fun y => (y trivial).elim) fun e => by omega
  refine ⟨_, _, rfl, Hp.start wr, ?_⟩
  clear hq
  repeat' (first | (apply Wl.max2; exact rfl; exact rfl; exact rfl) | (apply Wl.move; exact rfl; exact rfl) | (apply Wl.assign; exact rfl; exact rfl) | (apply Wl.addU; exact rfl; exact rfl; exact rfl; (constructor <;> omega)) | (apply Wl.convU64; exact rfl; exact rfl; (constructor <;> omega)) | (apply Wl.len; exact rfl; exact rfl) | (apply Wl.nil) | (apply St.seq) | (apply St.block) | (apply St.region) | (apply Gt.next) | (apply Wl.splitP; exact rfl; exact rfl; all_goals (intros; try (exfalso; omega))) | (apply Wl.splitB; exact rfl; exact rfl; all_goals intros) | (apply St.condP; exact rfl; all_goals (intros; try (exfalso; omega))) | (apply St.condB; exact rfl; all_goals intros))
  refine St.loop (σ := Nat) (fun i => i ≤ 16) (fun i => [(40, .int .i64 i), (39, .int .i64 16), (11, .int .u64 (at_ + 4)), (10, .int .u64 at_), (9, .slice (some ⟨k, o, none⟩) 16 cap), (0, .pointer (some ⟨b, 0, none⟩)), (3, .int .i64 r), (8, .bool false)])
    (fun _ => Hp wr []) (fun i => 16 - i) 0 (by simp) (by (repeat (first | exact Sub.nil | apply Sub.cons rfl))) (fun _ h => h) ?_
  intro i hi
  by_cases hlt : i < 16
  · obtain ⟨c1, c2⟩ := hc i hlt
    repeat' (first | (apply Wl.move; exact rfl; exact rfl) | (apply Wl.assign; exact rfl; exact rfl) | (apply Wl.lss; exact rfl; exact rfl; exact rfl) | (apply Wl.nil) | (apply St.seq) | (apply St.block) | (apply St.region) | (apply St.skip) | (apply Gt.next) | (apply Wl.splitP; exact rfl; exact rfl; all_goals (intros; try (exfalso; omega))) | (apply Wl.splitB; exact rfl; exact rfl; all_goals intros) | (apply St.condP; exact rfl; all_goals (intros; try (exfalso; omega))) | (apply St.condB; exact rfl; all_goals intros))
    apply Wl.callQ
    · exact rfl
    · (repeat (first | exact Evs.nil | apply Evs.cons rfl))
    · intro wp hp
      refine (range0 k o cap i wp hlt (hp.upd.cell c1 fun y => y trivial) (hp.upd.cell c2 fun y => y trivial)).mono ?_
      rintro e wz ⟨rfl, hz⟩
      exact ⟨rfl, hp.keep hz⟩
    repeat' (first | (apply Wl.move; exact rfl; exact rfl) | (apply Wl.assign; exact rfl; exact rfl) | (apply Wl.off; exact rfl; exact rfl; exact rfl; (first | with_reducible rfl | (show _ = false; with_reducible assumption) | (show _ = true; with_reducible assumption) | decide)) | (apply Wl.extract; exact rfl; exact rfl; exact rfl) | (apply Wl.pickT; exact rfl; exact rfl; (first | with_reducible rfl | with_reducible assumption | decide); exact rfl) | (apply Wl.leq; exact rfl; exact rfl; exact rfl) | (apply Wl.addI; exact rfl; exact rfl; exact rfl; (constructor <;> omega)) | (apply Wl.nil) | (apply St.seq) | (apply St.region) | (apply St.condT; exact rfl; (first | with_reducible rfl | with_reducible assumption | decide)) | (apply St.exit) | (apply Gt.next) | (apply Gt.thenExit) | (apply Gt.inExit) | (apply Wl.splitP; exact rfl; exact rfl; all_goals (intros; try (exfalso; omega))) | (apply Wl.splitB; exact rfl; exact rfl; all_goals intros) | (apply St.condP; exact rfl; all_goals (intros; try (exfalso; omega))) | (apply St.condB; exact rfl; all_goals intros))
    apply Gt.round (i + 1)
    rotate_left
    · omega
    · (repeat (first | exact Sub.nil | apply Sub.cons rfl))
    · exact fun _ h => h
    · omega
  · have hie : i = 16 := by omega
    subst hie
    repeat' (first | (apply Wl.assign; exact rfl; exact rfl) | (apply Wl.lss; exact rfl; exact rfl; exact rfl) | (apply Wl.nil) | (apply St.seq) | (apply St.region) | (apply St.condF; exact rfl; (first | with_reducible rfl | with_reducible assumption | decide)) | (apply St.ret) | (apply St.exit) | (apply Gt.next) | (apply Gt.thenExit) | (apply Gt.inExit) | (apply Gt.out1; exact rfl; exact rfl; intro w' hp) | (apply Wl.splitP; exact rfl; exact rfl; all_goals (intros; try (exfalso; omega))) | (apply Wl.splitB; exact rfl; exact rfl; all_goals intros) | (apply St.condP; exact rfl; all_goals (intros; try (exfalso; omega))) | (apply St.condB; exact rfl; all_goals intros))
    exact ⟨rfl, Hp.under hp hu⟩
theorem fz_cell {w : World} {c : Nat} {n : Int} (h : w.heap[c]? = some (.cells (fz n).toArray 54 (0, 0))) : w.cell? ⟨c, 0, none⟩ = some (.int .i64 3) ∧ (∀ j : Nat, j < 16 → w.cell? ⟨c, 9 + j, none⟩ = some (.int .u8 0)) ∧ ∀ j : Nat, j < 16 → w.cell? ⟨c, 25 + j, none⟩ = some (.int .u32 0) := by
  refine ⟨cell_of h rfl, fun j hj => cell_of h ?_, fun j hj => cell_of h ?_⟩ <;>
  · rcases lt16 hj with rfl | rfl | rfl | rfl | rfl | rfl | rfl | rfl | rfl | rfl | rfl | rfl | rfl | rfl | rfl | rfl <;> rfl
theorem due0 : dueOf 3 0 0 0 = false := by decide
set_option maxHeartbeats 8000000 in
theorem step5 (h cf cM : Nat) (w : World) (hne : h ≠ cf) (h1 : w.heap[h]? = some (.cells (xz ++ [Value.int .u32 2147487744, Value.pointer (some ⟨cf, 0, none⟩), Value.pointer (some ⟨cM, 0, none⟩)]).toArray 30 (0, 0))) (h2 : w.heap[cf]? = some (.cells (fz 0).toArray 54 (0, 0))) (h3 : w.heap[cM]? = some (.cells (memC fitF).toArray 94 (0, 0))) :
    Calls Tryd.prog 9 #[.pointer (some ⟨h, 0, none⟩)] w
      fun e w' => e = .returned (.agg #[.int .u32 5243155, .bool false, .int .u32 0, .int .u32 0, .int .u32 0, .int .i64 0, .bool false]) ∧ Hp w [⟨h, xfive ++ [.int .u32 2147487748, .pointer (some ⟨cf, 0, none⟩), .pointer (some ⟨cM, 0, none⟩)], 30⟩, ⟨cf, fz 1, 54⟩] w' := by
  have hH : HH w h cf (.pointer (some ⟨cM, 0, none⟩)) xz 2147487744 := ⟨rfl, h1⟩
  have lh := lt_of_block h1
  have lf := lt_of_block h2
  have lm := lt_of_block h3
  obtain ⟨c32, c33, c34⟩ := hH.at1
  refine enter (args := [_]) (Γ := [(0, _)]) Tryd.func9 Tryd.ntmps9 rfl (of_decide_eq_true rfl) (.cons rfl .nil) ?_
  repeat' (first | (apply Wl.loadO; exact rfl; exact rfl; (first | exact c32 | exact c33 | exact c34); (repeat (first | exact trivial | refine ⟨by simp only; omega, ?_⟩))) | (apply Wl.move; exact rfl; exact rfl) | (apply Wl.nilCheck; exact rfl; exact rfl) | (apply Wl.fieldAddrZ; exact rfl; exact rfl) | (apply Wl.eqlPN; exact rfl; exact rfl; exact rfl) | (apply Wl.alloc; exact rfl; intro c hc ho) | (apply Wl.nil) | (apply St.seq) | (apply St.region) | (apply St.condF; exact rfl; (first | with_reducible rfl | with_reducible assumption | decide)) | (apply St.skip) | (apply Gt.next) | (apply Wl.splitP; exact rfl; exact rfl; all_goals (intros; try (exfalso; omega))) | (apply Wl.splitB; exact rfl; exact rfl; all_goals intros) | (apply St.condP; exact rfl; all_goals (intros; try (exfalso; omega))) | (apply St.condB; exact rfl; all_goals intros))
  apply Wl.callQ
  · exact rfl
  · (repeat (first | exact Evs.nil | apply Evs.cons rfl))
  · intro wq hq
    refine (fdue cf 3 0 0 0 0 0 0 0 0 ((fz 0).drop 9) wq (hq.upd.heap h2 fun y => y (by repeat (first | exact trivial | refine ⟨by simp only; omega, ?_⟩)))).mono ?_
    rintro e wr ⟨rfl, hr⟩
    rw [due0]
    exact ⟨rfl, hq.keep hr⟩
  repeat' (first | (apply Wl.loadO; exact rfl; exact rfl; (first | exact c32 | exact c33 | exact c34); (repeat (first | exact trivial | refine ⟨by simp only; omega, ?_⟩))) | (apply Wl.callQQ; exact rfl; (repeat (first | exact Evs.nil | apply Evs.cons rfl)); (intro wq hq; refine (fitload1 cM wq (hq.upd.heap h3 fun y => y (by repeat (first | exact trivial | refine ⟨by simp only; omega, ?_⟩)))).mono ?_; rintro e wr ⟨rfl, hr⟩; exact ⟨rfl, hq.keep hr⟩)) | (apply Wl.callQQ; exact rfl; (repeat (first | exact Evs.nil | apply Evs.cons rfl)); (intro wq hq; have hz := fz_cell (hq.upd.heap h2 fun y => y (by repeat (first | exact trivial | refine ⟨by simp only; omega, ?_⟩))); refine (mayM cf _ _ wq (by decide) (by have := hq.upd.size; omega) hz.1 hz.2.1 hz.2.2).mono ?_; rintro e wr ⟨rfl, hr⟩; exact ⟨rfl, hq.keep hr⟩)) | (apply Wl.move; exact rfl; exact rfl) | (apply Wl.assign; exact rfl; exact rfl) | (apply Wl.on; exact rfl; exact rfl; (first | with_reducible rfl | with_reducible assumption | decide)) | (apply Wl.extract; exact rfl; exact rfl; exact rfl) | (apply Wl.nilCheck; exact rfl; exact rfl) | (apply Wl.pickF; exact rfl; exact rfl; (first | with_reducible rfl | with_reducible assumption | decide); exact rfl) | (apply Wl.not; exact rfl; exact rfl) | (apply Wl.fieldAddrZ; exact rfl; exact rfl) | (apply Wl.neqIs; exact rfl; exact rfl; exact rfl; (first | with_reducible assumption | with_reducible rfl)) | (apply Wl.neq; exact rfl; exact rfl; exact rfl) | (apply Wl.rem; exact rfl; exact rfl; exact rfl; (first | decide | omega)) | (apply Wl.buildS; exact rfl; (repeat (first | exact Parts.nil | apply Parts.cons rfl)); (repeat (first | apply Fills.nil | (apply Fills.one; exact rfl; exact rfl; (repeat (first | apply LSet.z | apply LSet.s))) | (apply Fills.agg; exact rfl; exact rfl; (repeat (first | apply LPut.s | apply LPut.z | apply LOver.nil | apply LOver.cons)))))) | (apply Wl.nil) | (apply Wl.nilQ) | (apply St.seq) | (apply St.region) | (apply St.draw; exact mixed; (kernel_rfl); exact (fun _ h => Hp.drew h)) | (apply St.condF; exact rfl; (first | with_reducible rfl | with_reducible assumption | decide)) | (apply St.skip) | (apply Gt.next) | (apply Wl.splitP; exact rfl; exact rfl; all_goals (intros; try (exfalso; omega))) | (apply Wl.splitB; exact rfl; exact rfl; all_goals intros) | (apply St.condP; exact rfl; all_goals (intros; try (exfalso; omega))) | (apply St.condB; exact rfl; all_goals intros))
  apply Wl.callQ
  exact rfl
  (repeat (first | exact Evs.nil | apply Evs.cons rfl))
  · intro wq hq
    refine (dec5 wq).mono ?_
    rintro e wr ⟨rfl, hr⟩
    exact ⟨rfl, hq.keep hr⟩
  repeat' (first | (apply Wl.splitP; exact rfl; exact rfl; all_goals (intros; try (exfalso; omega))) | (apply Wl.splitB; exact rfl; exact rfl; all_goals intros) | (apply St.condP; exact rfl; all_goals (intros; try (exfalso; omega))) | (apply St.condB; exact rfl; all_goals intros))
  apply Wl.callC
  · exact rfl
  · (repeat (first | exact Evs.nil | apply Evs.cons rfl))
  intro wq hq
  refine (do5 h cf cM wq hne (hq.upd.heap h1 fun y => y (by repeat (first | exact trivial | refine ⟨by simp only; omega, ?_⟩))) (hq.upd.heap h2 fun y => y (by repeat (first | exact trivial | refine ⟨by simp only; omega, ?_⟩)))).mono ?_
  rintro e w1 ⟨rfl, hd⟩
  have hn := onlyNew (w := w) hq (by simp only [List.mem_cons, List.not_mem_nil, or_false, forall_eq_or_imp, forall_eq]; omega)
  have hs1 := hq.upd.size
  have hs2 := hd.upd.size
  have u1 : Upd (fun k => k = h ∨ k = cf) wq w1 := hd.upd.mono fun k _ hs => Classical.byContradiction fun z => hs ⟨fun e => z (.inl e.symm), fun e => z (.inr e.symm), trivial⟩
  have hq1 := Hp.rest hq u1 (by simp only [List.mem_cons, List.not_mem_nil, or_false, forall_eq_or_imp, forall_eq]; omega)
  have hq2 : Hp w1 [_, ⟨h, xfive ++ [Value.int .u32 2147487748, Value.pointer (some ⟨cf, 0, none⟩), Value.pointer (some ⟨cM, 0, none⟩)], 30⟩, ⟨cf, fz 1, 54⟩] w1 := ⟨Upd.refl _ _, ⟨hq1.own.1, hd.own.1, hd.own.2.1, trivial⟩, ⟨⟨by simp only; omega, by simp only; omega, trivial⟩, ⟨fun e => hne e.symm, trivial⟩, trivial, trivial⟩⟩
  refine ⟨_, _, rfl, hq2, ?_⟩
  clear hq hq1 hq2
  repeat' (first | (apply Gt.outC'; exact rfl; infer_instance; exact rfl; (repeat (first | exact List.Mem.head _ | apply List.Mem.tail)); (repeat (first | apply LSub.z | apply LSub.t | apply LSub.s)); intro w' hp) | (apply Wl.storeA; exact rfl; exact rfl; exact rfl; exact rfl; (repeat (first | apply HSet.here | apply HSet.there)); (repeat (first | apply LPut.s | apply LPut.z | apply LOver.nil | apply LOver.cons))) | (apply Wl.nil) | (apply St.ret) | (apply Gt.next) | (apply Wl.splitP; exact rfl; exact rfl; all_goals (intros; try (exfalso; omega))) | (apply Wl.splitB; exact rfl; exact rfl; all_goals intros) | (apply St.condP; exact rfl; all_goals (intros; try (exfalso; omega))) | (apply St.condB; exact rfl; all_goals intros))
  have u2 : Upd (fun k => (k = h ∨ k = cf) ∨ w.heap.size ≤ k) w1 w' := hp.upd.mono fun k _ hs => Classical.byContradiction fun z => hs ⟨fun e => z (.inr (by simp only at e; omega)), fun e => z (.inl (.inl e.symm)), fun e => z (.inl (.inr e.symm)), trivial⟩
  refine ⟨rfl, ⟨((hn.mono (S' := fun k => (k = h ∨ k = cf) ∨ w.heap.size ≤ k) fun _ _ e => .inr e).trans ((u1.mono fun _ _ e => .inl e).trans u2)).mono fun k hk e => ?_, ⟨hp.own.2.1, hp.own.2.2.1, trivial⟩, ⟨⟨fun e => hne e.symm, trivial⟩, trivial, trivial⟩⟩⟩
  intro y
  rcases e with (e | e) | e
  · exact y.1 e.symm
  · exact y.2.1 e.symm
  · omega
set_option maxHeartbeats 8000000 in
theorem step0 (h cf cM : Nat) (w : World) (hne : h ≠ cf) (h1 : w.heap[h]? = some (.cells (xfive ++ [Value.int .u32 2147487748, Value.pointer (some ⟨cf, 0, none⟩), Value.pointer (some ⟨cM, 0, none⟩)]).toArray 30 (0, 0))) (h2 : w.heap[cf]? = some (.cells (fz 1).toArray 54 (0, 0))) (h3 : w.heap[cM]? = some (.cells (memC fitF).toArray 94 (0, 0))) :
    Calls Tryd.prog 9 #[.pointer (some ⟨h, 0, none⟩)] w
      fun e w' => e = .returned (.agg #[.int .u32 0, .bool true, .int .u32 2, .int .u32 0, .int .u32 0, .int .i64 0, .bool false]) ∧ Upd (fun k => k = h ∨ k = cf) w w' := by
  have hH : HH w h cf (.pointer (some ⟨cM, 0, none⟩)) xfive 2147487748 := ⟨rfl, h1⟩
  have lh := lt_of_block h1
  have lf := lt_of_block h2
  have lm := lt_of_block h3
  obtain ⟨c32, c33, c34⟩ := hH.at1
  refine enter (args := [_]) (Γ := [(0, _)]) Tryd.func9 Tryd.ntmps9 rfl (of_decide_eq_true rfl) (.cons rfl .nil) ?_
  repeat' (first | (apply Wl.loadO; exact rfl; exact rfl; (first | exact c32 | exact c33 | exact c34); (repeat (first | exact trivial | refine ⟨by simp only; omega, ?_⟩))) | (apply Wl.move; exact rfl; exact rfl) | (apply Wl.nilCheck; exact rfl; exact rfl) | (apply Wl.fieldAddrZ; exact rfl; exact rfl) | (apply Wl.eqlPN; exact rfl; exact rfl; exact rfl) | (apply Wl.alloc; exact rfl; intro c hc ho) | (apply Wl.nil) | (apply St.seq) | (apply St.region) | (apply St.condF; exact rfl; (first | with_reducible rfl | with_reducible assumption | decide)) | (apply St.skip) | (apply Gt.next) | (apply Wl.splitP; exact rfl; exact rfl; all_goals (intros; try (exfalso; omega))) | (apply Wl.splitB; exact rfl; exact rfl; all_goals intros) | (apply St.condP; exact rfl; all_goals (intros; try (exfalso; omega))) | (apply St.condB; exact rfl; all_goals intros))
  apply Wl.callQ
  · exact rfl
  · (repeat (first | exact Evs.nil | apply Evs.cons rfl))
  · intro wq hq
    refine (fdue cf 3 0 0 0 0 0 0 0 0 ((fz 1).drop 9) wq (hq.upd.heap h2 fun y => y (by repeat (first | exact trivial | refine ⟨by simp only; omega, ?_⟩)))).mono ?_
    rintro e wr ⟨rfl, hr⟩
    rw [due0]
    exact ⟨rfl, hq.keep hr⟩
  repeat' (first | (apply Wl.loadO; exact rfl; exact rfl; (first | exact c32 | exact c33 | exact c34); (repeat (first | exact trivial | refine ⟨by simp only; omega, ?_⟩))) | (apply Wl.callQQ; exact rfl; (repeat (first | exact Evs.nil | apply Evs.cons rfl)); (intro wq hq; refine (fitload2 cM wq (hq.upd.heap h3 fun y => y (by repeat (first | exact trivial | refine ⟨by simp only; omega, ?_⟩)))).mono ?_; rintro e wr ⟨rfl, hr⟩; exact ⟨rfl, hq.keep hr⟩)) | (apply Wl.callQQ; exact rfl; (repeat (first | exact Evs.nil | apply Evs.cons rfl)); (intro wq hq; have hz := fz_cell (hq.upd.heap h2 fun y => y (by repeat (first | exact trivial | refine ⟨by simp only; omega, ?_⟩))); refine (mayM cf _ _ wq (by decide) (by have := hq.upd.size; omega) hz.1 hz.2.1 hz.2.2).mono ?_; rintro e wr ⟨rfl, hr⟩; exact ⟨rfl, hq.keep hr⟩)) | (apply Wl.move; exact rfl; exact rfl) | (apply Wl.assign; exact rfl; exact rfl) | (apply Wl.on; exact rfl; exact rfl; (first | with_reducible rfl | with_reducible assumption | decide)) | (apply Wl.extract; exact rfl; exact rfl; exact rfl) | (apply Wl.nilCheck; exact rfl; exact rfl) | (apply Wl.pickF; exact rfl; exact rfl; (first | with_reducible rfl | with_reducible assumption | decide); exact rfl) | (apply Wl.not; exact rfl; exact rfl) | (apply Wl.fieldAddrZ; exact rfl; exact rfl) | (apply Wl.neqIs; exact rfl; exact rfl; exact rfl; (first | with_reducible assumption | with_reducible rfl)) | (apply Wl.neq; exact rfl; exact rfl; exact rfl) | (apply Wl.rem; exact rfl; exact rfl; exact rfl; (first | decide | omega)) | (apply Wl.buildS; exact rfl; (repeat (first | exact Parts.nil | apply Parts.cons rfl)); (repeat (first | apply Fills.nil | (apply Fills.one; exact rfl; exact rfl; (repeat (first | apply LSet.z | apply LSet.s))) | (apply Fills.agg; exact rfl; exact rfl; (repeat (first | apply LPut.s | apply LPut.z | apply LOver.nil | apply LOver.cons)))))) | (apply Wl.nil) | (apply Wl.nilQ) | (apply St.seq) | (apply St.region) | (apply St.draw; exact mixed; (kernel_rfl); exact (fun _ h => Hp.drew h)) | (apply St.condF; exact rfl; (first | with_reducible rfl | with_reducible assumption | decide)) | (apply St.skip) | (apply Gt.next) | (apply Wl.splitP; exact rfl; exact rfl; all_goals (intros; try (exfalso; omega))) | (apply Wl.splitB; exact rfl; exact rfl; all_goals intros) | (apply St.condP; exact rfl; all_goals (intros; try (exfalso; omega))) | (apply St.condB; exact rfl; all_goals intros))
  apply Wl.callQ
  exact rfl
  (repeat (first | exact Evs.nil | apply Evs.cons rfl))
  · intro wq hq
    refine (dec0 wq).mono ?_
    rintro e wr ⟨rfl, hr⟩
    exact ⟨rfl, hq.keep hr⟩
  repeat' (first | (apply Wl.splitP; exact rfl; exact rfl; all_goals (intros; try (exfalso; omega))) | (apply Wl.splitB; exact rfl; exact rfl; all_goals intros) | (apply St.condP; exact rfl; all_goals (intros; try (exfalso; omega))) | (apply St.condB; exact rfl; all_goals intros))
  · apply Wl.callC
    · exact rfl
    · (repeat (first | exact Evs.nil | apply Evs.cons rfl))
    intro wq hq
    refine (do0 h cf _ _ 3 0 wq (hH.upd hq.upd fun y => y (by repeat (first | exact trivial | refine ⟨by simp only; omega, ?_⟩))) (fz_FF (n := 1) (hq.upd.heap h2 fun y => y (by repeat (first | exact trivial | refine ⟨by simp only; omega, ?_⟩))))).mono ?_
    rintro e w1 ⟨rfl, k1, f1, u1⟩
    have hn := onlyNew (w := w) hq (by simp only [List.mem_cons, List.not_mem_nil, or_false, forall_eq_or_imp, forall_eq]; omega)
    have hq1 := Hp.rest hq u1 (by simp only [List.mem_cons, List.not_mem_nil, or_false, forall_eq_or_imp, forall_eq]; omega)
    refine ⟨_, _, rfl, hq1, ?_⟩
    have hs1 := hq.upd.size
    have hs2 := u1.size
    clear hq hq1
    repeat' (first | (apply Gt.outC'; exact rfl; infer_instance; exact rfl; (repeat (first | exact List.Mem.head _ | apply List.Mem.tail)); (repeat (first | apply LSub.z | apply LSub.t | apply LSub.s)); intro w' hp) | (apply Wl.storeA; exact rfl; exact rfl; exact rfl; exact rfl; (repeat (first | apply HSet.here | apply HSet.there)); (repeat (first | apply LPut.s | apply LPut.z | apply LOver.nil | apply LOver.cons))) | (apply Wl.nil) | (apply St.ret) | (apply Gt.next) | (apply Wl.splitP; exact rfl; exact rfl; all_goals (intros; try (exfalso; omega))) | (apply Wl.splitB; exact rfl; exact rfl; all_goals intros) | (apply St.condP; exact rfl; all_goals (intros; try (exfalso; omega))) | (apply St.condB; exact rfl; all_goals intros))
    have hn2 := onlyNew (w := w) hp (by simp only [List.mem_cons, List.not_mem_nil, or_false, forall_eq_or_imp, forall_eq]; omega)
    have uu := ((hn.mono (S' := fun k => (k = h ∨ k = cf) ∨ w.heap.size ≤ k) fun _ _ e => .inr e).trans ((u1.mono fun _ _ e => .inl e).trans (hn2.mono fun _ _ e => .inr e))).mono (S' := fun k => k = h ∨ k = cf) fun k hk e => e.elim id fun y => by omega
    exact ⟨rfl, uu⟩
end Go.Proofs.YtcefkbnachnciaaDoor
end
section
namespace Go.Pt
open Go.RowKit
section
variable {P : Program} {md : Md} {N : Nat} {ops : Array Oper} {rest : List Oper} {Γ : Env} {C : World → Prop} {Q : Exit → Act → World → Prop} {d : Nat} {ty : TypeId} {pos : String} {af : Array Edge} {t u : TypeId} {x y : Operand}
theorem Wl.fieldV {s i off ft : Nat} [hf : Fld P s i off ft] [TyC P ft] {cs : List Value} {v : Value} (hd : Nat.blt d N = true) (hx : ev Γ x = some (.agg cs.toArray)) (hv : cs[off]? = some v) (h : Wl rest P md ops N ((d, v) :: Γ) C Q) :
    Wl (⟨some d, .field s x i, ty, pos, af, none⟩ :: rest) P md ops N Γ C Q :=
  Wl.val hd (fun a w ha _ => by
    have h := hf.out
    unfold fieldB at h
    split at h <;> try cases h
    rename_i fs hfs
    cases e : fs[i]? with
    | none => rw [e] at h; cases h
    | some f =>
      rw [e] at h; simp at h
      obtain ⟨h1, h2, h3⟩ := h
      subst h1 h2
      have hv' : cs.toArray[f.offset]? = some v := by simpa using hv
      simp [execOp, ha.ev hx, Instr.field, run_underlying hfs, e, part, run_aggC (P := P) (t := f.type), asAgg, hv]) h
theorem Wl.eqlG {xs ys : Array Value} {la lb : List Lit} (hd : Nat.blt d N = true) (hx : ev Γ x = some (.agg xs)) (hy : ev Γ y = some (.agg ys)) (hk : P.keyTypeAt 8 t = true) (hg0 : P.eqGuardType P.depth t = false) (fx : (Value.agg xs).formed P t = true) (fy : (Value.agg ys).formed P t = true)
    (hlx : P.keyLits 8 t xs.toList = some la) (hly : P.keyLits 8 t ys.toList = some lb) (b : Bool) (hb : b = true ↔ la = lb) (h : Wl rest P md ops N ((d, .bool b) :: Γ) C Q) : Wl (⟨some d, .binOp .eql t x y u, ty, pos, af, none⟩ :: rest) P md ops N Γ C Q :=
  Wl.val hd (fun a w ha _ => by
    obtain ⟨r, h1, _, h3⟩ := run_neq_agg (P := P) w (t := t) hk fx fy hlx hly
    have : r = b := by rw [Bool.eq_iff_iff, h3, hb]
    subst this
    simp only [execOp, ha.ev hx, ha.ev hy, pure_bind, Sem.run_bind, guard_agg (P := P) hg0, Result.andThen_ok, h1]; rfl) h
end
end Go.Pt
namespace Go.Proofs.YtcefkbnachnciaaDoor
open Go.RowKit Go.Pt
set_option maxHeartbeats 4000000 in
theorem hnew (a : Option Addr) (w : World) : Calls Tryd.prog 8 #[.pointer a] w fun e w' => ∃ h cf, e = .returned (.pointer (some ⟨h, 0, none⟩)) ∧ Hp w [⟨h, xz ++ [Value.int .u32 0, Value.pointer (some ⟨cf, 0, none⟩), Value.pointer a], 30⟩, ⟨cf, fz 0, 54⟩] w' ∧ w.heap.size ≤ h ∧ w.heap.size ≤ cf ∧ h ≠ cf := by
  refine enter (args := [_]) (Γ := [(0, _)]) Tryd.func8 Tryd.ntmps8 rfl (of_decide_eq_true rfl) (.cons rfl .nil) ?_
  repeat' (first | (apply Gt.inl1; exact rfl; exact rfl) | (apply Wl.inline; exact rfl; (repeat (first | exact Evs.nil | apply Evs.cons rfl)); exact rfl; exact rfl) | (apply Wl.move; exact rfl; exact rfl) | (apply Wl.assign; exact rfl; exact rfl) | (apply Wl.buildS; exact rfl; (repeat (first | exact Parts.nil | apply Parts.cons rfl)); (repeat (first | apply Fills.nil | (apply Fills.one; exact rfl; exact rfl; (repeat (first | apply LSet.z | apply LSet.s))) | (apply Fills.agg; exact rfl; exact rfl; (repeat (first | apply LPut.s | apply LPut.z | apply LOver.nil | apply LOver.cons)))))) | (apply Wl.boxA; exact rfl; exact rfl; intro c hc ho) | (apply Wl.nil) | (apply St.seq) | (apply St.region) | (apply St.ret) | (apply Gt.next) | (apply Gt.out1; exact rfl; exact rfl; intro w' hp) | (apply Wl.splitP; exact rfl; exact rfl; all_goals (intros; try (exfalso; omega))) | (apply Wl.splitB; exact rfl; exact rfl; all_goals intros) | (apply St.condP; exact rfl; all_goals (intros; try (exfalso; omega))) | (apply St.condB; exact rfl; all_goals intros))
  rename_i cf hcf hof
  exact ⟨_, _, rfl, hp, hc, hcf, fun e => ho.1 e.symm⟩
theorem Hp.two {w wq w1 : World} {m : Blk} {h cf t t2 : Nat} {xs ys xs' ys' : List Value} (hq : Hp w [m, ⟨h, xs, t⟩, ⟨cf, ys, t2⟩] wq) (hd : Hp wq [⟨h, xs', t⟩, ⟨cf, ys', t2⟩] w1) : Hp w [m, ⟨h, xs', t⟩, ⟨cf, ys', t2⟩] w1 := by
  have a1 := hq.apart.1.1
  have a2 := hq.apart.1.2.1
  exact ⟨(hq.upd.mono (S' := fun k => ¬ Off [m, ⟨h, xs', t⟩, ⟨cf, ys', t2⟩] k) fun k _ hs y => hs ⟨y.1, y.2.1, y.2.2.1, trivial⟩).trans (hd.upd.mono fun k _ hs y => hs y.2), ⟨hd.upd.heap (hq.own.at (.head _)) fun y => y ⟨a1, a2, trivial⟩, hd.own.1, hd.own.2.1, trivial⟩, ⟨⟨a1, a2, trivial⟩, ⟨hd.apart.1.1, trivial⟩, trivial, trivial⟩⟩
theorem newHp {w wq w1 : World} {S : Nat → Prop} (h : Upd (fun k => w.heap.size ≤ k) w wq) (u : Upd S wq w1) (hs : ∀ k, S k → w.heap.size ≤ k) : Hp w [] w1 :=
  ⟨(h.comp u (T := fun k => w.heap.size ≤ k) fun k _ e => e.elim id (hs k)).mono fun k hk e => by omega, trivial, trivial⟩
set_option maxHeartbeats 8000000 in
theorem fit16 (w : World) : Calls Tryd.prog 7 #[] w fun e w' => e = .returned (.bool true) ∧ Hp w [] w' := by
  refine enter (args := []) (Γ := []) Tryd.func7 Tryd.ntmps7 rfl (of_decide_eq_true rfl) .nil ?_
  repeat' (first | (apply Wl.assign; exact rfl; exact rfl) | (apply Wl.nil) | (apply St.seq) | (apply St.region) | (apply Gt.next) | (apply Wl.splitP; exact rfl; exact rfl; all_goals (intros; try (exfalso; omega))) | (apply Wl.splitB; exact rfl; exact rfl; all_goals intros) | (apply St.condP; exact rfl; all_goals (intros; try (exfalso; omega))) | (apply St.condB; exact rfl; all_goals intros))
  apply Wl.callC
  · exact rfl
  · (repeat (first | exact Evs.nil | apply Evs.cons rfl))
  intro wq hq
  refine (newMem wq).mono ?_
  rintro e w1 ⟨cM, rfl, hp, hcM⟩
  have hsz := hq.upd.size
  have hcM0 : w.heap.size ≤ cM := by omega
  refine ⟨_, _, rfl, hq.callNew hp hcM, ?_⟩
  clear hp hq hsz hcM w1 wq
  repeat' (first | (apply Wl.move; exact rfl; exact rfl) | (apply Wl.assign; exact rfl; exact rfl) | (apply Wl.nil) | (apply St.seq) | (apply St.region) | (apply Gt.next) | (apply Wl.splitP; exact rfl; exact rfl; all_goals (intros; try (exfalso; omega))) | (apply Wl.splitB; exact rfl; exact rfl; all_goals intros) | (apply St.condP; exact rfl; all_goals (intros; try (exfalso; omega))) | (apply St.condB; exact rfl; all_goals intros))
  apply Wl.callC
  · exact rfl
  · (repeat (first | exact Evs.nil | apply Evs.cons rfl))
  intro wq hq
  refine (mstore cM 2147487744 4 5243155 (fun _ => 0) wq (by decide) (.inr (.inr rfl)) (hq.own.at (.head _))).mono ?_
  rintro e w1 ⟨⟨v, rfl⟩, hp⟩
  have hp' : Hp wq [⟨cM, memC fitF, 94⟩] w1 := hp
  refine ⟨_, _, rfl, hq.callSet (by (repeat (first | apply HSet.here | apply HSet.there))) hp', ?_⟩
  clear hp hp' hq w1 wq
  repeat' (first | (apply Wl.move; exact rfl; exact rfl) | (apply Wl.nil) | (apply St.seq) | (apply St.region) | (apply Gt.next) | (apply Wl.splitP; exact rfl; exact rfl; all_goals (intros; try (exfalso; omega))) | (apply Wl.splitB; exact rfl; exact rfl; all_goals intros) | (apply St.condP; exact rfl; all_goals (intros; try (exfalso; omega))) | (apply St.condB; exact rfl; all_goals intros))
  apply Wl.callC
  · exact rfl
  · (repeat (first | exact Evs.nil | apply Evs.cons rfl))
  intro wq hq
  refine (hnew _ wq).mono ?_
  rintro e w1 ⟨h, cf, rfl, hp, hh, hf, hne⟩
  have hsz := hq.upd.size
  have hlm := hq.own.lt (.head _)
  simp only at hlm
  have hq1 : Hp w [⟨cM, memC fitF, 94⟩, ⟨h, xz ++ [Value.int .u32 0, Value.pointer (some ⟨cf, 0, none⟩), Value.pointer (some ⟨cM, 0, none⟩)], 30⟩, ⟨cf, fz 0, 54⟩] w1 :=
    ⟨(hq.upd.mono (S' := fun k => ¬ Off [⟨cM, memC fitF, 94⟩, ⟨h, xz ++ [Value.int .u32 0, Value.pointer (some ⟨cf, 0, none⟩), Value.pointer (some ⟨cM, 0, none⟩)], 30⟩, ⟨cf, fz 0, 54⟩] k) fun k hk hs y => hs ⟨y.1, trivial⟩).trans (hp.upd.mono fun k hk hs y => hs y.2),
      ⟨hp.upd.heap (hq.own.at (.head _)) fun y => y ⟨by simp only; omega, by simp only; omega, trivial⟩, hp.own.1, hp.own.2.1, trivial⟩, ⟨⟨by simp only; omega, by simp only; omega, trivial⟩, ⟨fun e => hne e.symm, trivial⟩, trivial, trivial⟩⟩
  refine ⟨_, _, rfl, hq1, ?_⟩
  have hh' : w.heap.size ≤ h := by omega
  have hf' : w.heap.size ≤ cf := by omega
  have hmh : cM < h := by omega
  have hmf : cM < cf := by omega
  clear hp hq hq1 hsz hlm hh hf w1 wq
  repeat' (first | (apply Wl.storeHi 0; exact rfl; exact rfl; exact rfl; (repeat (first | apply HSet.here | apply HSet.there)); exact rfl; exact rfl; (repeat (first | apply LSet.z | apply LSet.s))) | (apply Wl.move; exact rfl; exact rfl) | (apply Wl.assign; exact rfl; exact rfl) | (apply Wl.on; exact rfl; exact rfl; (first | with_reducible rfl | with_reducible assumption | decide)) | (apply Wl.nilCheck; exact rfl; exact rfl) | (apply Wl.pickF; exact rfl; exact rfl; (first | with_reducible rfl | with_reducible assumption | decide); exact rfl) | (apply Wl.fieldAddrZ; exact rfl; exact rfl) | (apply Wl.loadH; exact rfl; exact rfl; (repeat (first | exact List.Mem.head _ | apply List.Mem.tail)); exact rfl) | (apply Wl.eqlPN; exact rfl; exact rfl; exact rfl) | (apply Wl.nil) | (apply St.seq) | (apply St.region) | (apply St.condF; exact rfl; (first | with_reducible rfl | with_reducible assumption | decide)) | (apply St.skip) | (apply Gt.next) | (apply Wl.splitP; exact rfl; exact rfl; all_goals (intros; try (exfalso; omega))) | (apply Wl.splitB; exact rfl; exact rfl; all_goals intros) | (apply St.condP; exact rfl; all_goals (intros; try (exfalso; omega))) | (apply St.condB; exact rfl; all_goals intros))
  apply Wl.callC
  · exact rfl
  · (repeat (first | exact Evs.nil | apply Evs.cons rfl))
  intro wq hq
  refine (step5 h cf cM wq hne (hq.own.at (.tail _ (.head _))) (hq.own.at (.tail _ (.tail _ (.head _)))) (hq.own.at (.head _))).mono ?_
  rintro e w1 ⟨rfl, hd⟩
  refine ⟨_, _, rfl, Hp.two hq hd, ?_⟩
  clear hq hd wq w1
  repeat' (first | (apply Wl.move; exact rfl; exact rfl) | (apply Wl.on; exact rfl; exact rfl; (first | with_reducible rfl | with_reducible assumption | decide)) | (apply Wl.nilCheck; exact rfl; exact rfl) | (apply Wl.pickT; exact rfl; exact rfl; (first | with_reducible rfl | with_reducible assumption | decide); exact rfl) | (apply Wl.not; exact rfl; exact rfl) | (apply Wl.fieldAddr0; exact rfl; exact rfl) | (apply Wl.fieldAddrZ; exact rfl; exact rfl) | (apply Wl.loadH; exact rfl; exact rfl; (repeat (first | exact List.Mem.head _ | apply List.Mem.tail)); exact rfl) | (apply Wl.eqlIs; exact rfl; exact rfl; exact rfl; (first | with_reducible assumption | with_reducible rfl)) | (apply Wl.storeA; exact rfl; exact rfl; exact rfl; exact rfl; (repeat (first | apply HSet.here | apply HSet.there)); (repeat (first | apply LPut.s | apply LPut.z | apply LOver.nil | apply LOver.cons))) | (apply Wl.alloc; exact rfl; intro c hc ho) | (apply Wl.indexArr; exact rfl; exact rfl; exact rfl; (constructor <;> omega)) | (apply Wl.nil) | (apply St.seq) | (apply St.region) | (apply Gt.next) | (apply Wl.splitP; exact rfl; exact rfl; all_goals (intros; try (exfalso; omega))) | (apply Wl.splitB; exact rfl; exact rfl; all_goals intros) | (apply St.condP; exact rfl; all_goals (intros; try (exfalso; omega))) | (apply St.condB; exact rfl; all_goals intros))
  apply Wl.callC
  · exact rfl
  · (repeat (first | exact Evs.nil | apply Evs.cons rfl))
  intro wq hq
  refine (step0 h cf cM wq hne (hq.own.at (.tail _ (.tail _ (.head _)))) (hq.own.at (.tail _ (.tail _ (.tail _ (.head _))))) (hq.own.at (.tail _ (.head _)))).mono ?_
  rintro e w1 ⟨rfl, u1⟩
  refine ⟨_, _, rfl, newHp (onlyNew hq (by simp only [List.mem_cons, List.not_mem_nil, or_false, forall_eq_or_imp, forall_eq]; omega)) u1 (by intro k hk; omega), ?_⟩
  clear hq u1 wq w1
  repeat' (first | (apply Wl.fieldV; exact rfl; exact rfl; exact rfl) | (apply Wl.assign; exact rfl; exact rfl) | (apply Wl.on; exact rfl; exact rfl; (first | with_reducible rfl | with_reducible assumption | decide)) | (apply Wl.pickT; exact rfl; exact rfl; (first | with_reducible rfl | with_reducible assumption | decide); exact rfl) | (apply Wl.eqlIs; exact rfl; exact rfl; exact rfl; (first | with_reducible assumption | with_reducible rfl)) | (apply Wl.nil) | (apply St.ret) | (apply Gt.next) | (apply Gt.out1; exact rfl; exact rfl; intro w' hp) | (apply Wl.splitP; exact rfl; exact rfl; all_goals (intros; try (exfalso; omega))) | (apply Wl.splitB; exact rfl; exact rfl; all_goals intros) | (apply St.condP; exact rfl; all_goals (intros; try (exfalso; omega))) | (apply St.condB; exact rfl; all_goals intros))
  exact ⟨rfl, hp⟩
end Go.Proofs.YtcefkbnachnciaaDoor
end
