/-
  porticoref04: P, b, NewField, Field.Inv. Conditions: the modulus is odd-like (its lowest digit is at least 2), numbers are below it.
-/
import Derived.Test.YtfaobdakpbpkbaaRef4c
import Derived.Test.YtfaobdakpbpkbaaCurN
namespace Go.Pt
theorem LPut.list {l xs : List Value} {n : Nat} (h : n + xs.length ≤ l.length) : LPut l n xs (l.take n ++ xs ++ l.drop (n + xs.length)) := by
  have e : l = l.take n ++ ((l.drop n).take xs.length ++ l.drop (n + xs.length)) := by
    rw [← List.drop_drop, List.take_append_drop, List.take_append_drop]
  have := LPut.app (p := l.take n) (l := (l.drop n).take xs.length) (xs := xs) (r := l.drop (n + xs.length)) (n := n) (by rw [List.length_take]; omega) (by rw [List.length_take, List.length_drop]; omega)
  rw [← e] at this
  rw [List.append_assoc]
  exact this
theorem cellsN_put {K : IntKind} {n i l : Nat} {f g h : Nat → Nat} (hl : i + l ≤ n) (h1 : ∀ j, i ≤ j → j < i + l → h j = g (j - i)) (h2 : ∀ j, j < i ∨ i + l ≤ j → h j = f j) : LPut (cellsN K n f) i (cellsN K l g) (cellsN K n h) := by
  have e : cellsN K n h = (cellsN K n f).take i ++ cellsN K l g ++ (cellsN K n f).drop (i + (cellsN K l g).length) := by
    apply List.ext_getElem?
    intro j
    rw [cellsN_len]
    by_cases hj : j < n
    · rw [cellsN_get hj]
      by_cases h3 : j < i
      · rw [h2 j (.inl h3), List.append_assoc, List.getElem?_append_left (by rw [List.length_take, cellsN_len]; omega), List.getElem?_take_of_lt h3, cellsN_get hj]
      · by_cases h4 : j < i + l
        · rw [h1 j (by omega) h4, List.append_assoc, List.getElem?_append_right (by rw [List.length_take, cellsN_len]; omega), List.getElem?_append_left (by rw [List.length_take, cellsN_len, cellsN_len]; omega), List.length_take, cellsN_len, Nat.min_eq_left (by omega), cellsN_get (by omega)]
        · rw [h2 j (.inr (by omega)), List.getElem?_append_right (by rw [List.length_append, List.length_take, cellsN_len, cellsN_len]; omega), List.getElem?_drop, List.length_append, List.length_take, cellsN_len, cellsN_len, Nat.min_eq_left (by omega), show i + l + (j - (i + l)) = j by omega, cellsN_get hj]
    · rw [List.getElem?_eq_none (by rw [cellsN_len]; omega), List.getElem?_eq_none (by rw [List.length_append, List.length_append, List.length_take, List.length_drop, cellsN_len, cellsN_len]; omega)]
  rw [e]
  exact LPut.list (by rw [cellsN_len, cellsN_len]; exact hl)
end Go.Pt
namespace Go.Proofs.Ytfaobdakpbpkbaa
open Go.RowKit Go.Pt
attribute [local irreducible] Prim.P256
theorem ref4P (w : World) : Calls Try.prog 10 #[] w fun e w' => e = .returned (num16 Prim.P256) ∧ Hp w [] w' := by
  refine enter (args := []) (Γ := []) Try.func10 Try.ntmps10 rfl (of_decide_eq_true rfl) .nil ?_
  repeat' (first | (apply Wl.buildN; exact rfl; (repeat (first | exact Parts.nil | apply Parts.cons rfl)); (repeat (first | apply Fills.nil | (apply Fills.one; exact rfl; exact rfl; (repeat (first | apply LSet.z | apply LSet.s))) | (apply Fills.agg; exact rfl; exact rfl; (repeat (first | apply LPut.s | apply LPut.z | apply LOver.nil | apply LOver.cons))))); exact p8P) | (apply Wl.callQ (f := 14); exact rfl; (repeat (first | exact Evs.nil | apply Evs.cons rfl)); (intro wq hq; refine (refOf _ wq).mono ?_; rintro e wr ⟨rfl, hr⟩; exact ⟨rfl, hq.keep hr⟩)) | (apply Gt.outN; exact rfl; infer_instance; exact rfl; (repeat (first | exact List.Mem.head _ | apply List.Mem.tail)); exact rfl; intro w' hp) | (apply Wl.storeW; exact rfl; exact rfl; (repeat (first | apply HSet.here | apply HSet.there)); exact rfl; (first | exact cellsN_len _ _ _ | exact rfl)) | (apply Wl.allocN; exact rfl; (first | exact z8 | exact z16 | exact z17 | exact z33 | exact z10); intro c hc ho) | (apply Wl.nil) | (apply St.seq) | (apply St.region) | (apply St.ret) | (apply Gt.next) | (apply Wl.splitP; exact rfl; exact rfl; all_goals (intros; try (exfalso; omega))) | (apply Wl.splitB; exact rfl; exact rfl; all_goals intros) | (apply St.condP; exact rfl; all_goals (intros; try (exfalso; omega))) | (apply St.condB; exact rfl; all_goals intros))
  exact ⟨rfl, hp.drop (by simp; omega)⟩
theorem ref4b (w : World) : Calls Try.prog 47 #[] w fun e w' => e = .returned (num16 curB.val) ∧ Hp w [] w' := by
  refine enter (args := []) (Γ := []) Try.func47 Try.ntmps47 rfl (of_decide_eq_true rfl) .nil ?_
  repeat' (first | (apply Wl.buildN; exact rfl; (repeat (first | exact Parts.nil | apply Parts.cons rfl)); (repeat (first | apply Fills.nil | (apply Fills.one; exact rfl; exact rfl; (repeat (first | apply LSet.z | apply LSet.s))) | (apply Fills.agg; exact rfl; exact rfl; (repeat (first | apply LPut.s | apply LPut.z | apply LOver.nil | apply LOver.cons))))); exact b8N) | (apply Wl.callQ (f := 14); exact rfl; (repeat (first | exact Evs.nil | apply Evs.cons rfl)); (intro wq hq; refine (refOf _ wq).mono ?_; rintro e wr ⟨rfl, hr⟩; exact ⟨rfl, hq.keep hr⟩)) | (apply Gt.outN; exact rfl; infer_instance; exact rfl; (repeat (first | exact List.Mem.head _ | apply List.Mem.tail)); exact rfl; intro w' hp) | (apply Wl.storeW; exact rfl; exact rfl; (repeat (first | apply HSet.here | apply HSet.there)); exact rfl; (first | exact cellsN_len _ _ _ | exact rfl)) | (apply Wl.allocN; exact rfl; (first | exact z8 | exact z16 | exact z17 | exact z33 | exact z10); intro c hc ho) | (apply Wl.nil) | (apply St.seq) | (apply St.region) | (apply St.ret) | (apply Gt.next) | (apply Wl.splitP; exact rfl; exact rfl; all_goals (intros; try (exfalso; omega))) | (apply Wl.splitB; exact rfl; exact rfl; all_goals intros) | (apply St.condP; exact rfl; all_goals (intros; try (exfalso; omega))) | (apply St.condB; exact rfl; all_goals intros))
  exact ⟨rfl, hp.drop (by simp; omega)⟩
/-! ### NewField -/
/-- the cells of a field of which k rows are laid -/
def hF (m k : Nat) : Nat → Nat := fun j => if j < 16 then dg D16 m j else if j < 16 + k * 16 then dg D16 (rowR m ((j - 16) / 16)) ((j - 16) % 16) else 0
def dblR (m k i : Nat) : Nat := D16 ^ (16 + k) * 2 ^ i % m
theorem dblR_zero (m k : Nat) : dblR m k 0 = rowR m k := by unfold dblR rowR; rw [Nat.pow_zero, Nat.mul_one]
theorem dblR_step (m k i : Nat) : (dblR m k i + dblR m k i) % m = dblR m k (i + 1) := by
  unfold dblR
  rw [Nat.pow_succ, ← Nat.mul_assoc, Nat.mul_two, ← Nat.add_mod]
theorem dblR_end (m k : Nat) : dblR m k 16 = rowR m (k + 1) := by
  unfold dblR rowR
  have e : (2 : Nat) ^ 16 = D16 := by decide
  rw [e, show 16 + (k + 1) = 16 + k + 1 by omega, Nat.pow_succ]
theorem rowR_0 (m : Nat) : W256 % m = rowR m 0 := by unfold rowR; rw [W256_eq16]
theorem hF_put (m k : Nat) (hk : k < 16) : LPut (cellsN .u64 272 (hF m k)) (16 + k * 16) (cellsN .u64 16 (dg D16 (rowR m k))) (cellsN .u64 272 (hF m (k + 1))) :=
  cellsN_put (by omega) (fun j h1 h2 => by
    unfold hF
    rw [if_neg (by omega), if_pos (by omega), show (j - 16) / 16 = k by omega, show (j - 16) % 16 = j - (16 + k * 16) by omega]) fun j h => by
    unfold hF
    by_cases h1 : j < 16
    · rw [if_pos h1, if_pos h1]
    · rw [if_neg h1, if_neg h1]
      by_cases h2 : j < 16 + k * 16
      · rw [if_pos h2, if_pos (by omega)]
      · rw [if_neg h2, if_neg (by omega)]
theorem hF_first (m : Nat) : LPut (cellsN .u64 272 fun _ => 0) 0 (cellsN .u64 16 (dg D16 m)) (cellsN .u64 272 (hF m 0)) :=
  cellsN_put (by omega) (fun j h1 h2 => by unfold hF; rw [if_pos (by omega)]; rfl) fun j h => by
    unfold hF
    rw [if_neg (by omega), if_neg (by omega)]
section
variable {md : Md} {N : Nat} {ops : Array Oper} {rest : List Oper} {Γ : Env} {C : World → Prop} {Q : Exit → Act → World → Prop} {d : Nat} {ty : TypeId} {pos : String} {af : Array Edge} {parts : Array (Nat × Operand)}
instance tyFl : TyP Try.prog 67 [(0, 16), (16, 256)] (List.replicate 272 (.int .u64 0)) := ⟨by kernel_rfl⟩
theorem Wl.buildFl {x : Nat} (hd : Nat.blt d N = true) (hp : Parts Γ parts.toList [(0, num16 x)]) (h : Wl rest Try.prog md ops N ((d, .agg (cellsN .u64 272 (hF x 0)).toArray) :: Γ) C Q) :
    Wl (⟨some d, .build 67 parts, ty, pos, af, none⟩ :: rest) Try.prog md ops N Γ C Q := by
  refine Wl.build hd hp (fun _ => run_build_struct ?_) h
  have h2 := hF_first x
  refine .agg rfl (by rw [cellsN_len]; rfl) (cs1 := cellsN .u64 272 (hF x 0)) ?_ .nil
  have e : ∀ n, cellsN .u64 n (fun _ => 0) = List.replicate n (.int .u64 0) := fun n => by
    apply List.ext_getElem
    · simp [cellsN_len]
    · intro i h1 h2
      have := cellsN_get (k := .u64) (n := n) (i := i) (f := fun _ => 0) (by rw [cellsN_len] at h1; exact h1)
      rw [List.getElem?_eq_getElem h1] at this
      simp at this
      simp [this]
  rw [e] at h2
  exact h2
end
set_option maxHeartbeats 8000000 in
theorem newField (m : Nat) (w : World) (hm : m < W256) (hg : W256 ≤ 2 * m) (h0 : rowR m 0 < 2 ^ 225) (h1 : rowR m 1 < 2 ^ 241) : Calls Try.prog 9 #[num16 m] w fun e w' => ∃ b, e = .returned (mp b) ∧ w.heap.size ≤ b ∧ FldV w' b m ∧ Hp w [] w' := by
  have hm1 : 1 < m := by unfold W256 at hg; omega
  refine enter (args := [_]) (Γ := [(0, _)]) Try.func9 Try.ntmps9 rfl (of_decide_eq_true rfl) (.cons rfl .nil) ?_
  have hR := fun wq => refR m wq hm hm1
  rw [rowR_0] at hR
  have hlt : ∀ k i, dblR m k i < m := fun k i => Nat.mod_lt _ (by omega)
  repeat' (first | (apply Wl.buildFl; exact rfl; (focus ((repeat (first | exact Parts.nil | apply Parts.cons rfl)); done))) | (apply Wl.callQ (f := 30); exact rfl; (repeat (first | exact Evs.nil | apply Evs.cons rfl)); (intro wq hq; refine (hR wq).mono ?_; rintro e wr ⟨rfl, hr⟩; exact ⟨rfl, hq.keep hr⟩)) | (apply Wl.loadW; exact rfl; exact rfl; (repeat (first | exact List.Mem.head _ | apply List.Mem.tail)); exact rfl) | (apply Wl.storeW; exact rfl; exact rfl; (repeat (first | apply HSet.here | apply HSet.there)); exact rfl; (first | exact cellsN_len _ _ _ | exact rfl)) | (apply Wl.boxN; exact rfl; exact rfl; intro c hc ho) | (apply Wl.allocN; exact rfl; (first | exact z8 | exact z16 | exact z17 | exact z33 | exact z10); intro c hc ho) | (apply Wl.assign; exact rfl; exact rfl) | (apply Wl.nil) | (apply St.seq) | (apply St.block) | (apply St.region) | (apply Gt.next) | (apply Wl.splitP; exact rfl; exact rfl; all_goals (intros; try (exfalso; omega))) | (apply Wl.splitB; exact rfl; exact rfl; all_goals intros) | (apply St.condP; exact rfl; all_goals (intros; try (exfalso; omega))) | (apply St.condB; exact rfl; all_goals intros))
  rename_i c1 hc1 ho1 cf hcf hof
  generalize c = cr at *
  refine St.loop (σ := Nat) (fun k => k ≤ 16) (fun k => [(1, mp c1), (3, mp cf), (4, mp cr), (5, .int .i64 k)])
    (fun k => Hp w [⟨cr, cellsN .u64 16 (dg D16 (rowR m k)), 32⟩, ⟨cf, cellsN .u64 272 (hF m k), 67⟩, ⟨c1, cellsN .u64 16 (dg D16 m), 32⟩])
    (fun k => 16 - k) 0 (by simp) (by (repeat (first | exact Sub.nil | apply Sub.cons rfl))) (fun _ h => h) ?_
  intro k hk16
  by_cases hkl : k < 16
  · repeat' (first | (apply St.bagX 6 []; exact mixed; (decide +kernel); kernel_rfl) | (apply OpsX.nil) | (apply OpsX.v; (intro X hX; change Wl [_] _ _ _ _ _ _ _; apply Wl.catX; (repeat (first | apply CatB.nil | apply CatB.cons)))) | (apply Gt.endX; exact rfl) | (apply EndX.on; exact rfl) | (apply EndX.off; exact rfl) | (apply EndX.nil'; apply Wl.catE; (repeat (first | apply CatB.nil | apply CatB.cons))) | (apply Wl.storeA; exact rfl; exact rfl; exact cellsN_len _ _ _; exact cellsN_one _ _ _; (repeat (first | apply HSet.here | apply HSet.there)); exact hF_put m k hkl) | (apply Wl.loadW; exact rfl; exact rfl; (repeat (first | exact List.Mem.head _ | apply List.Mem.tail)); exact rfl) | (apply Wl.move; exact rfl; exact rfl) | (apply Wl.assign; exact rfl; exact rfl) | (apply Wl.nilCheck; exact rfl; exact rfl) | (apply Wl.fieldAddrZ; exact rfl; exact rfl) | (apply Wl.lss; exact rfl; exact rfl; exact rfl) | (apply Wl.indexArr; exact rfl; exact rfl; exact rfl; (constructor <;> omega)) | (apply Wl.nil) | (apply St.seq) | (apply St.block) | (apply St.region) | (apply St.skip) | (apply Gt.next) | (apply Wl.splitP; exact rfl; exact rfl; all_goals (intros; try (exfalso; omega))) | (apply Wl.splitB; exact rfl; exact rfl; all_goals intros) | (apply St.condP; exact rfl; all_goals (intros; try (exfalso; omega))) | (apply St.condB; exact rfl; all_goals intros))
    refine St.loop (σ := Nat) (fun i => i ≤ 16) (fun i => [(1, mp c1), (3, mp cf), (4, mp cr), (5, .int .i64 k), (6, .int .i64 i)])
      (fun i => Hp w [⟨cr, cellsN .u64 16 (dg D16 (dblR m k i)), 32⟩, ⟨cf, cellsN .u64 272 (hF m (k + 1)), 67⟩, ⟨c1, cellsN .u64 16 (dg D16 m), 32⟩])
      (fun i => 16 - i) 0 (by simp) (by (repeat (first | exact Sub.nil | apply Sub.cons rfl))) (fun _ h => by rw [dblR_zero]; exact h) ?_
    intro i hi16
    by_cases hil : i < 16
    · repeat' (first | (apply Wl.callQ (f := 31); exact rfl; (repeat (first | exact Evs.nil | apply Evs.cons rfl)); (intro wq hq; refine (refAdd _ _ m wq hm (hlt _ _) (hlt _ _)).mono ?_; rintro e wr ⟨rfl, hr⟩; exact ⟨rfl, hq.keep hr⟩)) | (apply Wl.loadW; exact rfl; exact rfl; (repeat (first | exact List.Mem.head _ | apply List.Mem.tail)); exact rfl) | (apply Wl.storeW; exact rfl; exact rfl; (repeat (first | apply HSet.here | apply HSet.there)); exact rfl; (first | exact cellsN_len _ _ _ | exact rfl)) | (apply Wl.move; exact rfl; exact rfl) | (apply Wl.assign; exact rfl; exact rfl) | (apply Wl.lss; exact rfl; exact rfl; exact rfl) | (apply Wl.addI; exact rfl; exact rfl; exact rfl; (constructor <;> omega)) | (apply Wl.nil) | (apply St.seq) | (apply St.block) | (apply St.region) | (apply St.skip) | (apply Gt.next) | (apply Gt.inNormal) | (apply Wl.splitP; exact rfl; exact rfl; all_goals (intros; try (exfalso; omega))) | (apply Wl.splitB; exact rfl; exact rfl; all_goals intros) | (apply St.condP; exact rfl; all_goals (intros; try (exfalso; omega))) | (apply St.condB; exact rfl; all_goals intros))
      rw [dblR_step]
      apply Gt.round (i + 1)
      rotate_left
      · omega
      · (repeat (first | exact Sub.nil | apply Sub.cons rfl))
      · exact fun _ h => h
      · omega
    · have hie : i = 16 := by omega
      subst hie
      rw [dblR_end]
      repeat' (first | (apply Wl.move; exact rfl; exact rfl) | (apply Wl.assign; exact rfl; exact rfl) | (apply Wl.lss; exact rfl; exact rfl; exact rfl) | (apply Wl.addI; exact rfl; exact rfl; exact rfl; (constructor <;> omega)) | (apply Wl.nil) | (apply St.seq) | (apply St.region) | (apply St.condF; exact rfl; (first | with_reducible rfl | with_reducible assumption | decide)) | (apply St.exit) | (apply Gt.next) | (apply Gt.thenExit) | (apply Gt.inNormal) | (apply Gt.inExit) | (apply Wl.splitP; exact rfl; exact rfl; all_goals (intros; try (exfalso; omega))) | (apply Wl.splitB; exact rfl; exact rfl; all_goals intros) | (apply St.condP; exact rfl; all_goals (intros; try (exfalso; omega))) | (apply St.condB; exact rfl; all_goals intros))
      apply Gt.round (k + 1)
      rotate_left
      · omega
      · (repeat (first | exact Sub.nil | apply Sub.cons rfl))
      · exact fun _ h => h
      · omega
  · have hke : k = 16 := by omega
    subst hke
    repeat' (first | (apply Wl.move; exact rfl; exact rfl) | (apply Wl.assign; exact rfl; exact rfl) | (apply Wl.lss; exact rfl; exact rfl; exact rfl) | (apply Wl.nil) | (apply St.seq) | (apply St.region) | (apply St.condF; exact rfl; (first | with_reducible rfl | with_reducible assumption | decide)) | (apply St.ret) | (apply St.exit) | (apply Gt.next) | (apply Gt.thenExit) | (apply Gt.inExit) | (apply Gt.out1; exact rfl; exact rfl; intro w' hp) | (apply Wl.splitP; exact rfl; exact rfl; all_goals (intros; try (exfalso; omega))) | (apply Wl.splitB; exact rfl; exact rfl; all_goals intros) | (apply St.condP; exact rfl; all_goals (intros; try (exfalso; omega))) | (apply St.condB; exact rfl; all_goals intros))
    have hmem : (⟨cf, cellsN .u64 272 (hF m 16), 67⟩ : Blk) ∈ [(⟨cr, cellsN .u64 16 (dg D16 (rowR m 16)), 32⟩ : Blk), ⟨cf, cellsN .u64 272 (hF m 16), 67⟩, ⟨c1, cellsN .u64 16 (dg D16 m), 32⟩] := .tail _ (.head _)
    refine ⟨cf, rfl, hcf, ⟨fun j hj => ?_, fun k i hk hi => ?_, hm, hg, h0, h1⟩, hp.drop (by simp; omega)⟩
    · refine hp.cell hmem ?_
      rw [cellsN_get (by omega), Nat.zero_add]
      unfold hF
      rw [if_pos hj]
    · refine hp.cell hmem ?_
      rw [cellsN_get (by omega)]
      unfold hF
      rw [if_neg (by omega), if_pos (by omega), show (16 + k * 16 + i - 16) / 16 = k by omega, show (16 + k * 16 + i - 16) % 16 = i by omega]
end Go.Proofs.Ytfaobdakpbpkbaa
