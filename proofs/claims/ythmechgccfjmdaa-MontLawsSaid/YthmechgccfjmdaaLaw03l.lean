/-
  MontLaws: the walk. Conditions: none.
-/
import Derived.Test.YthmechgccfjmdaaLaw03
namespace Go.Proofs.Ythmechgccfjmdaa
open Go.RowKit Go.Pt
section
variable {P : Program} {N : Nat} {Γ : Env} {C : World → Prop} {Q : Exit → Act → World → Prop} {k i : Nat} {l : Array Oper} {b : Bool} {x : Operand} {p q r y : Code}
/-- the walk stops ahead of region k, and ahead of a pair that begins with it -/
theorem St.seqK (hk : Nat.beq i k = false) (h : St (.region i l b) P N Γ C (Exit.then (y.wp P Q) Q)) : St (.seq (.region i l b) y) P N Γ C Q := St.seq h
theorem St.seqKS (hk : Nat.beq i k = false) (h : St (.seq (.region i l b) p) P N Γ C (Exit.then (y.wp P Q) Q)) : St (.seq (.seq (.region i l b) p) y) P N Γ C Q := St.seq h
theorem St.seqSC (h : St (.seq (.cond x p q) r) P N Γ C (Exit.then (y.wp P Q) Q)) : St (.seq (.seq (.cond x p q) r) y) P N Γ C Q := St.seq h
theorem St.seqSS (h : St (.seq (.seq p q) r) P N Γ C (Exit.then (y.wp P Q) Q)) : St (.seq (.seq (.seq p q) r) y) P N Γ C Q := St.seq h
theorem St.seqC (h : St (.cond x p q) P N Γ C (Exit.then (y.wp P Q) Q)) : St (.seq (.cond x p q) y) P N Γ C Q := St.seq h
end
def d8f (n : Nat) : List Value := cellsN .u32 8 (dg W32 n)
theorem d8f_len (n : Nat) : (d8f n).length = 8 := cellsN_len _ _ _
theorem lapp_of (xs l : List Value) : LApp xs l (xs ++ l) := by
  induction xs with
  | nil => exact .nil
  | cons x r ih => exact .cons ih
theorem lsub_at {p l r : List Value} {n k : Nat} (hp : p.length = k) (hl : l.length = n) : LSub (p ++ (l ++ r)) k n l := by
  subst hp
  induction p with
  | nil =>
    subst hl
    induction l with
    | nil => exact .z
    | cons x s ih => exact .t ih
  | cons x s ih => exact .s ih
theorem lsub_flat {L : List Nat} {i x : Nat} (h : L[i]? = some x) : LSub (L.flatMap d8f) (0 + (i : Int).toNat * 8) 8 (d8f x) := by
  rw [Int.toNat_natCast, Nat.zero_add]
  induction L generalizing i with
  | nil => simp at h
  | cons y r ih =>
    cases i with
    | zero =>
      simp only [List.getElem?_cons_zero, Option.some.injEq] at h
      subst h
      rw [List.flatMap_cons]
      exact lsub_at (p := []) (by simp) (d8f_len y)
    | succ i =>
      have := ih (i := i) (by simpa using h)
      rw [List.flatMap_cons]
      have key : ∀ (p l xs : List Value) (k n : Nat), LSub l k n xs → LSub (p ++ l) (k + p.length) n xs := by
        intro p
        induction p with
        | nil => intro l xs k n h; exact h
        | cons z s ihp => intro l xs k n h; exact .s (ihp l xs k n h)
      have h2 := key (d8f y) _ _ _ _ this
      rw [d8f_len, ← Nat.succ_mul] at h2
      exact h2
theorem catp_cons {i n : Nat} {r : List (Nat × Value)} {cs : List Value} (h : CatP 8 (i + 1) r cs) : CatP 8 i ((i, numV n) :: r) (d8f n ++ cs) := CatP.agg (by rw [cellsN_len]; rfl) h (lapp_of _ _)
theorem modInP {b m a p : Nat} {w : World} (h : ModV w b m) (ha : a < W256) (hp : p = a * W256 % m) :
    Calls Try.prog 19 #[mp b, numV a] w fun e w' => e = .returned (numV p) ∧ Hp w [] w' := hp ▸ modIn b m a w h ha
theorem law3 {m p q : Nat} (hp : p < m) (hq : q < m) : ((p + q) % m + m - q) % m = p := by
  by_cases h : p + q < m
  · rw [Nat.mod_eq_of_lt h, show p + q + m - q = p + m by omega, Nat.add_mod_right, Nat.mod_eq_of_lt hp]
  · rw [Nat.mod_eq_sub_mod (show m ≤ p + q by omega), Nat.mod_eq_of_lt (show p + q - m < m by omega), show p + q - m + m - q = p by omega, Nat.mod_eq_of_lt hp]
theorem law2 (m p q : Nat) : (p + q) % m * p * rinv m % m = (p * p * rinv m % m + q * p * rinv m % m) % m := by
  rw [← Nat.add_mod, ← Nat.add_mul, ← Nat.add_mul, Nat.mul_assoc, Nat.mod_mul_mod, Nat.mul_assoc]
theorem law4 {m p : Nat} (ho : m % 2 = 1) (hp : p < m) : p * (W256 % m) * rinv m % m = p := by
  have e : p * (W256 % m) * rinv m % m = p * W256 * rinv m % m := by simp only [Nat.mul_mod, Nat.mod_mod]
  rw [e, inW ho, Nat.mod_eq_of_lt hp]
set_option maxHeartbeats 8000000 in
theorem laws03 (m a a2 : Nat) (w : World) (hm : m < W256) (ha : a < W256) (ha2 : a2 < W256) : Calls Try.prog 5 #[numV m, numV a, numV a2] w fun e w' => e = .returned (.bool true) ∧ Hp w [] w' := by
  refine enter (args := [_, _, _]) (Γ := [(0, _), (1, _), (2, _)]) Try.func5 Try.ntmps5 rfl (of_decide_eq_true rfl) (.cons rfl (.cons rfl (.cons rfl .nil))) ?_
  repeat' (first | (apply Wl.boxN; exact rfl; exact rfl; intro c hc ho) | (apply Wl.assign; exact rfl; exact rfl) | (apply Wl.nil) | (apply St.seq) | (apply St.region) | (apply Gt.next) | (apply Wl.splitP; exact rfl; exact rfl; all_goals (intros; try (exfalso; omega))) | (apply Wl.splitB; exact rfl; exact rfl; all_goals intros) | (apply St.condP; exact rfl; all_goals (intros; try (exfalso; omega))) | (apply St.condB; exact rfl; all_goals intros))
  rename_i c3 h3 o3 c4 h4 o4
  generalize c = c5 at *
  apply Wl.callQ
  exact rfl
  (repeat (first | exact Evs.nil | apply Evs.cons rfl))
  · intro wq hq
    refine (fit03 wq).mono ?_
    rintro e wr ⟨rfl, hr⟩
    exact ⟨rfl, hq.keep hr⟩
  repeat' (first | (apply Wl.loadW; exact rfl; exact rfl; (repeat (first | exact List.Mem.head _ | apply List.Mem.tail)); exact rfl) | (apply Wl.not; exact rfl; exact rfl) | (apply Wl.nil) | (apply St.seq) | (apply St.region) | (apply St.condF; exact rfl; (first | with_reducible rfl | with_reducible assumption | decide)) | (apply St.skip) | (apply Gt.next) | (apply Wl.splitP; exact rfl; exact rfl; all_goals (intros; try (exfalso; omega))) | (apply Wl.splitB; exact rfl; exact rfl; all_goals intros) | (apply St.condP; exact rfl; all_goals (intros; try (exfalso; omega))) | (apply St.condB; exact rfl; all_goals intros))
  apply Wl.callC
  exact rfl
  (repeat (first | exact Evs.nil | apply Evs.cons rfl))
  intro wq hq
  refine (modNew m hm wq).mono ?_
  have l0 := hq.own.lt (.head _)
  have l1 := hq.own.lt (.tail _ (.head _))
  have l2 := hq.own.lt (.tail _ (.tail _ (.head _)))
  simp only at l0 l1 l2
  rintro e wr (⟨hodd, hne1, b, rfl, hb, hV, hr⟩ | ⟨hno, rfl, hr⟩)
  · have hu : Upd (fun k => w.heap.size ≤ k) w wr := hpOn (hq.keep hr) (Upd.refl _ _) (by simp; omega)
    have hbl := hV.blk
    have hgt := hV.gt
    have hm0 : 0 < m := by omega
    have hWm : W256 % m < W256 := Nat.lt_trans (Nat.mod_lt _ hm0) hm
    have hlt (x : Nat) : x % m < m := Nat.mod_lt _ hm0
    have hltW (x : Nat) : x % m < W256 := Nat.lt_trans (hlt x) hm
    have hdm : dg W32 m 0 % 2 = m % 2 := by rw [dg0_mod]; omega
    have h0l := dlt m 0
    refine ⟨_, _, rfl, hpRb (hq.keep hr), ?_⟩
    have hs1 := hu.size
    clear hq hr
    obtain ⟨p, hpe⟩ : ∃ p, p = a * W256 % m := ⟨_, rfl⟩
    obtain ⟨q, hqe⟩ : ∃ q, q = a2 * W256 % m := ⟨_, rfl⟩
    have hpm : p < m := hpe ▸ hlt _
    have hqm : q < m := hqe ▸ hlt _
    repeat' (first | (apply Wl.move; exact rfl; exact rfl) | (apply Wl.assign; exact rfl; exact rfl) | (apply Wl.extract; exact rfl; exact rfl; exact rfl) | (apply Wl.neqIs; exact rfl; exact rfl; exact rfl; (first | with_reducible assumption | with_reducible rfl)) | (apply Wl.nil) | (apply St.region) | (apply St.condF; exact rfl; (first | with_reducible rfl | with_reducible assumption | decide)) | (apply St.skip) | (apply Gt.next) | (apply St.seqK (k := 6); exact rfl) | (apply St.seqKS (k := 6); exact rfl) | (apply Wl.splitP; exact rfl; exact rfl; all_goals (intros; try (exfalso; omega))) | (apply Wl.splitB; exact rfl; exact rfl; all_goals intros) | (apply St.condP; exact rfl; all_goals (intros; try (exfalso; omega))) | (apply St.condB; exact rfl; all_goals intros))
    refine St.cut (σ := Nat × Nat) (fun τ => wr.heap.size ≤ τ.1 ∧ wr.heap.size ≤ τ.2)
      (fun τ => [(3, mp c3), (4, mp c4), (5, mp c5), (6, .bool false), (7, mp b), (9, mp τ.1), (10, mp τ.2)])
      (fun τ => Hp wr [⟨τ.2, cellsN .u32 8 (dg W32 (q)), 24⟩, ⟨τ.1, cellsN .u32 8 (dg W32 (p)), 24⟩, ⟨c5, cellsN .u32 8 (dg W32 (a2)), 24⟩, ⟨c4, cellsN .u32 8 (dg W32 (a)), 24⟩, ⟨c3, cellsN .u32 8 (dg W32 (m)), 24⟩]) ?_ ?_
    · refine St.tree (Hp wr [_, _, _]) mixed (fun _ h => ⟨Hp.drew h, Hp.drew h⟩) ?_
      refine Mt.pure 0 (by decide +kernel) (by exact rfl) (by exact rfl) (by decide +kernel) (by decide +kernel) ?_
      repeat' (first | (apply Wl.move; exact rfl; exact rfl) | (apply Wl.nilM) | (apply Wl.splitP; exact rfl; exact rfl; all_goals (intros; try (exfalso; omega))) | (apply Wl.splitB; exact rfl; exact rfl; all_goals intros) | (apply St.condP; exact rfl; all_goals (intros; try (exfalso; omega))) | (apply St.condB; exact rfl; all_goals intros))
      apply Mt.back
      refine Mt.pure 1 (by decide +kernel) (by exact rfl) (by exact rfl) (by decide +kernel) (by decide +kernel) ?_
      repeat' (first | (apply Wl.loadW; exact rfl; exact rfl; (repeat (first | exact List.Mem.head _ | apply List.Mem.tail)); exact rfl) | (apply Wl.nilM) | (apply Wl.splitP; exact rfl; exact rfl; all_goals (intros; try (exfalso; omega))) | (apply Wl.splitB; exact rfl; exact rfl; all_goals intros) | (apply St.condP; exact rfl; all_goals (intros; try (exfalso; omega))) | (apply St.condB; exact rfl; all_goals intros))
      apply Mt.back
      refine Mt.pure 3 (by decide +kernel) (by exact rfl) (by exact rfl) (by decide +kernel) (by decide +kernel) ?_
      repeat' (first | (apply Wl.move; exact rfl; exact rfl) | (apply Wl.nilM) | (apply Wl.splitP; exact rfl; exact rfl; all_goals (intros; try (exfalso; omega))) | (apply Wl.splitB; exact rfl; exact rfl; all_goals intros) | (apply St.condP; exact rfl; all_goals (intros; try (exfalso; omega))) | (apply St.condB; exact rfl; all_goals intros))
      apply Mt.back
      refine Mt.pure 4 (by decide +kernel) (by exact rfl) (by exact rfl) (by decide +kernel) (by decide +kernel) ?_
      repeat' (first | (apply Wl.loadW; exact rfl; exact rfl; (repeat (first | exact List.Mem.head _ | apply List.Mem.tail)); exact rfl) | (apply Wl.nilM) | (apply Wl.splitP; exact rfl; exact rfl; all_goals (intros; try (exfalso; omega))) | (apply Wl.splitB; exact rfl; exact rfl; all_goals intros) | (apply St.condP; exact rfl; all_goals (intros; try (exfalso; omega))) | (apply St.condB; exact rfl; all_goals intros))
      apply Mt.back
      refine Mt.eff3 (i := 2) (j := 6) (k := 7) (by decide +kernel) (by exact rfl) (by exact rfl) (by exact rfl) ?_ ?_ ?_
      · apply Wl.callQ
        exact rfl
        (repeat (first | exact Evs.nil | apply Evs.cons rfl))
        (intro wq hq; refine (modInP (hV.hp hq (by apply Off.of; simp <;> omega)) ha hpe).mono ?_; rintro e wr ⟨rfl, hr⟩; exact ⟨rfl, hq.keep hr⟩)
        apply Wl.nil
        refine Mt.backE (fun _ h => by first | exact h | exact hpPop h (by simp only; omega) | exact hpPop (hpPop h (by simp only; omega)) (by simp only; omega)) ?_
        refine Mt.eff3 (i := 5) (j := 6) (k := 7) (by decide +kernel) (by exact rfl) (by exact rfl) (by exact rfl) ?_ ?_ ?_
        · apply Wl.callQ
          exact rfl
          (repeat (first | exact Evs.nil | apply Evs.cons rfl))
          (intro wq hq; refine (modInP (hV.hp hq (by apply Off.of; simp <;> omega)) ha2 hqe).mono ?_; rintro e wr ⟨rfl, hr⟩; exact ⟨rfl, hq.keep hr⟩)
          apply Wl.nil
          refine Mt.backE (fun _ h => by first | exact h | exact hpPop h (by simp only; omega) | exact hpPop (hpPop h (by simp only; omega)) (by simp only; omega)) ?_
          refine Mt.eff2 (i := 6) (j := 7) (by decide +kernel) (by exact rfl) (by exact rfl) ?_ ?_
          · apply Wl.allocN
            exact rfl
            (first | exact z8 | exact z16 | exact z17 | exact z33 | exact z10)
            intro c hc ho
            apply Wl.nil
            refine Mt.backE (fun _ h => by first | exact h | exact hpPop h (by simp only; omega) | exact hpPop (hpPop h (by simp only; omega)) (by simp only; omega)) ?_
            refine Mt.eff1 (i := 7) (by decide +kernel) (by exact rfl) ?_
            apply Wl.allocN
            exact rfl
            (first | exact z8 | exact z16 | exact z17 | exact z33 | exact z10)
            intro c hc ho
            apply Wl.nil
            refine Mt.backE (fun _ h => by first | exact h | exact hpPop h (by simp only; omega) | exact hpPop (hpPop h (by simp only; omega)) (by simp only; omega)) ?_
            refine Mt.eff1 (i := 8) (by decide +kernel) (by exact rfl) ?_
            apply Wl.storeW
            exact rfl
            exact rfl
            (repeat (first | apply HSet.here | apply HSet.there))
            exact rfl
            (first | exact cellsN_len _ _ _ | exact rfl)
            apply Wl.nil
            refine Mt.backE (fun _ h => by first | exact h | exact hpPop h (by simp only; omega) | exact hpPop (hpPop h (by simp only; omega)) (by simp only; omega)) ?_
            refine Mt.eff1 (i := 9) (by decide +kernel) (by exact rfl) ?_
            apply Wl.storeW
            exact rfl
            exact rfl
            (repeat (first | apply HSet.here | apply HSet.there))
            exact rfl
            (first | exact cellsN_len _ _ _ | exact rfl)
            apply Wl.nil
            refine Mt.backE (fun _ h => by first | exact h | exact hpPop h (by simp only; omega) | exact hpPop (hpPop h (by simp only; omega)) (by simp only; omega)) ?_
            refine Mt.toGt (by decide +kernel) ?_
            apply Gt.meet (_, _)
            rotate_left
            · (repeat (first | exact Sub.nil | apply Sub.cons rfl))
            · first | exact fun _ h => h | exact fun _ h => hpSwap h
            · exact ⟨by assumption, by assumption⟩
          · apply Wl.allocN
            exact rfl
            (first | exact z8 | exact z16 | exact z17 | exact z33 | exact z10)
            intro c hc ho
            apply Wl.nil
            refine Mt.backE (fun _ h => by first | exact h | exact hpPop h (by simp only; omega) | exact hpPop (hpPop h (by simp only; omega)) (by simp only; omega)) ?_
            refine Mt.eff1 (i := 6) (by decide +kernel) (by exact rfl) ?_
            apply Wl.allocN
            exact rfl
            (first | exact z8 | exact z16 | exact z17 | exact z33 | exact z10)
            intro c hc ho
            apply Wl.nil
            refine Mt.backE (fun _ h => by first | exact h | exact hpPop h (by simp only; omega) | exact hpPop (hpPop h (by simp only; omega)) (by simp only; omega)) ?_
            refine Mt.eff1 (i := 8) (by decide +kernel) (by exact rfl) ?_
            apply Wl.storeW
            exact rfl
            exact rfl
            (repeat (first | apply HSet.here | apply HSet.there))
            exact rfl
            (first | exact cellsN_len _ _ _ | exact rfl)
            apply Wl.nil
            refine Mt.backE (fun _ h => by first | exact h | exact hpPop h (by simp only; omega) | exact hpPop (hpPop h (by simp only; omega)) (by simp only; omega)) ?_
            refine Mt.eff1 (i := 9) (by decide +kernel) (by exact rfl) ?_
            apply Wl.storeW
            exact rfl
            exact rfl
            (repeat (first | apply HSet.here | apply HSet.there))
            exact rfl
            (first | exact cellsN_len _ _ _ | exact rfl)
            apply Wl.nil
            refine Mt.backE (fun _ h => by first | exact h | exact hpPop h (by simp only; omega) | exact hpPop (hpPop h (by simp only; omega)) (by simp only; omega)) ?_
            refine Mt.toGt (by decide +kernel) ?_
            apply Gt.meet (_, _)
            rotate_left
            · (repeat (first | exact Sub.nil | apply Sub.cons rfl))
            · first | exact fun _ h => h | exact fun _ h => hpSwap h
            · exact ⟨by assumption, by assumption⟩
        · apply Wl.allocN
          exact rfl
          (first | exact z8 | exact z16 | exact z17 | exact z33 | exact z10)
          intro c hc ho
          apply Wl.nil
          refine Mt.backE (fun _ h => by first | exact h | exact hpPop h (by simp only; omega) | exact hpPop (hpPop h (by simp only; omega)) (by simp only; omega)) ?_
          refine Mt.eff2 (i := 5) (j := 7) (by decide +kernel) (by exact rfl) (by exact rfl) ?_ ?_
          · apply Wl.callQ
            exact rfl
            (repeat (first | exact Evs.nil | apply Evs.cons rfl))
            (intro wq hq; refine (modInP (hV.hp hq (by apply Off.of; simp <;> omega)) ha2 hqe).mono ?_; rintro e wr ⟨rfl, hr⟩; exact ⟨rfl, hq.keep hr⟩)
            apply Wl.nil
            refine Mt.backE (fun _ h => by first | exact h | exact hpPop h (by simp only; omega) | exact hpPop (hpPop h (by simp only; omega)) (by simp only; omega)) ?_
            refine Mt.eff1 (i := 7) (by decide +kernel) (by exact rfl) ?_
            apply Wl.allocN
            exact rfl
            (first | exact z8 | exact z16 | exact z17 | exact z33 | exact z10)
            intro c hc ho
            apply Wl.nil
            refine Mt.backE (fun _ h => by first | exact h | exact hpPop h (by simp only; omega) | exact hpPop (hpPop h (by simp only; omega)) (by simp only; omega)) ?_
            refine Mt.eff1 (i := 8) (by decide +kernel) (by exact rfl) ?_
            apply Wl.storeW
            exact rfl
            exact rfl
            (repeat (first | apply HSet.here | apply HSet.there))
            exact rfl
            (first | exact cellsN_len _ _ _ | exact rfl)
            apply Wl.nil
            refine Mt.backE (fun _ h => by first | exact h | exact hpPop h (by simp only; omega) | exact hpPop (hpPop h (by simp only; omega)) (by simp only; omega)) ?_
            refine Mt.eff1 (i := 9) (by decide +kernel) (by exact rfl) ?_
            apply Wl.storeW
            exact rfl
            exact rfl
            (repeat (first | apply HSet.here | apply HSet.there))
            exact rfl
            (first | exact cellsN_len _ _ _ | exact rfl)
            apply Wl.nil
            refine Mt.backE (fun _ h => by first | exact h | exact hpPop h (by simp only; omega) | exact hpPop (hpPop h (by simp only; omega)) (by simp only; omega)) ?_
            refine Mt.toGt (by decide +kernel) ?_
            apply Gt.meet (_, _)
            rotate_left
            · (repeat (first | exact Sub.nil | apply Sub.cons rfl))
            · first | exact fun _ h => h | exact fun _ h => hpSwap h
            · exact ⟨by assumption, by assumption⟩
          · apply Wl.allocN
            exact rfl
            (first | exact z8 | exact z16 | exact z17 | exact z33 | exact z10)
            intro c hc ho
            apply Wl.nil
            refine Mt.backE (fun _ h => by first | exact h | exact hpPop h (by simp only; omega) | exact hpPop (hpPop h (by simp only; omega)) (by simp only; omega)) ?_
            refine Mt.eff1 (i := 5) (by decide +kernel) (by exact rfl) ?_
            apply Wl.callQ
            exact rfl
            (repeat (first | exact Evs.nil | apply Evs.cons rfl))
            (intro wq hq; refine (modInP (hV.hp hq (by apply Off.of; simp <;> omega)) ha2 hqe).mono ?_; rintro e wr ⟨rfl, hr⟩; exact ⟨rfl, hq.keep hr⟩)
            apply Wl.nil
            refine Mt.backE (fun _ h => by first | exact h | exact hpPop h (by simp only; omega) | exact hpPop (hpPop h (by simp only; omega)) (by simp only; omega)) ?_
            refine Mt.eff1 (i := 8) (by decide +kernel) (by exact rfl) ?_
            apply Wl.storeW
            exact rfl
            exact rfl
            (repeat (first | apply HSet.here | apply HSet.there))
            exact rfl
            (first | exact cellsN_len _ _ _ | exact rfl)
            apply Wl.nil
            refine Mt.backE (fun _ h => by first | exact h | exact hpPop h (by simp only; omega) | exact hpPop (hpPop h (by simp only; omega)) (by simp only; omega)) ?_
            refine Mt.eff1 (i := 9) (by decide +kernel) (by exact rfl) ?_
            apply Wl.storeW
            exact rfl
            exact rfl
            (repeat (first | apply HSet.here | apply HSet.there))
            exact rfl
            (first | exact cellsN_len _ _ _ | exact rfl)
            apply Wl.nil
            refine Mt.backE (fun _ h => by first | exact h | exact hpPop h (by simp only; omega) | exact hpPop (hpPop h (by simp only; omega)) (by simp only; omega)) ?_
            refine Mt.toGt (by decide +kernel) ?_
            apply Gt.meet (_, _)
            rotate_left
            · (repeat (first | exact Sub.nil | apply Sub.cons rfl))
            · first | exact fun _ h => h | exact fun _ h => hpSwap h
            · exact ⟨by assumption, by assumption⟩
        · apply Wl.allocN
          exact rfl
          (first | exact z8 | exact z16 | exact z17 | exact z33 | exact z10)
          intro c hc ho
          apply Wl.nil
          refine Mt.backE (fun _ h => by first | exact h | exact hpPop h (by simp only; omega) | exact hpPop (hpPop h (by simp only; omega)) (by simp only; omega)) ?_
          refine Mt.eff2 (i := 5) (j := 6) (by decide +kernel) (by exact rfl) (by exact rfl) ?_ ?_
          · apply Wl.callQ
            exact rfl
            (repeat (first | exact Evs.nil | apply Evs.cons rfl))
            (intro wq hq; refine (modInP (hV.hp hq (by apply Off.of; simp <;> omega)) ha2 hqe).mono ?_; rintro e wr ⟨rfl, hr⟩; exact ⟨rfl, hq.keep hr⟩)
            apply Wl.nil
            refine Mt.backE (fun _ h => by first | exact h | exact hpPop h (by simp only; omega) | exact hpPop (hpPop h (by simp only; omega)) (by simp only; omega)) ?_
            refine Mt.eff1 (i := 6) (by decide +kernel) (by exact rfl) ?_
            apply Wl.allocN
            exact rfl
            (first | exact z8 | exact z16 | exact z17 | exact z33 | exact z10)
            intro c hc ho
            apply Wl.nil
            refine Mt.backE (fun _ h => by first | exact h | exact hpPop h (by simp only; omega) | exact hpPop (hpPop h (by simp only; omega)) (by simp only; omega)) ?_
            refine Mt.eff1 (i := 8) (by decide +kernel) (by exact rfl) ?_
            apply Wl.storeW
            exact rfl
            exact rfl
            (repeat (first | apply HSet.here | apply HSet.there))
            exact rfl
            (first | exact cellsN_len _ _ _ | exact rfl)
            apply Wl.nil
            refine Mt.backE (fun _ h => by first | exact h | exact hpPop h (by simp only; omega) | exact hpPop (hpPop h (by simp only; omega)) (by simp only; omega)) ?_
            refine Mt.eff1 (i := 9) (by decide +kernel) (by exact rfl) ?_
            apply Wl.storeW
            exact rfl
            exact rfl
            (repeat (first | apply HSet.here | apply HSet.there))
            exact rfl
            (first | exact cellsN_len _ _ _ | exact rfl)
            apply Wl.nil
            refine Mt.backE (fun _ h => by first | exact h | exact hpPop h (by simp only; omega) | exact hpPop (hpPop h (by simp only; omega)) (by simp only; omega)) ?_
            refine Mt.toGt (by decide +kernel) ?_
            apply Gt.meet (_, _)
            rotate_left
            · (repeat (first | exact Sub.nil | apply Sub.cons rfl))
            · first | exact fun _ h => h | exact fun _ h => hpSwap h
            · exact ⟨by assumption, by assumption⟩
          · apply Wl.allocN
            exact rfl
            (first | exact z8 | exact z16 | exact z17 | exact z33 | exact z10)
            intro c hc ho
            apply Wl.nil
            refine Mt.backE (fun _ h => by first | exact h | exact hpPop h (by simp only; omega) | exact hpPop (hpPop h (by simp only; omega)) (by simp only; omega)) ?_
            refine Mt.eff1 (i := 5) (by decide +kernel) (by exact rfl) ?_
            apply Wl.callQ
            exact rfl
            (repeat (first | exact Evs.nil | apply Evs.cons rfl))
            (intro wq hq; refine (modInP (hV.hp hq (by apply Off.of; simp <;> omega)) ha2 hqe).mono ?_; rintro e wr ⟨rfl, hr⟩; exact ⟨rfl, hq.keep hr⟩)
            apply Wl.nil
            refine Mt.backE (fun _ h => by first | exact h | exact hpPop h (by simp only; omega) | exact hpPop (hpPop h (by simp only; omega)) (by simp only; omega)) ?_
            refine Mt.eff1 (i := 8) (by decide +kernel) (by exact rfl) ?_
            apply Wl.storeW
            exact rfl
            exact rfl
            (repeat (first | apply HSet.here | apply HSet.there))
            exact rfl
            (first | exact cellsN_len _ _ _ | exact rfl)
            apply Wl.nil
            refine Mt.backE (fun _ h => by first | exact h | exact hpPop h (by simp only; omega) | exact hpPop (hpPop h (by simp only; omega)) (by simp only; omega)) ?_
            refine Mt.eff1 (i := 9) (by decide +kernel) (by exact rfl) ?_
            apply Wl.storeW
            exact rfl
            exact rfl
            (repeat (first | apply HSet.here | apply HSet.there))
            exact rfl
            (first | exact cellsN_len _ _ _ | exact rfl)
            apply Wl.nil
            refine Mt.backE (fun _ h => by first | exact h | exact hpPop h (by simp only; omega) | exact hpPop (hpPop h (by simp only; omega)) (by simp only; omega)) ?_
            refine Mt.toGt (by decide +kernel) ?_
            apply Gt.meet (_, _)
            rotate_left
            · (repeat (first | exact Sub.nil | apply Sub.cons rfl))
            · first | exact fun _ h => h | exact fun _ h => hpSwap h
            · exact ⟨by assumption, by assumption⟩
      · apply Wl.allocN
        exact rfl
        (first | exact z8 | exact z16 | exact z17 | exact z33 | exact z10)
        intro c hc ho
        apply Wl.nil
        refine Mt.backE (fun _ h => by first | exact h | exact hpPop h (by simp only; omega) | exact hpPop (hpPop h (by simp only; omega)) (by simp only; omega)) ?_
        refine Mt.eff2 (i := 2) (j := 7) (by decide +kernel) (by exact rfl) (by exact rfl) ?_ ?_
        · apply Wl.callQ
          exact rfl
          (repeat (first | exact Evs.nil | apply Evs.cons rfl))
          (intro wq hq; refine (modInP (hV.hp hq (by apply Off.of; simp <;> omega)) ha hpe).mono ?_; rintro e wr ⟨rfl, hr⟩; exact ⟨rfl, hq.keep hr⟩)
          apply Wl.nil
          refine Mt.backE (fun _ h => by first | exact h | exact hpPop h (by simp only; omega) | exact hpPop (hpPop h (by simp only; omega)) (by simp only; omega)) ?_
          refine Mt.eff2 (i := 5) (j := 7) (by decide +kernel) (by exact rfl) (by exact rfl) ?_ ?_
          · apply Wl.callQ
            exact rfl
            (repeat (first | exact Evs.nil | apply Evs.cons rfl))
            (intro wq hq; refine (modInP (hV.hp hq (by apply Off.of; simp <;> omega)) ha2 hqe).mono ?_; rintro e wr ⟨rfl, hr⟩; exact ⟨rfl, hq.keep hr⟩)
            apply Wl.nil
            refine Mt.backE (fun _ h => by first | exact h | exact hpPop h (by simp only; omega) | exact hpPop (hpPop h (by simp only; omega)) (by simp only; omega)) ?_
            refine Mt.eff1 (i := 7) (by decide +kernel) (by exact rfl) ?_
            apply Wl.allocN
            exact rfl
            (first | exact z8 | exact z16 | exact z17 | exact z33 | exact z10)
            intro c hc ho
            apply Wl.nil
            refine Mt.backE (fun _ h => by first | exact h | exact hpPop h (by simp only; omega) | exact hpPop (hpPop h (by simp only; omega)) (by simp only; omega)) ?_
            refine Mt.eff1 (i := 8) (by decide +kernel) (by exact rfl) ?_
            apply Wl.storeW
            exact rfl
            exact rfl
            (repeat (first | apply HSet.here | apply HSet.there))
            exact rfl
            (first | exact cellsN_len _ _ _ | exact rfl)
            apply Wl.nil
            refine Mt.backE (fun _ h => by first | exact h | exact hpPop h (by simp only; omega) | exact hpPop (hpPop h (by simp only; omega)) (by simp only; omega)) ?_
            refine Mt.eff1 (i := 9) (by decide +kernel) (by exact rfl) ?_
            apply Wl.storeW
            exact rfl
            exact rfl
            (repeat (first | apply HSet.here | apply HSet.there))
            exact rfl
            (first | exact cellsN_len _ _ _ | exact rfl)
            apply Wl.nil
            refine Mt.backE (fun _ h => by first | exact h | exact hpPop h (by simp only; omega) | exact hpPop (hpPop h (by simp only; omega)) (by simp only; omega)) ?_
            refine Mt.toGt (by decide +kernel) ?_
            apply Gt.meet (_, _)
            rotate_left
            · (repeat (first | exact Sub.nil | apply Sub.cons rfl))
            · first | exact fun _ h => h | exact fun _ h => hpSwap h
            · exact ⟨by assumption, by assumption⟩
          · apply Wl.allocN
            exact rfl
            (first | exact z8 | exact z16 | exact z17 | exact z33 | exact z10)
            intro c hc ho
            apply Wl.nil
            refine Mt.backE (fun _ h => by first | exact h | exact hpPop h (by simp only; omega) | exact hpPop (hpPop h (by simp only; omega)) (by simp only; omega)) ?_
            refine Mt.eff1 (i := 5) (by decide +kernel) (by exact rfl) ?_
            apply Wl.callQ
            exact rfl
            (repeat (first | exact Evs.nil | apply Evs.cons rfl))
            (intro wq hq; refine (modInP (hV.hp hq (by apply Off.of; simp <;> omega)) ha2 hqe).mono ?_; rintro e wr ⟨rfl, hr⟩; exact ⟨rfl, hq.keep hr⟩)
            apply Wl.nil
            refine Mt.backE (fun _ h => by first | exact h | exact hpPop h (by simp only; omega) | exact hpPop (hpPop h (by simp only; omega)) (by simp only; omega)) ?_
            refine Mt.eff1 (i := 8) (by decide +kernel) (by exact rfl) ?_
            apply Wl.storeW
            exact rfl
            exact rfl
            (repeat (first | apply HSet.here | apply HSet.there))
            exact rfl
            (first | exact cellsN_len _ _ _ | exact rfl)
            apply Wl.nil
            refine Mt.backE (fun _ h => by first | exact h | exact hpPop h (by simp only; omega) | exact hpPop (hpPop h (by simp only; omega)) (by simp only; omega)) ?_
            refine Mt.eff1 (i := 9) (by decide +kernel) (by exact rfl) ?_
            apply Wl.storeW
            exact rfl
            exact rfl
            (repeat (first | apply HSet.here | apply HSet.there))
            exact rfl
            (first | exact cellsN_len _ _ _ | exact rfl)
            apply Wl.nil
            refine Mt.backE (fun _ h => by first | exact h | exact hpPop h (by simp only; omega) | exact hpPop (hpPop h (by simp only; omega)) (by simp only; omega)) ?_
            refine Mt.toGt (by decide +kernel) ?_
            apply Gt.meet (_, _)
            rotate_left
            · (repeat (first | exact Sub.nil | apply Sub.cons rfl))
            · first | exact fun _ h => h | exact fun _ h => hpSwap h
            · exact ⟨by assumption, by assumption⟩
        · apply Wl.allocN
          exact rfl
          (first | exact z8 | exact z16 | exact z17 | exact z33 | exact z10)
          intro c hc ho
          apply Wl.nil
          refine Mt.backE (fun _ h => by first | exact h | exact hpPop h (by simp only; omega) | exact hpPop (hpPop h (by simp only; omega)) (by simp only; omega)) ?_
          refine Mt.eff1 (i := 2) (by decide +kernel) (by exact rfl) ?_
          apply Wl.callQ
          exact rfl
          (repeat (first | exact Evs.nil | apply Evs.cons rfl))
          (intro wq hq; refine (modInP (hV.hp hq (by apply Off.of; simp <;> omega)) ha hpe).mono ?_; rintro e wr ⟨rfl, hr⟩; exact ⟨rfl, hq.keep hr⟩)
          apply Wl.nil
          refine Mt.backE (fun _ h => by first | exact h | exact hpPop h (by simp only; omega) | exact hpPop (hpPop h (by simp only; omega)) (by simp only; omega)) ?_
          refine Mt.eff1 (i := 5) (by decide +kernel) (by exact rfl) ?_
          apply Wl.callQ
          exact rfl
          (repeat (first | exact Evs.nil | apply Evs.cons rfl))
          (intro wq hq; refine (modInP (hV.hp hq (by apply Off.of; simp <;> omega)) ha2 hqe).mono ?_; rintro e wr ⟨rfl, hr⟩; exact ⟨rfl, hq.keep hr⟩)
          apply Wl.nil
          refine Mt.backE (fun _ h => by first | exact h | exact hpPop h (by simp only; omega) | exact hpPop (hpPop h (by simp only; omega)) (by simp only; omega)) ?_
          refine Mt.eff1 (i := 8) (by decide +kernel) (by exact rfl) ?_
          apply Wl.storeW
          exact rfl
          exact rfl
          (repeat (first | apply HSet.here | apply HSet.there))
          exact rfl
          (first | exact cellsN_len _ _ _ | exact rfl)
          apply Wl.nil
          refine Mt.backE (fun _ h => by first | exact h | exact hpPop h (by simp only; omega) | exact hpPop (hpPop h (by simp only; omega)) (by simp only; omega)) ?_
          refine Mt.eff1 (i := 9) (by decide +kernel) (by exact rfl) ?_
          apply Wl.storeW
          exact rfl
          exact rfl
          (repeat (first | apply HSet.here | apply HSet.there))
          exact rfl
          (first | exact cellsN_len _ _ _ | exact rfl)
          apply Wl.nil
          refine Mt.backE (fun _ h => by first | exact h | exact hpPop h (by simp only; omega) | exact hpPop (hpPop h (by simp only; omega)) (by simp only; omega)) ?_
          refine Mt.toGt (by decide +kernel) ?_
          apply Gt.meet (_, _)
          rotate_left
          · (repeat (first | exact Sub.nil | apply Sub.cons rfl))
          · first | exact fun _ h => h | exact fun _ h => hpSwap h
          · exact ⟨by assumption, by assumption⟩
      · apply Wl.allocN
        exact rfl
        (first | exact z8 | exact z16 | exact z17 | exact z33 | exact z10)
        intro c hc ho
        apply Wl.nil
        refine Mt.backE (fun _ h => by first | exact h | exact hpPop h (by simp only; omega) | exact hpPop (hpPop h (by simp only; omega)) (by simp only; omega)) ?_
        refine Mt.eff2 (i := 2) (j := 6) (by decide +kernel) (by exact rfl) (by exact rfl) ?_ ?_
        · apply Wl.callQ
          exact rfl
          (repeat (first | exact Evs.nil | apply Evs.cons rfl))
          (intro wq hq; refine (modInP (hV.hp hq (by apply Off.of; simp <;> omega)) ha hpe).mono ?_; rintro e wr ⟨rfl, hr⟩; exact ⟨rfl, hq.keep hr⟩)
          apply Wl.nil
          refine Mt.backE (fun _ h => by first | exact h | exact hpPop h (by simp only; omega) | exact hpPop (hpPop h (by simp only; omega)) (by simp only; omega)) ?_
          refine Mt.eff2 (i := 5) (j := 6) (by decide +kernel) (by exact rfl) (by exact rfl) ?_ ?_
          · apply Wl.callQ
            exact rfl
            (repeat (first | exact Evs.nil | apply Evs.cons rfl))
            (intro wq hq; refine (modInP (hV.hp hq (by apply Off.of; simp <;> omega)) ha2 hqe).mono ?_; rintro e wr ⟨rfl, hr⟩; exact ⟨rfl, hq.keep hr⟩)
            apply Wl.nil
            refine Mt.backE (fun _ h => by first | exact h | exact hpPop h (by simp only; omega) | exact hpPop (hpPop h (by simp only; omega)) (by simp only; omega)) ?_
            refine Mt.eff1 (i := 6) (by decide +kernel) (by exact rfl) ?_
            apply Wl.allocN
            exact rfl
            (first | exact z8 | exact z16 | exact z17 | exact z33 | exact z10)
            intro c hc ho
            apply Wl.nil
            refine Mt.backE (fun _ h => by first | exact h | exact hpPop h (by simp only; omega) | exact hpPop (hpPop h (by simp only; omega)) (by simp only; omega)) ?_
            refine Mt.eff1 (i := 8) (by decide +kernel) (by exact rfl) ?_
            apply Wl.storeW
            exact rfl
            exact rfl
            (repeat (first | apply HSet.here | apply HSet.there))
            exact rfl
            (first | exact cellsN_len _ _ _ | exact rfl)
            apply Wl.nil
            refine Mt.backE (fun _ h => by first | exact h | exact hpPop h (by simp only; omega) | exact hpPop (hpPop h (by simp only; omega)) (by simp only; omega)) ?_
            refine Mt.eff1 (i := 9) (by decide +kernel) (by exact rfl) ?_
            apply Wl.storeW
            exact rfl
            exact rfl
            (repeat (first | apply HSet.here | apply HSet.there))
            exact rfl
            (first | exact cellsN_len _ _ _ | exact rfl)
            apply Wl.nil
            refine Mt.backE (fun _ h => by first | exact h | exact hpPop h (by simp only; omega) | exact hpPop (hpPop h (by simp only; omega)) (by simp only; omega)) ?_
            refine Mt.toGt (by decide +kernel) ?_
            apply Gt.meet (_, _)
            rotate_left
            · (repeat (first | exact Sub.nil | apply Sub.cons rfl))
            · first | exact fun _ h => h | exact fun _ h => hpSwap h
            · exact ⟨by assumption, by assumption⟩
          · apply Wl.allocN
            exact rfl
            (first | exact z8 | exact z16 | exact z17 | exact z33 | exact z10)
            intro c hc ho
            apply Wl.nil
            refine Mt.backE (fun _ h => by first | exact h | exact hpPop h (by simp only; omega) | exact hpPop (hpPop h (by simp only; omega)) (by simp only; omega)) ?_
            refine Mt.eff1 (i := 5) (by decide +kernel) (by exact rfl) ?_
            apply Wl.callQ
            exact rfl
            (repeat (first | exact Evs.nil | apply Evs.cons rfl))
            (intro wq hq; refine (modInP (hV.hp hq (by apply Off.of; simp <;> omega)) ha2 hqe).mono ?_; rintro e wr ⟨rfl, hr⟩; exact ⟨rfl, hq.keep hr⟩)
            apply Wl.nil
            refine Mt.backE (fun _ h => by first | exact h | exact hpPop h (by simp only; omega) | exact hpPop (hpPop h (by simp only; omega)) (by simp only; omega)) ?_
            refine Mt.eff1 (i := 8) (by decide +kernel) (by exact rfl) ?_
            apply Wl.storeW
            exact rfl
            exact rfl
            (repeat (first | apply HSet.here | apply HSet.there))
            exact rfl
            (first | exact cellsN_len _ _ _ | exact rfl)
            apply Wl.nil
            refine Mt.backE (fun _ h => by first | exact h | exact hpPop h (by simp only; omega) | exact hpPop (hpPop h (by simp only; omega)) (by simp only; omega)) ?_
            refine Mt.eff1 (i := 9) (by decide +kernel) (by exact rfl) ?_
            apply Wl.storeW
            exact rfl
            exact rfl
            (repeat (first | apply HSet.here | apply HSet.there))
            exact rfl
            (first | exact cellsN_len _ _ _ | exact rfl)
            apply Wl.nil
            refine Mt.backE (fun _ h => by first | exact h | exact hpPop h (by simp only; omega) | exact hpPop (hpPop h (by simp only; omega)) (by simp only; omega)) ?_
            refine Mt.toGt (by decide +kernel) ?_
            apply Gt.meet (_, _)
            rotate_left
            · (repeat (first | exact Sub.nil | apply Sub.cons rfl))
            · first | exact fun _ h => h | exact fun _ h => hpSwap h
            · exact ⟨by assumption, by assumption⟩
        · apply Wl.allocN
          exact rfl
          (first | exact z8 | exact z16 | exact z17 | exact z33 | exact z10)
          intro c hc ho
          apply Wl.nil
          refine Mt.backE (fun _ h => by first | exact h | exact hpPop h (by simp only; omega) | exact hpPop (hpPop h (by simp only; omega)) (by simp only; omega)) ?_
          refine Mt.eff1 (i := 2) (by decide +kernel) (by exact rfl) ?_
          apply Wl.callQ
          exact rfl
          (repeat (first | exact Evs.nil | apply Evs.cons rfl))
          (intro wq hq; refine (modInP (hV.hp hq (by apply Off.of; simp <;> omega)) ha hpe).mono ?_; rintro e wr ⟨rfl, hr⟩; exact ⟨rfl, hq.keep hr⟩)
          apply Wl.nil
          refine Mt.backE (fun _ h => by first | exact h | exact hpPop h (by simp only; omega) | exact hpPop (hpPop h (by simp only; omega)) (by simp only; omega)) ?_
          refine Mt.eff1 (i := 5) (by decide +kernel) (by exact rfl) ?_
          apply Wl.callQ
          exact rfl
          (repeat (first | exact Evs.nil | apply Evs.cons rfl))
          (intro wq hq; refine (modInP (hV.hp hq (by apply Off.of; simp <;> omega)) ha2 hqe).mono ?_; rintro e wr ⟨rfl, hr⟩; exact ⟨rfl, hq.keep hr⟩)
          apply Wl.nil
          refine Mt.backE (fun _ h => by first | exact h | exact hpPop h (by simp only; omega) | exact hpPop (hpPop h (by simp only; omega)) (by simp only; omega)) ?_
          refine Mt.eff1 (i := 8) (by decide +kernel) (by exact rfl) ?_
          apply Wl.storeW
          exact rfl
          exact rfl
          (repeat (first | apply HSet.here | apply HSet.there))
          exact rfl
          (first | exact cellsN_len _ _ _ | exact rfl)
          apply Wl.nil
          refine Mt.backE (fun _ h => by first | exact h | exact hpPop h (by simp only; omega) | exact hpPop (hpPop h (by simp only; omega)) (by simp only; omega)) ?_
          refine Mt.eff1 (i := 9) (by decide +kernel) (by exact rfl) ?_
          apply Wl.storeW
          exact rfl
          exact rfl
          (repeat (first | apply HSet.here | apply HSet.there))
          exact rfl
          (first | exact cellsN_len _ _ _ | exact rfl)
          apply Wl.nil
          refine Mt.backE (fun _ h => by first | exact h | exact hpPop h (by simp only; omega) | exact hpPop (hpPop h (by simp only; omega)) (by simp only; omega)) ?_
          refine Mt.toGt (by decide +kernel) ?_
          apply Gt.meet (_, _)
          rotate_left
          · (repeat (first | exact Sub.nil | apply Sub.cons rfl))
          · first | exact fun _ h => h | exact fun _ h => hpSwap h
          · exact ⟨by assumption, by assumption⟩
    rintro ⟨c9, c10⟩ ⟨h9, h10⟩
    simp only at h9 h10 ⊢
    have hpW : p < W256 := Nat.lt_trans hpm hm
    have hqW : q < W256 := Nat.lt_trans hqm hm
    repeat' (first | (apply Wl.loadW; exact rfl; exact rfl; (repeat (first | exact List.Mem.head _ | apply List.Mem.tail)); exact rfl) | (apply Wl.move; exact rfl; exact rfl) | (apply St.seq) | (apply St.region) | (apply Wl.splitP; exact rfl; exact rfl; all_goals (intros; try (exfalso; omega))) | (apply Wl.splitB; exact rfl; exact rfl; all_goals intros) | (apply St.condP; exact rfl; all_goals (intros; try (exfalso; omega))) | (apply St.condB; exact rfl; all_goals intros))
    apply Wl.callQ
    exact rfl
    (repeat (first | exact Evs.nil | apply Evs.cons rfl))
    · intro wq hq
      refine (modAdd b m p q wq (hV.hp hq (by apply Off.of; simp <;> omega)).mod hm hpm hqm).mono ?_
      rintro e wr ⟨rfl, hr⟩
      exact ⟨rfl, hq.keep hr⟩
    repeat' (first | (apply Wl.storeW; exact rfl; exact rfl; (repeat (first | apply HSet.here | apply HSet.there)); exact rfl; (first | exact cellsN_len _ _ _ | exact rfl)) | (apply Wl.allocN; exact rfl; (first | exact z8 | exact z16 | exact z17 | exact z33 | exact z10); intro c hc ho) | (apply Wl.nil) | (apply St.seq) | (apply Gt.next) | (apply Wl.splitP; exact rfl; exact rfl; all_goals (intros; try (exfalso; omega))) | (apply Wl.splitB; exact rfl; exact rfl; all_goals intros) | (apply St.condP; exact rfl; all_goals (intros; try (exfalso; omega))) | (apply St.condB; exact rfl; all_goals intros))
    generalize c = c11 at *
    have h11 : wr.heap.size ≤ c11 := by assumption
    refine St.tree (Hp wr [⟨c11, cellsN .u32 8 (dg W32 ((p + q) % m)), 24⟩, ⟨c10, cellsN .u32 8 (dg W32 (q)), 24⟩, ⟨c9, cellsN .u32 8 (dg W32 (p)), 24⟩, ⟨c5, cellsN .u32 8 (dg W32 (a2)), 24⟩, ⟨c4, cellsN .u32 8 (dg W32 (a)), 24⟩, ⟨c3, cellsN .u32 8 (dg W32 (m)), 24⟩]) mixed (fun _ h => ⟨Hp.drew h, Hp.drew h⟩) ?_
    refine Mt.pure 0 (by decide +kernel) (by exact rfl) (by exact rfl) (by decide +kernel) (by decide +kernel) ?_
    repeat' (first | (apply Wl.loadW; exact rfl; exact rfl; (repeat (first | exact List.Mem.head _ | apply List.Mem.tail)); exact rfl) | (apply Wl.nilM) | (apply Wl.splitP; exact rfl; exact rfl; all_goals (intros; try (exfalso; omega))) | (apply Wl.splitB; exact rfl; exact rfl; all_goals intros) | (apply St.condP; exact rfl; all_goals (intros; try (exfalso; omega))) | (apply St.condB; exact rfl; all_goals intros))
    apply Mt.back
    refine Mt.pure 1 (by decide +kernel) (by exact rfl) (by exact rfl) (by decide +kernel) (by decide +kernel) ?_
    repeat' (first | (apply Wl.loadW; exact rfl; exact rfl; (repeat (first | exact List.Mem.head _ | apply List.Mem.tail)); exact rfl) | (apply Wl.nilM) | (apply Wl.splitP; exact rfl; exact rfl; all_goals (intros; try (exfalso; omega))) | (apply Wl.splitB; exact rfl; exact rfl; all_goals intros) | (apply St.condP; exact rfl; all_goals (intros; try (exfalso; omega))) | (apply St.condB; exact rfl; all_goals intros))
    apply Mt.back
    refine Mt.pure 2 (by decide +kernel) (by exact rfl) (by exact rfl) (by decide +kernel) (by decide +kernel) ?_
    repeat' (first | (apply Wl.loadW; exact rfl; exact rfl; (repeat (first | exact List.Mem.head _ | apply List.Mem.tail)); exact rfl) | (apply Wl.nilM) | (apply Wl.splitP; exact rfl; exact rfl; all_goals (intros; try (exfalso; omega))) | (apply Wl.splitB; exact rfl; exact rfl; all_goals intros) | (apply St.condP; exact rfl; all_goals (intros; try (exfalso; omega))) | (apply St.condB; exact rfl; all_goals intros))
    apply Mt.back
    refine Mt.pure 3 (by decide +kernel) (by exact rfl) (by exact rfl) (by decide +kernel) (by decide +kernel) ?_
    repeat' (first | (apply Wl.move; exact rfl; exact rfl) | (apply Wl.nilM) | (apply Wl.splitP; exact rfl; exact rfl; all_goals (intros; try (exfalso; omega))) | (apply Wl.splitB; exact rfl; exact rfl; all_goals intros) | (apply St.condP; exact rfl; all_goals (intros; try (exfalso; omega))) | (apply St.condB; exact rfl; all_goals intros))
    apply Mt.back
    refine Mt.pure 4 (by decide +kernel) (by exact rfl) (by exact rfl) (by decide +kernel) (by decide +kernel) ?_
    repeat' (first | (apply Wl.loadW; exact rfl; exact rfl; (repeat (first | exact List.Mem.head _ | apply List.Mem.tail)); exact rfl) | (apply Wl.nilM) | (apply Wl.splitP; exact rfl; exact rfl; all_goals (intros; try (exfalso; omega))) | (apply Wl.splitB; exact rfl; exact rfl; all_goals intros) | (apply St.condP; exact rfl; all_goals (intros; try (exfalso; omega))) | (apply St.condB; exact rfl; all_goals intros))
    apply Mt.back
    refine Mt.pure 5 (by decide +kernel) (by exact rfl) (by exact rfl) (by decide +kernel) (by decide +kernel) ?_
    repeat' (first | (apply Wl.loadW; exact rfl; exact rfl; (repeat (first | exact List.Mem.head _ | apply List.Mem.tail)); exact rfl) | (apply Wl.nilM) | (apply Wl.splitP; exact rfl; exact rfl; all_goals (intros; try (exfalso; omega))) | (apply Wl.splitB; exact rfl; exact rfl; all_goals intros) | (apply St.condP; exact rfl; all_goals (intros; try (exfalso; omega))) | (apply St.condB; exact rfl; all_goals intros))
    apply Mt.back
    refine Mt.pure 7 (by decide +kernel) (by exact rfl) (by exact rfl) (by decide +kernel) (by decide +kernel) ?_
    repeat' (first | (apply Wl.move; exact rfl; exact rfl) | (apply Wl.nilM) | (apply Wl.splitP; exact rfl; exact rfl; all_goals (intros; try (exfalso; omega))) | (apply Wl.splitB; exact rfl; exact rfl; all_goals intros) | (apply St.condP; exact rfl; all_goals (intros; try (exfalso; omega))) | (apply St.condB; exact rfl; all_goals intros))
    apply Mt.back
    refine Mt.pure 8 (by decide +kernel) (by exact rfl) (by exact rfl) (by decide +kernel) (by decide +kernel) ?_
    repeat' (first | (apply Wl.loadW; exact rfl; exact rfl; (repeat (first | exact List.Mem.head _ | apply List.Mem.tail)); exact rfl) | (apply Wl.nilM) | (apply Wl.splitP; exact rfl; exact rfl; all_goals (intros; try (exfalso; omega))) | (apply Wl.splitB; exact rfl; exact rfl; all_goals intros) | (apply St.condP; exact rfl; all_goals (intros; try (exfalso; omega))) | (apply St.condB; exact rfl; all_goals intros))
    apply Mt.back
    refine Mt.pure 9 (by decide +kernel) (by exact rfl) (by exact rfl) (by decide +kernel) (by decide +kernel) ?_
    repeat' (first | (apply Wl.loadW; exact rfl; exact rfl; (repeat (first | exact List.Mem.head _ | apply List.Mem.tail)); exact rfl) | (apply Wl.nilM) | (apply Wl.splitP; exact rfl; exact rfl; all_goals (intros; try (exfalso; omega))) | (apply Wl.splitB; exact rfl; exact rfl; all_goals intros) | (apply St.condP; exact rfl; all_goals (intros; try (exfalso; omega))) | (apply St.condB; exact rfl; all_goals intros))
    apply Mt.back
    refine Mt.pure 11 (by decide +kernel) (by exact rfl) (by exact rfl) (by decide +kernel) (by decide +kernel) ?_
    repeat' (first | (apply Wl.move; exact rfl; exact rfl) | (apply Wl.nilM) | (apply Wl.splitP; exact rfl; exact rfl; all_goals (intros; try (exfalso; omega))) | (apply Wl.splitB; exact rfl; exact rfl; all_goals intros) | (apply St.condP; exact rfl; all_goals (intros; try (exfalso; omega))) | (apply St.condB; exact rfl; all_goals intros))
    apply Mt.back
    refine Mt.pure 13 (by decide +kernel) (by exact rfl) (by exact rfl) (by decide +kernel) (by decide +kernel) ?_
    repeat' (first | (apply Wl.move; exact rfl; exact rfl) | (apply Wl.nilM) | (apply Wl.splitP; exact rfl; exact rfl; all_goals (intros; try (exfalso; omega))) | (apply Wl.splitB; exact rfl; exact rfl; all_goals intros) | (apply St.condP; exact rfl; all_goals (intros; try (exfalso; omega))) | (apply St.condB; exact rfl; all_goals intros))
    apply Mt.back
    refine Mt.pure 14 (by decide +kernel) (by exact rfl) (by exact rfl) (by decide +kernel) (by decide +kernel) ?_
    repeat' (first | (apply Wl.loadW; exact rfl; exact rfl; (repeat (first | exact List.Mem.head _ | apply List.Mem.tail)); exact rfl) | (apply Wl.nilM) | (apply Wl.splitP; exact rfl; exact rfl; all_goals (intros; try (exfalso; omega))) | (apply Wl.splitB; exact rfl; exact rfl; all_goals intros) | (apply St.condP; exact rfl; all_goals (intros; try (exfalso; omega))) | (apply St.condB; exact rfl; all_goals intros))
    apply Mt.back
    refine Mt.pure 16 (by decide +kernel) (by exact rfl) (by exact rfl) (by decide +kernel) (by decide +kernel) ?_
    repeat' (first | (apply Wl.move; exact rfl; exact rfl) | (apply Wl.nilM) | (apply Wl.splitP; exact rfl; exact rfl; all_goals (intros; try (exfalso; omega))) | (apply Wl.splitB; exact rfl; exact rfl; all_goals intros) | (apply St.condP; exact rfl; all_goals (intros; try (exfalso; omega))) | (apply St.condB; exact rfl; all_goals intros))
    apply Mt.back
    refine Mt.pure 17 (by decide +kernel) (by exact rfl) (by exact rfl) (by decide +kernel) (by decide +kernel) ?_
    repeat' (first | (apply Wl.loadW; exact rfl; exact rfl; (repeat (first | exact List.Mem.head _ | apply List.Mem.tail)); exact rfl) | (apply Wl.nilM) | (apply Wl.splitP; exact rfl; exact rfl; all_goals (intros; try (exfalso; omega))) | (apply Wl.splitB; exact rfl; exact rfl; all_goals intros) | (apply St.condP; exact rfl; all_goals (intros; try (exfalso; omega))) | (apply St.condB; exact rfl; all_goals intros))
    apply Mt.back
    refine Mt.pure 18 (by decide +kernel) (by exact rfl) (by exact rfl) (by decide +kernel) (by decide +kernel) ?_
    repeat' (first | (apply Wl.loadW; exact rfl; exact rfl; (repeat (first | exact List.Mem.head _ | apply List.Mem.tail)); exact rfl) | (apply Wl.nilM) | (apply Wl.splitP; exact rfl; exact rfl; all_goals (intros; try (exfalso; omega))) | (apply Wl.splitB; exact rfl; exact rfl; all_goals intros) | (apply St.condP; exact rfl; all_goals (intros; try (exfalso; omega))) | (apply St.condB; exact rfl; all_goals intros))
    apply Mt.back
    refine Mt.pure 22 (by decide +kernel) (by exact rfl) (by exact rfl) (by decide +kernel) (by decide +kernel) ?_
    repeat' (first | (apply Wl.move; exact rfl; exact rfl) | (apply Wl.nilM) | (apply Wl.splitP; exact rfl; exact rfl; all_goals (intros; try (exfalso; omega))) | (apply Wl.splitB; exact rfl; exact rfl; all_goals intros) | (apply St.condP; exact rfl; all_goals (intros; try (exfalso; omega))) | (apply St.condB; exact rfl; all_goals intros))
    apply Mt.back
    refine Mt.eff1 (i := 6) (by decide +kernel) (by exact rfl) ?_
    apply Wl.callQ
    exact rfl
    (repeat (first | exact Evs.nil | apply Evs.cons rfl))
    · intro wq hq
      refine (modSub b m p q wq (hV.hp hq (by apply Off.of; simp <;> omega)).mod hm hpm hqm).mono ?_
      rintro e wr ⟨rfl, hr⟩
      exact ⟨rfl, hq.keep hr⟩
    repeat' (first | (apply Wl.nil) | (apply Wl.splitP; exact rfl; exact rfl; all_goals (intros; try (exfalso; omega))) | (apply Wl.splitB; exact rfl; exact rfl; all_goals intros) | (apply St.condP; exact rfl; all_goals (intros; try (exfalso; omega))) | (apply St.condB; exact rfl; all_goals intros))
    refine Mt.backE (fun _ h => by first | exact h | exact hpPop h (by simp only; omega)) ?_
    refine Mt.eff1 (i := 10) (by decide +kernel) (by exact rfl) ?_
    apply Wl.callQ
    exact rfl
    (repeat (first | exact Evs.nil | apply Evs.cons rfl))
    · intro wq hq
      refine (modTimes' (hV.hp hq (by apply Off.of; simp <;> omega)) hpW hqm).mono ?_
      rintro e wr ⟨rfl, hr⟩
      exact ⟨rfl, hq.keep hr⟩
    repeat' (first | (apply Wl.nil) | (apply Wl.splitP; exact rfl; exact rfl; all_goals (intros; try (exfalso; omega))) | (apply Wl.splitB; exact rfl; exact rfl; all_goals intros) | (apply St.condP; exact rfl; all_goals (intros; try (exfalso; omega))) | (apply St.condB; exact rfl; all_goals intros))
    refine Mt.backE (fun _ h => by first | exact h | exact hpPop h (by simp only; omega)) ?_
    refine Mt.eff1 (i := 12) (by decide +kernel) (by exact rfl) ?_
    apply Wl.callQ
    exact rfl
    (repeat (first | exact Evs.nil | apply Evs.cons rfl))
    · intro wq hq
      refine (modOne b m wq (hV.hp hq (by apply Off.of; simp <;> omega))).mono ?_
      rintro e wr ⟨rfl, hr⟩
      exact ⟨rfl, hq.keep hr⟩
    repeat' (first | (apply Wl.nil) | (apply Wl.splitP; exact rfl; exact rfl; all_goals (intros; try (exfalso; omega))) | (apply Wl.splitB; exact rfl; exact rfl; all_goals intros) | (apply St.condP; exact rfl; all_goals (intros; try (exfalso; omega))) | (apply St.condB; exact rfl; all_goals intros))
    refine Mt.backE (fun _ h => by first | exact h | exact hpPop h (by simp only; omega)) ?_
    refine Mt.eff1 (i := 15) (by decide +kernel) (by exact rfl) ?_
    apply Wl.callQ
    exact rfl
    (repeat (first | exact Evs.nil | apply Evs.cons rfl))
    · intro wq hq
      refine (modReduce b m a wq (hV.hp hq (by apply Off.of; simp <;> omega)) ha).mono ?_
      rintro e wr ⟨rfl, hr⟩
      exact ⟨rfl, hq.keep hr⟩
    repeat' (first | (apply Wl.nil) | (apply Wl.splitP; exact rfl; exact rfl; all_goals (intros; try (exfalso; omega))) | (apply Wl.splitB; exact rfl; exact rfl; all_goals intros) | (apply St.condP; exact rfl; all_goals (intros; try (exfalso; omega))) | (apply St.condB; exact rfl; all_goals intros))
    refine Mt.backE (fun _ h => by first | exact h | exact hpPop h (by simp only; omega)) ?_
    refine Mt.eff1 (i := 19) (by decide +kernel) (by exact rfl) ?_
    apply Wl.callQ
    exact rfl
    (repeat (first | exact Evs.nil | apply Evs.cons rfl))
    · intro wq hq
      refine (modMul b m a a2 wq (hV.hp hq (by apply Off.of; simp <;> omega)) ha ha2).mono ?_
      rintro e wr ⟨rfl, hr⟩
      exact ⟨rfl, hq.keep hr⟩
    repeat' (first | (apply Wl.nil) | (apply Wl.splitP; exact rfl; exact rfl; all_goals (intros; try (exfalso; omega))) | (apply Wl.splitB; exact rfl; exact rfl; all_goals intros) | (apply St.condP; exact rfl; all_goals (intros; try (exfalso; omega))) | (apply St.condB; exact rfl; all_goals intros))
    refine Mt.backE (fun _ h => by first | exact h | exact hpPop h (by simp only; omega)) ?_
    refine Mt.eff1 (i := 20) (by decide +kernel) (by exact rfl) ?_
    apply Wl.lit
    · exact rfl
    · (repeat (first | exact Parts.nil | apply Parts.cons rfl))
    · exact rfl
    · exact rfl
    · exact catp_cons (catp_cons (catp_cons (catp_cons (catp_cons (catp_cons (catp_cons (catp_cons .nil)))))))
    intro cl hcl hol
    repeat' (first | (apply Wl.nil) | (apply Wl.splitP; exact rfl; exact rfl; all_goals (intros; try (exfalso; omega))) | (apply Wl.splitB; exact rfl; exact rfl; all_goals intros) | (apply St.condP; exact rfl; all_goals (intros; try (exfalso; omega))) | (apply St.condB; exact rfl; all_goals intros))
    refine Mt.backE (fun _ h => by first | exact h | exact hpPop h (by simp only; omega)) ?_
    refine Mt.pure 21 (by decide +kernel) (by exact rfl) (by exact rfl) (by decide +kernel) (by decide +kernel) ?_
    repeat' (first | (apply Wl.len; exact rfl; exact rfl) | (apply Wl.nilM) | (apply Wl.splitP; exact rfl; exact rfl; all_goals (intros; try (exfalso; omega))) | (apply Wl.splitB; exact rfl; exact rfl; all_goals intros) | (apply St.condP; exact rfl; all_goals (intros; try (exfalso; omega))) | (apply St.condB; exact rfl; all_goals intros))
    apply Mt.back
    refine Mt.toGt (by decide +kernel) ?_
    have hL : ∀ x ∈ [p, q, (p + q) % m, (p + m - q) % m, p * q * rinv m % m, W256 % m, a % m, a * a2 % m], x < m := by
      intro x hx
      simp only [List.mem_cons, List.not_mem_nil, or_false] at hx
      rcases hx with rfl | rfl | rfl | rfl | rfl | rfl | rfl | rfl <;> first | assumption | exact hlt _
    repeat' (first | (apply St.block) | (apply Gt.next) | (apply Wl.splitP; exact rfl; exact rfl; all_goals (intros; try (exfalso; omega))) | (apply Wl.splitB; exact rfl; exact rfl; all_goals intros) | (apply St.condP; exact rfl; all_goals (intros; try (exfalso; omega))) | (apply St.condB; exact rfl; all_goals intros))
    refine St.loop (σ := Nat) (fun i => i ≤ 8)
      (fun i => [(3, mp c3), (4, mp c4), (5, mp c5), (6, .bool false), (7, mp b), (9, mp c9), (10, mp c10), (11, mp c11), (53, .slice (some ⟨cl, 0, none⟩) 8 8), (54, .int .i64 8), (55, .int .i64 i)])
      (fun i => Hp wr [⟨cl, [p, q, (p + q) % m, (p + m - q) % m, p * q * rinv m % m, W256 % m, a % m, a * a2 % m].flatMap d8f, 24⟩, ⟨c11, cellsN .u32 8 (dg W32 ((p + q) % m)), 24⟩, ⟨c10, cellsN .u32 8 (dg W32 (q)), 24⟩, ⟨c9, cellsN .u32 8 (dg W32 (p)), 24⟩, ⟨c5, cellsN .u32 8 (dg W32 (a2)), 24⟩, ⟨c4, cellsN .u32 8 (dg W32 (a)), 24⟩, ⟨c3, cellsN .u32 8 (dg W32 (m)), 24⟩])
      (fun i => 8 - i) 0 (by simp) (by (repeat (first | exact Sub.nil | apply Sub.cons rfl))) (fun _ h => h) ?_
    intro i hi8
    by_cases hil : i < 8
    · obtain ⟨x, hx⟩ : ∃ x, [p, q, (p + q) % m, (p + m - q) % m, p * q * rinv m % m, W256 % m, a % m, a * a2 % m][i]? = some x := ⟨_, List.getElem?_eq_getElem hil⟩
      have hxm := hL x (List.mem_of_getElem? hx)
      have hcmp : cmpN x m = -1 := if_pos hxm
      repeat' (first | (apply Wl.loadAH; exact rfl; exact rfl; (repeat (first | exact List.Mem.head _ | apply List.Mem.tail)); exact lsub_flat hx) | (apply Wl.loadW; exact rfl; exact rfl; (repeat (first | exact List.Mem.head _ | apply List.Mem.tail)); exact rfl) | (apply Wl.storeW; exact rfl; exact rfl; (repeat (first | apply HSet.here | apply HSet.there)); exact rfl; (first | exact cellsN_len _ _ _ | exact rfl)) | (apply Wl.allocN; exact rfl; (first | exact z8 | exact z16 | exact z17 | exact z33 | exact z10); intro c hc ho) | (apply Wl.lss; exact rfl; exact rfl; exact rfl) | (apply Wl.indexAddr; exact rfl; exact rfl; exact rfl; (constructor <;> omega)) | (apply Wl.nil) | (apply St.seq) | (apply St.block) | (apply St.region) | (apply St.skip) | (apply Gt.next) | (apply Wl.splitP; exact rfl; exact rfl; all_goals (intros; try (exfalso; omega))) | (apply Wl.splitB; exact rfl; exact rfl; all_goals intros) | (apply St.condP; exact rfl; all_goals (intros; try (exfalso; omega))) | (apply St.condB; exact rfl; all_goals intros))
      apply Wl.callQ
      exact rfl
      (repeat (first | exact Evs.nil | apply Evs.cons rfl))
      · intro wq hq
        refine (limbCompare x m (Nat.lt_trans hxm hm) hm wq).mono ?_
        rintro e wr ⟨rfl, hr⟩
        exact ⟨rfl, hq.keep hr⟩
      rw [hcmp]
      repeat' (first | (apply Wl.move; exact rfl; exact rfl) | (apply Wl.geq; exact rfl; exact rfl; exact rfl) | (apply Wl.addI; exact rfl; exact rfl; exact rfl; (constructor <;> omega)) | (apply Wl.nil) | (apply St.region) | (apply St.condF; exact rfl; (first | with_reducible rfl | with_reducible assumption | decide)) | (apply St.skip) | (apply Gt.next) | (apply Gt.inNormal) | (apply Wl.splitP; exact rfl; exact rfl; all_goals (intros; try (exfalso; omega))) | (apply Wl.splitB; exact rfl; exact rfl; all_goals intros) | (apply St.condP; exact rfl; all_goals (intros; try (exfalso; omega))) | (apply St.condB; exact rfl; all_goals intros))
      apply Gt.round (i + 1)
      rotate_left
      · omega
      · (repeat (first | exact Sub.nil | apply Sub.cons rfl))
      · exact fun _ h => hpPop h (by simp only; omega)
      · omega
    · have hie : i = 8 := by omega
      subst hie
      have r1 : p * q * rinv m % m = q * p * rinv m % m := by rw [Nat.mul_comm p q]
      have r2 : (p + q) % m * p * rinv m % m = (p * p * rinv m % m + q * p * rinv m % m) % m := law2 m p q
      have r3 : ((p + q) % m + m - q) % m = p := law3 hpm hqm
      have r4 : p * (W256 % m) * rinv m % m = p := law4 hodd hpm
      repeat' (first | (apply Wl.loadW; exact rfl; exact rfl; (repeat (first | exact List.Mem.head _ | apply List.Mem.tail)); exact rfl) | (apply Wl.move; exact rfl; exact rfl) | (apply Wl.lss; exact rfl; exact rfl; exact rfl) | (apply Wl.nil) | (apply St.seq) | (apply St.region) | (apply St.draw; exact mixed; (kernel_rfl); exact (fun _ h => Hp.drew h)) | (apply St.condF; exact rfl; (first | with_reducible rfl | with_reducible assumption | decide)) | (apply St.exit) | (apply Gt.next) | (apply Gt.thenExit) | (apply Gt.inExit) | (apply Wl.splitP; exact rfl; exact rfl; all_goals (intros; try (exfalso; omega))) | (apply Wl.splitB; exact rfl; exact rfl; all_goals intros) | (apply St.condP; exact rfl; all_goals (intros; try (exfalso; omega))) | (apply St.condB; exact rfl; all_goals intros))
      apply Wl.callQQ
      exact rfl
      (repeat (first | exact Evs.nil | apply Evs.cons rfl))
      · intro wq hq
        refine (modTimes' (hV.hp hq (by apply Off.of; simp <;> omega)) hpW hqm).mono ?_
        rintro e wr ⟨rfl, hr⟩
        exact ⟨rfl, hq.keep hr⟩
      repeat' (first | (apply Wl.loadW; exact rfl; exact rfl; (repeat (first | exact List.Mem.head _ | apply List.Mem.tail)); exact rfl) | (apply Wl.move; exact rfl; exact rfl) | (apply Wl.splitP; exact rfl; exact rfl; all_goals (intros; try (exfalso; omega))) | (apply Wl.splitB; exact rfl; exact rfl; all_goals intros) | (apply St.condP; exact rfl; all_goals (intros; try (exfalso; omega))) | (apply St.condB; exact rfl; all_goals intros))
      apply Wl.callQQ
      exact rfl
      (repeat (first | exact Evs.nil | apply Evs.cons rfl))
      · intro wq hq
        refine (modTimes' (hV.hp hq (by apply Off.of; simp <;> omega)) hqW hpm).mono ?_
        rintro e wr ⟨rfl, hr⟩
        exact ⟨rfl, hq.keep hr⟩
      repeat' (first | (apply Wl.eqlA (b := true); exact rfl; exact rfl; exact rfl; kernel_rfl; kernel_rfl; kernel_rfl; kernel_rfl; exact cell32 _ (dlt _); exact cell32 _ (dlt _); exact eqT (by first | rfl | assumption)) | (apply Wl.loadW; exact rfl; exact rfl; (repeat (first | exact List.Mem.head _ | apply List.Mem.tail)); exact rfl) | (apply Wl.move; exact rfl; exact rfl) | (apply Wl.on; exact rfl; exact rfl; (first | with_reducible rfl | with_reducible assumption | decide)) | (apply Wl.splitP; exact rfl; exact rfl; all_goals (intros; try (exfalso; omega))) | (apply Wl.splitB; exact rfl; exact rfl; all_goals intros) | (apply St.condP; exact rfl; all_goals (intros; try (exfalso; omega))) | (apply St.condB; exact rfl; all_goals intros))
      apply Wl.callQQ
      exact rfl
      (repeat (first | exact Evs.nil | apply Evs.cons rfl))
      · intro wq hq
        refine (modTimes' (hV.hp hq (by apply Off.of; simp <;> omega)) (hltW _) hpm).mono ?_
        rintro e wr ⟨rfl, hr⟩
        exact ⟨rfl, hq.keep hr⟩
      repeat' (first | (apply Wl.loadW; exact rfl; exact rfl; (repeat (first | exact List.Mem.head _ | apply List.Mem.tail)); exact rfl) | (apply Wl.move; exact rfl; exact rfl) | (apply Wl.on; exact rfl; exact rfl; (first | with_reducible rfl | with_reducible assumption | decide)) | (apply Wl.splitP; exact rfl; exact rfl; all_goals (intros; try (exfalso; omega))) | (apply Wl.splitB; exact rfl; exact rfl; all_goals intros) | (apply St.condP; exact rfl; all_goals (intros; try (exfalso; omega))) | (apply St.condB; exact rfl; all_goals intros))
      apply Wl.callQQ
      exact rfl
      (repeat (first | exact Evs.nil | apply Evs.cons rfl))
      · intro wq hq
        refine (modTimes' (hV.hp hq (by apply Off.of; simp <;> omega)) hpW hpm).mono ?_
        rintro e wr ⟨rfl, hr⟩
        exact ⟨rfl, hq.keep hr⟩
      repeat' (first | (apply Wl.loadW; exact rfl; exact rfl; (repeat (first | exact List.Mem.head _ | apply List.Mem.tail)); exact rfl) | (apply Wl.move; exact rfl; exact rfl) | (apply Wl.on; exact rfl; exact rfl; (first | with_reducible rfl | with_reducible assumption | decide)) | (apply Wl.splitP; exact rfl; exact rfl; all_goals (intros; try (exfalso; omega))) | (apply Wl.splitB; exact rfl; exact rfl; all_goals intros) | (apply St.condP; exact rfl; all_goals (intros; try (exfalso; omega))) | (apply St.condB; exact rfl; all_goals intros))
      apply Wl.callQQ
      exact rfl
      (repeat (first | exact Evs.nil | apply Evs.cons rfl))
      · intro wq hq
        refine (modTimes' (hV.hp hq (by apply Off.of; simp <;> omega)) hqW hpm).mono ?_
        rintro e wr ⟨rfl, hr⟩
        exact ⟨rfl, hq.keep hr⟩
      repeat' (first | (apply Wl.on; exact rfl; exact rfl; (first | with_reducible rfl | with_reducible assumption | decide)) | (apply Wl.splitP; exact rfl; exact rfl; all_goals (intros; try (exfalso; omega))) | (apply Wl.splitB; exact rfl; exact rfl; all_goals intros) | (apply St.condP; exact rfl; all_goals (intros; try (exfalso; omega))) | (apply St.condB; exact rfl; all_goals intros))
      apply Wl.callQQ
      exact rfl
      (repeat (first | exact Evs.nil | apply Evs.cons rfl))
      · intro wq hq
        refine (modAdd b m _ _ wq (hV.hp hq (by apply Off.of; simp <;> omega)).mod hm (hlt _) (hlt _)).mono ?_
        rintro e wr ⟨rfl, hr⟩
        exact ⟨rfl, hq.keep hr⟩
      repeat' (first | (apply Wl.eqlA (b := true); exact rfl; exact rfl; exact rfl; kernel_rfl; kernel_rfl; kernel_rfl; kernel_rfl; exact cell32 _ (dlt _); exact cell32 _ (dlt _); exact eqT (by first | rfl | assumption)) | (apply Wl.loadW; exact rfl; exact rfl; (repeat (first | exact List.Mem.head _ | apply List.Mem.tail)); exact rfl) | (apply Wl.move; exact rfl; exact rfl) | (apply Wl.on; exact rfl; exact rfl; (first | with_reducible rfl | with_reducible assumption | decide)) | (apply Wl.pickT; exact rfl; exact rfl; (first | with_reducible rfl | with_reducible assumption | decide); exact rfl) | (apply Wl.splitP; exact rfl; exact rfl; all_goals (intros; try (exfalso; omega))) | (apply Wl.splitB; exact rfl; exact rfl; all_goals intros) | (apply St.condP; exact rfl; all_goals (intros; try (exfalso; omega))) | (apply St.condB; exact rfl; all_goals intros))
      apply Wl.callQQ
      exact rfl
      (repeat (first | exact Evs.nil | apply Evs.cons rfl))
      · intro wq hq
        refine (modSub b m _ q wq (hV.hp hq (by apply Off.of; simp <;> omega)).mod hm (hlt _) hqm).mono ?_
        rintro e wr ⟨rfl, hr⟩
        exact ⟨rfl, hq.keep hr⟩
      repeat' (first | (apply Wl.eqlA (b := true); exact rfl; exact rfl; exact rfl; kernel_rfl; kernel_rfl; kernel_rfl; kernel_rfl; exact cell32 _ (dlt _); exact cell32 _ (dlt _); exact eqT (by first | rfl | assumption)) | (apply Wl.loadW; exact rfl; exact rfl; (repeat (first | exact List.Mem.head _ | apply List.Mem.tail)); exact rfl) | (apply Wl.move; exact rfl; exact rfl) | (apply Wl.on; exact rfl; exact rfl; (first | with_reducible rfl | with_reducible assumption | decide)) | (apply Wl.pickT; exact rfl; exact rfl; (first | with_reducible rfl | with_reducible assumption | decide); exact rfl) | (apply Wl.splitP; exact rfl; exact rfl; all_goals (intros; try (exfalso; omega))) | (apply Wl.splitB; exact rfl; exact rfl; all_goals intros) | (apply St.condP; exact rfl; all_goals (intros; try (exfalso; omega))) | (apply St.condB; exact rfl; all_goals intros))
      apply Wl.callQQ
      exact rfl
      (repeat (first | exact Evs.nil | apply Evs.cons rfl))
      · intro wq hq
        refine (modOne b m wq (hV.hp hq (by apply Off.of; simp <;> omega))).mono ?_
        rintro e wr ⟨rfl, hr⟩
        exact ⟨rfl, hq.keep hr⟩
      repeat' (first | (apply Wl.on; exact rfl; exact rfl; (first | with_reducible rfl | with_reducible assumption | decide)) | (apply Wl.splitP; exact rfl; exact rfl; all_goals (intros; try (exfalso; omega))) | (apply Wl.splitB; exact rfl; exact rfl; all_goals intros) | (apply St.condP; exact rfl; all_goals (intros; try (exfalso; omega))) | (apply St.condB; exact rfl; all_goals intros))
      apply Wl.callQQ
      exact rfl
      (repeat (first | exact Evs.nil | apply Evs.cons rfl))
      · intro wq hq
        refine (modTimes' (hV.hp hq (by apply Off.of; simp <;> omega)) hpW (hlt _)).mono ?_
        rintro e wr ⟨rfl, hr⟩
        exact ⟨rfl, hq.keep hr⟩
      repeat' (first | (apply Wl.eqlA (b := true); exact rfl; exact rfl; exact rfl; kernel_rfl; kernel_rfl; kernel_rfl; kernel_rfl; exact cell32 _ (dlt _); exact cell32 _ (dlt _); exact eqT (by first | rfl | assumption)) | (apply Wl.loadW; exact rfl; exact rfl; (repeat (first | exact List.Mem.head _ | apply List.Mem.tail)); exact rfl) | (apply Wl.assign; exact rfl; exact rfl) | (apply Wl.on; exact rfl; exact rfl; (first | with_reducible rfl | with_reducible assumption | decide)) | (apply Wl.pickT; exact rfl; exact rfl; (first | with_reducible rfl | with_reducible assumption | decide); exact rfl) | (apply Wl.nilQ) | (apply St.ret) | (apply Gt.next) | (apply Gt.out1; exact rfl; exact rfl; intro w' hp) | (apply Wl.splitP; exact rfl; exact rfl; all_goals (intros; try (exfalso; omega))) | (apply Wl.splitB; exact rfl; exact rfl; all_goals intros) | (apply St.condP; exact rfl; all_goals (intros; try (exfalso; omega))) | (apply St.condB; exact rfl; all_goals intros))
      exact ⟨rfl, hpFin hp hu (by simp; omega)⟩
  · refine ⟨_, _, rfl, hq.keep hr, ?_⟩
    clear hq hr
    repeat' (first | (apply Wl.move; exact rfl; exact rfl) | (apply Wl.assign; exact rfl; exact rfl) | (apply Wl.extract; exact rfl; exact rfl; exact rfl) | (apply Wl.neq; exact rfl; exact rfl; exact rfl) | (apply Wl.nil) | (apply St.seq) | (apply St.region) | (apply St.condT; exact rfl; (first | with_reducible rfl | with_reducible assumption | decide)) | (apply St.ret) | (apply Gt.next) | (apply Gt.thenRet) | (apply Gt.out1; exact rfl; exact rfl; intro w' hp) | (apply Wl.splitP; exact rfl; exact rfl; all_goals (intros; try (exfalso; omega))) | (apply Wl.splitB; exact rfl; exact rfl; all_goals intros) | (apply St.condP; exact rfl; all_goals (intros; try (exfalso; omega))) | (apply St.condB; exact rfl; all_goals intros))
    exact ⟨rfl, hp.drop (by simp; omega)⟩
end Go.Proofs.Ythmechgccfjmdaa
