/-
  12 texts, one behind the other; each says what it proves. Conditions: as each text says.
-/
import Derived.Test.YtcefkbnachnciaaDoorM03
import Derived.Test.YtcefkbnachnciaaDoorM01
import Derived.Laws.StructEq
section
namespace Go.Pt
open Go.RowKit

inductive Kn
  | v (x : Value)
  | b (t : TypeId) (cs : List Value)
def DepX (l : List Oper) (ks : List Kn) (K : Env → Prop) : List Edge → Env → Prop
  | [], Γ => K Γ
  | e :: es, Γ => if Region.binds .any e then (match ks[e.on]? with
    | some (.v x) => DepX l ks K es ((dstAt l e.on, x) :: Γ)
    | _ => DepX l ks K es Γ) else DepX l ks K es Γ
def PostX (N d : Nat) (x : Value) (D : World → Prop) : Exit → Act → World → Prop := fun e a w => e = .normal ∧ Fr N a [(d, x)] ∧ D w
def PostB (N d : Nat) (t : TypeId) (cs : List Value) (w0 : World) (H : List Blk) : Exit → Act → World → Prop := fun e a w => e = .normal ∧ ∃ c, w0.heap.size ≤ c ∧ Off H c ∧ Fr N a [(d, .pointer (some ⟨c, 0, none⟩))] ∧ Hp w0 (⟨c, cs, t⟩ :: H) w
def NewX (w0 : World) (X : List Blk) : Prop := ∀ y ∈ X, w0.heap.size ≤ y.b
inductive OpsX (P : Program) (l : List Oper) (N : Nat) (Γ : Env) (w0 : World) (H : List Blk) (all : List Kn) : List Oper → List Kn → Prop
  | nil : OpsX P l N Γ w0 H all [] []
  | v {o : Oper} {rest : List Oper} {x : Value} {tl : List Kn} (h : ∀ X, NewX w0 X → DepX l all (fun Γ' => Wl [o] P .seq l.toArray N Γ' (Hp w0 (H ++ X)) (PostX N (dstO o) x (Hp w0 (H ++ X)))) o.after.toList Γ) (hs : OpsX P l N Γ w0 H all rest tl) : OpsX P l N Γ w0 H all (o :: rest) (.v x :: tl)
  | b {d t : Nat} {ty : TypeId} {pos : String} {af : Array Edge} {rest : List Oper} {z : Value} {tl : List Kn} [hz : TyZ P t z] (hd : Nat.blt d N = true) (hs : OpsX P l N Γ w0 H all rest tl) : OpsX P l N Γ w0 H all (⟨some d, .alloc t, ty, pos, af, none⟩ :: rest) (.b t z.cells.toList :: tl)
def keepX (sel : List Nat) (tail : List Oper) (i : Nat) : Bool := (sel.any (Nat.beq i)) || tail.any fun o => o.after.toList.any fun e => Nat.beq e.on i && (match e.ground with | .data => true | _ => false)
def EndX (kp : Nat → Bool) (w0 : World) (H : List Blk) (K : Env → List Blk → Prop) : List Oper → List Kn → Nat → Env → List Blk → Prop
  | [], _, _, Γ, B => K Γ B
  | _ :: _, [], _, Γ, B => K Γ B
  | o :: os, .v x :: ks, i, Γ, B => EndX kp w0 H K os ks (i + 1) (bif kp i then (dstO o, x) :: Γ else Γ) B
  | o :: os, .b t cs :: ks, i, Γ, B => ∀ c, w0.heap.size ≤ c → Off (B ++ H) c → EndX kp w0 H K os ks (i + 1) ((dstO o, .pointer (some ⟨c, 0, none⟩)) :: Γ) (⟨c, cs, t⟩ :: B)
theorem apart_append {H X : List Blk} (h : Apart H) (hx : ∀ x ∈ X, Off H x.b) (hX : Apart X) : Apart (H ++ X) := by
  induction H with
  | nil => exact hX
  | cons y r ih => exact ⟨Off.of fun x hm => by
      rcases List.mem_append.1 hm with hm | hm
      · exact h.1.at hm
      · exact fun e => (hx x hm).1 e.symm, ih h.2 fun x hm => (hx x hm).2⟩
theorem off_append {H X : List Blk} {c : Nat} (h : Off H c) (hX : Off X c) : Off (H ++ X) c := Off.of fun x hm => (List.mem_append.1 hm).elim (fun h1 => h.at h1) fun h1 => hX.at h1
theorem off_left {H X : List Blk} {c : Nat} (h : Off (H ++ X) c) : Off H c := Off.of fun _ hm => h.at (List.mem_append_left _ hm)
theorem off_right {H X : List Blk} {c : Nat} (h : Off (H ++ X) c) : Off X c := Off.of fun _ hm => h.at (List.mem_append_right _ hm)
theorem hp_left {w0 w : World} {H X : List Blk} (h : Hp w0 (H ++ X) w) (hX : NewX w0 X) : Hp w0 H w := by
  refine ⟨h.upd.mono fun k hk hn ho => hn (off_append ho (Off.of fun x hm e => by have := hX x hm; omega)), Own.of fun x hm => h.own.at (List.mem_append_left _ hm), ?_⟩
  have := h.apart
  clear h
  induction H with
  | nil => trivial
  | cons y r ih => exact ⟨off_left this.1, ih this.2⟩

theorem OpsX.out {P : Program} {l : List Oper} {N : Nat} {Γ : Env} {w0 : World} {H : List Blk} {all : List Kn} {l' : List Oper} {tl : List Kn} (h : OpsX P l N Γ w0 H all l' tl) {i : Nat} {o : Oper} (hi : l'[i]? = some o) :
    (∃ x, tl[i]? = some (.v x) ∧ ∀ X, NewX w0 X → DepX l all (fun Γ' => Wl [o] P .seq l.toArray N Γ' (Hp w0 (H ++ X)) (PostX N (dstO o) x (Hp w0 (H ++ X)))) o.after.toList Γ) ∨
    (∃ t cs, tl[i]? = some (.b t cs) ∧ ∀ X, Wl [o] P .seq l.toArray N Γ (Hp w0 (H ++ X)) (PostB N (dstO o) t cs w0 (H ++ X))) := by
  induction h generalizing i with
  | nil => simp at hi
  | @v o' rest x tl h hs ih =>
    cases i with
    | zero => simp only [List.getElem?_cons_zero, Option.some.injEq] at hi; subst hi; exact .inl ⟨x, rfl, h⟩
    | succ i => simpa using ih (i := i) (by simpa using hi)
  | @b d t ty pos af rest z tl hz hd hs ih =>
    cases i with
    | zero =>
      simp only [List.getElem?_cons_zero, Option.some.injEq] at hi
      subst hi
      refine .inr ⟨t, z.cells.toList, rfl, fun X => ?_⟩
      apply Wl.alloc hd
      intro c hc ho
      apply Wl.nil
      exact Gt.intro fun a w ha hw => ⟨rfl, c, hc, ho, ha.sub (.cons (by simp [look, dstO]) .nil), hw⟩
    | succ i => simpa using ih (i := i) (by simpa using hi)
theorem OpsX.len {P : Program} {l : List Oper} {N : Nat} {Γ : Env} {w0 : World} {H : List Blk} {all : List Kn} {l' : List Oper} {tl : List Kn} (h : OpsX P l N Γ w0 H all l' tl) : tl.length = l'.length := by
  induction h with
  | nil => rfl
  | v _ _ ih => simp [ih]
  | b _ _ ih => simp [ih]
theorem DepX.run {l : List Oper} {ks : List Kn} {K : Env → Prop} {N : Nat} {a : Act} {es : List Edge} {Γ : Env} (h : DepX l ks K es Γ) (ha : Fr N a Γ)
    (hes : ∀ e ∈ es, Region.binds .any e = true → ∀ x, ks[e.on]? = some (.v x) → a.tmps[dstAt l e.on]? = some x) : ∃ Γ', Fr N a Γ' ∧ K Γ' := by
  induction es generalizing Γ with
  | nil => exact ⟨Γ, ha, h⟩
  | cons e es ih =>
    unfold DepX at h
    split at h
    · rename_i hb
      split at h
      · rename_i x hx
        exact ih h (ha.cons (hes e (by simp) hb x hx)) fun e he => hes e (by simp [he])
      · exact ih h ha fun e he => hes e (by simp [he])
    · exact ih h ha fun e he => hes e (by simp [he])

structure InvX (l : List Oper) (m N : Nat) (Γ : Env) (w0 : World) (H : List Blk) (ks : List Kn) (f : Nat → Nat) (listed : Array Bool) (a : Act) (w : World) : Prop where
  fr : Fr N a Γ
  hp : Hp w0 H w
  val : ∀ i o x, i < m → l[i]? = some o → ks[i]? = some (.v x) → listed.getD i true = true → a.tmps[dstO o]? = some x
  ptr : ∀ i o t cs, i < m → l[i]? = some o → ks[i]? = some (.b t cs) → listed.getD i true = true → a.tmps[dstO o]? = some (.pointer (some ⟨f i, 0, none⟩)) ∧ w0.heap.size ≤ f i ∧ Off H (f i) ∧ w.heap[f i]? = some (.cells cs.toArray t (0, 0))
  inj : ∀ i j t cs t' cs', i < j → j < m → ks[i]? = some (.b t cs) → ks[j]? = some (.b t' cs') → listed.getD i true = true → listed.getD j true = true → f i ≠ f j
def blkX (f : Nat → Nat) (listed : Array Bool) (ks : List Kn) (i : Nat) : Option Blk := match ks[i]? with
  | some (.b t cs) => if listed.getD i true then some ⟨f i, cs, t⟩ else none
  | _ => none
theorem blkX_some {f : Nat → Nat} {listed : Array Bool} {ks : List Kn} {i : Nat} {x : Blk} (h : blkX f listed ks i = some x) : ∃ t cs, ks[i]? = some (.b t cs) ∧ listed.getD i true = true ∧ x = ⟨f i, cs, t⟩ := by
  unfold blkX at h
  split at h
  · rename_i t cs hk
    split at h
    · rename_i hl; cases h; exact ⟨t, cs, hk, hl, rfl⟩
    · cases h
  · cases h
theorem apart_map {g : Nat → Option Blk} (n : Nat) (h : ∀ i j x y, i < j → j < n → g i = some x → g j = some y → x.b ≠ y.b) : Apart ((List.range n).reverse.filterMap g) := by
  induction n with
  | zero => trivial
  | succ n ih =>
    rw [List.range_succ, List.reverse_append, List.reverse_singleton, List.singleton_append, List.filterMap_cons]
    have ih := ih fun i j x y hij hj => h i j x y hij (by omega)
    cases hg : g n with
    | none => exact ih
    | some x =>
      refine ⟨Off.of fun y hy => ?_, ih⟩
      obtain ⟨i, hi, hgi⟩ := List.mem_filterMap.1 hy
      exact h i n y x (by simpa using hi) (by omega) hgi hg
def blksX (f : Nat → Nat) (listed : Array Bool) (ks : List Kn) (m : Nat) : List Blk := (List.range m).reverse.filterMap (blkX f listed ks)
theorem InvX.full {l : List Oper} {m N : Nat} {Γ : Env} {w0 : World} {H : List Blk} {ks : List Kn} {f : Nat → Nat} {listed : Array Bool} {a : Act} {w : World} (hml : m ≤ l.length) (h : InvX l m N Γ w0 H ks f listed a w) :
    NewX w0 (blksX f listed ks m) ∧ Hp w0 (H ++ blksX f listed ks m) w := by
  have key : ∀ x ∈ blksX f listed ks m, w0.heap.size ≤ x.b ∧ Off H x.b ∧ w.heap[x.b]? = some (.cells x.cs.toArray x.t (0, 0)) := fun x hx => by
    obtain ⟨i, hi, hgi⟩ := List.mem_filterMap.1 hx
    obtain ⟨t, cs, hk, hl, rfl⟩ := blkX_some hgi
    have him : i < m := by simpa using hi
    obtain ⟨_, h2, h3, h4⟩ := h.ptr i _ t cs him (List.getElem?_eq_getElem (by omega)) hk hl
    exact ⟨h2, h3, h4⟩
  refine ⟨fun x hx => (key x hx).1, ⟨h.hp.upd.mono fun k hk hn ho => hn (off_left ho), Own.of fun x hx => ?_, apart_append h.hp.apart (fun x hx => (key x hx).2.1) (apart_map m fun i j x y hij hj hx hy => ?_)⟩⟩
  · rcases List.mem_append.1 hx with hx | hx
    · exact h.hp.own.at hx
    · exact (key x hx).2.2
  · obtain ⟨t, cs, hk, hl, rfl⟩ := blkX_some hx
    obtain ⟨t', cs', hk', hl', rfl⟩ := blkX_some hy
    exact h.inj i j t cs t' cs' hij hj hk hk' hl hl'
theorem mem_blksX {f : Nat → Nat} {listed : Array Bool} {ks : List Kn} {m i : Nat} {t : TypeId} {cs : List Value} (hi : i < m) (hk : ks[i]? = some (.b t cs)) (hl : listed.getD i true = true) : (⟨f i, cs, t⟩ : Blk) ∈ blksX f listed ks m :=
  List.mem_filterMap.2 ⟨i, by simpa using hi, by unfold blkX; rw [hk]; simp only; rw [if_pos hl]⟩
def bagXB (l : List Oper) (N : Nat) (Γ : Env) : Nat → List Oper → Bool
  | _, [] => true
  | i, o :: rest => (match o.dst with | some d => Nat.blt d N && !(Γ.any fun p => Nat.beq p.1 d) && rest.all fun o' => !(Nat.beq (dstO o') d) | none => false) && o.after.toList.all (fun e => !(Region.binds .any e) || Nat.blt e.on i) && bagXB l N Γ (i + 1) rest
theorem bagXB_out {l : List Oper} {N : Nat} {Γ : Env} {k : Nat} {l' : List Oper} (h : bagXB l N Γ k l' = true) {i : Nat} {o : Oper} (hi : l'[i]? = some o) :
    o.dst = some (dstO o) ∧ dstO o < N ∧ (∀ t v, look Γ t = some v → t ≠ dstO o) ∧ (∀ e ∈ o.after.toList, Region.binds .any e = true → e.on < k + i) ∧ ∀ j o', i < j → l'[j]? = some o' → dstO o' ≠ dstO o := by
  induction l' generalizing k i with
  | nil => simp at hi
  | cons x rest ih =>
    simp only [bagXB, Bool.and_eq_true] at h
    obtain ⟨⟨h1, h2⟩, h3⟩ := h
    cases i with
    | zero =>
      simp only [List.getElem?_cons_zero, Option.some.injEq] at hi
      subst hi
      cases hd : x.dst with
      | none => rw [hd] at h1; cases h1
      | some d =>
        rw [hd] at h1
        simp only [Bool.and_eq_true, Bool.not_eq_true', List.all_eq_true] at h1
        obtain ⟨⟨h1, h4⟩, h5⟩ := h1
        have hx : dstO x = d := by simp [dstO, hd]
        rw [hx]
        refine ⟨rfl, Nat.le_of_ble_eq_true h1, fun t v ht e => ?_, fun e he hb => ?_, fun j o' hj ho' e => ?_⟩
        · rw [← e, look_any ht] at h4; cases h4
        · have := List.all_eq_true.1 h2 e he
          rw [hb, Bool.not_true, Bool.false_or] at this
          exact Nat.le_of_ble_eq_true this
        · cases j with
          | zero => omega
          | succ j =>
            have := h5 o' (List.mem_of_getElem? (by simpa using ho'))
            rw [e] at this
            simp at this
    | succ i =>
      have := ih h3 (i := i) (by simpa using hi)
      refine ⟨this.1, this.2.1, this.2.2.1, fun e he hb => by have := this.2.2.2.1 e he hb; omega, fun j o' hj ho' => ?_⟩
      cases j with
      | zero => omega
      | succ j => exact this.2.2.2.2 j o' (by omega) (by simpa using ho')

theorem InvX.step {P : Program} {l : List Oper} {m N : Nat} {Γ : Env} {w0 : World} {H : List Blk} {ks : List Kn} {f : Nat → Nat} {Q : Exit → Act → World → Prop} {listed : Array Bool} {a : Act} {w : World} (hml : m ≤ l.length) (hc : bagXB l N Γ 0 (l.take m) = true)
    (hops : OpsX P l N Γ w0 H ks (l.take m) ks) (hi : InvX l m N Γ w0 H ks f listed a w) {i : Nat} (him : i < m) (hr : i ∈ Region.ready .any l.toArray listed) {K : Act → World → Prop}
    (hK : ∀ f' a' w', InvX l m N Γ w0 H ks f' (listed.setIfInBounds i true) a' w' → K a' w') : wpOp P l.toArray Q i K a w := by
  have hlt := ready_lt hr
  have hol : l[i]? = some l[i] := List.getElem?_eq_getElem hlt
  have hedges := ((ready_iff hol).1 hr).2
  have hunl := ((ready_iff hol).1 hr).1
  have ho : (l.take m)[i]? = some l[i] := by rw [List.getElem?_take_of_lt him]; exact hol
  generalize l[i] = o at ho hol hedges
  have hoa : l.toArray[i]? = some o := by simpa using hol
  obtain ⟨hd, hdN, hΓ, hed, hlater⟩ := bagXB_out hc ho
  have hdst : ∀ j oj, j < m → l[j]? = some oj → i ≠ j → dstO oj ≠ dstO o := fun j oj hj hjo e => by
    have hjo' : (l.take m)[j]? = some oj := by rw [List.getElem?_take_of_lt hj]; exact hjo
    rcases Nat.lt_or_gt_of_ne e with e | e
    · exact hlater j oj e hjo'
    · exact fun e' => (bagXB_out hc hjo').2.2.2.2 i o e ho e'.symm
  obtain ⟨hnew, hfull⟩ := hi.full hml
  have hdep : ∀ e ∈ o.after.toList, Region.binds .any e = true → ∀ x, ks[e.on]? = some (.v x) → a.tmps[dstAt l e.on]? = some x := fun e he hb x hx => by
    have h1 := hedges e (by simpa using he) hb
    have h2 := hed e he hb
    have h3 : l[e.on]? = some l[e.on] := List.getElem?_eq_getElem (by omega)
    have := hi.val e.on _ x (by omega) h3 hx (by
      simp only [Array.getD_eq_getD_getElem?] at h1 ⊢
      cases hx : listed[e.on]? with
      | none => rfl
      | some b => rw [hx] at h1; exact h1)
    unfold dstAt
    rw [h3]
    exact this
  have fin : ∀ (Post : Exit → Act → World → Prop), wpList P l.toArray Post [o] a w → (∀ e a' w', Post e a' w' → e = .normal) → (∀ a' w', Post .normal a' w' → (∃ v, a'.tmps = (a.put o.dst v).tmps) → K a' w') → wpOp P l.toArray Q i K a w := fun Post hwl hn key => by
    unfold wpOp
    simp only [hoa]
    simp only [wpList] at hwl
    split
    · rename_i hw
      rw [if_pos hw] at hwl
      rcases hwl with h | ⟨_, x, y, h⟩
      · have h1 := wp_only (fun _ _ _ h => hn _ _ _ h) (wp_tmps h)
        refine .inl ?_
        have h2 := Oper.wp_mono (fun a' w' hh => key a' w' hh.1 hh.2) h1
        unfold Oper.wp at *
        generalize (execOp a.eval o).run P w = r at *
        cases r with
        | ok n w' =>
          cases n <;> simp only [Oper.upon] at h2 ⊢
          case value u => exact h2
          case skip => exact h2
          case defer d => exact h2
          case enter f args => exact Calls.mono h2 (fun e w'' he => by cases e <;> first | exact he | exact he.elim | (obtain ⟨_, _, hf⟩ := he; exact hf.elim))
          case row row args => exact h2
        | halt x w' => cases x <;> simp only [Oper.upon] at h2
      · cases hn _ _ _ h
    · rename_i hw
      rw [if_neg hw] at hwl
      exact key _ _ hwl ⟨undef, rfl⟩
  have keepT : ∀ {a' : Act} {u : Value}, a'.tmps = (a.put o.dst u).tmps → ∀ t, t ≠ dstO o → a'.tmps[t]? = a.tmps[t]? := fun {a' u} hu t ht => by
    rw [hd] at hu
    rw [hu]
    simp [Act.put, Array.getElem?_setIfInBounds_ne (Ne.symm ht)]
  rcases hops.out ho with ⟨x, hx, hW⟩ | ⟨t, cs, hx, hW⟩
  · obtain ⟨Γ', hf', hW⟩ := (hW _ hnew).run hi.fr hdep
    refine fin _ (hW.elim a w hf' hfull) (fun _ _ _ h => h.1) ?_
    rintro a' w' ⟨_, hfr, hp'⟩ ⟨u, hu⟩
    have hne := keepT hu
    refine hK f a' w' ⟨⟨hfr.defers, hfr.size, fun t v ht => by rw [hne t (hΓ t v ht)]; exact hi.fr.get t v ht⟩, hp_left hp' hnew, fun j oj y hj hjo hy hl => ?_, fun j oj t cs hj hjo hy hl => ?_, fun j k t cs t' cs' hjk hk hkj hkk hl hl' => ?_⟩
    · by_cases e : i = j
      · subst e
        rw [hol] at hjo
        cases hjo
        rw [hx] at hy
        cases hy
        exact hfr.get _ _ (by simp [look])
      · rw [getD_set e] at hl
        rw [hne _ (hdst j oj hj hjo e)]
        exact hi.val j oj y hj hjo hy hl
    · have e : i ≠ j := fun e => by subst e; rw [hx] at hy; cases hy
      rw [getD_set e] at hl
      obtain ⟨h1, h2, h3, _⟩ := hi.ptr j oj t cs hj hjo hy hl
      exact ⟨by rw [hne _ (hdst j oj hj hjo e)]; exact h1, h2, h3, hp'.own.at (List.mem_append_right _ (mem_blksX hj hy hl))⟩
    · have e : i ≠ j := fun e => by subst e; rw [hx] at hkj; cases hkj
      have e' : i ≠ k := fun e => by subst e; rw [hx] at hkk; cases hkk
      rw [getD_set e] at hl
      rw [getD_set e'] at hl'
      exact hi.inj j k t cs t' cs' hjk hk hkj hkk hl hl'
  · refine fin _ ((hW _).elim a w hi.fr hfull) (fun _ _ _ h => h.1) ?_
    rintro a' w' ⟨_, c, hc0, hco, hfr, hp'⟩ ⟨u, hu⟩
    have hne := keepT hu
    have hnew' : NewX w0 (⟨c, cs, t⟩ :: blksX f listed ks m) := fun y hy => by
      rcases List.mem_cons.1 hy with rfl | hy
      · exact hc0
      · exact hnew y hy
    have hH : Hp w0 H w' := by
      have h1 : Hp w0 (H ++ (⟨c, cs, t⟩ :: blksX f listed ks m)) w' := by
        refine ⟨hp'.upd.mono fun k hk hn ho => hn ?_, Own.of fun x hx => hp'.own.at ?_, apart_append hi.hp.apart (fun x hx => ?_) ⟨off_right hco, ?_⟩⟩
        · have h1 := off_left ho
          have h2 := off_right ho
          exact ⟨h2.1, off_append h1 h2.2⟩
        · rcases List.mem_append.1 hx with hx | hx
          · exact .tail _ (List.mem_append_left _ hx)
          · rcases List.mem_cons.1 hx with rfl | hx
            · exact .head _
            · exact .tail _ (List.mem_append_right _ hx)
        · rcases List.mem_cons.1 hx with rfl | hx
          · exact off_left hco
          · have := hfull.apart
            have key : ∀ (H X : List Blk), Apart (H ++ X) → ∀ x ∈ X, Off H x.b := by
              intro H
              induction H with
              | nil => intros; trivial
              | cons y r ih => exact fun X h x hx => ⟨h.1.at (List.mem_append_right _ hx) |>.symm, ih X h.2 x hx⟩
            exact key H _ this x hx
        · have := hfull.apart
          have key : ∀ (H X : List Blk), Apart (H ++ X) → Apart X := by
            intro H
            induction H with
            | nil => exact fun _ h => h
            | cons y r ih => exact fun X h => ih X h.2
          exact key H _ this
      exact hp_left h1 hnew'
    have hfi : ∀ j, i ≠ j → (if j = i then c else f j) = f j := fun j e => if_neg (fun e' => e e'.symm)
    have hoff : ∀ j t' cs', j < m → ks[j]? = some (.b t' cs') → listed.getD j true = true → f j ≠ c := fun j t' cs' hj hk hl => (off_right hco).at (mem_blksX hj hk hl)
    refine hK (fun k => if k = i then c else f k) a' w' ⟨⟨hfr.defers, hfr.size, fun t v ht => by rw [hne t (hΓ t v ht)]; exact hi.fr.get t v ht⟩, hH, fun j oj y hj hjo hy hl => ?_, fun j oj t' cs' hj hjo hy hl => ?_, fun j k t1 cs1 t2 cs2 hjk hk hkj hkk hl hl' => ?_⟩
    · have e : i ≠ j := fun e => by subst e; rw [hx] at hy; cases hy
      rw [getD_set e] at hl
      rw [hne _ (hdst j oj hj hjo e)]
      exact hi.val j oj y hj hjo hy hl
    · by_cases e : i = j
      · subst e
        rw [hol] at hjo
        cases hjo
        rw [hx] at hy
        cases hy
        simp only [if_true]
        exact ⟨hfr.get _ _ (by simp [look]), hc0, off_left hco, hp'.own.1⟩
      · rw [getD_set e] at hl
        obtain ⟨h1, h2, h3, _⟩ := hi.ptr j oj t' cs' hj hjo hy hl
        rw [hfi j e]
        exact ⟨by rw [hne _ (hdst j oj hj hjo e)]; exact h1, h2, h3, hp'.own.at (.tail _ (List.mem_append_right _ (mem_blksX hj hy hl)))⟩
    · by_cases e : i = j
      · subst e
        have e' : i ≠ k := by omega
        rw [getD_set e'] at hl'
        rw [hfi k e']
        simp only [if_true]
        exact fun h => hoff k _ _ hk hkk hl' h.symm
      · by_cases e' : i = k
        · subst e'
          rw [getD_set e] at hl
          rw [hfi j e]
          simp only [if_true]
          exact hoff j _ _ (by omega) hkj hl
        · rw [getD_set e] at hl
          rw [getD_set e'] at hl'
          rw [hfi j e, hfi k e']
          exact hi.inj j k _ _ _ _ hjk hk hkj hkk hl hl'
def chainX (l : List Oper) (m : Nat) : Bool := (Nat.beq m l.length && l.all (fun o => o.dst.isSome) && (List.range l.length).all (fun i => match l[i]? with | some o => o.after.toList.all (fun e => !(Region.binds .any e) || Nat.blt e.on i) | none => true)) || chainB l m
theorem countF (n : Nat) : ∀ (x : Array Bool) (k : Nat), k ≤ x.size → (∀ j, j < k → x.getD j true = true) → (∀ j, k ≤ j → j < x.size → x.getD j true = false) → x.toList.count false = x.size - k := by
  intro x k hk h1 h2
  obtain ⟨l⟩ := x
  simp only [List.size_toArray] at hk h2 ⊢
  have e : l = List.replicate k true ++ List.replicate (l.length - k) false := by
    apply List.ext_getElem
    · simp; omega
    · intro i hi1 hi2
      rw [List.getElem_append]
      split
      · rename_i h
        have := h1 i (by simpa using h)
        simpa [Array.getD_eq_getD_getElem?, hi1] using this
      · rename_i h
        have := h2 i (by simpa using h) hi1
        simpa [Array.getD_eq_getD_getElem?, hi1] using this
  rw [e]
  simp [List.count_append, List.count_replicate]
theorem bagX_run {P : Program} {l : List Oper} {m N : Nat} {Γ : Env} {w0 : World} {H : List Blk} {ks : List Kn} {Q : Exit → Act → World → Prop} (hch : chainX l m = true) (hc : bagXB l N Γ 0 (l.take m) = true)
    (hops : OpsX P l N Γ w0 H ks (l.take m) ks) (hend : ∀ f listed a w, (∀ j, j < m → listed.getD j true = true) → InvX l m N Γ w0 H ks f listed a w → wpList P l.toArray Q (l.drop m) a w) :
    ∀ n (listed : Array Bool) f a w, listed.size = l.length → listed.toList.count false = n → InvX l m N Γ w0 H ks f listed a w →
      (∀ j o, l[j]? = some o → listed.getD j true = true → ∀ e ∈ o.after.toList, Region.binds .any e = true → listed.getD e.on false = true) → (∀ j, m ≤ j → j < l.length → listed.getD j true = false) → wpAny P .any l.toArray Q n listed a w := by
  have hback : m ≤ l.length ∧ (∀ (i : Nat) (o : Oper), l[i]? = some o → ∀ e ∈ o.after.toList, Region.binds .any e = true → e.on < i) ∧ (m < l.length → Chain l m) := by
    unfold chainX at hch
    rw [Bool.or_eq_true] at hch
    rcases hch with h | h
    · rw [Bool.and_eq_true] at h
      rw [Bool.and_eq_true] at h
      have := Nat.eq_of_beq_eq_true h.1.1
      refine ⟨by omega, fun i o ho e he hb => ?_, fun hl => by omega⟩
      have hil := (List.getElem?_eq_some_iff.1 ho).1
      have := List.all_eq_true.1 h.2 i (List.mem_range.2 hil)
      rw [ho] at this
      have := List.all_eq_true.1 this e he
      rw [hb, Bool.not_true, Bool.false_or] at this
      exact Nat.le_of_ble_eq_true this
    · have := chainB_out h
      exact ⟨Nat.le_of_lt this.lt, this.back, fun _ => this⟩
  obtain ⟨hml, hbk, hch⟩ := hback
  intro n
  induction n with
  | zero =>
    intro listed f a w hsz hn hi hdown hun
    have hcn : ∀ j, j < l.length → listed.getD j true = true := fun j hj => by
      have h2 : false ∉ listed.toList := List.count_eq_zero.1 hn
      cases e : listed.getD j true with
      | true => rfl
      | false =>
        rw [Array.getD_eq_getD_getElem?, Array.getElem?_eq_getElem (by omega)] at e
        have h3 : listed[j]'(by omega) ∈ listed.toList := by simp
        have e' : listed[j]'(by omega) = false := e
        rw [e'] at h3
        exact (h2 h3).elim
    have hmeq : m = l.length := by
      rcases Nat.lt_or_ge m l.length with h | h
      · have h1 := hun m (Nat.le_refl _) h
        rw [hcn m h] at h1
        cases h1
      · omega
    have hall : ∀ j, j < m → listed.getD j true = true := fun j hj => hcn j (by omega)
    have hr : Region.ready .any l.toArray listed = [] := by
      rw [List.eq_nil_iff_forall_not_mem]
      intro i hi'
      have hil := ready_lt hi'
      have := ((ready_iff (List.getElem?_eq_getElem hil)).1 hi').1
      rw [hcn i hil] at this
      cases this
    refine ⟨hr, ?_⟩
    have := hend f listed a w hall hi
    rw [hmeq, List.drop_length] at this
    exact this
  | succ n ih =>
    intro listed f a w hsz hn hi hdown hun
    have hcount : ∀ i, i < l.length → listed.getD i true = false → (listed.setIfInBounds i true).toList.count false = n := fun i hil h => by
      have hm' : i < listed.size := by omega
      have h3 : listed[i] = false := by
        rw [Array.getD_eq_getD_getElem?, Array.getElem?_eq_getElem hm'] at h
        exact h
      rw [Array.toList_setIfInBounds, List.count_set (by simpa using hm')]
      simp [h3, hn]
    by_cases hall : ∀ j, j < m → listed.getD j true = true
    · have hlt : m < l.length := by
        have := countF 0 listed m (by omega) hall (fun j h1 h2 => hun j h1 (by omega))
        omega
      have hch := hch hlt
      refine tail_run hch (l.drop m) m rfl (Nat.le_refl _) (n + 1) listed a w hsz (fun j hj _ => hall j hj) hun ?_ (hend f listed a w hall hi)
      have h := countF 0 listed m (by omega) hall (fun j h1 h2 => hun j h1 (by omega))
      rw [hn, hsz] at h
      exact h
    · have hex : ∃ j, j < m ∧ listed.getD j true = false ∧ ∀ i, i < j → listed.getD i true = true := by
        have key : ∀ k, k ≤ m → (∀ j, j < k → listed.getD j true = true) ∨ ∃ j, j < m ∧ listed.getD j true = false ∧ ∀ i, i < j → listed.getD i true = true := by
          intro k
          induction k with
          | zero => exact fun _ => .inl fun j hj => by omega
          | succ k ihk =>
            intro hk
            rcases ihk (by omega) with h | h
            · cases hl : listed.getD k true
              · exact .inr ⟨k, by omega, hl, h⟩
              · refine .inl fun j hj => ?_
                rcases Nat.lt_succ_iff_lt_or_eq.1 hj with hj | hj
                · exact h j hj
                · subst hj; exact hl
            · exact .inr h
        exact (key m (Nat.le_refl _)).elim (fun h => (hall h).elim) id
      refine ⟨fun hr => ?_, fun i hr => ?_⟩
      · obtain ⟨j, hjm, hj, hbefore⟩ := hex
        have ho : l[j]? = some l[j] := List.getElem?_eq_getElem (by omega)
        have : j ∈ Region.ready .any l.toArray listed := (ready_iff ho).2 ⟨hj, fun e he hb => by
          have := hbk j _ ho e he hb
          rw [← getD_tf (by omega)]
          exact hbefore e.on this⟩
        rw [hr] at this
        cases this
      · have hil := ready_lt hr
        have hio := (ready_iff (List.getElem?_eq_getElem hil)).1 hr
        have him : i < m := by
          rcases Nat.lt_or_ge i m with h | h
          · exact h
          · exfalso
            have hch := hch (by omega)
            rcases Nat.lt_or_eq_of_le h with h | h
            · obtain ⟨e, he, he1, he2⟩ := hch.next i _ h (List.getElem?_eq_getElem hil)
              have := hio.2 e he he2
              rw [← getD_tf (by omega), he1, hun (i - 1) (by omega) (by omega)] at this
              cases this
            · subst h
              refine hall ?_
              have key : ∀ d j, j < m → m - j ≤ d → listed.getD j true = true := by
                intro d
                induction d with
                | zero => intro j h1 h2; omega
                | succ d ihd =>
                  intro j hj hd
                  obtain ⟨x, o, h1, h2, ho, e, he, he1, he2⟩ := hch.pre j hj
                  rcases Nat.lt_or_eq_of_le h2 with h2 | h2
                  · have := hdown x o ho (ihd x h2 (by omega)) e he he2
                    rw [← getD_tf (by omega), he1] at this
                    exact this
                  · subst h2
                    have hox := List.getElem?_eq_getElem hil
                    rw [ho] at hox
                    cases hox
                    have := hio.2 e he he2
                    rw [← getD_tf (by omega), he1] at this
                    exact this
              exact fun j hj => key m j hj (by omega)
        refine hi.step hml hc hops him hr fun f' a' w' hi' => ih _ f' a' w' (by simp [hsz]) (hcount i hil hio.1) hi' (fun j o ho hl e he hb => ?_) (fun j hj hjl => ?_)
        · have hjl := (List.getElem?_eq_some_iff.1 ho).1
          have hej := hbk j o ho e he hb
          have hlist : listed.getD e.on false = true := by
            by_cases e' : i = j
            · subst e'
              have hox := List.getElem?_eq_getElem hil
              rw [ho] at hox
              cases hox
              exact hio.2 e he hb
            · rw [getD_set e'] at hl
              exact hdown j o ho hl e he hb
          rw [← getD_tf (by simp; omega)]
          by_cases e' : i = e.on
          · rw [e']; simp [Array.getD_eq_getD_getElem?, hsz]; try omega
          · rw [getD_set e', getD_tf (by omega)]; exact hlist
        · rw [getD_set (by omega)]; exact hun j hj hjl
theorem EndX.run {kp : Nat → Bool} {w0 : World} {H : List Blk} {K : Env → List Blk → Prop} {l : List Oper} {m N : Nat} {Γ0 : Env} {ks : List Kn} {f : Nat → Nat} {listed : Array Bool} {a : Act} {w : World} (hml : m ≤ l.length) (hi : InvX l m N Γ0 w0 H ks f listed a w) (hall : ∀ j, j < m → listed.getD j true = true) :
    ∀ (l' : List Oper) (ks' : List Kn) (i : Nat) (Γ : Env) (B : List Blk), l' = (l.take m).drop i → ks' = ks.drop i → i ≤ m → ks.length = m → Fr N a Γ → B = blksX f listed ks i → EndX kp w0 H K l' ks' i Γ B →
      ∃ Γ', Fr N a Γ' ∧ K Γ' (blksX f listed ks m) := by
  intro l'
  induction l' with
  | nil =>
    intro ks' i Γ B hl hk him hkl hf hB h
    have h1 : (l.take m).length ≤ i := by simpa using hl.symm
    rw [List.length_take] at h1
    have : i = m := by omega
    subst this
    subst hB
    cases ks' <;> exact ⟨Γ, hf, h⟩
  | cons o os ih =>
    intro ks' i Γ B hl hk him hkl hf hB h
    have hlt : i < m := by
      rcases Nat.lt_or_ge i m with h' | h'
      · exact h'
      · rw [List.drop_eq_nil_of_le (by rw [List.length_take]; omega)] at hl; cases hl
    have hol : l[i]? = some o := by
      have := List.getElem?_drop (xs := l.take m) (i := i) (j := 0)
      rw [← hl, List.getElem?_take_of_lt (by omega)] at this
      simpa using this.symm
    have hos : os = (l.take m).drop (i + 1) := by rw [← List.drop_drop, ← hl]; rfl
    have hki : ks[i]? = some (ks[i]'(by omega)) := List.getElem?_eq_getElem (by omega)
    rw [List.drop_eq_getElem_cons (by omega)] at hk
    have bstep : blksX f listed ks (i + 1) = (match blkX f listed ks i with | some x => x :: blksX f listed ks i | none => blksX f listed ks i) := by
      unfold blksX
      rw [List.range_succ, List.reverse_append, List.reverse_singleton, List.singleton_append, List.filterMap_cons]
      cases blkX f listed ks i <;> rfl
    generalize ks[i]'(by omega) = k at hk hki
    subst hk
    cases k with
    | v x =>
      have hv := hi.val i o x hlt hol hki (hall i hlt)
      refine ih (ks.drop (i + 1)) (i + 1) _ B hos rfl (by omega) hkl ?_ ?_ h
      · cases kp i
        · exact hf
        · exact hf.cons hv
      · rw [bstep, hB]
        unfold blkX
        rw [hki]
    | b t cs =>
      obtain ⟨h1, h2, h3, h4⟩ := hi.ptr i o t cs hlt hol hki (hall i hlt)
      have hoff : Off B (f i) := by
        rw [hB]
        refine Off.of fun x hx => ?_
        obtain ⟨j, hj, hg⟩ := List.mem_filterMap.1 hx
        obtain ⟨t', cs', hk', hl', rfl⟩ := blkX_some hg
        exact hi.inj j i _ _ _ _ (by simpa using hj) hlt hk' hki hl' (hall i hlt)
      refine ih (ks.drop (i + 1)) (i + 1) _ (⟨f i, cs, t⟩ :: B) hos rfl (by omega) hkl (hf.cons h1) ?_ (h (f i) h2 (off_append hoff h3))
      rw [bstep, hB]
      unfold blkX
      rw [hki]
      simp only [hall i hlt, if_true]
theorem hp_swap {w0 w : World} {H X : List Blk} (h : Hp w0 (H ++ X) w) : Hp w0 (X ++ H) w := by
  refine ⟨h.upd.mono fun k hk hn ho => hn (off_append (off_right ho) (off_left ho)), Own.of fun x hx => h.own.at (List.mem_append.2 (List.mem_append.1 hx).symm), ?_⟩
  have key : ∀ (H X : List Blk), Apart (H ++ X) → Apart X ∧ Apart H ∧ ∀ x ∈ H, Off X x.b := by
    intro H
    induction H with
    | nil => exact fun X h => ⟨h, trivial, fun _ h => nomatch h⟩
    | cons y r ih =>
        intro X h
        obtain ⟨h1, h2, h3⟩ := ih X h.2
        refine ⟨h1, ⟨off_left h.1, h2⟩, fun x hx => ?_⟩
        rcases List.mem_cons.1 hx with rfl | hx
        · exact off_right h.1
        · exact h3 x hx
  obtain ⟨h1, h2, h3⟩ := key H X h.apart
  exact apart_append h1 h3 h2
section
variable {P : Program} {N : Nat} {Γ : Env} {C : World → Prop} {Q : Exit → Act → World → Prop}
theorem St.bagX {i : Nat} {l : List Oper} {w0 : World} {H : List Blk} {ks : List Kn} (m : Nat) (sel : List Nat) (hm : P.follows .mixedOrders = true) (hch : chainX l m = true) (hc : bagXB l N Γ 0 (l.take m) = true)
    (hops : OpsX P l N Γ w0 H ks (l.take m) ks)
    (hend : EndX (keepX sel (l.drop m)) w0 H (fun Γ' B => Wl (l.drop m) P .seq l.toArray N Γ' (Hp w0 (B ++ H)) Q) (l.take m) ks 0 Γ []) : St (.region i l.toArray true) P N Γ (Hp w0 H) Q := St.intro fun a w ha hw => by
  have hml : m ≤ l.length := by
    have := hops.len
    unfold chainX at hch
    rw [Bool.or_eq_true] at hch
    rcases hch with h | h
    · rw [Bool.and_eq_true, Bool.and_eq_true] at h
      have := Nat.eq_of_beq_eq_true h.1.1
      omega
    · exact Nat.le_of_lt (chainB_out h).lt
  refine wp_region_any hm ?_
  have := bagX_run (Q := Q) hch hc hops (fun f listed a w hall hi => by
    obtain ⟨Γ', hf, hK⟩ := EndX.run hml hi hall _ _ 0 Γ [] rfl rfl (Nat.zero_le _) (by rw [hops.len, List.length_take]; omega) hi.fr (by simp [blksX]) hend
    exact hK.elim a w hf (hp_swap (hi.full hml).2)) l.length (Array.replicate l.length false) (fun _ => 0) a w.drew (by simp) (by simp [List.count_replicate])
    ⟨ha, hw.drew, fun i o x hi ho _ hl => by
      have h1 := (List.getElem?_eq_some_iff.1 ho).1
      simp [Array.getD_eq_getD_getElem?, h1] at hl, fun i o t cs hi ho _ hl => by
      have h1 := (List.getElem?_eq_some_iff.1 ho).1
      simp [Array.getD_eq_getD_getElem?, h1] at hl, fun i j t cs t' cs' _ hj _ _ _ hl => by
      have h1 : j < l.length := by omega
      simp [Array.getD_eq_getD_getElem?, h1] at hl⟩ (fun j o ho hl => by
      have h1 := (List.getElem?_eq_some_iff.1 ho).1
      simp [Array.getD_eq_getD_getElem?, h1] at hl) (fun j _ hjl => by simp [Array.getD_eq_getD_getElem?, hjl])
  simpa using this
theorem Gt.endX {d : Nat} {x : Value} (hv : look Γ d = some x) : Gt N .normal Γ C (PostX N d x C) := Gt.intro fun a w ha hw => ⟨rfl, ha.sub (.cons hv .nil), hw⟩
theorem EndX.nil' {kp : Nat → Bool} {w0 : World} {H : List Blk} {K : Env → List Blk → Prop} {ks : List Kn} {i : Nat} {B : List Blk} (h : K Γ B) : EndX kp w0 H K [] ks i Γ B := by
  cases ks <;> exact h
theorem EndX.on {kp : Nat → Bool} {w0 : World} {H : List Blk} {K : Env → List Blk → Prop} {ks : List Kn} {i d : Nat} {op : Op} {ty : TypeId} {pos : String} {af : Array Edge} {g : Option (Nat × Bool)} {os : List Oper} {x : Value} {B : List Blk} (hk : kp i = true) (h : EndX kp w0 H K os ks (i + 1) ((d, x) :: Γ) B) : EndX kp w0 H K (⟨some d, op, ty, pos, af, g⟩ :: os) (.v x :: ks) i Γ B := by
  unfold EndX; rw [hk]; exact h
theorem EndX.off {kp : Nat → Bool} {w0 : World} {H : List Blk} {K : Env → List Blk → Prop} {ks : List Kn} {i : Nat} {o : Oper} {os : List Oper} {x : Value} {B : List Blk} (hk : kp i = false) (h : EndX kp w0 H K os ks (i + 1) Γ B) : EndX kp w0 H K (o :: os) (.v x :: ks) i Γ B := by
  unfold EndX; rw [hk]; exact h
inductive CatB : List Blk → List Blk → List Blk → Prop
  | nil {H : List Blk} : CatB [] H H
  | cons {x : Blk} {B H R : List Blk} (h : CatB B H R) : CatB (x :: B) H (x :: R)
theorem CatB.out {B H R : List Blk} (h : CatB B H R) : R = B ++ H := by
  induction h with
  | nil => rfl
  | cons _ ih => rw [ih]; rfl
theorem Wl.catX {ops : Array Oper} {w0 : World} {l : List Oper} {B H R : List Blk} {dd : Nat} {x : Value} (e : CatB B H R) (h : Wl l P .seq ops N Γ (Hp w0 R) (PostX N dd x (Hp w0 R))) : Wl l P .seq ops N Γ (Hp w0 (B ++ H)) (PostX N dd x (Hp w0 (B ++ H))) := by
  rw [e.out] at h; exact h
theorem Wl.catE {ops : Array Oper} {w0 : World} {l : List Oper} {B H R : List Blk} (e : CatB B H R) (h : Wl l P .seq ops N Γ (Hp w0 R) Q) : Wl l P .seq ops N Γ (Hp w0 (B ++ H)) Q := by
  rw [e.out] at h; exact h
theorem NewX.off {w0 : World} {X : List Blk} {b : Nat} (h : NewX w0 X) (hb : b < w0.heap.size) : Off X b := Off.of fun x hx e => by have := h x hx; omega
end
attribute [irreducible] EndX
end Go.Pt
end
section
namespace Go.Proofs.YtcefkbnachnciaaDoor
open Go.RowKit Go.Pt
def inM (a n : Int) : Prop := 2147483648 ≤ a ∧ a + n ≤ 2147483648 + 65536
def MemP (cf : List Value) (f f' : Nat → Int) (at_ wi : Int) (st : Bool) : Prop :=
  (wi = 0 ∧ f' = f) ∨ (W124 wi ∧ (0 ≤ at_ ∧ at_ < 4294967296) ∧ inM at_ wi ∧ mayB cf at_ wi (if st then 2 else 1) = true ∧ ∀ j : Nat, ¬ (st = true ∧ at_ ≤ 2147483648 + (j : Int) ∧ 2147483648 + (j : Int) < at_ + wi) → f' j = f j)
def OutP (w' : World) (h cf cM : Nat) (xs : List Value) (pc : Int) (F : Fs) (f : Nat → Int) (v : Value) : Prop :=
  ∃ (wd c1 tl1 at_ wi : Int) (tr st : Bool), v = trc wd tr c1 tl1 at_ wi st ∧ c1 ≠ 2147483655 ∧ ((tr = true ∧ TrapP w' h cf cM xs pc F f c1 tl1) ∨ (tr = false ∧ c1 = 0 ∧ ∃ xs' pc' f', SS w' h cf cM xs' pc' (F.tick true) f' ∧ MemP F.cf f f' at_ wi st))
theorem finU {w w1 w' : World} {H : List Blk} {h cf cM : Nat} (hu : Upd (Mv h cf cM w.heap.size) w w1) (hp : Hp w1 H w') (hH : ∀ x ∈ H, w.heap.size ≤ x.b) : Upd (fun k => k = h ∨ k = cf ∨ k = cM) w w' :=
  hu.comp hp.upd fun k hk hs => by
    rcases hs with (e | e | e | e) | y
    · exact .inl e
    · exact .inr (.inl e)
    · exact .inr (.inr e)
    · omega
    · exact (y (Off.of fun x hx e => by have := hH x hx; omega)).elim
theorem TrapP.hp {w w0 w' : World} {H : List Blk} {h cf cM : Nat} {xs : List Value} {pc : Int} {F : Fs} {f : Nat → Int} {c1 tl1 : Int} (k : TrapP w h cf cM xs pc F f c1 tl1) (hq : Hp w H w') (hw : h < w0.heap.size ∧ cf < w0.heap.size ∧ cM < w0.heap.size ∧ 0 < w0.heap.size) (hH : ∀ x ∈ H, w0.heap.size ≤ x.b) : TrapP w' h cf cM xs pc F f c1 tl1 := by
  obtain ⟨s', h1, h2, h3, hS⟩ := k
  exact ⟨s', h1, h2, h3, hS.hp hq hw hH⟩
theorem fdiv8 (n : Int) (h : IsReg n) : bits .and .u32 (n.fdiv (2 ^ min (Int.toNat 8) IntKind.u32.bits)) 3 ≠ 0 := by
  have e : n.fdiv (2 ^ min (Int.toNat 8) IntKind.u32.bits) = n / 256 := by
    rw [show ((2 : Int) ^ min (Int.toNat 8) IntKind.u32.bits) = 256 from rfl, Int.fdiv_eq_ediv_of_nonneg _ (by decide)]
  rw [e]
  unfold IsReg at h
  have : n / 256 = 3 ∨ n / 256 = 11 ∨ n / 256 = 15 := by omega
  rcases this with e | e | e <;> rw [e] <;> decide
set_option maxHeartbeats 4000000 in
theorem fmayU (c : Nat) (F : Fs) (n : Int) (w : World) (hF : FX w c F) (hmd : F.md = 0) (hn : IsReg n) :
    Calls Tryd.prog 64 #[.pointer (some ⟨c, 0, none⟩), .int .u32 n] w fun e w' => e = .returned (.bool false) ∧ Hp w [] w' := by
  obtain ⟨hl, hk, hc⟩ := hF
  obtain ⟨md, st, mie, mip, tv, sc, ep, ca, tl, cy, re, cf⟩ := F
  simp only at hmd
  subst hmd
  simp only [Fs.cells] at hc
  have m0 : w.cell? ⟨c, 0, none⟩ = some (.int .i64 0) := cell_of hc rfl
  have hd := fdiv8 n hn
  have hd1 : decide (bits .and .u32 (n.fdiv (2 ^ min (Int.toNat 8) IntKind.u32.bits)) 3 = 0) = false := decide_eq_false hd
  refine enter (args := [_, _]) (Γ := [(0, _), (1, _)]) Tryd.func64 Tryd.ntmps64 rfl (of_decide_eq_true rfl) (.cons rfl (.cons rfl .nil)) ?_
  repeat' (first | (apply Wl.loadO; exact rfl; exact rfl; exact m0; exact trivial) | (apply Wl.move; exact rfl; exact rfl) | (apply Wl.assign; exact rfl; exact rfl) | (apply Wl.on; exact rfl; exact rfl; (first | with_reducible rfl | with_reducible assumption | decide)) | (apply Wl.nilCheck; exact rfl; exact rfl) | (apply Wl.pickT; exact rfl; exact rfl; (first | with_reducible rfl | with_reducible assumption | decide); exact rfl) | (apply Wl.pickF; exact rfl; exact rfl; (first | with_reducible rfl | with_reducible assumption | decide); exact rfl) | (apply Wl.fieldAddr0; exact rfl; exact rfl) | (apply Wl.neqPN; exact rfl; exact rfl; exact rfl) | (apply Wl.eql; exact rfl; exact rfl; exact rfl) | (apply Wl.and; exact rfl; exact rfl; exact rfl) | (apply Wl.shr; exact rfl; exact rfl; exact rfl; (omega)) | (apply Wl.nil) | (apply St.seq) | (apply St.region) | (apply St.ret) | (apply Gt.next) | (apply Gt.out1; exact rfl; exact rfl; intro w' hp))
  all_goals first
    | exact ⟨by rw [hd1], hp⟩
    | exact ⟨rfl, hp⟩
theorem widthE (o : Int) : ∃ v : Int, (v = 0 ∨ W124 v) ∧ ∀ w : World, Calls Tryd.prog 43 #[.int .i64 o] w fun e w' => e = .returned (.int .i64 v) ∧ Hp w [] w' := by
  by_cases h11 : o = 11
  · subst h11
    refine ⟨1, .inr (by unfold W124; omega), fun w => ?_⟩
    refine enter (args := [_]) (Γ := [(0, _)]) Tryd.func43 Tryd.ntmps43 rfl (of_decide_eq_true rfl) (.cons rfl .nil) ?_
    repeat' (first | (apply Wl.move; exact rfl; exact rfl) | (apply Wl.assign; exact rfl; exact rfl) | (apply Wl.eqlIs; exact rfl; exact rfl; exact rfl; (first | with_reducible assumption | with_reducible rfl)) | (apply Wl.nil) | (apply St.seq) | (apply St.block) | (apply St.region) | (apply St.condT; exact rfl; (first | with_reducible rfl | with_reducible assumption | decide)) | (apply St.ret) | (apply St.skip) | (apply Gt.next) | (apply Gt.thenRet) | (apply Gt.inRet) | (apply Gt.out1; exact rfl; exact rfl; intro w' hp))
    exact ⟨rfl, hp⟩
  by_cases h14 : o = 14
  · subst h14
    refine ⟨1, .inr (by unfold W124; omega), fun w => ?_⟩
    refine enter (args := [_]) (Γ := [(0, _)]) Tryd.func43 Tryd.ntmps43 rfl (of_decide_eq_true rfl) (.cons rfl .nil) ?_
    repeat' (first | (apply Wl.move; exact rfl; exact rfl) | (apply Wl.assign; exact rfl; exact rfl) | (apply Wl.eqlIs; exact rfl; exact rfl; exact rfl; (first | with_reducible assumption | with_reducible rfl)) | (apply Wl.eql; exact rfl; exact rfl; exact rfl) | (apply Wl.nil) | (apply St.seq) | (apply St.block) | (apply St.region) | (apply St.condT; exact rfl; (first | with_reducible rfl | with_reducible assumption | decide)) | (apply St.condF; exact rfl; (first | with_reducible rfl | with_reducible assumption | decide)) | (apply St.ret) | (apply St.skip) | (apply Gt.next) | (apply Gt.thenRet) | (apply Gt.inRet) | (apply Gt.out1; exact rfl; exact rfl; intro w' hp))
    exact ⟨rfl, hp⟩
  by_cases h16 : o = 16
  · subst h16
    refine ⟨1, .inr (by unfold W124; omega), fun w => ?_⟩
    refine enter (args := [_]) (Γ := [(0, _)]) Tryd.func43 Tryd.ntmps43 rfl (of_decide_eq_true rfl) (.cons rfl .nil) ?_
    repeat' (first | (apply Wl.move; exact rfl; exact rfl) | (apply Wl.assign; exact rfl; exact rfl) | (apply Wl.eqlIs; exact rfl; exact rfl; exact rfl; (first | with_reducible assumption | with_reducible rfl)) | (apply Wl.eql; exact rfl; exact rfl; exact rfl) | (apply Wl.nil) | (apply St.seq) | (apply St.block) | (apply St.region) | (apply St.condT; exact rfl; (first | with_reducible rfl | with_reducible assumption | decide)) | (apply St.condF; exact rfl; (first | with_reducible rfl | with_reducible assumption | decide)) | (apply St.ret) | (apply Gt.next) | (apply Gt.thenRet) | (apply Gt.inRet) | (apply Gt.out1; exact rfl; exact rfl; intro w' hp))
    exact ⟨rfl, hp⟩
  by_cases h12 : o = 12
  · subst h12
    refine ⟨2, .inr (by unfold W124; omega), fun w => ?_⟩
    refine enter (args := [_]) (Γ := [(0, _)]) Tryd.func43 Tryd.ntmps43 rfl (of_decide_eq_true rfl) (.cons rfl .nil) ?_
    repeat' (first | (apply Wl.move; exact rfl; exact rfl) | (apply Wl.assign; exact rfl; exact rfl) | (apply Wl.eqlIs; exact rfl; exact rfl; exact rfl; (first | with_reducible assumption | with_reducible rfl)) | (apply Wl.eql; exact rfl; exact rfl; exact rfl) | (apply Wl.nil) | (apply St.seq) | (apply St.block) | (apply St.region) | (apply St.condT; exact rfl; (first | with_reducible rfl | with_reducible assumption | decide)) | (apply St.condF; exact rfl; (first | with_reducible rfl | with_reducible assumption | decide)) | (apply St.ret) | (apply St.skip) | (apply Gt.next) | (apply Gt.thenRet) | (apply Gt.inRet) | (apply Gt.out1; exact rfl; exact rfl; intro w' hp))
    exact ⟨rfl, hp⟩
  by_cases h15 : o = 15
  · subst h15
    refine ⟨2, .inr (by unfold W124; omega), fun w => ?_⟩
    refine enter (args := [_]) (Γ := [(0, _)]) Tryd.func43 Tryd.ntmps43 rfl (of_decide_eq_true rfl) (.cons rfl .nil) ?_
    repeat' (first | (apply Wl.move; exact rfl; exact rfl) | (apply Wl.assign; exact rfl; exact rfl) | (apply Wl.eqlIs; exact rfl; exact rfl; exact rfl; (first | with_reducible assumption | with_reducible rfl)) | (apply Wl.eql; exact rfl; exact rfl; exact rfl) | (apply Wl.nil) | (apply St.seq) | (apply St.block) | (apply St.region) | (apply St.condT; exact rfl; (first | with_reducible rfl | with_reducible assumption | decide)) | (apply St.condF; exact rfl; (first | with_reducible rfl | with_reducible assumption | decide)) | (apply St.ret) | (apply St.skip) | (apply Gt.next) | (apply Gt.thenRet) | (apply Gt.inRet) | (apply Gt.out1; exact rfl; exact rfl; intro w' hp))
    exact ⟨rfl, hp⟩
  by_cases h17 : o = 17
  · subst h17
    refine ⟨2, .inr (by unfold W124; omega), fun w => ?_⟩
    refine enter (args := [_]) (Γ := [(0, _)]) Tryd.func43 Tryd.ntmps43 rfl (of_decide_eq_true rfl) (.cons rfl .nil) ?_
    repeat' (first | (apply Wl.move; exact rfl; exact rfl) | (apply Wl.assign; exact rfl; exact rfl) | (apply Wl.eqlIs; exact rfl; exact rfl; exact rfl; (first | with_reducible assumption | with_reducible rfl)) | (apply Wl.eql; exact rfl; exact rfl; exact rfl) | (apply Wl.nil) | (apply St.seq) | (apply St.block) | (apply St.region) | (apply St.condT; exact rfl; (first | with_reducible rfl | with_reducible assumption | decide)) | (apply St.condF; exact rfl; (first | with_reducible rfl | with_reducible assumption | decide)) | (apply St.ret) | (apply Gt.next) | (apply Gt.thenRet) | (apply Gt.inRet) | (apply Gt.out1; exact rfl; exact rfl; intro w' hp))
    exact ⟨rfl, hp⟩
  by_cases h13 : o = 13
  · subst h13
    refine ⟨4, .inr (by unfold W124; omega), fun w => ?_⟩
    refine enter (args := [_]) (Γ := [(0, _)]) Tryd.func43 Tryd.ntmps43 rfl (of_decide_eq_true rfl) (.cons rfl .nil) ?_
    repeat' (first | (apply Wl.move; exact rfl; exact rfl) | (apply Wl.assign; exact rfl; exact rfl) | (apply Wl.eqlIs; exact rfl; exact rfl; exact rfl; (first | with_reducible assumption | with_reducible rfl)) | (apply Wl.eql; exact rfl; exact rfl; exact rfl) | (apply Wl.nil) | (apply St.seq) | (apply St.block) | (apply St.region) | (apply St.condT; exact rfl; (first | with_reducible rfl | with_reducible assumption | decide)) | (apply St.condF; exact rfl; (first | with_reducible rfl | with_reducible assumption | decide)) | (apply St.ret) | (apply St.skip) | (apply Gt.next) | (apply Gt.thenRet) | (apply Gt.inRet) | (apply Gt.out1; exact rfl; exact rfl; intro w' hp))
    exact ⟨rfl, hp⟩
  by_cases h18 : o = 18
  · subst h18
    refine ⟨4, .inr (by unfold W124; omega), fun w => ?_⟩
    refine enter (args := [_]) (Γ := [(0, _)]) Tryd.func43 Tryd.ntmps43 rfl (of_decide_eq_true rfl) (.cons rfl .nil) ?_
    repeat' (first | (apply Wl.move; exact rfl; exact rfl) | (apply Wl.assign; exact rfl; exact rfl) | (apply Wl.eqlIs; exact rfl; exact rfl; exact rfl; (first | with_reducible assumption | with_reducible rfl)) | (apply Wl.eql; exact rfl; exact rfl; exact rfl) | (apply Wl.nil) | (apply St.seq) | (apply St.block) | (apply St.region) | (apply St.condT; exact rfl; (first | with_reducible rfl | with_reducible assumption | decide)) | (apply St.condF; exact rfl; (first | with_reducible rfl | with_reducible assumption | decide)) | (apply St.ret) | (apply Gt.next) | (apply Gt.thenRet) | (apply Gt.inRet) | (apply Gt.out1; exact rfl; exact rfl; intro w' hp))
    exact ⟨rfl, hp⟩
  refine ⟨0, .inl rfl, fun w => ?_⟩
  have d11 : decide (o = 11) = false := decide_eq_false h11
  have d14 : decide (o = 14) = false := decide_eq_false h14
  have d16 : decide (o = 16) = false := decide_eq_false h16
  have d12 : decide (o = 12) = false := decide_eq_false h12
  have d15 : decide (o = 15) = false := decide_eq_false h15
  have d17 : decide (o = 17) = false := decide_eq_false h17
  have d13 : decide (o = 13) = false := decide_eq_false h13
  have d18 : decide (o = 18) = false := decide_eq_false h18
  refine enter (args := [_]) (Γ := [(0, _)]) Tryd.func43 Tryd.ntmps43 rfl (of_decide_eq_true rfl) (.cons rfl .nil) ?_
  repeat' (first | (apply Wl.move; exact rfl; exact rfl) | (apply Wl.assign; exact rfl; exact rfl) | (apply Wl.eql; exact rfl; exact rfl; exact rfl) | (apply Wl.nil) | (apply St.seq) | (apply St.block) | (apply St.region) | (apply St.condF; exact rfl; (first | with_reducible rfl | with_reducible assumption | decide)) | (apply St.ret) | (apply St.skip) | (apply Gt.next) | (apply Gt.inNormal) | (apply Gt.out1; exact rfl; exact rfl; intro w' hp))
  exact ⟨rfl, hp⟩
set_option maxHeartbeats 8000000 in
theorem regU (h cf cM : Nat) (xs : List Value) (pc o rd r1 r2 im a : Int) (F : Fs) (f : Nat → Int) (w : World) (hS : SS w h cf cM xs pc F f) (hmd : F.md = 0) (hR : InstR rd r1 r2 im) :
    Calls Tryd.prog 46 #[.pointer (some ⟨h, 0, none⟩), .agg #[.int .i64 o, .int .i64 rd, .int .i64 r1, .int .i64 r2, .int .u32 im], .int .u32 a] w fun e w' => e = .returned (.bool false) ∧ Hp w [] w' := by
  obtain ⟨k1, k2, k3, k4⟩ := id hR
  obtain ⟨c32, c33, c34⟩ := hS.1.at1
  obtain ⟨l1, l2, l3, l4⟩ := hS.lts
  have hFq : ∀ {H : List Blk} {wq : World}, Hp w H wq → (∀ x ∈ H, w.heap.size ≤ x.b) → FX wq cf F := fun hq hH => (hS.hp hq hS.lts hH).2.1
  refine enter (args := [_, _, _]) (Γ := [(0, _), (1, _), (2, _)]) Tryd.func46 Tryd.ntmps46 rfl (of_decide_eq_true rfl) (.cons rfl (.cons rfl (.cons rfl .nil))) ?_
  by_cases hreg : IsReg im
  · have hd1 : decide (IsReg im) = true := decide_eq_true hreg
    have hd2 : (!decide (IsReg im)) = false := by rw [hd1]; rfl
    repeat' (first | (apply Wl.loadO; exact rfl; exact rfl; (first | assumption); (repeat (first | exact trivial | refine ⟨by simp only; omega, ?_⟩))) | (apply Wl.callC (f := 40); exact rfl; (repeat (first | exact Evs.nil | apply Evs.cons rfl)); (intro wq hq; refine (form_any _ wq).mono ?_; rintro e wr ⟨⟨fv_, rfl⟩, hr⟩; refine ⟨_, _, rfl, hq.keep hr, ?_⟩; clear hr hq wr wq)) | (apply Wl.callC (f := 13); exact rfl; (repeat (first | exact Evs.nil | apply Evs.cons rfl)); (intro wq hq; refine (fread_any cf im _ _ _ _ _ _ _ _ _ _ wq k4 (hFq hq (by simp; omega)).2.1 (hFq hq (by simp; omega)).2.2).mono ?_; rintro e wr ⟨⟨rv_, rfl⟩, hr⟩; refine ⟨_, _, rfl, hq.keep hr, ?_⟩; clear hr hq wr wq)) | (apply Wl.callQ (f := 64); exact rfl; (repeat (first | exact Evs.nil | apply Evs.cons rfl)); (intro wq hq; refine (fmayU cf F im wq (hFq hq (by simp; omega)) hmd hreg).mono ?_; rintro e wr ⟨rfl, hr⟩; exact ⟨rfl, hq.keep hr⟩)) | (apply Wl.move; exact rfl; exact rfl) | (apply Wl.assign; exact rfl; exact rfl) | (apply Wl.on; exact rfl; exact rfl; (first | with_reducible rfl | with_reducible assumption | decide)) | (apply Wl.off; exact rfl; exact rfl; exact rfl; (first | with_reducible rfl | (show _ = false; with_reducible assumption) | (show _ = true; with_reducible assumption) | decide)) | (apply Wl.offU; exact rfl; exact rfl; exact rfl) | (apply Wl.extract; exact rfl; exact rfl; exact rfl) | (apply Wl.nilCheck; exact rfl; exact rfl) | (apply Wl.pickT; exact rfl; exact rfl; (first | with_reducible rfl | with_reducible assumption | decide); exact rfl) | (apply Wl.pickF; exact rfl; exact rfl; (first | with_reducible rfl | with_reducible assumption | decide); exact rfl) | (apply Wl.not; exact rfl; exact rfl) | (apply Wl.fieldAddr0; exact rfl; exact rfl) | (apply Wl.fieldAddrZ; exact rfl; exact rfl) | (apply Wl.loadH; exact rfl; exact rfl; (repeat (first | exact List.Mem.head _ | apply List.Mem.tail)); exact rfl) | (apply Wl.eql; exact rfl; exact rfl; exact rfl) | (apply Wl.neq; exact rfl; exact rfl; exact rfl) | (apply Wl.convU32; exact rfl; exact rfl; (constructor <;> omega)) | (apply Wl.boxA; exact rfl; exact rfl; intro c hc ho) | (apply Wl.nil) | (apply St.seq) | (apply St.region) | (apply St.condT; exact rfl; (first | with_reducible rfl | with_reducible assumption | decide)) | (apply St.ret) | (apply St.skip) | (apply Gt.next) | (apply Gt.thenRet) | (apply Gt.out1; exact rfl; exact rfl; intro w' hp) | (apply Wl.splitP; exact rfl; exact rfl; all_goals (intros; try (exfalso; omega))) | (apply St.condP; exact rfl; all_goals (intros; try (exfalso; omega))))
    all_goals exact ⟨rfl, hp.drop (by simp; omega)⟩
  · have hd1 : decide (IsReg im) = false := decide_eq_false hreg
    have hd2 : (!decide (IsReg im)) = true := by rw [hd1]; rfl
    repeat' (first | (apply Wl.loadO; exact rfl; exact rfl; (first | assumption); (repeat (first | exact trivial | refine ⟨by simp only; omega, ?_⟩))) | (apply Wl.callC (f := 40); exact rfl; (repeat (first | exact Evs.nil | apply Evs.cons rfl)); (intro wq hq; refine (form_any _ wq).mono ?_; rintro e wr ⟨⟨fv_, rfl⟩, hr⟩; refine ⟨_, _, rfl, hq.keep hr, ?_⟩; clear hr hq wr wq)) | (apply Wl.callC (f := 13); exact rfl; (repeat (first | exact Evs.nil | apply Evs.cons rfl)); (intro wq hq; refine (fread_any cf im _ _ _ _ _ _ _ _ _ _ wq k4 (hFq hq (by simp; omega)).2.1 (hFq hq (by simp; omega)).2.2).mono ?_; rintro e wr ⟨⟨rv_, rfl⟩, hr⟩; refine ⟨_, _, rfl, hq.keep hr, ?_⟩; clear hr hq wr wq)) | (apply Wl.move; exact rfl; exact rfl) | (apply Wl.assign; exact rfl; exact rfl) | (apply Wl.on; exact rfl; exact rfl; (first | with_reducible rfl | with_reducible assumption | decide)) | (apply Wl.off; exact rfl; exact rfl; exact rfl; (first | with_reducible rfl | (show _ = false; with_reducible assumption) | (show _ = true; with_reducible assumption) | decide)) | (apply Wl.offU; exact rfl; exact rfl; exact rfl) | (apply Wl.extract; exact rfl; exact rfl; exact rfl) | (apply Wl.nilCheck; exact rfl; exact rfl) | (apply Wl.pickT; exact rfl; exact rfl; (first | with_reducible rfl | with_reducible assumption | decide); exact rfl) | (apply Wl.pickF; exact rfl; exact rfl; (first | with_reducible rfl | with_reducible assumption | decide); exact rfl) | (apply Wl.not; exact rfl; exact rfl) | (apply Wl.fieldAddr0; exact rfl; exact rfl) | (apply Wl.fieldAddrZ; exact rfl; exact rfl) | (apply Wl.loadH; exact rfl; exact rfl; (repeat (first | exact List.Mem.head _ | apply List.Mem.tail)); exact rfl) | (apply Wl.eql; exact rfl; exact rfl; exact rfl) | (apply Wl.neq; exact rfl; exact rfl; exact rfl) | (apply Wl.convU32; exact rfl; exact rfl; (constructor <;> omega)) | (apply Wl.boxA; exact rfl; exact rfl; intro c hc ho) | (apply Wl.nil) | (apply St.seq) | (apply St.region) | (apply St.condT; exact rfl; (first | with_reducible rfl | with_reducible assumption | decide)) | (apply St.ret) | (apply St.skip) | (apply Gt.next) | (apply Gt.thenRet) | (apply Gt.out1; exact rfl; exact rfl; intro w' hp) | (apply Wl.splitP; exact rfl; exact rfl; all_goals (intros; try (exfalso; omega))) | (apply St.condP; exact rfl; all_goals (intros; try (exfalso; omega))))
    all_goals exact ⟨rfl, hp.drop (by simp; omega)⟩
set_option maxHeartbeats 8000000 in
theorem sysU (h cf cM : Nat) (xs : List Value) (pc wd o rd r1 r2 im nx : Int) (F : Fs) (f : Nat → Int) (w : World) (hS : SS w h cf cM xs pc F f) (hmd : F.md = 0) (hnx : 0 ≤ nx ∧ nx < 4294967296) :
    Calls Tryd.prog 47 #[.pointer (some ⟨h, 0, none⟩), .agg #[.int .u32 wd, .bool false, .int .u32 0, .int .u32 0, .int .u32 0, .int .i64 0, .bool false], .agg #[.int .i64 o, .int .i64 rd, .int .i64 r1, .int .i64 r2, .int .u32 im], .int .u32 nx] w fun e w' => ∃ v, e = .returned v ∧ OutP w' h cf cM xs pc F f v ∧ Upd (fun k => k = h ∨ k = cf ∨ k = cM) w w' := by
  have hw := hS.lts
  have hu0 : Upd (Mv h cf cM w.heap.size) w w := Upd.refl _ _
  obtain ⟨c32, c33, c34⟩ := hS.1.at1
  obtain ⟨l1, l2, l3, l4⟩ := hS.lts
  have m0 : w.cell? ⟨cf, 0, none⟩ = some (.int .i64 F.md) := hS.2.1.ff.two
  rw [hmd] at m0
  refine enter (args := [_, _, _, _]) (Γ := [(0, _), (1, _), (2, _), (3, _)]) Tryd.func47 Tryd.ntmps47 rfl (of_decide_eq_true rfl) (.cons rfl (.cons rfl (.cons rfl (.cons rfl .nil)))) ?_
  repeat' (first | (apply Wl.callS (f := 23) (w0 := w); exact rfl; (repeat (first | exact Evs.nil | apply Evs.cons rfl)); assumption; assumption; exact hw; (simp only [List.mem_cons, List.not_mem_nil, or_false, forall_eq_or_imp, forall_eq]; omega); (intro wq hSq; exact htrapS h cf cM _ _ F _ _ _ _ _ _ _ _ _ _ wq hSq hmd); (rintro v w1 ⟨rfl, hT1⟩ hu1; have hz1 := hu1.size)) | (apply Wl.callS (f := 48) (w0 := w); exact rfl; (repeat (first | exact Evs.nil | apply Evs.cons rfl)); assumption; assumption; exact hw; (simp only [List.mem_cons, List.not_mem_nil, or_false, forall_eq_or_imp, forall_eq]; omega); (intro wq hSq; exact hdoneS h cf cM _ _ _ F _ _ _ _ _ _ _ _ wq hSq (by first | assumption | exact wr32 _ | exact br32 _ _ _)); (rintro v w1 ⟨rfl, hS1⟩ hu1; have hz1 := hu1.size)) | (apply St.bagX 6 []; exact mixed; (decide +kernel); kernel_rfl) | (apply Wl.loadO; exact rfl; exact rfl; (first | assumption); (repeat (first | exact trivial | exact hX.off (by omega) | refine ⟨by first | assumption | omega | (simp only; omega), ?_⟩))) | (apply OpsX.nil) | (apply OpsX.v; (intro X hX; change Wl [_] _ _ _ _ _ _ _; apply Wl.catX; (repeat (first | apply CatB.nil | apply CatB.cons)))) | (apply Gt.endX; exact rfl) | (apply EndX.on; exact rfl) | (apply EndX.off; exact rfl) | (apply EndX.nil'; apply Wl.catE; (repeat (first | apply CatB.nil | apply CatB.cons))) | (apply Gt.outC'; exact rfl; infer_instance; exact rfl; (repeat (first | exact List.Mem.head _ | apply List.Mem.tail)); (repeat (first | apply LSub.z | apply LSub.t | apply LSub.s)); intro w' hp) | (apply Wl.move; exact rfl; exact rfl) | (apply Wl.assign; exact rfl; exact rfl) | (apply Wl.on; exact rfl; exact rfl; (first | with_reducible rfl | with_reducible assumption | decide)) | (apply Wl.off; exact rfl; exact rfl; exact rfl; (first | with_reducible rfl | (show _ = false; with_reducible assumption) | (show _ = true; with_reducible assumption) | decide)) | (apply Wl.nilCheck; exact rfl; exact rfl) | (apply Wl.pickT; exact rfl; exact rfl; (first | with_reducible rfl | with_reducible assumption | decide); exact rfl) | (apply Wl.pickF; exact rfl; exact rfl; (first | with_reducible rfl | with_reducible assumption | decide); exact rfl) | (apply Wl.fieldAddr0; exact rfl; exact rfl) | (apply Wl.fieldAddrZ; exact rfl; exact rfl) | (apply Wl.loadH; exact rfl; exact rfl; (repeat (first | exact List.Mem.head _ | apply List.Mem.tail)); exact rfl) | (apply Wl.eqlIs; exact rfl; exact rfl; exact rfl; (first | with_reducible assumption | with_reducible rfl)) | (apply Wl.eql; exact rfl; exact rfl; exact rfl) | (apply Wl.storeA; exact rfl; exact rfl; exact rfl; exact rfl; (repeat (first | apply HSet.here | apply HSet.there)); (repeat (first | apply LPut.s | apply LPut.z | apply LOver.nil | apply LOver.cons))) | (apply Wl.loadAH; exact rfl; exact rfl; (repeat (first | exact List.Mem.head _ | apply List.Mem.tail)); (repeat (first | apply LSub.z | apply LSub.t | apply LSub.s))) | (apply Wl.boxA; exact rfl; exact rfl; intro c hc ho) | (apply Wl.alloc; exact rfl; intro c hc ho) | (apply Wl.nil) | (apply St.seq) | (apply St.block) | (apply St.region) | (apply St.condT; exact rfl; (first | with_reducible rfl | with_reducible assumption | decide)) | (apply St.condF; exact rfl; (first | with_reducible rfl | with_reducible assumption | decide)) | (apply St.ret) | (apply St.skip) | (apply Gt.next) | (apply Gt.thenRet) | (apply Gt.inNormal) | (apply Gt.inRet) | (apply Wl.splitP; exact rfl; exact rfl; all_goals (intros; try (exfalso; omega))) | (apply St.condP; exact rfl; all_goals (intros; try (exfalso; omega))))
  all_goals first
    | exact ⟨_, rfl, ⟨_, _, _, _, _, true, _, rfl, by decide, .inl ⟨rfl, hT1.hp hp hw (by simp only [List.mem_cons, List.not_mem_nil, or_false, forall_eq_or_imp, forall_eq]; omega)⟩⟩, finU hu1 hp (by simp only [List.mem_cons, List.not_mem_nil, or_false, forall_eq_or_imp, forall_eq]; omega)⟩
    | exact ⟨_, rfl, ⟨_, _, _, _, _, false, _, rfl, by decide, .inr ⟨rfl, rfl, _, _, _, hS1.hp hp hw (by simp only [List.mem_cons, List.not_mem_nil, or_false, forall_eq_or_imp, forall_eq]; omega), .inl ⟨rfl, rfl⟩⟩⟩, finU hu1 hp (by simp only [List.mem_cons, List.not_mem_nil, or_false, forall_eq_or_imp, forall_eq]; omega)⟩
end Go.Proofs.YtcefkbnachnciaaDoor
end
section
namespace Go.Proofs.YtcefkbnachnciaaDoor
open Go.RowKit Go.Pt
theorem OutP.hp {w w0 w' : World} {H : List Blk} {h cf cM : Nat} {xs : List Value} {pc : Int} {F : Fs} {f : Nat → Int} {v : Value} (k : OutP w h cf cM xs pc F f v) (hq : Hp w H w') (hw : h < w0.heap.size ∧ cf < w0.heap.size ∧ cM < w0.heap.size ∧ 0 < w0.heap.size) (hH : ∀ x ∈ H, w0.heap.size ≤ x.b) : OutP w' h cf cM xs pc F f v := by
  obtain ⟨a1, a2, a3, a4, a5, a6, a7, rfl, hc, hO⟩ := k
  refine ⟨a1, a2, a3, a4, a5, a6, a7, rfl, hc, hO.imp (fun k => ⟨k.1, k.2.hp hq hw hH⟩) fun k => ?_⟩
  obtain ⟨b1, b2, xs', pc', f', hS, hm⟩ := k
  exact ⟨b1, b2, xs', pc', f', hS.hp hq hw hH, hm⟩
theorem loadX_rng (f : Nat → Int) (a : Nat) (n : Nat) : 0 ≤ loadX f a n ∧ loadX f a n < 4294967296 := by
  cases n with
  | zero => unfold loadX; decide
  | succ n => rw [loadX_succ]; exact br32 _ _ _
theorem mloadP (c : Nat) (a n : Int) (f : Nat → Int) (w : World) (ha : 0 ≤ a ∧ a < 4294967296) (hn : W124 n) (hi : inM a n) (hc : memH w c f) :
    Calls Tryd.prog 24 #[.pointer (some ⟨c, 0, none⟩), .int .u32 a, .int .i64 n] w fun e w' => e = .returned (.tuple #[.int .u32 (loadX f (a - 2147483648).toNat n.toNat), .int .i64 0]) ∧ Hp w [] w' := by
  have := mload c a n f w ha hn hc
  rw [if_pos (show 2147483648 ≤ a ∧ a + n ≤ 2147483648 + 65536 from hi)] at this
  exact this
theorem mloadNo (c : Nat) (a n : Int) (f : Nat → Int) (w : World) (ha : 0 ≤ a ∧ a < 4294967296) (hn : W124 n) (hi : ¬ inM a n) (hc : memH w c f) :
    Calls Tryd.prog 24 #[.pointer (some ⟨c, 0, none⟩), .int .u32 a, .int .i64 n] w fun e w' => e = .returned (.tuple #[.int .u32 0, .int .i64 18]) ∧ Hp w [] w' := by
  have := mload c a n f w ha hn hc
  rw [if_neg (show ¬ (2147483648 ≤ a ∧ a + n ≤ 2147483648 + 65536) from hi)] at this
  exact this
theorem hasP (c : Nat) (a n : Int) (b : Bool) (w : World) (ha : 0 ≤ a ∧ a < 4294967296) (hn : 0 ≤ n ∧ n < 4294967296) (hb : b = true ↔ inM a n) :
    Calls Tryd.prog 18 #[.pointer (some ⟨c, 0, none⟩), .int .u32 a, .int .u32 n] w fun e w' => e = .returned (.bool b) ∧ Hp w [] w' := by
  have e : decide (2147483648 ≤ a ∧ a + n ≤ 2147483648 + 65536) = b := by
    cases b
    · exact decide_eq_false fun h => (by cases hb.2 h)
    · exact decide_eq_true (hb.1 rfl)
  rw [← e]
  exact has_any c a n w ha hn
theorem mstoreS (h cf cM : Nat) (xs : List Value) (pc a n x : Int) (F : Fs) (f : Nat → Int) (w : World) (hS : SS w h cf cM xs pc F f) (ha : 0 ≤ a ∧ a < 4294967296) (hn : W124 n) (hi : inM a n) :
    Calls Tryd.prog 20 #[.pointer (some ⟨cM, 0, none⟩), .int .u32 a, .int .i64 n, .int .u32 x] w
      fun e w' => ∃ v, e = .returned v ∧ ((∃ z, v = .int .i64 z) ∧ SS w' h cf cM xs pc F (storeX f (a - 2147483648).toNat x n.toNat)) ∧ Upd (fun k => k = h ∨ k = cf ∨ k = cM) w w' := by
  refine (mstore cM a n x f w ha hn hS.2.2.1).mono ?_
  rintro e w' ⟨⟨v, rfl⟩, hp⟩
  rw [if_pos (show 2147483648 ≤ a ∧ a + n ≤ 2147483648 + 65536 from hi)] at hp
  have u := Hp.turned hp
  obtain ⟨a1, a2, a3, a4, a5, a6, a7, ⟨z1, z2, z3⟩, n1, n2, n3⟩ := hS
  exact ⟨_, rfl, ⟨⟨v, rfl⟩, a1.upd u n2, a2.upd u n3, hp.own.at (.head _), a4, a5, a6, a7.upd u fun e => z3 e.symm, ⟨z1, z2, z3⟩, n1, n2, n3⟩, u.mono fun k _ e => .inr (.inr e)⟩
theorem widenE (o x : Int) (hx : 0 ≤ x ∧ x < 4294967296) : ∃ v : Int, (0 ≤ v ∧ v < 4294967296) ∧ ∀ w : World, Calls Tryd.prog 61 #[.int .i64 o, .int .u32 x] w fun e w' => e = .returned (.int .u32 v) ∧ Hp w [] w' := by
  by_cases h11 : o = 11
  · subst h11
    apply Exists.intro
    refine And.intro ?rng (fun w => ?z)
    case z =>
      refine enter (args := [_, _]) (Γ := [(0, _), (1, _)]) Tryd.func61 Tryd.ntmps61 rfl (of_decide_eq_true rfl) (.cons rfl (.cons rfl .nil)) ?_
      repeat' (first | (apply Wl.move; exact rfl; exact rfl) | (apply Wl.assign; exact rfl; exact rfl) | (apply Wl.eqlIs; exact rfl; exact rfl; exact rfl; (first | with_reducible assumption | with_reducible rfl)) | (apply Wl.convI; exact rfl; exact rfl) | (apply Wl.nil) | (apply St.seq) | (apply St.block) | (apply St.region) | (apply St.condT; exact rfl; (first | with_reducible rfl | with_reducible assumption | decide)) | (apply St.ret) | (apply Gt.next) | (apply Gt.thenRet) | (apply Gt.inRet) | (apply Gt.out1; exact rfl; exact rfl; intro w' hp))
      exact ⟨rfl, hp⟩
    case rng => (first | assumption | exact wr32 _ | exact br32 _ _ _ | exact and31 _ | (constructor <;> omega) | (apply fd32; first | assumption | exact wr32 _ | exact br32 _ _ _))
  by_cases h12 : o = 12
  · subst h12
    apply Exists.intro
    refine And.intro ?rng (fun w => ?z)
    case z =>
      refine enter (args := [_, _]) (Γ := [(0, _), (1, _)]) Tryd.func61 Tryd.ntmps61 rfl (of_decide_eq_true rfl) (.cons rfl (.cons rfl .nil)) ?_
      repeat' (first | (apply Wl.move; exact rfl; exact rfl) | (apply Wl.assign; exact rfl; exact rfl) | (apply Wl.eqlIs; exact rfl; exact rfl; exact rfl; (first | with_reducible assumption | with_reducible rfl)) | (apply Wl.eql; exact rfl; exact rfl; exact rfl) | (apply Wl.convI; exact rfl; exact rfl) | (apply Wl.nil) | (apply St.seq) | (apply St.block) | (apply St.region) | (apply St.condT; exact rfl; (first | with_reducible rfl | with_reducible assumption | decide)) | (apply St.condF; exact rfl; (first | with_reducible rfl | with_reducible assumption | decide)) | (apply St.ret) | (apply Gt.next) | (apply Gt.thenRet) | (apply Gt.inRet) | (apply Gt.out1; exact rfl; exact rfl; intro w' hp))
      exact ⟨rfl, hp⟩
    case rng => (first | assumption | exact wr32 _ | exact br32 _ _ _ | exact and31 _ | (constructor <;> omega) | (apply fd32; first | assumption | exact wr32 _ | exact br32 _ _ _))
  by_cases h14 : o = 14
  · subst h14
    apply Exists.intro
    refine And.intro ?rng (fun w => ?z)
    case z =>
      refine enter (args := [_, _]) (Γ := [(0, _), (1, _)]) Tryd.func61 Tryd.ntmps61 rfl (of_decide_eq_true rfl) (.cons rfl (.cons rfl .nil)) ?_
      repeat' (first | (apply Wl.move; exact rfl; exact rfl) | (apply Wl.assign; exact rfl; exact rfl) | (apply Wl.eqlIs; exact rfl; exact rfl; exact rfl; (first | with_reducible assumption | with_reducible rfl)) | (apply Wl.eql; exact rfl; exact rfl; exact rfl) | (apply Wl.and; exact rfl; exact rfl; exact rfl) | (apply Wl.nil) | (apply St.seq) | (apply St.block) | (apply St.region) | (apply St.condT; exact rfl; (first | with_reducible rfl | with_reducible assumption | decide)) | (apply St.condF; exact rfl; (first | with_reducible rfl | with_reducible assumption | decide)) | (apply St.ret) | (apply Gt.next) | (apply Gt.thenRet) | (apply Gt.inRet) | (apply Gt.out1; exact rfl; exact rfl; intro w' hp))
      exact ⟨rfl, hp⟩
    case rng => (first | assumption | exact wr32 _ | exact br32 _ _ _ | exact and31 _ | (constructor <;> omega) | (apply fd32; first | assumption | exact wr32 _ | exact br32 _ _ _))
  by_cases h15 : o = 15
  · subst h15
    apply Exists.intro
    refine And.intro ?rng (fun w => ?z)
    case z =>
      refine enter (args := [_, _]) (Γ := [(0, _), (1, _)]) Tryd.func61 Tryd.ntmps61 rfl (of_decide_eq_true rfl) (.cons rfl (.cons rfl .nil)) ?_
      repeat' (first | (apply Wl.move; exact rfl; exact rfl) | (apply Wl.assign; exact rfl; exact rfl) | (apply Wl.eqlIs; exact rfl; exact rfl; exact rfl; (first | with_reducible assumption | with_reducible rfl)) | (apply Wl.eql; exact rfl; exact rfl; exact rfl) | (apply Wl.and; exact rfl; exact rfl; exact rfl) | (apply Wl.nil) | (apply St.seq) | (apply St.block) | (apply St.region) | (apply St.condT; exact rfl; (first | with_reducible rfl | with_reducible assumption | decide)) | (apply St.condF; exact rfl; (first | with_reducible rfl | with_reducible assumption | decide)) | (apply St.ret) | (apply Gt.next) | (apply Gt.thenRet) | (apply Gt.inRet) | (apply Gt.out1; exact rfl; exact rfl; intro w' hp))
      exact ⟨rfl, hp⟩
    case rng => (first | assumption | exact wr32 _ | exact br32 _ _ _ | exact and31 _ | (constructor <;> omega) | (apply fd32; first | assumption | exact wr32 _ | exact br32 _ _ _))
  have d11 : decide (o = 11) = false := decide_eq_false h11
  have d12 : decide (o = 12) = false := decide_eq_false h12
  have d14 : decide (o = 14) = false := decide_eq_false h14
  have d15 : decide (o = 15) = false := decide_eq_false h15
  apply Exists.intro
  refine And.intro ?rng (fun w => ?z)
  case z =>
    refine enter (args := [_, _]) (Γ := [(0, _), (1, _)]) Tryd.func61 Tryd.ntmps61 rfl (of_decide_eq_true rfl) (.cons rfl (.cons rfl .nil)) ?_
    repeat' (first | (apply Wl.move; exact rfl; exact rfl) | (apply Wl.assign; exact rfl; exact rfl) | (apply Wl.eql; exact rfl; exact rfl; exact rfl) | (apply Wl.nil) | (apply St.seq) | (apply St.block) | (apply St.region) | (apply St.condF; exact rfl; (first | with_reducible rfl | with_reducible assumption | decide)) | (apply St.ret) | (apply St.skip) | (apply Gt.next) | (apply Gt.inNormal) | (apply Gt.out1; exact rfl; exact rfl; intro w' hp))
    exact ⟨rfl, hp⟩
  case rng => (first | assumption | exact wr32 _ | exact br32 _ _ _ | exact and31 _ | (constructor <;> omega) | (apply fd32; first | assumption | exact wr32 _ | exact br32 _ _ _))
set_option maxHeartbeats 16000000 in
theorem memU (h cf cM : Nat) (xs : List Value) (pc wd o rd r1 r2 im at_ b n : Int) (F : Fs) (f : Nat → Int) (w : World) (hS : SS w h cf cM xs pc F f) (hmd : F.md = 0) (hR : InstR rd r1 r2 im) (hat : 0 ≤ at_ ∧ at_ < 4294967296) (hn : W124 n) (hW : ∀ w : World, Calls Tryd.prog 43 #[.int .i64 o] w fun e w' => e = .returned (.int .i64 n) ∧ Hp w [] w') :
    Calls Tryd.prog 44 #[.pointer (some ⟨h, 0, none⟩), .agg #[.int .u32 wd, .bool false, .int .u32 0, .int .u32 0, .int .u32 0, .int .i64 0, .bool false], .agg #[.int .i64 o, .int .i64 rd, .int .i64 r1, .int .i64 r2, .int .u32 im], .int .u32 at_, .int .u32 b] w fun e w' => ∃ v, e = .returned v ∧ OutP w' h cf cM xs pc F f v ∧ Upd (fun k => k = h ∨ k = cf ∨ k = cM) w w' := by
  obtain ⟨k1, k2, k3, k4⟩ := id hR
  have hw := hS.lts
  have hu0 : Upd (Mv h cf cM w.heap.size) w w := Upd.refl _ _
  obtain ⟨c32, c33, c34⟩ := hS.1.at1
  obtain ⟨l1, l2, l3, l4⟩ := hS.lts
  have m0 : w.cell? ⟨cf, 0, none⟩ = some (.int .i64 F.md) := hS.2.1.ff.two
  rw [hmd] at m0
  have hn14 : 1 ≤ n ∧ n ≤ 4 := by unfold W124 at hn; omega
  have hSQ : ∀ {H : List Blk} {wq : World}, Hp w H wq → (hH : ∀ x ∈ H, w.heap.size ≤ x.b := by simp only [List.mem_cons, List.not_mem_nil, or_false, forall_eq_or_imp, forall_eq]; omega) → SS wq h cf cM xs pc F f := fun hq hH => hS.hp hq hw hH
  refine enter (args := [_, _, _, _, _]) (Γ := [(0, _), (1, _), (2, _), (3, _), (4, _)]) Tryd.func44 Tryd.ntmps44 rfl (of_decide_eq_true rfl) (.cons rfl (.cons rfl (.cons rfl (.cons rfl (.cons rfl .nil))))) ?_
  obtain ⟨wv, hwv, hWd⟩ := widenE o _ (loadX_rng f (at_ - 2147483648).toNat n.toNat)
  by_cases hin : inM at_ n
  · obtain ⟨bi, hbt, hbi⟩ : ∃ b : Bool, b = true ∧ (b = true ↔ inM at_ n) := ⟨true, rfl, fun _ => hin, fun _ => rfl⟩
    have hbn : (!bi) = false := by rw [hbt]; rfl
    repeat' (first | (apply Wl.callQ (f := 43); exact rfl; (repeat (first | exact Evs.nil | apply Evs.cons rfl)); (intro wq hq; refine (hW wq).mono ?_; rintro e wr ⟨rfl, hr⟩; exact ⟨rfl, hq.keep hr⟩)) | (apply Wl.callC (f := 40); exact rfl; (repeat (first | exact Evs.nil | apply Evs.cons rfl)); (intro wq hq; refine (form_any _ wq).mono ?_; rintro e wr ⟨⟨fv_, rfl⟩, hr⟩; refine ⟨_, _, rfl, hq.keep hr, ?_⟩; clear hr hq wr wq; by_cases hfv : fv_ = 4; have hfd : decide (fv_ = 4) = true := decide_eq_true hfv; rotate_left; have hfd : decide (fv_ = 4) = false := decide_eq_false hfv; rotate_left)) | (apply Wl.callS (f := 23) (w0 := w); exact rfl; (repeat (first | exact Evs.nil | apply Evs.cons rfl)); assumption; assumption; exact hw; (simp only [List.mem_cons, List.not_mem_nil, or_false, forall_eq_or_imp, forall_eq]; omega); (intro wq hSq; exact htrapS h cf cM _ _ F _ _ _ _ _ _ _ _ _ _ wq hSq hmd); (rintro v w1 ⟨rfl, hT1⟩ hu1; have hz1 := hu1.size)) | (apply Wl.callS (f := 48) (w0 := w); exact rfl; (repeat (first | exact Evs.nil | apply Evs.cons rfl)); assumption; assumption; exact hw; (simp only [List.mem_cons, List.not_mem_nil, or_false, forall_eq_or_imp, forall_eq]; omega); (intro wq hSq; exact hdoneS h cf cM _ _ _ F _ _ _ _ _ _ _ _ wq hSq (by first | assumption | exact wr32 _ | exact br32 _ _ _)); (rintro v w1 ⟨rfl, hS1⟩ hu1; have hz1 := hu1.size)) | (apply Wl.callS (f := 41) (w0 := w); exact rfl; (repeat (first | exact Evs.nil | apply Evs.cons rfl)); assumption; assumption; exact hw; (simp only [List.mem_cons, List.not_mem_nil, or_false, forall_eq_or_imp, forall_eq]; omega); (intro wq hSq; exact hsetS h cf cM _ _ _ _ F _ wq hSq (by first | assumption | omega) (by first | assumption | exact wr32 _ | exact br32 _ _ _)); (rintro v w2 ⟨rfl, hS2⟩ hu2; have hz2 := hu2.size; obtain ⟨e32, e33, e34⟩ := hS2.1.at1)) | (apply Wl.callS (f := 20) (w0 := w); exact rfl; (repeat (first | exact Evs.nil | apply Evs.cons rfl)); assumption; assumption; exact hw; (simp only [List.mem_cons, List.not_mem_nil, or_false, forall_eq_or_imp, forall_eq]; omega); (intro wq hSq; exact mstoreS h cf cM _ _ _ _ _ F _ wq hSq hat hn hin); (rintro v w2 ⟨⟨z_, rfl⟩, hS2⟩ hu2; have hz2 := hu2.size; obtain ⟨e32, e33, e34⟩ := hS2.1.at1)) | (apply Wl.callQ (f := 18); exact rfl; (repeat (first | exact Evs.nil | apply Evs.cons rfl)); (intro wq hq; refine (hasP cM at_ n bi wq hat (by omega) hbi).mono ?_; rintro e wr ⟨rfl, hr⟩; exact ⟨rfl, hq.keep hr⟩)) | (apply Wl.callQ (f := 17); exact rfl; (repeat (first | exact Evs.nil | apply Evs.cons rfl)); (intro wq hq; refine (may1X cf F at_ n _ wq (hSQ hq).2.1 hmd (hSQ hq).2.2.2.2.2.2.1).mono ?_; rintro e wr ⟨rfl, hr⟩; exact ⟨rfl, hq.keep hr⟩)) | (apply Wl.callQ (f := 24); exact rfl; (repeat (first | exact Evs.nil | apply Evs.cons rfl)); (intro wq hq; refine (mloadP cM at_ n f wq hat hn hin (hSQ hq).2.2.1).mono ?_; rintro e wr ⟨rfl, hr⟩; exact ⟨rfl, hq.keep hr⟩)) | (apply Wl.callQ (f := 61); exact rfl; (repeat (first | exact Evs.nil | apply Evs.cons rfl)); (intro wq hq; refine (hWd wq).mono ?_; rintro e wr ⟨rfl, hr⟩; exact ⟨rfl, hq.keep hr⟩)) | (apply St.bagX (i := 8) 7 []; exact mixed; (decide +kernel); kernel_rfl) | (apply St.bagX (i := 15) 7 []; exact mixed; (decide +kernel); kernel_rfl) | (apply Wl.loadO; exact rfl; exact rfl; (first | assumption); (repeat (first | exact trivial | exact hX.off (by first | omega | (simp only; omega)) | refine ⟨by first | assumption | omega | (simp only; omega), ?_⟩))) | (apply OpsX.nil) | (apply OpsX.v; (intro X hX; change Wl [_] _ _ _ _ _ _ _; apply Wl.catX; (repeat (first | apply CatB.nil | apply CatB.cons)))) | (apply Gt.endX; exact rfl) | (apply EndX.on; exact rfl) | (apply EndX.off; exact rfl) | (apply EndX.nil'; apply Wl.catE; (repeat (first | apply CatB.nil | apply CatB.cons))) | (apply Gt.outC'; exact rfl; infer_instance; exact rfl; (repeat (first | exact List.Mem.head _ | apply List.Mem.tail)); (repeat (first | apply LSub.z | apply LSub.t | apply LSub.s)); intro w' hp) | (apply Wl.move; exact rfl; exact rfl) | (apply Wl.assign; exact rfl; exact rfl) | (apply Wl.on; exact rfl; exact rfl; (first | with_reducible rfl | with_reducible assumption | decide)) | (apply Wl.extract; exact rfl; exact rfl; exact rfl) | (apply Wl.nilCheck; exact rfl; exact rfl) | (apply Wl.pickF; exact rfl; exact rfl; (first | with_reducible rfl | with_reducible assumption | decide); exact rfl) | (apply Wl.not; exact rfl; exact rfl) | (apply Wl.fieldAddr0; exact rfl; exact rfl) | (apply Wl.fieldAddrZ; exact rfl; exact rfl) | (apply Wl.loadH; exact rfl; exact rfl; (repeat (first | exact List.Mem.head _ | apply List.Mem.tail)); exact rfl) | (apply Wl.eqlIs; exact rfl; exact rfl; exact rfl; (first | with_reducible assumption | with_reducible rfl)) | (apply Wl.eql; exact rfl; exact rfl; exact rfl) | (apply Wl.neq; exact rfl; exact rfl; exact rfl) | (apply Wl.add; exact rfl; exact rfl; exact rfl) | (apply Wl.rem; exact rfl; exact rfl; exact rfl; (first | decide | omega)) | (apply Wl.convU32; exact rfl; exact rfl; (constructor <;> omega)) | (apply Wl.store; exact rfl; exact rfl; exact rfl; (repeat (first | apply HSet.here | apply HSet.there)); (repeat (first | apply LSet.z | apply LSet.s))) | (apply Wl.storeA; exact rfl; exact rfl; exact rfl; exact rfl; (repeat (first | apply HSet.here | apply HSet.there)); (repeat (first | apply LPut.s | apply LPut.z | apply LOver.nil | apply LOver.cons))) | (apply Wl.loadAH; exact rfl; exact rfl; (repeat (first | exact List.Mem.head _ | apply List.Mem.tail)); (repeat (first | apply LSub.z | apply LSub.t | apply LSub.s))) | (apply Wl.boxA; exact rfl; exact rfl; intro c hc ho) | (apply Wl.alloc; exact rfl; intro c hc ho) | (apply Wl.nil) | (apply St.seq) | (apply St.block) | (apply St.region) | (apply St.condT; exact rfl; (first | with_reducible rfl | with_reducible assumption | decide)) | (apply St.condF; exact rfl; (first | with_reducible rfl | with_reducible assumption | decide)) | (apply St.ret) | (apply St.skip) | (apply Gt.next) | (apply Gt.thenRet) | (apply Gt.inNormal) | (apply Gt.inRet) | (apply St.condP; exact rfl; all_goals (intros; try (exfalso; omega))) | (apply St.condB; exact rfl; all_goals intros))
    all_goals first
      | exact ⟨_, rfl, ⟨_, _, _, _, _, true, _, rfl, by decide, .inl ⟨rfl, hT1.hp hp hw (by simp only [List.mem_cons, List.not_mem_nil, or_false, forall_eq_or_imp, forall_eq]; omega)⟩⟩, finU hu1 hp (by simp only [List.mem_cons, List.not_mem_nil, or_false, forall_eq_or_imp, forall_eq]; omega)⟩
      | exact ⟨_, rfl, ⟨_, _, _, _, _, false, decide (fv_ = 4), rfl, by decide, .inr ⟨rfl, rfl, _, _, _, hS1.hp hp hw (by simp only [List.mem_cons, List.not_mem_nil, or_false, forall_eq_or_imp, forall_eq]; omega), .inr ⟨hn, hat, hin, by rw [hfd]; simpa using ‹(!mayB F.cf at_ n 1) = false›, fun j _ => rfl⟩⟩⟩, finU hu1 hp (by simp only [List.mem_cons, List.not_mem_nil, or_false, forall_eq_or_imp, forall_eq]; omega)⟩
      | exact ⟨_, rfl, ⟨_, _, _, _, _, false, true, rfl, by decide, .inr ⟨rfl, rfl, _, _, _, hS1.hp hp hw (by simp only [List.mem_cons, List.not_mem_nil, or_false, forall_eq_or_imp, forall_eq]; omega), .inr ⟨hn, hat, hin, by simpa using ‹(!mayB F.cf at_ n 2) = false›, fun j hj => storeX_out (by have hj2 : ¬ (at_ ≤ 2147483648 + (j : Int) ∧ 2147483648 + (j : Int) < at_ + n) := fun h => hj ⟨rfl, h⟩; unfold inM at hin; omega)⟩⟩⟩, finU hu1 hp (by simp only [List.mem_cons, List.not_mem_nil, or_false, forall_eq_or_imp, forall_eq]; omega)⟩
  · obtain ⟨bi, hbt, hbi⟩ : ∃ b : Bool, b = false ∧ (b = true ↔ inM at_ n) := ⟨false, rfl, fun h => (by cases h), fun h => (hin h).elim⟩
    have hbn : (!bi) = true := by rw [hbt]; rfl
    repeat' (first | (apply Wl.callQ (f := 43); exact rfl; (repeat (first | exact Evs.nil | apply Evs.cons rfl)); (intro wq hq; refine (hW wq).mono ?_; rintro e wr ⟨rfl, hr⟩; exact ⟨rfl, hq.keep hr⟩)) | (apply Wl.callC (f := 40); exact rfl; (repeat (first | exact Evs.nil | apply Evs.cons rfl)); (intro wq hq; refine (form_any _ wq).mono ?_; rintro e wr ⟨⟨fv_, rfl⟩, hr⟩; refine ⟨_, _, rfl, hq.keep hr, ?_⟩; clear hr hq wr wq; by_cases hfv : fv_ = 4; have hfd : decide (fv_ = 4) = true := decide_eq_true hfv; rotate_left; have hfd : decide (fv_ = 4) = false := decide_eq_false hfv; rotate_left)) | (apply Wl.callS (f := 23) (w0 := w); exact rfl; (repeat (first | exact Evs.nil | apply Evs.cons rfl)); assumption; assumption; exact hw; (simp only [List.mem_cons, List.not_mem_nil, or_false, forall_eq_or_imp, forall_eq]; omega); (intro wq hSq; exact htrapS h cf cM _ _ F _ _ _ _ _ _ _ _ _ _ wq hSq hmd); (rintro v w1 ⟨rfl, hT1⟩ hu1; have hz1 := hu1.size)) | (apply Wl.callQ (f := 18); exact rfl; (repeat (first | exact Evs.nil | apply Evs.cons rfl)); (intro wq hq; refine (hasP cM at_ n bi wq hat (by omega) hbi).mono ?_; rintro e wr ⟨rfl, hr⟩; exact ⟨rfl, hq.keep hr⟩)) | (apply Wl.loadO; exact rfl; exact rfl; (first | assumption); (repeat (first | exact trivial | exact hX.off (by first | omega | (simp only; omega)) | refine ⟨by first | assumption | omega | (simp only; omega), ?_⟩))) | (apply Gt.outC'; exact rfl; infer_instance; exact rfl; (repeat (first | exact List.Mem.head _ | apply List.Mem.tail)); (repeat (first | apply LSub.z | apply LSub.t | apply LSub.s)); intro w' hp) | (apply Wl.move; exact rfl; exact rfl) | (apply Wl.assign; exact rfl; exact rfl) | (apply Wl.off; exact rfl; exact rfl; exact rfl; (first | with_reducible rfl | (show _ = false; with_reducible assumption) | (show _ = true; with_reducible assumption) | decide)) | (apply Wl.nilCheck; exact rfl; exact rfl) | (apply Wl.pickT; exact rfl; exact rfl; (first | with_reducible rfl | with_reducible assumption | decide); exact rfl) | (apply Wl.not; exact rfl; exact rfl) | (apply Wl.fieldAddr0; exact rfl; exact rfl) | (apply Wl.fieldAddrZ; exact rfl; exact rfl) | (apply Wl.loadH; exact rfl; exact rfl; (repeat (first | exact List.Mem.head _ | apply List.Mem.tail)); exact rfl) | (apply Wl.eqlIs; exact rfl; exact rfl; exact rfl; (first | with_reducible assumption | with_reducible rfl)) | (apply Wl.eql; exact rfl; exact rfl; exact rfl) | (apply Wl.neq; exact rfl; exact rfl; exact rfl) | (apply Wl.rem; exact rfl; exact rfl; exact rfl; (first | decide | omega)) | (apply Wl.convU32; exact rfl; exact rfl; (constructor <;> omega)) | (apply Wl.store; exact rfl; exact rfl; exact rfl; (repeat (first | apply HSet.here | apply HSet.there)); (repeat (first | apply LSet.z | apply LSet.s))) | (apply Wl.storeA; exact rfl; exact rfl; exact rfl; exact rfl; (repeat (first | apply HSet.here | apply HSet.there)); (repeat (first | apply LPut.s | apply LPut.z | apply LOver.nil | apply LOver.cons))) | (apply Wl.loadAH; exact rfl; exact rfl; (repeat (first | exact List.Mem.head _ | apply List.Mem.tail)); (repeat (first | apply LSub.z | apply LSub.t | apply LSub.s))) | (apply Wl.boxA; exact rfl; exact rfl; intro c hc ho) | (apply Wl.alloc; exact rfl; intro c hc ho) | (apply Wl.nil) | (apply St.seq) | (apply St.block) | (apply St.region) | (apply St.condT; exact rfl; (first | with_reducible rfl | with_reducible assumption | decide)) | (apply St.condF; exact rfl; (first | with_reducible rfl | with_reducible assumption | decide)) | (apply St.ret) | (apply St.skip) | (apply Gt.next) | (apply Gt.thenRet) | (apply Gt.inRet) | (apply St.condP; exact rfl; all_goals (intros; try (exfalso; omega))))
    all_goals exact ⟨_, rfl, ⟨_, _, _, _, _, true, _, rfl, by decide, .inl ⟨rfl, hT1.hp hp hw (by simp only [List.mem_cons, List.not_mem_nil, or_false, forall_eq_or_imp, forall_eq]; omega)⟩⟩, finU hu1 hp (by simp only [List.mem_cons, List.not_mem_nil, or_false, forall_eq_or_imp, forall_eq]; omega)⟩
end Go.Proofs.YtcefkbnachnciaaDoor
end
section
namespace Go.Proofs.YtcefkbnachnciaaDoor
open Go.RowKit Go.Pt
set_option maxHeartbeats 16000000 in
theorem doU (h cf cM : Nat) (xs : List Value) (pc wd o rd r1 r2 im : Int) (F : Fs) (f : Nat → Int) (w : World) (hS : SS w h cf cM xs pc F f) (hmd : F.md = 0) (hR : InstR rd r1 r2 im) :
    Calls Tryd.prog 25 #[.pointer (some ⟨h, 0, none⟩), .agg #[.int .u32 wd, .bool false, .int .u32 0, .int .u32 0, .int .u32 0, .int .i64 0, .bool false], .agg #[.int .i64 o, .int .i64 rd, .int .i64 r1, .int .i64 r2, .int .u32 im]] w fun e w' => ∃ v, e = .returned v ∧ OutP w' h cf cM xs pc F f v ∧ Upd (fun k => k = h ∨ k = cf ∨ k = cM) w w' := by
  obtain ⟨k1, k2, k3, k4⟩ := id hR
  have hw := hS.lts
  have hu0 : Upd (Mv h cf cM w.heap.size) w w := Upd.refl _ _
  obtain ⟨c32, c33, c34⟩ := hS.1.at1
  obtain ⟨l1, l2, l3, l4⟩ := hS.lts
  have m0 : w.cell? ⟨cf, 0, none⟩ = some (.int .i64 F.md) := hS.2.1.ff.two
  rw [hmd] at m0
  have hSQ : ∀ {H : List Blk} {wq : World}, Hp w H wq → (hH : ∀ x ∈ H, w.heap.size ≤ x.b := by simp only [List.mem_cons, List.not_mem_nil, or_false, forall_eq_or_imp, forall_eq]; omega) → SS wq h cf cM xs pc F f := fun hq hH => hS.hp hq hw hH
  obtain ⟨za, hza, ra⟩ := hS.reg k2
  obtain ⟨zb, hzb, rb⟩ := hS.reg k3
  obtain ⟨n, hn, hW⟩ := widthE o
  refine enter (args := [_, _, _]) (Γ := [(0, _), (1, _), (2, _)]) Tryd.func25 Tryd.ntmps25 rfl (of_decide_eq_true rfl) (.cons rfl (.cons rfl (.cons rfl .nil))) ?_
  repeat' (first | (apply Wl.callC (f := 40); exact rfl; (repeat (first | exact Evs.nil | apply Evs.cons rfl)); (intro wq hq; refine (form_any _ wq).mono ?_; rintro e wr ⟨⟨fv_, rfl⟩, hr⟩; refine ⟨_, _, rfl, hq.keep hr, ?_⟩; clear hr hq wr wq)) | (apply Wl.callQ (f := 43); exact rfl; (repeat (first | exact Evs.nil | apply Evs.cons rfl)); (intro wq hq; refine (hW wq).mono ?_; rintro e wr ⟨rfl, hr⟩; exact ⟨rfl, hq.keep hr⟩)) | (apply Wl.callC (f := 42); exact rfl; (repeat (first | exact Evs.nil | apply Evs.cons rfl)); (intro wq hq; refine (goes_any _ _ _ wq).mono ?_; rintro e wr ⟨⟨gx_, gy_, rfl⟩, hr⟩; refine ⟨_, _, rfl, hq.keep hr, ?_⟩; clear hr hq wr wq)) | (apply Wl.callC (f := 45); exact rfl; (repeat (first | exact Evs.nil | apply Evs.cons rfl)); (intro wq hq; refine (reckon_any _ _ _ wq (by assumption) (by assumption)).mono ?_; rintro e wr ⟨⟨rv_, ry_, rfl, hrv_⟩, hr⟩; refine ⟨_, _, rfl, hq.keep hr, ?_⟩; clear hr hq wr wq)) | (apply Wl.callS (f := 23) (w0 := w); exact rfl; (repeat (first | exact Evs.nil | apply Evs.cons rfl)); assumption; assumption; exact hw; (simp only [List.mem_cons, List.not_mem_nil, or_false, forall_eq_or_imp, forall_eq]; omega); (intro wq hSq; exact htrapS h cf cM _ _ F _ _ _ _ _ _ _ _ _ _ wq hSq hmd); (rintro v w1 ⟨rfl, hT1⟩ hu1; have hz1 := hu1.size)) | (apply Wl.callS (f := 48) (w0 := w); exact rfl; (repeat (first | exact Evs.nil | apply Evs.cons rfl)); assumption; assumption; exact hw; (simp only [List.mem_cons, List.not_mem_nil, or_false, forall_eq_or_imp, forall_eq]; omega); (intro wq hSq; exact hdoneS h cf cM _ _ _ F _ _ _ _ _ _ _ _ wq hSq (by first | assumption | exact wr32 _ | exact br32 _ _ _)); (rintro v w1 ⟨rfl, hS1⟩ hu1; have hz1 := hu1.size)) | (apply Wl.callS (f := 41) (w0 := w); exact rfl; (repeat (first | exact Evs.nil | apply Evs.cons rfl)); assumption; assumption; exact hw; (simp only [List.mem_cons, List.not_mem_nil, or_false, forall_eq_or_imp, forall_eq]; omega); (intro wq hSq; exact hsetS h cf cM _ _ _ _ F _ wq hSq (by first | assumption | omega) (by first | assumption | exact wr32 _ | exact br32 _ _ _)); (rintro v w2 ⟨rfl, hS2⟩ hu2; have hz2 := hu2.size; obtain ⟨e32, e33, e34⟩ := hS2.1.at1)) | (apply Wl.callS (f := 44) (w0 := w); exact rfl; (repeat (first | exact Evs.nil | apply Evs.cons rfl)); assumption; assumption; exact hw; (simp only [List.mem_cons, List.not_mem_nil, or_false, forall_eq_or_imp, forall_eq]; omega); (intro wq hSq; exact memU h cf cM _ _ _ _ _ _ _ _ _ _ n F _ wq hSq hmd hR (by exact wr32 _) (by unfold W124 at hn ⊢; omega) hW); (rintro v w1 ⟨a1_, a2_, a3_, a4_, a5_, a6_, a7_, rfl, hc1, hO⟩ hu1; have hz1 := hu1.size)) | (apply Wl.callS (f := 47) (w0 := w); exact rfl; (repeat (first | exact Evs.nil | apply Evs.cons rfl)); assumption; assumption; exact hw; (simp only [List.mem_cons, List.not_mem_nil, or_false, forall_eq_or_imp, forall_eq]; omega); (intro wq hSq; exact sysU h cf cM _ _ _ _ _ _ _ _ _ F _ wq hSq hmd (by exact wr32 _)); (rintro v w1 ⟨a1_, a2_, a3_, a4_, a5_, a6_, a7_, rfl, hc1, hO⟩ hu1; have hz1 := hu1.size)) | (apply Wl.callQ (f := 46); exact rfl; (repeat (first | exact Evs.nil | apply Evs.cons rfl)); (intro wq hq; refine (regU h cf cM _ _ _ _ _ _ _ _ F _ wq (hSQ hq) hmd hR).mono ?_; rintro e wr ⟨rfl, hr⟩; exact ⟨rfl, hq.keep hr⟩)) | (apply St.bagX (i := 7) 8 []; exact mixed; (decide +kernel); kernel_rfl) | (apply Wl.loadO; exact rfl; exact rfl; (first | assumption); (repeat (first | exact trivial | exact hX.off (by first | omega | (simp only; omega)) | refine ⟨by first | assumption | omega | (simp only; omega), ?_⟩))) | (apply OpsX.nil) | (apply OpsX.v; (intro X hX; change Wl [_] _ _ _ _ _ _ _; apply Wl.catX; (repeat (first | apply CatB.nil | apply CatB.cons)))) | (apply Gt.endX; exact rfl) | (apply EndX.on; exact rfl) | (apply EndX.off; exact rfl) | (apply EndX.nil'; apply Wl.catE; (repeat (first | apply CatB.nil | apply CatB.cons))) | (apply Gt.outC'; exact rfl; infer_instance; exact rfl; (repeat (first | exact List.Mem.head _ | apply List.Mem.tail)); (repeat (first | apply LSub.z | apply LSub.t | apply LSub.s)); intro w' hp) | (apply Wl.move; exact rfl; exact rfl) | (apply Wl.assign; exact rfl; exact rfl) | (apply Wl.on; exact rfl; exact rfl; (first | with_reducible rfl | with_reducible assumption | decide)) | (apply Wl.off; exact rfl; exact rfl; exact rfl; (first | with_reducible rfl | (show _ = false; with_reducible assumption) | (show _ = true; with_reducible assumption) | decide)) | (apply Wl.extract; exact rfl; exact rfl; exact rfl) | (apply Wl.nilCheck; exact rfl; exact rfl) | (apply Wl.pickT; exact rfl; exact rfl; (first | with_reducible rfl | with_reducible assumption | decide); exact rfl) | (apply Wl.pickF; exact rfl; exact rfl; (first | with_reducible rfl | with_reducible assumption | decide); exact rfl) | (apply Wl.not; exact rfl; exact rfl) | (apply Wl.fieldAddr0; exact rfl; exact rfl) | (apply Wl.fieldAddrZ; exact rfl; exact rfl) | (apply Wl.loadH; exact rfl; exact rfl; (repeat (first | exact List.Mem.head _ | apply List.Mem.tail)); exact rfl) | (apply Wl.eqlIs; exact rfl; exact rfl; exact rfl; (first | with_reducible assumption | with_reducible rfl)) | (apply Wl.eql; exact rfl; exact rfl; exact rfl) | (apply Wl.neq; exact rfl; exact rfl; exact rfl) | (apply Wl.gtr; exact rfl; exact rfl; exact rfl) | (apply Wl.add; exact rfl; exact rfl; exact rfl) | (apply Wl.rem; exact rfl; exact rfl; exact rfl; (first | decide | omega)) | (apply Wl.andNot; exact rfl; exact rfl; exact rfl) | (apply Wl.store; exact rfl; exact rfl; exact rfl; (repeat (first | apply HSet.here | apply HSet.there)); (repeat (first | apply LSet.z | apply LSet.s))) | (apply Wl.storeA; exact rfl; exact rfl; exact rfl; exact rfl; (repeat (first | apply HSet.here | apply HSet.there)); (repeat (first | apply LPut.s | apply LPut.z | apply LOver.nil | apply LOver.cons))) | (apply Wl.loadAH; exact rfl; exact rfl; (repeat (first | exact List.Mem.head _ | apply List.Mem.tail)); (repeat (first | apply LSub.z | apply LSub.t | apply LSub.s))) | (apply Wl.boxA; exact rfl; exact rfl; intro c hc ho) | (apply Wl.alloc; exact rfl; intro c hc ho) | (apply Wl.indexArr; exact rfl; exact rfl; exact rfl; (constructor <;> omega)) | (apply Wl.nil) | (apply Wl.nilQ) | (apply St.seq) | (apply St.block) | (apply St.region) | (apply St.draw; exact mixed; (kernel_rfl); exact (fun _ h => Hp.drew h)) | (apply St.condT; exact rfl; (first | with_reducible rfl | with_reducible assumption | decide)) | (apply St.ret) | (apply St.skip) | (apply Gt.next) | (apply Gt.thenRet) | (apply Gt.inNormal) | (apply Gt.inRet) | (apply Wl.splitP; exact rfl; exact rfl; all_goals (intros; try (exfalso; omega))) | (apply St.condP; exact rfl; all_goals (intros; try (exfalso; omega))) | (apply St.condB; exact rfl; all_goals intros))
  all_goals first
    | exact ⟨_, rfl, ⟨_, _, _, _, _, true, _, rfl, by decide, .inl ⟨rfl, hT1.hp hp hw (by simp only [List.mem_cons, List.not_mem_nil, or_false, forall_eq_or_imp, forall_eq]; omega)⟩⟩, finU hu1 hp (by simp only [List.mem_cons, List.not_mem_nil, or_false, forall_eq_or_imp, forall_eq]; omega)⟩
    | exact ⟨_, rfl, ⟨_, _, _, _, _, false, _, rfl, by decide, .inr ⟨rfl, rfl, _, _, _, hS1.hp hp hw (by simp only [List.mem_cons, List.not_mem_nil, or_false, forall_eq_or_imp, forall_eq]; omega), .inl ⟨rfl, rfl⟩⟩⟩, finU hu1 hp (by simp only [List.mem_cons, List.not_mem_nil, or_false, forall_eq_or_imp, forall_eq]; omega)⟩
    | exact ⟨_, rfl, OutP.hp ⟨_, _, _, _, _, _, _, rfl, hc1, hO⟩ hp hw (by simp only [List.mem_cons, List.not_mem_nil, or_false, forall_eq_or_imp, forall_eq]; omega), finU hu1 hp (by simp only [List.mem_cons, List.not_mem_nil, or_false, forall_eq_or_imp, forall_eq]; omega)⟩
def StepO (w' : World) (h cf cM : Nat) (xs : List Value) (pc : Int) (F : Fs) (f : Nat → Int) (v : Value) : Prop :=
  (dueOf F.md F.st F.mie F.mip = true ∧ v = trc 0 true 2147483655 0 0 0 false ∧ TrapP w' h cf cM xs pc F f 2147483655 0) ∨
  (dueOf F.md F.st F.mie F.mip = false ∧ OutP w' h cf cM xs pc F f v ∧ (mayB F.cf pc 4 4 = true ∨ ∃ wd c1 tl1 at_ wi st, v = trc wd true c1 tl1 at_ wi st))
set_option maxHeartbeats 16000000 in
theorem stepU (h cf cM : Nat) (xs : List Value) (pc : Int) (F : Fs) (f : Nat → Int) (w : World) (hS : SS w h cf cM xs pc F f) (hmd : F.md = 0) :
    Calls Tryd.prog 9 #[.pointer (some ⟨h, 0, none⟩)] w fun e w' => ∃ v, e = .returned v ∧ StepO w' h cf cM xs pc F f v ∧ Upd (fun k => k = h ∨ k = cf ∨ k = cM) w w' := by
  have hw := hS.lts
  have hu0 : Upd (Mv h cf cM w.heap.size) w w := Upd.refl _ _
  obtain ⟨c32, c33, c34⟩ := hS.1.at1
  obtain ⟨l1, l2, l3, l4⟩ := hS.lts
  have m0 : w.cell? ⟨cf, 0, none⟩ = some (.int .i64 F.md) := hS.2.1.ff.two
  rw [hmd] at m0
  have hSQ : ∀ {H : List Blk} {wq : World}, Hp w H wq → (hH : ∀ x ∈ H, w.heap.size ≤ x.b := by simp only [List.mem_cons, List.not_mem_nil, or_false, forall_eq_or_imp, forall_eq]; omega) → SS wq h cf cM xs pc F f := fun hq hH => hS.hp hq hw hH
  have hpcr := hS.2.2.2.2.1
  have hDue : ∀ wq : World, FX wq cf F → Calls Tryd.prog 22 #[.pointer (some ⟨cf, 0, none⟩)] wq fun e w' => e = .returned (.bool (dueOf F.md F.st F.mie F.mip)) ∧ Hp wq [] w' := fun wq hF => fdue cf _ _ _ _ _ _ _ _ _ _ wq hF.2.2
  refine enter (args := [_]) (Γ := [(0, _)]) Tryd.func9 Tryd.ntmps9 rfl (of_decide_eq_true rfl) (.cons rfl .nil) ?_
  generalize hdv : dueOf F.md F.st F.mie F.mip = du at *
  cases du
  rotate_left
  · repeat' (first | (apply Wl.callQ (f := 22); exact rfl; (repeat (first | exact Evs.nil | apply Evs.cons rfl)); (intro wq hq; refine (hDue wq (hSQ hq).2.1).mono ?_; rintro e wr ⟨rfl, hr⟩; exact ⟨rfl, hq.keep hr⟩)) | (apply Wl.callS (f := 23) (w0 := w); exact rfl; (repeat (first | exact Evs.nil | apply Evs.cons rfl)); assumption; assumption; exact hw; (simp only [List.mem_cons, List.not_mem_nil, or_false, forall_eq_or_imp, forall_eq]; omega); (intro wq hSq; exact htrapS h cf cM _ _ F _ _ _ _ _ _ _ _ _ _ wq hSq hmd); (rintro v w1 ⟨rfl, hT1⟩ hu1; have hz1 := hu1.size)) | (apply Wl.loadO; exact rfl; exact rfl; (first | assumption); (repeat (first | exact trivial | exact hX.off (by first | omega | (simp only; omega)) | refine ⟨by first | assumption | omega | (simp only; omega), ?_⟩))) | (apply Gt.outC'; exact rfl; infer_instance; exact rfl; (repeat (first | exact List.Mem.head _ | apply List.Mem.tail)); (repeat (first | apply LSub.z | apply LSub.t | apply LSub.s)); intro w' hp) | (apply Wl.move; exact rfl; exact rfl) | (apply Wl.nilCheck; exact rfl; exact rfl) | (apply Wl.fieldAddrZ; exact rfl; exact rfl) | (apply Wl.eqlPN; exact rfl; exact rfl; exact rfl) | (apply Wl.storeA; exact rfl; exact rfl; exact rfl; exact rfl; (repeat (first | apply HSet.here | apply HSet.there)); (repeat (first | apply LPut.s | apply LPut.z | apply LOver.nil | apply LOver.cons))) | (apply Wl.buildS; exact rfl; (repeat (first | exact Parts.nil | apply Parts.cons rfl)); (repeat (first | apply Fills.nil | (apply Fills.one; exact rfl; exact rfl; (repeat (first | apply LSet.z | apply LSet.s))) | (apply Fills.agg; exact rfl; exact rfl; (repeat (first | apply LPut.s | apply LPut.z | apply LOver.nil | apply LOver.cons)))))) | (apply Wl.alloc; exact rfl; intro c hc ho) | (apply Wl.nil) | (apply St.seq) | (apply St.region) | (apply St.condT; exact rfl; (first | with_reducible rfl | with_reducible assumption | decide)) | (apply St.condF; exact rfl; (first | with_reducible rfl | with_reducible assumption | decide)) | (apply St.ret) | (apply St.skip) | (apply Gt.next) | (apply Gt.thenRet))
    exact ⟨_, rfl, .inl ⟨hdv, rfl, hT1.hp hp hw (by simp only [List.mem_cons, List.not_mem_nil, or_false, forall_eq_or_imp, forall_eq]; omega)⟩, finU hu1 hp (by simp only [List.mem_cons, List.not_mem_nil, or_false, forall_eq_or_imp, forall_eq]; omega)⟩
  · by_cases hin : inM pc 4
    · repeat' (first | (apply Wl.callQ (f := 22); exact rfl; (repeat (first | exact Evs.nil | apply Evs.cons rfl)); (intro wq hq; refine (hDue wq (hSQ hq).2.1).mono ?_; rintro e wr ⟨rfl, hr⟩; exact ⟨rfl, hq.keep hr⟩)) | (apply Wl.callS (f := 23) (w0 := w); exact rfl; (repeat (first | exact Evs.nil | apply Evs.cons rfl)); assumption; assumption; exact hw; (simp only [List.mem_cons, List.not_mem_nil, or_false, forall_eq_or_imp, forall_eq]; omega); (intro wq hSq; exact htrapS h cf cM _ _ F _ _ _ _ _ _ _ _ _ _ wq hSq hmd); (rintro v w1 ⟨rfl, hT1⟩ hu1; have hz1 := hu1.size)) | (apply Wl.callQQ (f := 24); exact rfl; (repeat (first | exact Evs.nil | apply Evs.cons rfl)); (intro wq hq; refine (mloadP cM pc 4 f wq hpcr (.inr (.inr rfl)) hin (hSQ hq).2.2.1).mono ?_; rintro e wr ⟨rfl, hr⟩; exact ⟨rfl, hq.keep hr⟩)) | (apply Wl.callQQ (f := 17); exact rfl; (repeat (first | exact Evs.nil | apply Evs.cons rfl)); (intro wq hq; refine (may1X cf F pc 4 4 wq (hSQ hq).2.1 hmd (hSQ hq).2.2.2.2.2.2.1).mono ?_; rintro e wr ⟨rfl, hr⟩; exact ⟨rfl, hq.keep hr⟩)) | (apply Wl.callC (f := 26); exact rfl; (repeat (first | exact Evs.nil | apply Evs.cons rfl)); (intro wq hq; refine (dec_any _ wq (loadX_rng _ _ _)).mono ?_; rintro e wr ⟨⟨o1_, o2_, o3_, o4_, o5_, rfl, hoR_⟩, hr⟩; refine ⟨_, _, rfl, hq.keep hr, ?_⟩; clear hr hq wr wq)) | (apply Wl.callS (f := 25) (w0 := w); exact rfl; (repeat (first | exact Evs.nil | apply Evs.cons rfl)); assumption; assumption; exact hw; (simp only [List.mem_cons, List.not_mem_nil, or_false, forall_eq_or_imp, forall_eq]; omega); (intro wq hSq; exact doU h cf cM _ _ _ _ _ _ _ _ F _ wq hSq hmd hoR_); (rintro v w1 ⟨a1_, a2_, a3_, a4_, a5_, a6_, a7_, rfl, hc1, hO⟩ hu1; have hz1 := hu1.size)) | (apply Wl.loadO; exact rfl; exact rfl; (first | assumption); (repeat (first | exact trivial | exact hX.off (by first | omega | (simp only; omega)) | refine ⟨by first | assumption | omega | (simp only; omega), ?_⟩))) | (apply Gt.outC'; exact rfl; infer_instance; exact rfl; (repeat (first | exact List.Mem.head _ | apply List.Mem.tail)); (repeat (first | apply LSub.z | apply LSub.t | apply LSub.s)); intro w' hp) | (apply Wl.move; exact rfl; exact rfl) | (apply Wl.assign; exact rfl; exact rfl) | (apply Wl.on; exact rfl; exact rfl; (first | with_reducible rfl | with_reducible assumption | decide)) | (apply Wl.extract; exact rfl; exact rfl; exact rfl) | (apply Wl.nilCheck; exact rfl; exact rfl) | (apply Wl.pickF; exact rfl; exact rfl; (first | with_reducible rfl | with_reducible assumption | decide); exact rfl) | (apply Wl.not; exact rfl; exact rfl) | (apply Wl.fieldAddrZ; exact rfl; exact rfl) | (apply Wl.eqlPN; exact rfl; exact rfl; exact rfl) | (apply Wl.neqIs; exact rfl; exact rfl; exact rfl; (first | with_reducible assumption | with_reducible rfl)) | (apply Wl.neq; exact rfl; exact rfl; exact rfl) | (apply Wl.rem; exact rfl; exact rfl; exact rfl; (first | decide | omega)) | (apply Wl.storeA; exact rfl; exact rfl; exact rfl; exact rfl; (repeat (first | apply HSet.here | apply HSet.there)); (repeat (first | apply LPut.s | apply LPut.z | apply LOver.nil | apply LOver.cons))) | (apply Wl.buildS; exact rfl; (repeat (first | exact Parts.nil | apply Parts.cons rfl)); (repeat (first | apply Fills.nil | (apply Fills.one; exact rfl; exact rfl; (repeat (first | apply LSet.z | apply LSet.s))) | (apply Fills.agg; exact rfl; exact rfl; (repeat (first | apply LPut.s | apply LPut.z | apply LOver.nil | apply LOver.cons)))))) | (apply Wl.alloc; exact rfl; intro c hc ho) | (apply Wl.nil) | (apply Wl.nilQ) | (apply St.seq) | (apply St.region) | (apply St.draw; exact mixed; (kernel_rfl); exact (fun _ h => Hp.drew h)) | (apply St.condF; exact rfl; (first | with_reducible rfl | with_reducible assumption | decide)) | (apply St.ret) | (apply St.skip) | (apply Gt.next) | (apply Gt.thenRet) | (apply St.condP; exact rfl; all_goals (intros; try (exfalso; omega))) | (apply St.condB; exact rfl; all_goals intros))
      all_goals first
        | exact ⟨_, rfl, .inr ⟨hdv, ⟨_, _, _, _, _, true, _, rfl, by decide, .inl ⟨rfl, hT1.hp hp hw (by simp only [List.mem_cons, List.not_mem_nil, or_false, forall_eq_or_imp, forall_eq]; omega)⟩⟩, .inr ⟨_, _, _, _, _, _, rfl⟩⟩, finU hu1 hp (by simp only [List.mem_cons, List.not_mem_nil, or_false, forall_eq_or_imp, forall_eq]; omega)⟩
        | exact ⟨_, rfl, .inr ⟨hdv, OutP.hp ⟨_, _, _, _, _, _, _, rfl, hc1, hO⟩ hp hw (by simp only [List.mem_cons, List.not_mem_nil, or_false, forall_eq_or_imp, forall_eq]; omega), .inl (by simpa using ‹(!mayB F.cf pc 4 4) = false›)⟩, finU hu1 hp (by simp only [List.mem_cons, List.not_mem_nil, or_false, forall_eq_or_imp, forall_eq]; omega)⟩
    · repeat' (first | (apply Wl.callQ (f := 22); exact rfl; (repeat (first | exact Evs.nil | apply Evs.cons rfl)); (intro wq hq; refine (hDue wq (hSQ hq).2.1).mono ?_; rintro e wr ⟨rfl, hr⟩; exact ⟨rfl, hq.keep hr⟩)) | (apply Wl.callS (f := 23) (w0 := w); exact rfl; (repeat (first | exact Evs.nil | apply Evs.cons rfl)); assumption; assumption; exact hw; (simp only [List.mem_cons, List.not_mem_nil, or_false, forall_eq_or_imp, forall_eq]; omega); (intro wq hSq; exact htrapS h cf cM _ _ F _ _ _ _ _ _ _ _ _ _ wq hSq hmd); (rintro v w1 ⟨rfl, hT1⟩ hu1; have hz1 := hu1.size)) | (apply Wl.callQQ (f := 24); exact rfl; (repeat (first | exact Evs.nil | apply Evs.cons rfl)); (intro wq hq; refine (mloadNo cM pc 4 f wq hpcr (.inr (.inr rfl)) hin (hSQ hq).2.2.1).mono ?_; rintro e wr ⟨rfl, hr⟩; exact ⟨rfl, hq.keep hr⟩)) | (apply Wl.loadO; exact rfl; exact rfl; (first | assumption); (repeat (first | exact trivial | exact hX.off (by first | omega | (simp only; omega)) | refine ⟨by first | assumption | omega | (simp only; omega), ?_⟩))) | (apply Gt.outC'; exact rfl; infer_instance; exact rfl; (repeat (first | exact List.Mem.head _ | apply List.Mem.tail)); (repeat (first | apply LSub.z | apply LSub.t | apply LSub.s)); intro w' hp) | (apply Wl.move; exact rfl; exact rfl) | (apply Wl.assign; exact rfl; exact rfl) | (apply Wl.off; exact rfl; exact rfl; exact rfl; (first | with_reducible rfl | (show _ = false; with_reducible assumption) | (show _ = true; with_reducible assumption) | decide)) | (apply Wl.extract; exact rfl; exact rfl; exact rfl) | (apply Wl.nilCheck; exact rfl; exact rfl) | (apply Wl.pickT; exact rfl; exact rfl; (first | with_reducible rfl | with_reducible assumption | decide); exact rfl) | (apply Wl.fieldAddrZ; exact rfl; exact rfl) | (apply Wl.eqlPN; exact rfl; exact rfl; exact rfl) | (apply Wl.neq; exact rfl; exact rfl; exact rfl) | (apply Wl.rem; exact rfl; exact rfl; exact rfl; (first | decide | omega)) | (apply Wl.storeA; exact rfl; exact rfl; exact rfl; exact rfl; (repeat (first | apply HSet.here | apply HSet.there)); (repeat (first | apply LPut.s | apply LPut.z | apply LOver.nil | apply LOver.cons))) | (apply Wl.buildS; exact rfl; (repeat (first | exact Parts.nil | apply Parts.cons rfl)); (repeat (first | apply Fills.nil | (apply Fills.one; exact rfl; exact rfl; (repeat (first | apply LSet.z | apply LSet.s))) | (apply Fills.agg; exact rfl; exact rfl; (repeat (first | apply LPut.s | apply LPut.z | apply LOver.nil | apply LOver.cons)))))) | (apply Wl.alloc; exact rfl; intro c hc ho) | (apply Wl.nil) | (apply Wl.nilQ) | (apply St.seq) | (apply St.region) | (apply St.draw; exact mixed; (kernel_rfl); exact (fun _ h => Hp.drew h)) | (apply St.condT; exact rfl; (first | with_reducible rfl | with_reducible assumption | decide)) | (apply St.condF; exact rfl; (first | with_reducible rfl | with_reducible assumption | decide)) | (apply St.ret) | (apply St.skip) | (apply Gt.next) | (apply Gt.thenRet) | (apply St.condP; exact rfl; all_goals (intros; try (exfalso; omega))))
      all_goals exact ⟨_, rfl, .inr ⟨hdv, ⟨_, _, _, _, _, true, _, rfl, by decide, .inl ⟨rfl, hT1.hp hp hw (by simp only [List.mem_cons, List.not_mem_nil, or_false, forall_eq_or_imp, forall_eq]; omega)⟩⟩, .inr ⟨_, _, _, _, _, _, rfl⟩⟩, finU hu1 hp (by simp only [List.mem_cons, List.not_mem_nil, or_false, forall_eq_or_imp, forall_eq]; omega)⟩
end Go.Proofs.YtcefkbnachnciaaDoor
end
section
namespace Go.Proofs.YtcefkbnachnciaaDoor
open Go.RowKit Go.Pt
end Go.Proofs.YtcefkbnachnciaaDoor
end
section
namespace Go.Proofs.YtcefkbnachnciaaDoor
open Go.RowKit Go.Pt
end Go.Proofs.YtcefkbnachnciaaDoor
end
section
namespace Go.Proofs.YtcefkbnachnciaaDoor
open Go.RowKit Go.Pt

def Bo (w : World) (base : Nat) (v : Value) (l : List UInt8) : Prop := w.ownsRow base 5 1 v l.length (byteCells l)
theorem Bo.nil (w : World) (base : Nat) : Bo w base (.slice none 0 0) [] := World.ownsRow_nil w base 5 1
theorem Bo.bs {w : World} {base : Nat} {v : Value} {l : List UInt8} (h : Bo w base v l) : Bs w v l := Sv.ofOwn h
theorem Bo.upd {S : Nat → Prop} {w w' : World} {base : Nat} {v : Value} {l : List UInt8} (h : Bo w base v l) (u : Upd S w w') (hs : ∀ k, v.ownBlock = some k → ¬ S k) : Bo w' base v l := ownsRow_upd h u hs
theorem Bo.of {w : World} {base : Nat} {v : Value} {l m : List UInt8} {n : Nat} {cs : List Value} (h : w.ownsRow base 5 1 v n (byteCells l ++ cs)) (hn : n = l.length + m.length) (hc : cs = byteCells m) : Bo w base v (l ++ m) := by
  unfold Bo
  subst hc
  rw [List.length_append, ← hn]
  simpa [byteCells] using h
theorem u8_cell (x : Int) : (Value.int .u8 (IntKind.u8.wrap x)) = .int .u8 ((UInt8.ofNat (x % 256).toNat).toNat : Int) := by
  congr 1
  rw [IntKind.wrap_u8]
  simp
  omega

end Go.Proofs.YtcefkbnachnciaaDoor
end
section
namespace Go.Pt
open Go.RowKit
def MapB (P : Program) (k e : TypeId) (w : World) (b n : Nat) : Prop := ∃ D : DataW Unit, w.ownsMap P k (plainElem P e) b n D
theorem MapB.upd {P : Program} {k e : TypeId} {w w' : World} {b n : Nat} {S : Nat → Prop} (h : MapB P k e w b n) (u : Upd S w w') (hs : ¬ S b) : MapB P k e w' b n := by
  obtain ⟨D, es, clock, hb, r⟩ := h
  exact ⟨D, es, clock, u.heap hb hs, r⟩
theorem MapB.lt {P : Program} {k e : TypeId} {w : World} {b n : Nat} (h : MapB P k e w b n) : b < w.heap.size := by
  obtain ⟨D, h1⟩ := h
  exact h1.lt
section
variable {P : Program} {N : Nat} {ops : Array Oper} {rest : List Oper} {Γ : Env} {Q : Exit → Act → World → Prop} {d : Nat} {ty mt k e : TypeId} {pos : String} {af : Array Edge} {w0 : World} {H : List Blk}
theorem Wl.makeMapB (hd : Nat.blt d N = true)
    (h : ∀ b w1, w0.heap.size ≤ b → MapB P k e w1 b 0 → Upd (fun j => ¬ Off H j) w0 w1 → Off H b → Wl rest P .seq ops N ((d, .map (some b)) :: Γ) (Hp w1 H) Q) :
    Wl (⟨some d, .makeMap mt none, ty, pos, af, none⟩ :: rest) P .seq ops N Γ (Hp w0 H) Q :=
  Wl.eff fun a w ha hw => by
    have u : Upd (fun _ => False) w (w.alloc (.map #[] 0)) := Upd.alloc _ _ _
    refine ⟨.map (some w.heap.size), w.alloc (.map #[] 0), .inl ?_, (h w.heap.size _ hw.upd.size ⟨_, World.ownsMap_made w P k _⟩ (hw.upd.trans (Upd.alloc _ _ _)) (Off.lt hw.own)).elim _ _ (ha.put hd _) ⟨Upd.refl _ _, hw.own.upd u fun _ _ h => h, hw.apart⟩⟩
    simp [execOp, run_makeMap, Option.map]
theorem Wl.storeMB {m x y : Operand} {b n : Nat} {t v : Int} [ht : TyD P mt (.map k e)] [hk : TyD P k (.int .i64)] [he : TyD P e (.int .u8)]
    (hm : ev Γ m = some (.map (some b))) (hx : ev Γ x = some (.int .i64 t)) (hy : ev Γ y = some (.int .u8 v)) (hlt : I64 t) (hvt : (Lit.int .u8 v).wf = true) (hn : n < maxLen) (hown : MapB P k e w0 b n) (ho : Off H b)
    (h : ∀ w1, MapB P k e w1 b (n + 1) → Upd (fun j => j = b ∨ ¬ Off H j) w0 w1 → Wl rest P .seq ops N Γ (Hp w1 H) Q) :
    Wl (⟨none, .mapUpdate mt m x y, ty, pos, af, none⟩ :: rest) P .seq ops N Γ (Hp w0 H) Q :=
  Wl.eff fun a w ha hw => by
    obtain ⟨D, h1⟩ := hown.upd hw.upd fun y => y ho
    obtain ⟨w', hr, h3, hg⟩ := h1.update (Maps.int_keyed hk.out) ht.out hn (keyOf64 hlt) (plainElem_int he.out hvt)
    have u : Upd (fun j => j = b) w w' := Upd.grown hg fun k hk => by cases hk; rfl
    refine ⟨undef, w', .inr ⟨?_, rfl⟩, (h w' ⟨_, h3⟩ ((hw.upd.mono fun _ _ y => .inr y).trans (u.mono fun _ _ y => .inl y))).elim _ _ (ha.put0 _) ⟨Upd.refl _ _, hw.own.upd u fun y hy e => ?_, hw.apart⟩⟩
    · simp [execOp, ha.ev hm, ha.ev hx, ha.ev hy, hr]
    · exact ho.at hy e
end
end Go.Pt
namespace Go.Proofs.YtcefkbnachnciaaDoor
open Go.RowKit Go.Pt
def RM (w : World) (c b n : Nat) : Prop := w.heap[c]? = some (.cells #[.map (some b)] 116 (0, 0)) ∧ MapB Tryd.prog 3 5 w b n
theorem RM.upd {w w' : World} {c b n : Nat} {S : Nat → Prop} (h : RM w c b n) (u : Upd S w w') (h1 : ¬ S c) (h2 : ¬ S b) : RM w' c b n := ⟨u.heap h.1 h1, h.2.upd u h2⟩
theorem RM.lt {w : World} {c b n : Nat} (h : RM w c b n) : c < w.heap.size ∧ b < w.heap.size := ⟨lt_of_block h.1, h.2.lt⟩
set_option maxHeartbeats 2000000 in
theorem ramNew (w : World) : Calls Tryd.prog 27 #[] w fun e w' => ∃ c b, e = .returned (.pointer (some ⟨c, 0, none⟩)) ∧ RM w' c b 0 ∧ w.heap.size ≤ b ∧ b < c ∧ Upd (fun k => w.heap.size ≤ k) w w' := by
  refine enter (args := []) (Γ := []) Tryd.func27 Tryd.ntmps27 rfl (of_decide_eq_true rfl) .nil ?_
  repeat' (first | (apply Wl.assign; exact rfl; exact rfl) | (apply Wl.nil) | (apply St.seq) | (apply St.region) | (apply Gt.next))
  apply Wl.makeMapB (k := 3) (e := 5)
  · exact rfl
  intro b w1 hb hM hu _
  have s1 := hu.size
  have hbl := hM.lt
  repeat' (first | (apply Wl.assign; exact rfl; exact rfl) | (apply Wl.buildS; exact rfl; (repeat (first | exact Parts.nil | apply Parts.cons rfl)); (repeat (first | apply Fills.nil | (apply Fills.one; exact rfl; exact rfl; (repeat (first | apply LSet.z | apply LSet.s))) | (apply Fills.agg; exact rfl; exact rfl; (repeat (first | apply LPut.s | apply LPut.z | apply LOver.nil | apply LOver.cons)))))) | (apply Wl.boxA; exact rfl; exact rfl; intro c hc ho) | (apply Wl.nil) | (apply St.ret) | (apply Gt.next) | (apply Gt.out1; exact rfl; exact rfl; intro w' hp))
  refine ⟨_, _, rfl, ⟨hp.own.at (.head _), hM.upd hp.upd fun y => y ⟨by simp only; omega, trivial⟩⟩, hb, by omega, hu.comp hp.upd fun k hk hs => ?_⟩
  rcases hs with y | y
  · exact (y trivial).elim
  · exact Classical.byContradiction fun hn => y ⟨fun e => by simp only at e; omega, trivial⟩
theorem refHas (a n : Int) (w : World) (ha : -1000000 ≤ a ∧ a ≤ 4294967296000) (hn : 0 ≤ n ∧ n ≤ 8) : Calls Tryd.prog 70 #[.int .i64 a, .int .i64 n] w fun e w' => (∃ z : Bool, e = .returned (.bool z)) ∧ Hp w [] w' := by
  refine enter (args := [_, _]) (Γ := [(0, _), (1, _)]) Tryd.func70 Tryd.ntmps70 rfl (of_decide_eq_true rfl) (.cons rfl (.cons rfl .nil)) ?_
  repeat' (first | (apply Wl.move; exact rfl; exact rfl) | (apply Wl.assign; exact rfl; exact rfl) | (apply Wl.on; exact rfl; exact rfl; (first | with_reducible rfl | with_reducible assumption | decide)) | (apply Wl.off; exact rfl; exact rfl; exact rfl; (first | with_reducible rfl | (show _ = false; with_reducible assumption) | (show _ = true; with_reducible assumption) | decide)) | (apply Wl.pickT; exact rfl; exact rfl; (first | with_reducible rfl | with_reducible assumption | decide); exact rfl) | (apply Wl.pickF; exact rfl; exact rfl; (first | with_reducible rfl | with_reducible assumption | decide); exact rfl) | (apply Wl.leq; exact rfl; exact rfl; exact rfl) | (apply Wl.geq; exact rfl; exact rfl; exact rfl) | (apply Wl.addI; exact rfl; exact rfl; exact rfl; (constructor <;> omega)) | (apply Wl.nil) | (apply St.seq) | (apply St.region) | (apply St.ret) | (apply Gt.next) | (apply Gt.out1; exact rfl; exact rfl; intro w' hp) | (apply Wl.splitP; exact rfl; exact rfl; all_goals (intros; try (exfalso; omega))))
  all_goals exact ⟨⟨_, rfl⟩, hp⟩
set_option maxHeartbeats 4000000 in
theorem ramPut (c b n : Nat) (at_ : Int) (v : Value) (l : List UInt8) (w : World) (hR : RM w c b n) (hn : n < 1000000) (hl : l.length ≤ 8) (hat : -1000000 ≤ at_ ∧ at_ ≤ 4294967296000) (hv : Bs w v l) (hvo : ∀ k, v.ownBlock = some k → k ≠ b) :
    Calls Tryd.prog 56 #[.pointer (some ⟨c, 0, none⟩), .int .i64 at_, v] w fun e w' => (∃ z : Bool, e = .returned (.bool z)) ∧ RM w' c b (n + 8) ∧ Upd (fun k => k = b) w w' := by
  have hlt := hR.lt
  obtain ⟨va, vc, rfl, _, hm⟩ := hv.shape
  unfold maxLen at hm
  have c0 : w.cell? ⟨c, 0, none⟩ = some (.map (some b)) := cell_of hR.1 rfl
  have hcb : c ≠ b := by
    intro e
    obtain ⟨h1, D, es, clock, h2, _⟩ := hR
    rw [e] at h1
    rw [h1] at h2
    cases h2
  refine enter (args := [_, _, _]) (Γ := [(0, _), (1, _), (2, _)]) Tryd.func56 Tryd.ntmps56 rfl (of_decide_eq_true rfl) (.cons rfl (.cons rfl (.cons rfl .nil))) ?_
  repeat' (first | (apply Wl.move; exact rfl; exact rfl) | (apply Wl.assign; exact rfl; exact rfl) | (apply Wl.len; exact rfl; exact rfl) | (apply Wl.nil) | (apply St.seq) | (apply St.region) | (apply Gt.next))
  apply Wl.callC
  · exact rfl
  · (repeat (first | exact Evs.nil | apply Evs.cons rfl))
  intro wq hq
  refine (refHas _ _ wq hat (by omega)).mono ?_
  rintro e wr ⟨⟨z, rfl⟩, hr⟩
  refine ⟨_, _, rfl, hq.keep hr, ?_⟩
  clear hr hq wr wq
  cases z
  · repeat' (first | (apply Wl.assign; exact rfl; exact rfl) | (apply Wl.not; exact rfl; exact rfl) | (apply Wl.nil) | (apply St.seq) | (apply St.region) | (apply St.condT; exact rfl; (first | with_reducible rfl | with_reducible assumption | decide)) | (apply St.ret) | (apply Gt.next) | (apply Gt.thenRet) | (apply Gt.out1; exact rfl; exact rfl; intro w' hp))
    exact ⟨⟨_, rfl⟩, ⟨hp.upd.heap hR.1 fun y => y trivial, by obtain ⟨D, hD⟩ := hR.2.upd hp.upd fun y => y trivial; exact ⟨D, hD.mono (by omega)⟩⟩, hp.upd.mono fun _ _ y => (y trivial).elim⟩
  repeat' (first | (apply Wl.assign; exact rfl; exact rfl) | (apply Wl.not; exact rfl; exact rfl) | (apply Wl.nil) | (apply St.seq) | (apply St.block) | (apply St.region) | (apply St.condF; exact rfl; (first | with_reducible rfl | with_reducible assumption | decide)) | (apply St.skip) | (apply Gt.next))
  refine St.loop (σ := Nat × World) (fun τ => τ.1 ≤ l.length ∧ RM τ.2 c b (n + τ.1) ∧ Upd (fun k => k = b) w τ.2)
    (fun τ => [(0, .pointer (some ⟨c, 0, none⟩)), (1, .int .i64 at_), (2, .slice va l.length vc), (7, .int .i64 (τ.1 : Int))]) (fun τ => Hp τ.2 []) (fun τ => l.length - τ.1) (0, w) ⟨Nat.zero_le _, hR, Upd.refl _ _⟩ (by (repeat (first | exact Sub.nil | apply Sub.cons rfl))) (fun _ h => h) ?_
  rintro ⟨i, w0⟩ ⟨hi, hR0, hu0⟩
  simp only at hi hR0 hu0 ⊢
  have c0' : w0.cell? ⟨c, 0, none⟩ = some (.map (some b)) := cell_of hR0.1 rfl
  by_cases hlt2 : i < l.length
  · have hd : decide ((i : Int) < (l.length : Int)) = true := decide_eq_true (by omega)
    obtain ⟨vb, vo, rfl, hcells⟩ := hv.cells (fun e => by rw [e] at hlt2; simp at hlt2)
    have hb : w0.cell? ⟨vb, vo + (i : Int).toNat, none⟩ = some (.int .u8 (l[i].toNat : Int)) := by
      rw [Int.toNat_natCast]
      exact hu0.cell (hcells i hlt2) fun e => hvo vb rfl e
    have l1 := hR0.lt
    have l2 := World.block_lt_of_cell? w0 _ hb
    simp only at l2
    repeat' (first | (apply St.bagX (i := 6) 11 []; exact mixed; (decide +kernel); kernel_rfl) | (apply Wl.loadO; exact rfl; exact rfl; (first | exact c0' | exact hb); (repeat (first | exact trivial | exact hX.off (by first | omega | (simp only; omega))))) | (apply OpsX.nil) | (apply OpsX.v; (intro X hX; change Wl [_] _ _ _ _ _ _ _; apply Wl.catX; (repeat (first | apply CatB.nil | apply CatB.cons)))) | (apply Gt.endX; exact rfl) | (apply EndX.on; exact rfl) | (apply EndX.off; exact rfl) | (apply EndX.nil'; apply Wl.catE; (repeat (first | apply CatB.nil | apply CatB.cons))) | (apply Wl.move; exact rfl; exact rfl) | (apply Wl.nilCheck; exact rfl; exact rfl) | (apply Wl.fieldAddr0; exact rfl; exact rfl) | (apply Wl.lss; exact rfl; exact rfl; exact rfl) | (apply Wl.addI; exact rfl; exact rfl; exact rfl; (constructor <;> omega)) | (apply Wl.len; exact rfl; exact rfl) | (apply Wl.indexAddr1; exact rfl; exact rfl; exact rfl; (constructor <;> omega)) | (apply Wl.nil) | (apply St.seq) | (apply St.block) | (apply St.region) | (apply St.condT; exact rfl; (first | with_reducible rfl | with_reducible assumption | decide)) | (apply St.skip) | (apply Gt.next))
    apply Wl.storeMB (k := 3) (e := 5) (b := b) (n := n + i)
    · exact rfl
    · exact rfl
    · exact rfl
    · unfold I64; omega
    · have := l[i].toNat_lt
      simp [Lit.wf, IntKind.min, IntKind.max, IntKind.signed, IntKind.bits]
      omega
    · unfold maxLen; omega
    · exact hR0.2
    · exact trivial
    intro w1 hM hu1
    repeat' (first | (apply Wl.move; exact rfl; exact rfl) | (apply Wl.assign; exact rfl; exact rfl) | (apply Wl.addI; exact rfl; exact rfl; exact rfl; (constructor <;> omega)) | (apply Wl.nil) | (apply St.region) | (apply Gt.next) | (apply Gt.inNormal))
    apply Gt.round (i + 1, w1)
    rotate_left
    · simp only; omega
    · (repeat (first | exact Sub.nil | apply Sub.cons rfl))
    · exact fun _ h => h
    · refine ⟨hlt2, ⟨hu1.heap hR0.1 fun y => y.elim hcb fun y => y trivial, hM⟩, hu0.trans (hu1.mono fun k _ y => y.elim id fun y => (y trivial).elim)⟩
  · obtain rfl : i = l.length := by omega
    have hd : decide ((l.length : Int) < (l.length : Int)) = false := decide_eq_false (by omega)
    repeat' (first | (apply Wl.move; exact rfl; exact rfl) | (apply Wl.assign; exact rfl; exact rfl) | (apply Wl.lss; exact rfl; exact rfl; exact rfl) | (apply Wl.len; exact rfl; exact rfl) | (apply Wl.nil) | (apply St.seq) | (apply St.region) | (apply St.condF; exact rfl; (first | with_reducible rfl | with_reducible assumption | decide)) | (apply St.ret) | (apply St.exit) | (apply Gt.next) | (apply Gt.thenExit) | (apply Gt.inExit) | (apply Gt.out1; exact rfl; exact rfl; intro w' hp))
    exact ⟨⟨_, rfl⟩, ⟨hp.upd.heap hR0.1 fun y => y trivial, by obtain ⟨D, hD⟩ := hR0.2.upd hp.upd fun y => y trivial; exact ⟨D, hD.mono (by omega)⟩⟩, hu0.trans (hp.upd.mono fun _ _ y => (y trivial).elim)⟩
set_option maxHeartbeats 4000000 in
theorem ramStore (c b n : Nat) (at_ x : Int) (w : World) (hR : RM w c b n) (hn : n < 1000000) (hat : -1000000 ≤ at_ ∧ at_ ≤ 4294967296000) :
    Calls Tryd.prog 28 #[.pointer (some ⟨c, 0, none⟩), .int .i64 at_, .int .i64 4, .int .i64 x] w fun e w' => (∃ z : Bool, e = .returned (.bool z)) ∧ RM w' c b (n + 8) ∧ Upd (fun k => k = b ∨ w.heap.size ≤ k) w w' := by
  have hlt := hR.lt
  refine enter (args := [_, _, _, _]) (Γ := [(0, _), (1, _), (2, _), (3, _)]) Tryd.func28 Tryd.ntmps28 rfl (of_decide_eq_true rfl) (.cons rfl (.cons rfl (.cons rfl (.cons rfl .nil)))) ?_
  repeat' (first | (apply Wl.move; exact rfl; exact rfl) | (apply Wl.assign; exact rfl; exact rfl) | (apply Wl.on; exact rfl; exact rfl; (first | with_reducible rfl | with_reducible assumption | decide)) | (apply Wl.pickT; exact rfl; exact rfl; (first | with_reducible rfl | with_reducible assumption | decide); exact rfl) | (apply Wl.neqIs; exact rfl; exact rfl; exact rfl; (first | with_reducible assumption | with_reducible rfl)) | (apply Wl.neq; exact rfl; exact rfl; exact rfl) | (apply Wl.nil) | (apply St.seq) | (apply St.block) | (apply St.region) | (apply St.condF; exact rfl; (first | with_reducible rfl | with_reducible assumption | decide)) | (apply St.skip) | (apply Gt.next))
  refine St.loop (σ := Nat × World × Value × List UInt8) (fun τ => τ.1 ≤ 4 ∧ Upd (fun k => w.heap.size ≤ k) w τ.2.1 ∧ Bo τ.2.1 w.heap.size τ.2.2.1 τ.2.2.2 ∧ τ.2.2.2.length = τ.1)
    (fun τ => [(0, .pointer (some ⟨c, 0, none⟩)), (1, .int .i64 at_), (2, .int .i64 4), (3, .int .i64 x), (9, τ.2.2.1), (10, .int .i64 (τ.1 : Int))]) (fun τ => Hp τ.2.1 []) (fun τ => 4 - τ.1) (0, w, .slice none 0 0, []) ⟨Nat.zero_le _, Upd.refl _ _, Bo.nil _ _, rfl⟩ (by (repeat (first | exact Sub.nil | apply Sub.cons rfl))) (fun _ h => h) ?_
  rintro ⟨i, w0, v, l⟩ ⟨hi, hu0, hb0, hl0⟩
  simp only at hi hu0 hb0 hl0 ⊢
  have s0 := hu0.size
  by_cases hlt2 : i < 4
  · have hd : decide ((i : Int) < 4) = true := decide_eq_true (by omega)
    repeat' (first | (apply Wl.move; exact rfl; exact rfl) | (apply Wl.lss; exact rfl; exact rfl; exact rfl) | (apply Wl.mulI; exact rfl; exact rfl; exact rfl; (constructor <;> omega)) | (apply Wl.shr; exact rfl; exact rfl; exact rfl; (omega)) | (apply Wl.convI; exact rfl; exact rfl) | (apply Wl.lit; exact rfl; (repeat (first | exact Parts.nil | apply Parts.cons rfl)); exact rfl; exact rfl; (repeat (first | apply CatP.nil | (apply CatP.one; exact rfl; exact rfl) | (apply CatP.agg; exact rfl) | apply LApp.nil | apply LApp.cons)); intro c hc ho) | (apply Wl.nil) | (apply St.seq) | (apply St.block) | (apply St.region) | (apply St.condT; exact rfl; (first | with_reducible rfl | with_reducible assumption | decide)) | (apply St.skip) | (apply Gt.next))
    apply Wl.appendT
    · exact rfl
    · exact rfl
    · exact rfl
    · assumption
    · exact rfl
    · exact hb0
    · exact fun k hk => trivial
    · exact rfl
    · exact rfl
    · decide
    · unfold maxLen; omega
    · omega
    · exact s0
    intro v' w1 ho1 u1 _ hoff1
    repeat' (first | (apply Wl.move; exact rfl; exact rfl) | (apply Wl.assign; exact rfl; exact rfl) | (apply Wl.addI; exact rfl; exact rfl; exact rfl; (constructor <;> omega)) | (apply Wl.nil) | (apply St.region) | (apply Gt.next) | (apply Gt.inNormal))
    apply Gt.round (i + 1, w1, v', l ++ [UInt8.ofNat ((x.fdiv (2 ^ min (Int.toNat (8 * (i : Int))) IntKind.i64.bits)) % 256).toNat])
    rotate_left
    · simp only; omega
    · (repeat (first | exact Sub.nil | apply Sub.cons rfl))
    · exact fun _ h => h
    · refine ⟨hlt2, hu0.comp u1 fun k hk hs => ?_, Bo.of (m := [UInt8.ofNat ((x.fdiv (2 ^ min (Int.toNat (8 * (i : Int))) IntKind.i64.bits)) % 256).toNat]) ho1 (by simp) ?_, by simp [hl0]⟩
      · rcases hs with y | y | y
        · exact y
        · exact (hb0.lt k y).1
        · exact (y trivial).elim
      · rw [u8_cell]; rfl
  · obtain rfl : i = 4 := by omega
    have hd : decide (((4 : Nat) : Int) < 4) = false := by decide
    repeat' (first | (apply Wl.move; exact rfl; exact rfl) | (apply Wl.lss; exact rfl; exact rfl; exact rfl) | (apply Wl.nil) | (apply St.seq) | (apply St.region) | (apply St.condF; exact rfl; (first | with_reducible rfl | with_reducible assumption | decide)) | (apply St.exit) | (apply Gt.next) | (apply Gt.thenExit) | (apply Gt.inExit))
    apply Wl.callC
    · exact rfl
    · (repeat (first | exact Evs.nil | apply Evs.cons rfl))
    intro wq hq
    have hbq : Bs wq v l := (hb0.upd hq.upd fun _ _ y => y trivial).bs
    have hRq : RM wq c b n := (hR.upd hu0 (by omega) (by omega)).upd hq.upd (fun y => y trivial) (fun y => y trivial)
    refine (ramPut c b n at_ v l wq hRq hn (by omega) hat hbq fun k hk e => by have := (hb0.lt k hk).1; omega).mono ?_
    rintro e w2 ⟨⟨z, rfl⟩, hR2, hu2⟩
    refine ⟨_, _, rfl, Hp.start w2, ?_⟩
    have hq' := hq.upd
    have s1 := hq'.size
    have s2 := hu2.size
    clear hq
    repeat' (first | (apply Wl.assign; exact rfl; exact rfl) | (apply Wl.nil) | (apply St.ret) | (apply Gt.next) | (apply Gt.out1; exact rfl; exact rfl; intro w' hp))
    refine ⟨⟨_, rfl⟩, hR2.upd hp.upd (fun y => y trivial) (fun y => y trivial), ((hu0.mono fun k _ e => .inr e).trans ((hq'.mono fun _ _ y => (y trivial).elim).trans (hu2.mono fun _ _ e => .inl e))).trans (hp.upd.mono fun _ _ y => (y trivial).elim)⟩
end Go.Proofs.YtcefkbnachnciaaDoor
end
section
namespace Go.Proofs.YtcefkbnachnciaaDoor
open Go.RowKit Go.Pt
theorem _root_.Go.Pt.Hp.newer {w0 w w' : World} {H : List Blk} (h : Hp w0 H w) (u : Upd (fun k => w.heap.size ≤ k) w w') : Hp w0 H w' :=
  h.step u (fun x hx hle => by have := h.own.lt hx; omega) (fun k hk hle => by have := h.upd.size; omega)
theorem _root_.Go.Pt.Hp.rb {w0 w : World} {H : List Blk} (h : Hp w0 H w) : Hp w H w := ⟨Upd.refl _ _, h.own, h.apart⟩
theorem _root_.Go.Pt.Hp.on {w w1 w2 : World} {H : List Blk} (h : Hp w1 H w2) (hu : Upd (fun k => w.heap.size ≤ k) w w1) (hH : ∀ x ∈ H, w.heap.size ≤ x.b) : Upd (fun k => w.heap.size ≤ k) w w2 :=
  hu.comp h.upd fun j _ hs => hs.elim id fun y => Classical.byContradiction fun hlt => y (Off.of fun x hx e => by have := hH x hx; omega)
def WordS (w : World) (a : Option Addr) (n : Nat) : Prop := ∀ i : Nat, i < n → ∃ b o, a = some ⟨b, o, none⟩ ∧ ∃ x : Int, w.cell? ⟨b, o + i, none⟩ = some (.int .u32 x) ∧ 0 ≤ x ∧ x < 4294967296
def PairS (w : World) (a : Option Addr) (n : Nat) : Prop := ∀ i : Nat, i < n → ∃ b o, a = some ⟨b, o, none⟩ ∧ ∃ x y : Int, (w.cell? ⟨b, o + i * 2, none⟩ = some (.int .u32 x) ∧ 0 ≤ x ∧ x < 4294967296) ∧ (w.cell? ⟨b, o + i * 2 + 1, none⟩ = some (.int .u32 y) ∧ 0 ≤ y ∧ y < 4294967296)
structure BW (w0 w : World) (cf cM cm b n : Nat) (tv : Int) (f : Nat → Int) : Prop where
  ff : FF w cf 3 tv
  tv0 : 0 ≤ tv ∧ tv < 4294967296
  mm : memH w cM f
  mf : ∃ tv2, MM w cm b n tv2
  u : Upd (fun k => w0.heap.size ≤ k) w0 w
  ge : w0.heap.size ≤ cf ∧ w0.heap.size ≤ cM ∧ w0.heap.size ≤ cm ∧ w0.heap.size ≤ b
  ne : (cf ≠ cM ∧ cf ≠ cm ∧ cf ≠ b) ∧ cM ≠ cm ∧ cM ≠ b
theorem BW.lt {w0 w : World} {cf cM cm b n : Nat} {tv : Int} {f : Nat → Int} (k : BW w0 w cf cM cm b n tv f) : cf < w.heap.size ∧ cM < w.heap.size ∧ cm < w.heap.size ∧ b < w.heap.size := by
  obtain ⟨tv2, hm⟩ := k.mf
  exact ⟨k.ff.lt, lt_of_block k.mm, hm.ltc, hm.ltb⟩
theorem BW.upd {w0 w w' : World} {cf cM cm b n : Nat} {tv : Int} {f : Nat → Int} {S : Nat → Prop} (k : BW w0 w cf cM cm b n tv f) (u : Upd S w w') (h1 : ¬ S cf) (h2 : ¬ S cM) (h3 : ¬ S cm) (h4 : ¬ S b) (h5 : ∀ j, S j → w0.heap.size ≤ j) : BW w0 w' cf cM cm b n tv f := by
  obtain ⟨tv2, hm⟩ := k.mf
  exact ⟨k.ff.upd u h1, k.tv0, u.heap k.mm h2, ⟨tv2, hm.upd u h3 h4⟩, k.u.comp u fun j _ hs => hs.elim id (h5 j), k.ge, k.ne⟩
theorem BW.fcall {w0 w w' : World} {cf cM cm b n : Nat} {tv tv' : Int} {f : Nat → Int} (k : BW w0 w cf cM cm b n tv f) (h : FF w' cf 3 tv') (ht : 0 ≤ tv' ∧ tv' < 4294967296) (u : Upd (fun j => j = cf) w w') : BW w0 w' cf cM cm b n tv' f := by
  obtain ⟨tv2, hm⟩ := k.mf
  exact ⟨h, ht, u.heap k.mm fun e => k.ne.1.1 e.symm, ⟨tv2, hm.upd u (fun e => k.ne.1.2.1 e.symm) fun e => k.ne.1.2.2 e.symm⟩, k.u.comp u fun j _ hs => hs.elim id fun e => e ▸ k.ge.1, k.ge, k.ne⟩
theorem BW.mcall {w0 w w' : World} {cf cM cm b n n' : Nat} {tv tv2 : Int} {f : Nat → Int} (k : BW w0 w cf cM cm b n tv f) (h : MM w' cm b n' tv2) (u : Upd (fun j => j = cm ∨ j = b) w w') : BW w0 w' cf cM cm b n' tv f :=
  ⟨k.ff.upd u fun e => e.elim k.ne.1.2.1 k.ne.1.2.2, k.tv0, u.heap k.mm fun e => e.elim k.ne.2.1 k.ne.2.2, ⟨tv2, h⟩, k.u.comp u fun j _ hs => hs.elim id fun e => e.elim (fun e => e ▸ k.ge.2.2.1) fun e => e ▸ k.ge.2.2.2, k.ge, k.ne⟩
theorem ffx {w : World} {c : Nat} {md tv : Int} (h : FF w c md tv) : ∃ F : Fs, FX w c F ∧ F.md = md ∧ F.tv = tv := by
  obtain ⟨st, mie, mip, sc, ep, ca, tl, cs, hk, hc⟩ := h
  obtain ⟨x, hx⟩ := hk.2 32 (by decide)
  obtain ⟨y, hy⟩ := hk.2 33 (by decide)
  have e : cs = cs.take 32 ++ [.int .u64 x, .int .u64 y] := by
    have hl := hk.1
    refine List.ext_getElem? fun i => ?_
    by_cases h1 : i < 32
    · rw [List.getElem?_append_left (by rw [List.length_take]; omega), List.getElem?_take, if_pos h1]
    · rw [List.getElem?_append_right (by rw [List.length_take]; omega), List.length_take, show min 32 cs.length = 32 by omega]
      by_cases h2 : i = 32
      · subst h2; exact hx
      · by_cases h3 : i = 33
        · subst h3; exact hy
        · rw [List.getElem?_eq_none (by omega), List.getElem?_eq_none (by simp; omega)]
  refine ⟨⟨md, st, mie, mip, tv, sc, ep, ca, tl, x, y, cs.take 32⟩, ⟨by rw [List.length_take]; have := hk.1; omega, by rw [← e]; exact hk, ?_⟩, rfl, rfl⟩
  unfold Fs.cells
  simp only
  rw [← e]
  exact hc
def yz : List Value := [.int .i64 0, .int .i64 0, .int .i64 0, .int .i64 0, .int .i64 0, .int .i64 0, .int .i64 0, .int .i64 0, .int .i64 0, .int .i64 0, .int .i64 0, .int .i64 0, .int .i64 0, .int .i64 0, .int .i64 0, .int .i64 0, .int .i64 0, .int .i64 0, .int .i64 0, .int .i64 0, .int .i64 0, .int .i64 0, .int .i64 0, .int .i64 0, .int .i64 0, .int .i64 0, .int .i64 0, .int .i64 0, .int .i64 0, .int .i64 0, .int .i64 0, .int .i64 0]
theorem xz_rg : Rg xz := by
  refine ⟨rfl, fun i hi => ⟨0, ?_, by decide⟩⟩
  have e : xz = List.replicate 32 (Value.int .u32 0) := rfl
  rw [e, List.getElem?_replicate, if_pos hi]
theorem at33 {xs : List Value} {a b c : Value} (h : xs.length = 32) : (xs ++ [a, b, c])[33]? = some b := by
  rw [List.getElem?_append_right (by omega), h]; rfl
theorem ownC {w0 w : World} {p h cH cf cm : Nat} {xs ys : List Value} {a1 a2 c1 c2 : Value} {t1 t2 t3 : Nat} {r : List Blk} {x1 x2 : Blk}
    (k : Hp w0 (x1 :: x2 :: ⟨p, [.pointer (some ⟨h, 0, none⟩), .pointer (some ⟨cH, 0, none⟩)], t1⟩ :: ⟨cH, ys ++ [a2, .pointer (some ⟨cm, 0, none⟩), c2], t2⟩ :: ⟨h, xs ++ [a1, .pointer (some ⟨cf, 0, none⟩), c1], t3⟩ :: r) w) (hx : xs.length = 32) (hy : ys.length = 32) :
    w.cell? ⟨p, 0, none⟩ = some (.pointer (some ⟨h, 0, none⟩)) ∧ w.cell? ⟨p, 1, none⟩ = some (.pointer (some ⟨cH, 0, none⟩)) ∧ w.cell? ⟨h, 33, none⟩ = some (.pointer (some ⟨cf, 0, none⟩)) ∧ w.cell? ⟨cH, 33, none⟩ = some (.pointer (some ⟨cm, 0, none⟩)) :=
  ⟨cell_of (own_at k.own (.tail _ (.tail _ (.head _)))) rfl, cell_of (own_at k.own (.tail _ (.tail _ (.head _)))) rfl, cell_of (own_at k.own (.tail _ (.tail _ (.tail _ (.tail _ (.head _)))))) (at33 hx), cell_of (own_at k.own (.tail _ (.tail _ (.tail _ (.head _))))) (at33 hy)⟩
set_option maxHeartbeats 16000000 in
theorem begin_any (wa xa la ca : Option Addr) (wn wc xn xc ln lc cn cc : Nat) (pc0 : Int) (w : World) (hW : WordS w wa wn) (hX : PairS w xa xn) (hL : EntS w la ln) (hC : PairS w ca cn) (hwn : wn ≤ 300) (hxn : xn ≤ 100) (hln : ln ≤ 16) (hcn : cn ≤ 100) (hT : tabOk w) :
    Calls Tryd.prog 11 #[.agg #[.slice wa wn wc, .slice xa xn xc, .slice la ln lc, .bool true, .slice ca cn cc, .int .u32 pc0]] w fun e w' => ∃ p h cf cM cH xs pc F f, e = .returned (.pointer (some ⟨p, 0, none⟩)) ∧ w'.heap[p]? = some (.cells #[.pointer (some ⟨h, 0, none⟩), .pointer (some ⟨cH, 0, none⟩)] 44 (0, 0)) ∧
      SS w' h cf cM xs pc F f ∧ F.md = 0 ∧ (w.heap.size ≤ p ∧ w.heap.size ≤ h ∧ w.heap.size ≤ cf ∧ w.heap.size ≤ cM) ∧ (p ≠ h ∧ p ≠ cf ∧ p ≠ cM) ∧ Upd (fun k => w.heap.size ≤ k) w w' := by
  have hT0 := hT.lt
  refine enter (args := [_]) (Γ := [(0, _)]) Tryd.func11 Tryd.ntmps11 rfl (of_decide_eq_true rfl) (.cons rfl .nil) ?_
  apply St.seq
  apply St.region
  apply Wl.boxA
  · exact rfl
  · exact rfl
  intro c1 hc1 ho1
  repeat' (first | (apply Wl.assign; exact rfl; exact rfl) | (apply Wl.nil) | (apply St.seq) | (apply St.region) | (apply Gt.next))
  apply Wl.callC
  · exact rfl
  · (repeat (first | exact Evs.nil | apply Evs.cons rfl))
  intro wq hq
  refine (newMem wq).mono ?_
  rintro e w1 ⟨cM, rfl, hM1, hcM⟩
  have l1 := hq.own.lt (.head _)
  simp only at l1
  refine ⟨_, Hp w [⟨cM, memC fun _ => 0, 94⟩, ⟨c1, [.slice wa wn wc, .slice xa xn xc, .slice la ln lc, .bool true, .slice ca cn cc, .int .u32 pc0], 39⟩], rfl, hq.callNew hM1 hcM, ?_⟩
  apply Wl.reb (H' := [⟨c1, [.slice wa wn wc, .slice xa xn xc, .slice la ln lc, .bool true, .slice ca cn cc, .int .u32 pc0], 39⟩])
  intro w2 hw2
  refine ⟨hw2.own.2, hw2.apart.2, ?_⟩
  have hm2 : memH w2 cM fun _ => 0 := hw2.own.1
  have lM := lt_of_block hm2
  have hu2 : Upd (fun k => w.heap.size ≤ k) w w2 := hw2.on (Upd.refl _ _) (by simp; omega)
  have s2 := hu2.size
  clear hq hM1 hw2
  repeat' (first | (apply Wl.move; exact rfl; exact rfl) | (apply Wl.assign; exact rfl; exact rfl) | (apply Wl.on; exact rfl; exact rfl; (first | with_reducible rfl | with_reducible assumption | decide)) | (apply Wl.off; exact rfl; exact rfl; exact rfl; (first | with_reducible rfl | (show _ = false; with_reducible assumption) | (show _ = true; with_reducible assumption) | decide)) | (apply Wl.offU; exact rfl; exact rfl; exact rfl) | (apply Wl.extract; exact rfl; exact rfl; exact rfl) | (apply Wl.nilCheck; exact rfl; exact rfl) | (apply Wl.pickT; exact rfl; exact rfl; (first | with_reducible rfl | with_reducible assumption | decide); exact rfl) | (apply Wl.pickF; exact rfl; exact rfl; (first | with_reducible rfl | with_reducible assumption | decide); exact rfl) | (apply Wl.not; exact rfl; exact rfl) | (apply Wl.fieldAddr0; exact rfl; exact rfl) | (apply Wl.fieldAddrZ; exact rfl; exact rfl) | (apply Wl.fieldAddr; exact rfl; exact rfl) | (apply Wl.loadH; exact rfl; exact rfl; (repeat (first | exact List.Mem.head _ | apply List.Mem.tail)); exact rfl) | (apply Wl.loadO; exact rfl; exact rfl; (assumption); (repeat (first | exact trivial | refine ⟨by first | assumption | omega, ?_⟩))) | (apply Wl.eqlPN; exact rfl; exact rfl; exact rfl) | (apply Wl.neqPN; exact rfl; exact rfl; exact rfl) | (apply Wl.eqlNN; exact rfl; exact rfl; exact rfl) | (apply Wl.neqNN; exact rfl; exact rfl; exact rfl) | (apply Wl.eqlIs; exact rfl; exact rfl; exact rfl; (first | with_reducible assumption | with_reducible rfl)) | (apply Wl.neqIs; exact rfl; exact rfl; exact rfl; (first | with_reducible assumption | with_reducible rfl)) | (apply Wl.eql; exact rfl; exact rfl; exact rfl) | (apply Wl.neq; exact rfl; exact rfl; exact rfl) | (apply Wl.lss; exact rfl; exact rfl; exact rfl) | (apply Wl.leq; exact rfl; exact rfl; exact rfl) | (apply Wl.gtr; exact rfl; exact rfl; exact rfl) | (apply Wl.geq; exact rfl; exact rfl; exact rfl) | (apply Wl.addI; exact rfl; exact rfl; exact rfl; (constructor <;> omega)) | (apply Wl.subI; exact rfl; exact rfl; exact rfl; (constructor <;> omega)) | (apply Wl.mulI; exact rfl; exact rfl; exact rfl; (constructor <;> omega)) | (apply Wl.addU; exact rfl; exact rfl; exact rfl; (constructor <;> omega)) | (apply Wl.add; exact rfl; exact rfl; exact rfl) | (apply Wl.sub'; exact rfl; exact rfl; exact rfl) | (apply Wl.mul; exact rfl; exact rfl; exact rfl) | (apply Wl.quo; exact rfl; exact rfl; exact rfl; (first | decide | omega)) | (apply Wl.rem; exact rfl; exact rfl; exact rfl; (first | decide | omega)) | (apply Wl.and; exact rfl; exact rfl; exact rfl) | (apply Wl.or; exact rfl; exact rfl; exact rfl) | (apply Wl.xor; exact rfl; exact rfl; exact rfl) | (apply Wl.andNot; exact rfl; exact rfl; exact rfl) | (apply Wl.shl; exact rfl; exact rfl; exact rfl; (omega)) | (apply Wl.shr; exact rfl; exact rfl; exact rfl; (omega)) | (apply Wl.eqlBs; exact rfl; exact rfl; exact rfl; (first | with_reducible assumption | with_reducible rfl)) | (apply Wl.neqBs; exact rfl; exact rfl; exact rfl; (first | with_reducible assumption | with_reducible rfl)) | (apply Wl.eqlB; exact rfl; exact rfl; exact rfl) | (apply Wl.neqB; exact rfl; exact rfl; exact rfl) | (apply Wl.eqlSB; exact rfl; exact rfl; exact rfl) | (apply Wl.neqSB; exact rfl; exact rfl; exact rfl) | (apply Wl.eqlS; exact rfl; exact rfl; exact rfl) | (apply Wl.neqS; exact rfl; exact rfl; exact rfl) | (apply Wl.convI64; exact rfl; exact rfl; (constructor <;> omega)) | (apply Wl.convU64; exact rfl; exact rfl; (constructor <;> omega)) | (apply Wl.convU32; exact rfl; exact rfl; (constructor <;> omega)) | (apply Wl.convU8; exact rfl; exact rfl; (constructor <;> omega)) | (apply Wl.convI; exact rfl; exact rfl) | (apply Wl.neg; exact rfl; exact rfl) | (apply Wl.compl; exact rfl; exact rfl) | (apply Wl.len; exact rfl; exact rfl) | (apply Wl.lenS; exact rfl; exact rfl) | (apply Wl.store; exact rfl; exact rfl; exact rfl; (repeat (first | apply HSet.here | apply HSet.there)); (repeat (first | apply LSet.z | apply LSet.s))) | (apply Wl.storeA; exact rfl; exact rfl; exact rfl; exact rfl; (repeat (first | apply HSet.here | apply HSet.there)); (repeat (first | apply LPut.s | apply LPut.z | apply LOver.nil | apply LOver.cons))) | (apply Wl.loadAH; exact rfl; exact rfl; (repeat (first | exact List.Mem.head _ | apply List.Mem.tail)); (repeat (first | apply LSub.z | apply LSub.t | apply LSub.s))) | (apply Wl.buildS; exact rfl; (repeat (first | exact Parts.nil | apply Parts.cons rfl)); (repeat (first | apply Fills.nil | (apply Fills.one; exact rfl; exact rfl; (repeat (first | apply LSet.z | apply LSet.s))) | (apply Fills.agg; exact rfl; exact rfl; (repeat (first | apply LPut.s | apply LPut.z | apply LOver.nil | apply LOver.cons)))))) | (apply Wl.buildA; exact rfl; (repeat (first | exact Parts.nil | apply Parts.cons rfl)); (repeat (first | apply Fills.nil | (apply Fills.one; exact rfl; exact rfl; (repeat (first | apply LSet.z | apply LSet.s))) | (apply Fills.agg; exact rfl; exact rfl; (repeat (first | apply LPut.s | apply LPut.z | apply LOver.nil | apply LOver.cons)))))) | (apply Wl.lit; exact rfl; (repeat (first | exact Parts.nil | apply Parts.cons rfl)); exact rfl; exact rfl; (repeat (first | apply CatP.nil | (apply CatP.one; exact rfl; exact rfl) | (apply CatP.agg; exact rfl) | apply LApp.nil | apply LApp.cons)); intro c hc ho) | (apply Wl.boxA; exact rfl; exact rfl; intro c hc ho) | (apply Wl.box1; exact rfl; exact rfl; exact rfl; intro c hc ho) | (apply Wl.alloc; exact rfl; intro c hc ho) | (apply Wl.slice0; exact rfl; exact rfl; (first | exact BoundIs.no | exact BoundIs.yes rfl (by omega)); (first | exact BoundIs.no | exact BoundIs.yes rfl (by omega)); (first | exact fun _ => rfl | exact fun h => nomatch h); (omega); (omega)) | (apply Wl.sliceFull; exact rfl; exact rfl; (first | exact BoundIs.no | exact BoundIs.yes rfl (by omega)); (first | exact BoundIs.no | exact BoundIs.yes rfl (by omega)); (first | exact BoundIs.no | exact BoundIs.yes rfl (by omega)); (first | exact fun _ => rfl | exact fun h => nomatch h); (omega); (omega); (omega)) | (apply Wl.indexAddr1; exact rfl; exact rfl; exact rfl; (constructor <;> omega)) | (apply Wl.indexAddr; exact rfl; exact rfl; exact rfl; (constructor <;> omega)) | (apply Wl.indexArr; exact rfl; exact rfl; exact rfl; (constructor <;> omega)) | (apply Wl.nil) | (apply Wl.nilQ) | (apply Wl.nilM) | (apply St.seq) | (apply St.block) | (apply St.region) | (apply St.condT; exact rfl; (first | with_reducible rfl | with_reducible assumption | decide)) | (apply St.condF; exact rfl; (first | with_reducible rfl | with_reducible assumption | decide)) | (apply St.ret) | (apply St.skip) | (apply St.exit) | (apply Gt.next) | (apply Gt.thenRet) | (apply Gt.thenExit) | (apply Gt.inNormal) | (apply Gt.inRet) | (apply Gt.inExit) | (apply Gt.inOther; exact rfl) | (apply Gt.out1; exact rfl; exact rfl; intro w' hp) | (apply Gt.out2; exact rfl; exact rfl; exact rfl; intro w' hp) | (apply Gt.out3; exact rfl; exact rfl; exact rfl; exact rfl; intro w' hp) | (apply Gt.out4; exact rfl; exact rfl; exact rfl; exact rfl; exact rfl; intro w' hp) | (apply Gt.out0; exact rfl; intro w' hp) | (apply Gt.out0n; exact rfl; intro w' hp) | (apply Wl.splitP; exact rfl; exact rfl; all_goals (intros; try (exfalso; omega))) | (apply Wl.splitB; exact rfl; exact rfl; all_goals intros) | (apply St.condP; exact rfl; all_goals (intros; try (exfalso; omega))) | (apply St.condB; exact rfl; all_goals intros))
  apply Wl.callC
  · exact rfl
  · (repeat (first | exact Evs.nil | apply Evs.cons rfl))
  intro wq hq
  have s2q := hq.upd.size
  refine (ramNew wq).mono ?_
  rintro e w3 ⟨rb, rm, rfl, hR3, hrm, hrb, hu3⟩
  have hq3 := hq.newer hu3
  refine ⟨_, _, rfl, hq3.rb, ?_⟩
  have hm3 : memH w3 cM fun _ => 0 := hq3.upd.heap hm2 fun y => y ⟨by simp only; omega, trivial⟩
  have hu3' : Upd (fun k => w.heap.size ≤ k) w w3 := hq3.on hu2 (by simp; omega)
  have l3 := hR3.lt
  clear hq hq3 hu3 hm2 hu2
  repeat' (first | (apply Wl.move; exact rfl; exact rfl) | (apply Wl.assign; exact rfl; exact rfl) | (apply Wl.fieldAddr0; exact rfl; exact rfl) | (apply Wl.loadH; exact rfl; exact rfl; (repeat (first | exact List.Mem.head _ | apply List.Mem.tail)); exact rfl) | (apply Wl.len; exact rfl; exact rfl) | (apply Wl.nil) | (apply St.seq) | (apply St.block) | (apply St.region) | (apply Gt.next))
  refine St.loop (σ := Nat × World × (Nat → Int)) (fun τ => τ.1 ≤ wn ∧ memH τ.2.1 cM τ.2.2 ∧ RM τ.2.1 rb rm (8 * τ.1) ∧ Upd (fun k => w.heap.size ≤ k) w τ.2.1 ∧ w3.heap.size ≤ τ.2.1.heap.size)
    (fun τ => [(1, .pointer (some ⟨c1, 0, none⟩)), (3, .pointer (some ⟨cM, 0, none⟩)), (4, .pointer (some ⟨rb, 0, none⟩)), (15, .slice wa wn wc), (16, .int .i64 (wn : Int)), (17, .int .i64 (τ.1 : Int))]) (fun τ => Hp τ.2.1 [⟨c1, [.slice wa wn wc, .slice xa xn xc, .slice la ln lc, .bool true, .slice ca cn cc, .int .u32 pc0], 39⟩]) (fun τ => wn - τ.1) (0, w3, fun _ => 0) ⟨Nat.zero_le _, hm3, hR3, hu3', Nat.le_refl _⟩ (by (repeat (first | exact Sub.nil | apply Sub.cons rfl))) (fun _ h => h) ?_
  rintro ⟨i, w4, f⟩ ⟨hi, hm4, hR4, hu4, s34⟩
  simp only at hi hm4 hR4 hu4 s34 ⊢
  clear hm3 hR3 hu3'
  have s4 := hu4.size
  by_cases hlt : i < wn
  · have hd : decide ((i : Int) < (wn : Int)) = true := decide_eq_true (by omega)
    obtain ⟨vb, vo, rfl, x, hx, hx2⟩ := hW i hlt
    have lvb := World.block_lt_of_cell? w _ hx
    simp only at lvb
    have hxc : w4.cell? ⟨vb, vo + (i : Int).toNat, none⟩ = some (.int .u32 x) := by
      rw [Int.toNat_natCast]
      exact hu4.cell hx (by simp only; omega)
    repeat' (first | (apply Wl.loadO; exact rfl; exact rfl; exact hxc; (repeat (first | exact trivial | refine ⟨by simp only; omega, ?_⟩))) | (apply Wl.move; exact rfl; exact rfl) | (apply Wl.assign; exact rfl; exact rfl) | (apply Wl.lss; exact rfl; exact rfl; exact rfl) | (apply Wl.addI; exact rfl; exact rfl; exact rfl; (constructor <;> omega)) | (apply Wl.mulI; exact rfl; exact rfl; exact rfl; (constructor <;> omega)) | (apply Wl.convU32; exact rfl; exact rfl; (constructor <;> omega)) | (apply Wl.indexAddr1; exact rfl; exact rfl; exact rfl; (constructor <;> omega)) | (apply Wl.nil) | (apply St.seq) | (apply St.block) | (apply St.region) | (apply St.condT; exact rfl; (first | with_reducible rfl | with_reducible assumption | decide)) | (apply St.skip) | (apply Gt.next))
    apply Wl.callC
    · exact rfl
    · (repeat (first | exact Evs.nil | apply Evs.cons rfl))
    intro wq hq
    refine (mstore cM _ 4 x f wq (by constructor <;> omega) (.inr (.inr rfl)) (hq.upd.heap hm4 fun y => y ⟨by simp only; omega, trivial⟩)).mono ?_
    rintro e w5 ⟨⟨z, rfl⟩, hp5⟩
    have u5 := Hp.turned hp5
    have hq5 := Hp.rest hq u5 (by simp only [List.mem_cons, List.not_mem_nil, or_false, forall_eq_or_imp, forall_eq]; omega)
    refine ⟨_, _, rfl, hq5, ?_⟩
    obtain ⟨f5, hm5⟩ : ∃ f5, memH w5 cM f5 := ⟨_, hp5.own.at (.head _)⟩
    have hR5 : RM w5 rb rm (8 * i) := (hR4.upd hq.upd (fun y => y ⟨by simp only; omega, trivial⟩) (fun y => y ⟨by simp only; omega, trivial⟩)).upd u5 (by omega) (by omega)
    have hu5 : Upd (fun k => w.heap.size ≤ k) w w5 := (hq.on hu4 (by simp; omega)).comp u5 fun k hk hs => by omega
    have s5 := hu5.size
    have s45 : w4.heap.size ≤ w5.heap.size := by have := hq.upd.size; have := u5.size; omega
    clear hq hq5 hp5
    repeat' (first | (apply Wl.move; exact rfl; exact rfl) | (apply Wl.addI; exact rfl; exact rfl; exact rfl; (constructor <;> omega)) | (apply Wl.mulI; exact rfl; exact rfl; exact rfl; (constructor <;> omega)) | (apply Wl.convI64; exact rfl; exact rfl; (constructor <;> omega)) | (apply Wl.nil) | (apply St.region) | (apply Gt.next))
    apply Wl.callC
    · exact rfl
    · (repeat (first | exact Evs.nil | apply Evs.cons rfl))
    intro wq hq
    refine (ramStore rb rm (8 * i) _ _ wq (hR5.upd hq.upd (fun y => y ⟨by simp only; omega, trivial⟩) (fun y => y ⟨by simp only; omega, trivial⟩)) (by omega) (by constructor <;> omega)).mono ?_
    rintro e w6 ⟨⟨z, rfl⟩, hR6, u6⟩
    have s6q := hq.upd.size
    have lc1 := hq.own.lt (.head _)
    simp only at lc1
    have hq6 := Hp.rest hq u6 (by simp only [List.mem_cons, List.not_mem_nil, or_false, forall_eq_or_imp, forall_eq]; omega)
    refine ⟨_, _, rfl, hq6, ?_⟩
    have lmM := lt_of_block hm5
    have hm6 : memH w6 cM f5 := u6.heap (hq.upd.heap hm5 fun y => y ⟨by simp only; omega, trivial⟩) (by omega)
    have hu6 : Upd (fun k => w.heap.size ≤ k) w w6 := (hq.on hu5 (by simp; omega)).comp u6 fun k hk hs => by omega
    have s56 := u6.size
    clear hq hq6
    repeat' (first | (apply Wl.move; exact rfl; exact rfl) | (apply Wl.addI; exact rfl; exact rfl; exact rfl; (constructor <;> omega)) | (apply Wl.nil) | (apply St.region) | (apply Gt.next) | (apply Gt.inNormal))
    apply Gt.round (i + 1, w6, f5)
    rotate_left
    · simp only; omega
    · (repeat (first | exact Sub.nil | apply Sub.cons rfl))
    · exact fun _ h => h
    · exact ⟨hlt, hm6, by rw [show 8 * (i + 1) = 8 * i + 8 by omega]; exact hR6, hu6, by simp only; omega⟩
  have hie : i = wn := by omega
  have hd : decide ((i : Int) < (wn : Int)) = false := decide_eq_false (by omega)
  repeat' (first | (apply Wl.move; exact rfl; exact rfl) | (apply Wl.lss; exact rfl; exact rfl; exact rfl) | (apply Wl.nil) | (apply St.seq) | (apply St.region) | (apply St.condF; exact rfl; (first | with_reducible rfl | with_reducible assumption | decide)) | (apply St.exit) | (apply Gt.next) | (apply Gt.thenExit) | (apply Gt.inExit))
  apply Wl.callC
  · exact rfl
  · (repeat (first | exact Evs.nil | apply Evs.cons rfl))
  intro wq hq
  refine (hnew _ wq).mono ?_
  rintro e w5 ⟨h, cf, rfl, hp5, hh, hcf, hhc⟩
  have lc1 := hq.own.lt (.head _)
  simp only at lc1
  have l5h := hp5.own.lt (.head _)
  have l5f := hp5.own.lt (.tail _ (.head _))
  simp only at l5h l5f
  have u5 : Upd (fun k => wq.heap.size ≤ k) wq w5 := hp5.upd.mono fun k _ hs => Classical.byContradiction fun hn => hs ⟨fun e => by simp only at e; omega, fun e => by simp only at e; omega, trivial⟩
  have hq5 := hq.newer u5
  have sq := hq.upd.size
  have hh5 : w5.heap[h]? = some (.cells (xz ++ [Value.int .u32 0, .pointer (some ⟨cf, 0, none⟩), .pointer (some ⟨cM, 0, none⟩)]).toArray 30 (0, 0)) := hp5.own.at (.head _)
  have hf5 : FF w5 cf 3 0 := fz_FF (hp5.own.at (.tail _ (.head _)))
  refine ⟨_, Hp w5 [⟨h, xz ++ [.int .u32 0, .pointer (some ⟨cf, 0, none⟩), .pointer (some ⟨cM, 0, none⟩)], 30⟩, ⟨c1, [.slice wa wn wc, .slice xa xn xc, .slice la ln lc, .bool true, .slice ca cn cc, .int .u32 pc0], 39⟩], rfl, ⟨Upd.refl _ _, ⟨hh5, hq5.own⟩, ⟨⟨by simp only; omega, trivial⟩, hq5.apart⟩⟩, ?_⟩
  have hm5 : memH w5 cM f := hq5.upd.heap hm4 fun y => y ⟨by simp only; omega, trivial⟩
  have hu5 : Upd (fun k => w.heap.size ≤ k) w w5 := hq5.on hu4 (by simp; omega)
  have lMq : cM < wq.heap.size := by have := lt_of_block hm4; omega
  clear hq hq5 hp5 u5
  repeat' (first | (apply Wl.move; exact rfl; exact rfl) | (apply Wl.assign; exact rfl; exact rfl) | (apply Wl.on; exact rfl; exact rfl; (first | with_reducible rfl | with_reducible assumption | decide)) | (apply Wl.off; exact rfl; exact rfl; exact rfl; (first | with_reducible rfl | (show _ = false; with_reducible assumption) | (show _ = true; with_reducible assumption) | decide)) | (apply Wl.offU; exact rfl; exact rfl; exact rfl) | (apply Wl.extract; exact rfl; exact rfl; exact rfl) | (apply Wl.nilCheck; exact rfl; exact rfl) | (apply Wl.pickT; exact rfl; exact rfl; (first | with_reducible rfl | with_reducible assumption | decide); exact rfl) | (apply Wl.pickF; exact rfl; exact rfl; (first | with_reducible rfl | with_reducible assumption | decide); exact rfl) | (apply Wl.not; exact rfl; exact rfl) | (apply Wl.fieldAddr0; exact rfl; exact rfl) | (apply Wl.fieldAddrZ; exact rfl; exact rfl) | (apply Wl.fieldAddr; exact rfl; exact rfl) | (apply Wl.loadH; exact rfl; exact rfl; (repeat (first | exact List.Mem.head _ | apply List.Mem.tail)); exact rfl) | (apply Wl.loadO; exact rfl; exact rfl; (assumption); (repeat (first | exact trivial | refine ⟨by first | assumption | omega, ?_⟩))) | (apply Wl.eqlPN; exact rfl; exact rfl; exact rfl) | (apply Wl.neqPN; exact rfl; exact rfl; exact rfl) | (apply Wl.eqlNN; exact rfl; exact rfl; exact rfl) | (apply Wl.neqNN; exact rfl; exact rfl; exact rfl) | (apply Wl.eqlIs; exact rfl; exact rfl; exact rfl; (first | with_reducible assumption | with_reducible rfl)) | (apply Wl.neqIs; exact rfl; exact rfl; exact rfl; (first | with_reducible assumption | with_reducible rfl)) | (apply Wl.eql; exact rfl; exact rfl; exact rfl) | (apply Wl.neq; exact rfl; exact rfl; exact rfl) | (apply Wl.lss; exact rfl; exact rfl; exact rfl) | (apply Wl.leq; exact rfl; exact rfl; exact rfl) | (apply Wl.gtr; exact rfl; exact rfl; exact rfl) | (apply Wl.geq; exact rfl; exact rfl; exact rfl) | (apply Wl.addI; exact rfl; exact rfl; exact rfl; (constructor <;> omega)) | (apply Wl.subI; exact rfl; exact rfl; exact rfl; (constructor <;> omega)) | (apply Wl.mulI; exact rfl; exact rfl; exact rfl; (constructor <;> omega)) | (apply Wl.addU; exact rfl; exact rfl; exact rfl; (constructor <;> omega)) | (apply Wl.add; exact rfl; exact rfl; exact rfl) | (apply Wl.sub'; exact rfl; exact rfl; exact rfl) | (apply Wl.mul; exact rfl; exact rfl; exact rfl) | (apply Wl.quo; exact rfl; exact rfl; exact rfl; (first | decide | omega)) | (apply Wl.rem; exact rfl; exact rfl; exact rfl; (first | decide | omega)) | (apply Wl.and; exact rfl; exact rfl; exact rfl) | (apply Wl.or; exact rfl; exact rfl; exact rfl) | (apply Wl.xor; exact rfl; exact rfl; exact rfl) | (apply Wl.andNot; exact rfl; exact rfl; exact rfl) | (apply Wl.shl; exact rfl; exact rfl; exact rfl; (omega)) | (apply Wl.shr; exact rfl; exact rfl; exact rfl; (omega)) | (apply Wl.eqlBs; exact rfl; exact rfl; exact rfl; (first | with_reducible assumption | with_reducible rfl)) | (apply Wl.neqBs; exact rfl; exact rfl; exact rfl; (first | with_reducible assumption | with_reducible rfl)) | (apply Wl.eqlB; exact rfl; exact rfl; exact rfl) | (apply Wl.neqB; exact rfl; exact rfl; exact rfl) | (apply Wl.eqlSB; exact rfl; exact rfl; exact rfl) | (apply Wl.neqSB; exact rfl; exact rfl; exact rfl) | (apply Wl.eqlS; exact rfl; exact rfl; exact rfl) | (apply Wl.neqS; exact rfl; exact rfl; exact rfl) | (apply Wl.convI64; exact rfl; exact rfl; (constructor <;> omega)) | (apply Wl.convU64; exact rfl; exact rfl; (constructor <;> omega)) | (apply Wl.convU32; exact rfl; exact rfl; (constructor <;> omega)) | (apply Wl.convU8; exact rfl; exact rfl; (constructor <;> omega)) | (apply Wl.convI; exact rfl; exact rfl) | (apply Wl.neg; exact rfl; exact rfl) | (apply Wl.compl; exact rfl; exact rfl) | (apply Wl.len; exact rfl; exact rfl) | (apply Wl.lenS; exact rfl; exact rfl) | (apply Wl.store; exact rfl; exact rfl; exact rfl; (repeat (first | apply HSet.here | apply HSet.there)); (repeat (first | apply LSet.z | apply LSet.s))) | (apply Wl.storeA; exact rfl; exact rfl; exact rfl; exact rfl; (repeat (first | apply HSet.here | apply HSet.there)); (repeat (first | apply LPut.s | apply LPut.z | apply LOver.nil | apply LOver.cons))) | (apply Wl.loadAH; exact rfl; exact rfl; (repeat (first | exact List.Mem.head _ | apply List.Mem.tail)); (repeat (first | apply LSub.z | apply LSub.t | apply LSub.s))) | (apply Wl.buildS; exact rfl; (repeat (first | exact Parts.nil | apply Parts.cons rfl)); (repeat (first | apply Fills.nil | (apply Fills.one; exact rfl; exact rfl; (repeat (first | apply LSet.z | apply LSet.s))) | (apply Fills.agg; exact rfl; exact rfl; (repeat (first | apply LPut.s | apply LPut.z | apply LOver.nil | apply LOver.cons)))))) | (apply Wl.buildA; exact rfl; (repeat (first | exact Parts.nil | apply Parts.cons rfl)); (repeat (first | apply Fills.nil | (apply Fills.one; exact rfl; exact rfl; (repeat (first | apply LSet.z | apply LSet.s))) | (apply Fills.agg; exact rfl; exact rfl; (repeat (first | apply LPut.s | apply LPut.z | apply LOver.nil | apply LOver.cons)))))) | (apply Wl.lit; exact rfl; (repeat (first | exact Parts.nil | apply Parts.cons rfl)); exact rfl; exact rfl; (repeat (first | apply CatP.nil | (apply CatP.one; exact rfl; exact rfl) | (apply CatP.agg; exact rfl) | apply LApp.nil | apply LApp.cons)); intro c hc ho) | (apply Wl.boxA; exact rfl; exact rfl; intro c hc ho) | (apply Wl.box1; exact rfl; exact rfl; exact rfl; intro c hc ho) | (apply Wl.alloc; exact rfl; intro c hc ho) | (apply Wl.slice0; exact rfl; exact rfl; (first | exact BoundIs.no | exact BoundIs.yes rfl (by omega)); (first | exact BoundIs.no | exact BoundIs.yes rfl (by omega)); (first | exact fun _ => rfl | exact fun h => nomatch h); (omega); (omega)) | (apply Wl.sliceFull; exact rfl; exact rfl; (first | exact BoundIs.no | exact BoundIs.yes rfl (by omega)); (first | exact BoundIs.no | exact BoundIs.yes rfl (by omega)); (first | exact BoundIs.no | exact BoundIs.yes rfl (by omega)); (first | exact fun _ => rfl | exact fun h => nomatch h); (omega); (omega); (omega)) | (apply Wl.indexAddr1; exact rfl; exact rfl; exact rfl; (constructor <;> omega)) | (apply Wl.indexAddr; exact rfl; exact rfl; exact rfl; (constructor <;> omega)) | (apply Wl.indexArr; exact rfl; exact rfl; exact rfl; (constructor <;> omega)) | (apply Wl.nil) | (apply Wl.nilQ) | (apply Wl.nilM) | (apply St.seq) | (apply St.block) | (apply St.region) | (apply St.condT; exact rfl; (first | with_reducible rfl | with_reducible assumption | decide)) | (apply St.condF; exact rfl; (first | with_reducible rfl | with_reducible assumption | decide)) | (apply St.ret) | (apply St.skip) | (apply St.exit) | (apply Gt.next) | (apply Gt.thenRet) | (apply Gt.thenExit) | (apply Gt.inNormal) | (apply Gt.inRet) | (apply Gt.inExit) | (apply Gt.inOther; exact rfl) | (apply Gt.out1; exact rfl; exact rfl; intro w' hp) | (apply Gt.out2; exact rfl; exact rfl; exact rfl; intro w' hp) | (apply Gt.out3; exact rfl; exact rfl; exact rfl; exact rfl; intro w' hp) | (apply Gt.out4; exact rfl; exact rfl; exact rfl; exact rfl; exact rfl; intro w' hp) | (apply Gt.out0; exact rfl; intro w' hp) | (apply Gt.out0n; exact rfl; intro w' hp) | (apply Wl.splitP; exact rfl; exact rfl; all_goals (intros; try (exfalso; omega))) | (apply Wl.splitB; exact rfl; exact rfl; all_goals intros) | (apply St.condP; exact rfl; all_goals (intros; try (exfalso; omega))) | (apply St.condB; exact rfl; all_goals intros))
  apply Wl.callC
  · exact rfl
  · (repeat (first | exact Evs.nil | apply Evs.cons rfl))
  intro wq2 hq
  refine (mnew wq2).mono ?_
  rintro e w6 ⟨cm, b, rfl, hM6, hcm, hb, u6⟩
  have hq6 := hq.newer u6
  have sq2 := hq.upd.size
  refine ⟨_, _, rfl, hq6.rb, ?_⟩
  have offN : ∀ k, k < w5.heap.size → k ≠ h → k ≠ c1 → ¬ ¬ Off [⟨h, xz ++ [.int .u32 0, .pointer (some ⟨cf, 0, none⟩), .pointer (some ⟨cM, 0, none⟩)], 30⟩, ⟨c1, [.slice wa wn wc, .slice xa xn xc, .slice la ln lc, .bool true, .slice ca cn cc, .int .u32 pc0], 39⟩] k := fun k hk e1 e2 y => y ⟨fun e => e1 e.symm, fun e => e2 e.symm, trivial⟩
  have hf6 : FF w6 cf 3 0 := hf5.upd hq6.upd (offN cf l5f (Ne.symm hhc) (by omega))
  have hm6 : memH w6 cM f := hq6.upd.heap hm5 (offN cM (by omega) (by omega) (by omega))
  have hu6 : Upd (fun k => w.heap.size ≤ k) w w6 := hq6.on hu5 (by simp; omega)
  have hB6 : BW w w6 cf cM cm b 24 0 f := ⟨hf6, by decide, hm6, ⟨_, hM6⟩, hu6, ⟨by omega, by omega, by omega, by omega⟩, ⟨by omega, by omega, by omega⟩, by omega, by omega⟩
  have l6 := hB6.lt
  have l6h := hq6.own.lt (.head _)
  simp only at l6h
  clear hq hq6 u6 hf6 hm6 hu6 hM6 hf5 hm5 hu5
  repeat' (first | (apply Wl.move; exact rfl; exact rfl) | (apply Wl.assign; exact rfl; exact rfl) | (apply Wl.fieldAddrZ; exact rfl; exact rfl) | (apply Wl.loadH; exact rfl; exact rfl; (repeat (first | exact List.Mem.head _ | apply List.Mem.tail)); exact rfl) | (apply Wl.len; exact rfl; exact rfl) | (apply Wl.buildS; exact rfl; (repeat (first | exact Parts.nil | apply Parts.cons rfl)); (repeat (first | apply Fills.nil | (apply Fills.one; exact rfl; exact rfl; (repeat (first | apply LSet.z | apply LSet.s))) | (apply Fills.agg; exact rfl; exact rfl; (repeat (first | apply LPut.s | apply LPut.z | apply LOver.nil | apply LOver.cons)))))) | (apply Wl.boxA; exact rfl; exact rfl; intro c hc ho) | (apply Wl.nil) | (apply St.seq) | (apply St.block) | (apply St.region) | (apply Gt.next))
  rename_i cH hcH hoH
  generalize c = p at *
  have g6 : w6.heap.size ≤ cH ∧ w6.heap.size ≤ p ∧ cH ≠ p := ⟨by assumption, by assumption, fun e => ho.1 (by simp only; exact e)⟩
  have hX6 : ∀ j, j < xn → ∃ b o, xa = some ⟨b, o, none⟩ ∧ ∃ x y : Int, (w6.cell? ⟨b, o + (j : Int).toNat * 2, none⟩ = some (.int .u32 x) ∧ 0 ≤ x ∧ x < 4294967296) ∧ (w6.cell? ⟨b, o + (j : Int).toNat * 2 + 1, none⟩ = some (.int .u32 y) ∧ 0 ≤ y ∧ y < 4294967296) ∧ b < w.heap.size := fun j hj => by
    obtain ⟨vb, vo, e, x, y, h1, h2⟩ := hX j hj
    have l := World.block_lt_of_cell? w _ h1.1
    simp only at l
    rw [Int.toNat_natCast]
    exact ⟨vb, vo, e, x, y, ⟨hB6.u.cell h1.1 (by simp only; omega), h1.2⟩, ⟨hB6.u.cell h2.1 (by simp only; omega), h2.2⟩, l⟩
  refine St.loop (σ := Nat × List Value × List Value) (fun τ => τ.1 ≤ xn ∧ Rg τ.2.1 ∧ τ.2.2.length = 32)
    (fun τ => [(1, .pointer (some ⟨c1, 0, none⟩)), (7, .pointer (some ⟨p, 0, none⟩)), (46, .slice xa xn xc), (47, .int .i64 (xn : Int)), (48, .int .i64 (τ.1 : Int))]) (fun τ => Hp w6 [⟨p, [.pointer (some ⟨h, 0, none⟩), .pointer (some ⟨cH, 0, none⟩)], 44⟩, ⟨cH, τ.2.2 ++ [.int .i64 0, .pointer (some ⟨cm, 0, none⟩), .pointer (some ⟨rb, 0, none⟩)], 82⟩, ⟨h, τ.2.1 ++ [.int .u32 0, .pointer (some ⟨cf, 0, none⟩), .pointer (some ⟨cM, 0, none⟩)], 30⟩, ⟨c1, [.slice wa wn wc, .slice xa xn xc, .slice la ln lc, .bool true, .slice ca cn cc, .int .u32 pc0], 39⟩]) (fun τ => xn - τ.1) (0, xz, yz) ⟨Nat.zero_le _, xz_rg, rfl⟩ (by (repeat (first | exact Sub.nil | apply Sub.cons rfl))) (fun _ h => h) ?_
  rintro ⟨i2, xs, ys⟩ ⟨hi2, hxs, hys⟩
  simp only at hi2 hxs hys ⊢
  by_cases hlt2 : i2 < xn
  · have hd2 : decide ((i2 : Int) < (xn : Int)) = true := decide_eq_true (by omega)
    obtain ⟨vb, vo, rfl, x, y, ⟨hx, hx2⟩, ⟨hy, hy2⟩, lv⟩ := hX6 i2 hlt2
    have g := and31 x
    have hlx : (bits .and .u32 x 31).toNat < xs.length := by have := hxs.1; omega
    have hly : (bits .and .u32 x 31).toNat < ys.length := by omega
    have hls : LSet (xs ++ [Value.int .u32 0, .pointer (some ⟨cf, 0, none⟩), .pointer (some ⟨cM, 0, none⟩)]) (0 + (bits .and .u32 x 31).toNat * 1) (.int .u32 y) (xs.set (bits .and .u32 x 31).toNat (.int .u32 y) ++ [Value.int .u32 0, .pointer (some ⟨cf, 0, none⟩), .pointer (some ⟨cM, 0, none⟩)]) := by rw [show 0 + (bits .and .u32 x 31).toNat * 1 = (bits .and .u32 x 31).toNat by omega]; exact LSet.left hlx
    have hls2 : LSet (ys ++ [Value.int .i64 0, .pointer (some ⟨cm, 0, none⟩), .pointer (some ⟨rb, 0, none⟩)]) (0 + (bits .and .u32 x 31).toNat * 1) (.int .i64 y) (ys.set (bits .and .u32 x 31).toNat (.int .i64 y) ++ [Value.int .i64 0, .pointer (some ⟨cm, 0, none⟩), .pointer (some ⟨rb, 0, none⟩)]) := by rw [show 0 + (bits .and .u32 x 31).toNat * 1 = (bits .and .u32 x 31).toNat by omega]; exact LSet.left hly
    have hag : ∀ (j : Nat) (v : Value), [Value.int .u32 x, Value.int .u32 y][j]? = some v → w6.cell? ⟨vb, vo + (i2 : Int).toNat * 2 + j, none⟩ = some v := fun j v hj => by
      rcases j with _ | _ | j
      · cases hj; exact hx
      · cases hj; exact hy
      · simp at hj
    repeat' (first | (apply Wl.loadAF (xs := [Value.int .u32 x, Value.int .u32 y]); exact rfl; exact rfl; exact rfl; (intro wq hq q v hq'; rw [addLit]; exact hq.old (hag q v hq') (by show Off _ vb; repeat (first | exact trivial | refine ⟨by first | omega | (simp only; omega), ?_⟩)))) | (apply Wl.move; exact rfl; exact rfl) | (apply Wl.loadH; exact rfl; exact rfl; (repeat (first | exact List.Mem.head _ | apply List.Mem.tail)); exact rfl) | (apply Wl.lss; exact rfl; exact rfl; exact rfl) | (apply Wl.gtr; exact rfl; exact rfl; exact rfl) | (apply Wl.addI; exact rfl; exact rfl; exact rfl; (constructor <;> omega)) | (apply Wl.and; exact rfl; exact rfl; exact rfl) | (apply Wl.storeA; exact rfl; exact rfl; exact rfl; exact rfl; (repeat (first | apply HSet.here | apply HSet.there)); (repeat (first | apply LPut.s | apply LPut.z | apply LOver.nil | apply LOver.cons))) | (apply Wl.alloc; exact rfl; intro c hc ho) | (apply Wl.indexAddr; exact rfl; exact rfl; exact rfl; (constructor <;> omega)) | (apply Wl.indexArr; exact rfl; exact rfl; exact rfl; (constructor <;> omega)) | (apply Wl.nil) | (apply St.seq) | (apply St.block) | (apply St.region) | (apply St.condT; exact rfl; (first | with_reducible rfl | with_reducible assumption | decide)) | (apply St.skip) | (apply Gt.next) | (apply Gt.inNormal) | (apply St.condP; exact rfl; all_goals (intros; try (exfalso; omega))))
    all_goals generalize c = c9 at *
    · rename_i hbit _
      refine St.tree (fun w' => Own w' [⟨c9, [Value.int .u32 x, Value.int .u32 y], 56⟩, ⟨p, [.pointer (some ⟨h, 0, none⟩), .pointer (some ⟨cH, 0, none⟩)], 44⟩]) mixed (fun _ h => ⟨Hp.drew h, own_at (Hp.drew h).own (by (repeat (first | exact List.Mem.head _ | apply List.Mem.tail))), own_at (Hp.drew h).own (by (repeat (first | exact List.Mem.head _ | apply List.Mem.tail))), trivial⟩) ?_
      refine Mt.pure 0 (by decide +kernel) (by exact rfl) (by exact rfl) (by decide +kernel) (by decide +kernel) ?_
      repeat' (first | (apply Wl.move; exact rfl; exact rfl) | (apply Wl.nilM))
      apply Mt.back
      refine Mt.pure 1 (by decide +kernel) (by exact rfl) (by exact rfl) (by decide +kernel) (by decide +kernel) ?_
      repeat' (first | (apply Wl.nilCheck; exact rfl; exact rfl) | (apply Wl.nilM))
      apply Mt.back
      refine Mt.pure 2 (by decide +kernel) (by exact rfl) (by exact rfl) (by decide +kernel) (by decide +kernel) ?_
      repeat' (first | (apply Wl.fieldAddr0; exact rfl; exact rfl) | (apply Wl.nilM))
      apply Mt.back
      refine Mt.pure 3 (by decide +kernel) (by exact rfl) (by exact rfl) (by decide +kernel) (by decide +kernel) ?_
      repeat' (first | (apply Wl.loadF; exact rfl; exact rfl; (intro w' h'; first | exact cell_of h'.1 rfl | exact cell_of h'.2.1 rfl)) | (apply Wl.nilM))
      apply Mt.back
      refine Mt.pure 4 (by decide +kernel) (by exact rfl) (by exact rfl) (by decide +kernel) (by decide +kernel) ?_
      repeat' (first | (apply Wl.indexArr; exact rfl; exact rfl; exact rfl; (constructor <;> omega)) | (apply Wl.nilM))
      apply Mt.back
      refine Mt.pure 5 (by decide +kernel) (by exact rfl) (by exact rfl) (by decide +kernel) (by decide +kernel) ?_
      repeat' (first | (apply Wl.loadF; exact rfl; exact rfl; (intro w' h'; first | exact cell_of h'.1 rfl | exact cell_of h'.2.1 rfl)) | (apply Wl.nilM))
      apply Mt.back
      refine Mt.pure 6 (by decide +kernel) (by exact rfl) (by exact rfl) (by decide +kernel) (by decide +kernel) ?_
      repeat' (first | (apply Wl.and; exact rfl; exact rfl; exact rfl) | (apply Wl.nilM))
      apply Mt.back
      refine Mt.pure 7 (by decide +kernel) (by exact rfl) (by exact rfl) (by decide +kernel) (by decide +kernel) ?_
      repeat' (first | (apply Wl.move; exact rfl; exact rfl) | (apply Wl.nilM))
      apply Mt.back
      refine Mt.pure 8 (by decide +kernel) (by exact rfl) (by exact rfl) (by decide +kernel) (by decide +kernel) ?_
      repeat' (first | (apply Wl.nilCheck; exact rfl; exact rfl) | (apply Wl.nilM))
      apply Mt.back
      refine Mt.pure 9 (by decide +kernel) (by exact rfl) (by exact rfl) (by decide +kernel) (by decide +kernel) ?_
      repeat' (first | (apply Wl.fieldAddrZ; exact rfl; exact rfl) | (apply Wl.nilM))
      apply Mt.back
      refine Mt.pure 10 (by decide +kernel) (by exact rfl) (by exact rfl) (by decide +kernel) (by decide +kernel) ?_
      repeat' (first | (apply Wl.loadF; exact rfl; exact rfl; (intro w' h'; first | exact cell_of h'.1 rfl | exact cell_of h'.2.1 rfl)) | (apply Wl.nilM))
      apply Mt.back
      refine Mt.pure 11 (by decide +kernel) (by exact rfl) (by exact rfl) (by decide +kernel) (by decide +kernel) ?_
      repeat' (first | (apply Wl.indexArr; exact rfl; exact rfl; exact rfl; (constructor <;> omega)) | (apply Wl.nilM))
      apply Mt.back
      refine Mt.pure 12 (by decide +kernel) (by exact rfl) (by exact rfl) (by decide +kernel) (by decide +kernel) ?_
      repeat' (first | (apply Wl.loadF; exact rfl; exact rfl; (intro w' h'; first | exact cell_of h'.1 rfl | exact cell_of h'.2.1 rfl)) | (apply Wl.nilM))
      apply Mt.back
      refine Mt.pure 13 (by decide +kernel) (by exact rfl) (by exact rfl) (by decide +kernel) (by decide +kernel) ?_
      repeat' (first | (apply Wl.and; exact rfl; exact rfl; exact rfl) | (apply Wl.nilM))
      apply Mt.back
      refine Mt.pure 14 (by decide +kernel) (by exact rfl) (by exact rfl) (by decide +kernel) (by decide +kernel) ?_
      repeat' (first | (apply Wl.indexArr; exact rfl; exact rfl; exact rfl; (constructor <;> omega)) | (apply Wl.nilM))
      apply Mt.back
      refine Mt.pure 15 (by decide +kernel) (by exact rfl) (by exact rfl) (by decide +kernel) (by decide +kernel) ?_
      repeat' (first | (apply Wl.loadF; exact rfl; exact rfl; (intro w' h'; first | exact cell_of h'.1 rfl | exact cell_of h'.2.1 rfl)) | (apply Wl.nilM))
      apply Mt.back
      refine Mt.pure 16 (by decide +kernel) (by exact rfl) (by exact rfl) (by decide +kernel) (by decide +kernel) ?_
      repeat' (first | (apply Wl.indexArr; exact rfl; exact rfl; exact rfl; (constructor <;> omega)) | (apply Wl.nilM))
      apply Mt.back
      refine Mt.pure 17 (by decide +kernel) (by exact rfl) (by exact rfl) (by decide +kernel) (by decide +kernel) ?_
      repeat' (first | (apply Wl.loadF; exact rfl; exact rfl; (intro w' h'; first | exact cell_of h'.1 rfl | exact cell_of h'.2.1 rfl)) | (apply Wl.nilM))
      apply Mt.back
      refine Mt.pure 18 (by decide +kernel) (by exact rfl) (by exact rfl) (by decide +kernel) (by decide +kernel) ?_
      repeat' (first | (apply Wl.convI64; exact rfl; exact rfl; (constructor <;> omega)) | (apply Wl.nilM))
      apply Mt.back
      refine Mt.pure 19 (by decide +kernel) (by exact rfl) (by exact rfl) (by decide +kernel) (by decide +kernel) ?_
      repeat' (first | (apply Wl.nilCheck; exact rfl; exact rfl) | (apply Wl.nilM))
      apply Mt.back
      refine Mt.pure 20 (by decide +kernel) (by exact rfl) (by exact rfl) (by decide +kernel) (by decide +kernel) ?_
      repeat' (first | (apply Wl.fieldAddr0; exact rfl; exact rfl) | (apply Wl.nilM))
      apply Mt.back
      refine Mt.pure 21 (by decide +kernel) (by exact rfl) (by exact rfl) (by decide +kernel) (by decide +kernel) ?_
      repeat' (first | (apply Wl.indexArr; exact rfl; exact rfl; exact rfl; (constructor <;> omega)) | (apply Wl.nilM))
      apply Mt.back
      refine Mt.pure 23 (by decide +kernel) (by exact rfl) (by exact rfl) (by decide +kernel) (by decide +kernel) ?_
      repeat' (first | (apply Wl.nilCheck; exact rfl; exact rfl) | (apply Wl.nilM))
      apply Mt.back
      refine Mt.pure 24 (by decide +kernel) (by exact rfl) (by exact rfl) (by decide +kernel) (by decide +kernel) ?_
      repeat' (first | (apply Wl.fieldAddr0; exact rfl; exact rfl) | (apply Wl.nilM))
      apply Mt.back
      refine Mt.eff1 (i := 22) (by decide +kernel) (by exact rfl) ?_
      repeat' (first | (apply Wl.store; exact rfl; exact rfl; exact rfl; (repeat (first | apply HSet.here | apply HSet.there)); exact hls) | (apply Wl.nil))
      refine Mt.backE (fun _ h => ⟨own_at h.own (by (repeat (first | exact List.Mem.head _ | apply List.Mem.tail))), own_at h.own (by (repeat (first | exact List.Mem.head _ | apply List.Mem.tail))), trivial⟩) ?_
      refine Mt.pure 25 (by decide +kernel) (by exact rfl) (by exact rfl) (by decide +kernel) (by decide +kernel) ?_
      repeat' (first | (apply Wl.indexArr; exact rfl; exact rfl; exact rfl; (constructor <;> omega)) | (apply Wl.nilM))
      apply Mt.back
      refine Mt.eff1 (i := 26) (by decide +kernel) (by exact rfl) ?_
      repeat' (first | (apply Wl.store; exact rfl; exact rfl; exact rfl; (repeat (first | apply HSet.here | apply HSet.there)); exact hls2) | (apply Wl.nil))
      refine Mt.backE (fun _ h => ⟨own_at h.own (by (repeat (first | exact List.Mem.head _ | apply List.Mem.tail))), own_at h.own (by (repeat (first | exact List.Mem.head _ | apply List.Mem.tail))), trivial⟩) ?_
      refine Mt.toGt (by decide +kernel) ?_
      repeat' (first | (apply Wl.move; exact rfl; exact rfl) | (apply Wl.addI; exact rfl; exact rfl; exact rfl; (constructor <;> omega)) | (apply Wl.nil) | (apply St.region) | (apply Gt.next) | (apply Gt.inNormal))
      apply Gt.round (i2 + 1, xs.set (bits .and .u32 x 31).toNat (.int .u32 y), ys.set (bits .and .u32 x 31).toNat (.int .i64 y))
      rotate_left
      · simp only; omega
      · (repeat (first | exact Sub.nil | apply Sub.cons rfl))
      · exact fun _ h => Hp.pop h (by simp only; omega)
      · refine ⟨hlt2, ?_, by rw [List.length_set]; exact hys⟩
        have hset := hxs.set (r := bits .and .u32 x 31) hy2
        unfold setR at hset
        rw [if_neg (by omega)] at hset
        exact hset
    · repeat' (first | (apply Wl.move; exact rfl; exact rfl) | (apply Wl.assign; exact rfl; exact rfl) | (apply Wl.on; exact rfl; exact rfl; (first | with_reducible rfl | with_reducible assumption | decide)) | (apply Wl.off; exact rfl; exact rfl; exact rfl; (first | with_reducible rfl | (show _ = false; with_reducible assumption) | (show _ = true; with_reducible assumption) | decide)) | (apply Wl.offU; exact rfl; exact rfl; exact rfl) | (apply Wl.extract; exact rfl; exact rfl; exact rfl) | (apply Wl.nilCheck; exact rfl; exact rfl) | (apply Wl.pickT; exact rfl; exact rfl; (first | with_reducible rfl | with_reducible assumption | decide); exact rfl) | (apply Wl.pickF; exact rfl; exact rfl; (first | with_reducible rfl | with_reducible assumption | decide); exact rfl) | (apply Wl.not; exact rfl; exact rfl) | (apply Wl.fieldAddr0; exact rfl; exact rfl) | (apply Wl.fieldAddrZ; exact rfl; exact rfl) | (apply Wl.fieldAddr; exact rfl; exact rfl) | (apply Wl.loadH; exact rfl; exact rfl; (repeat (first | exact List.Mem.head _ | apply List.Mem.tail)); exact rfl) | (apply Wl.loadO; exact rfl; exact rfl; (assumption); (repeat (first | exact trivial | refine ⟨by first | assumption | omega, ?_⟩))) | (apply Wl.eqlPN; exact rfl; exact rfl; exact rfl) | (apply Wl.neqPN; exact rfl; exact rfl; exact rfl) | (apply Wl.eqlNN; exact rfl; exact rfl; exact rfl) | (apply Wl.neqNN; exact rfl; exact rfl; exact rfl) | (apply Wl.eqlIs; exact rfl; exact rfl; exact rfl; (first | with_reducible assumption | with_reducible rfl)) | (apply Wl.neqIs; exact rfl; exact rfl; exact rfl; (first | with_reducible assumption | with_reducible rfl)) | (apply Wl.eql; exact rfl; exact rfl; exact rfl) | (apply Wl.neq; exact rfl; exact rfl; exact rfl) | (apply Wl.lss; exact rfl; exact rfl; exact rfl) | (apply Wl.leq; exact rfl; exact rfl; exact rfl) | (apply Wl.gtr; exact rfl; exact rfl; exact rfl) | (apply Wl.geq; exact rfl; exact rfl; exact rfl) | (apply Wl.addI; exact rfl; exact rfl; exact rfl; (constructor <;> omega)) | (apply Wl.subI; exact rfl; exact rfl; exact rfl; (constructor <;> omega)) | (apply Wl.mulI; exact rfl; exact rfl; exact rfl; (constructor <;> omega)) | (apply Wl.addU; exact rfl; exact rfl; exact rfl; (constructor <;> omega)) | (apply Wl.add; exact rfl; exact rfl; exact rfl) | (apply Wl.sub'; exact rfl; exact rfl; exact rfl) | (apply Wl.mul; exact rfl; exact rfl; exact rfl) | (apply Wl.quo; exact rfl; exact rfl; exact rfl; (first | decide | omega)) | (apply Wl.rem; exact rfl; exact rfl; exact rfl; (first | decide | omega)) | (apply Wl.and; exact rfl; exact rfl; exact rfl) | (apply Wl.or; exact rfl; exact rfl; exact rfl) | (apply Wl.xor; exact rfl; exact rfl; exact rfl) | (apply Wl.andNot; exact rfl; exact rfl; exact rfl) | (apply Wl.shl; exact rfl; exact rfl; exact rfl; (omega)) | (apply Wl.shr; exact rfl; exact rfl; exact rfl; (omega)) | (apply Wl.eqlBs; exact rfl; exact rfl; exact rfl; (first | with_reducible assumption | with_reducible rfl)) | (apply Wl.neqBs; exact rfl; exact rfl; exact rfl; (first | with_reducible assumption | with_reducible rfl)) | (apply Wl.eqlB; exact rfl; exact rfl; exact rfl) | (apply Wl.neqB; exact rfl; exact rfl; exact rfl) | (apply Wl.eqlSB; exact rfl; exact rfl; exact rfl) | (apply Wl.neqSB; exact rfl; exact rfl; exact rfl) | (apply Wl.eqlS; exact rfl; exact rfl; exact rfl) | (apply Wl.neqS; exact rfl; exact rfl; exact rfl) | (apply Wl.convI64; exact rfl; exact rfl; (constructor <;> omega)) | (apply Wl.convU64; exact rfl; exact rfl; (constructor <;> omega)) | (apply Wl.convU32; exact rfl; exact rfl; (constructor <;> omega)) | (apply Wl.convU8; exact rfl; exact rfl; (constructor <;> omega)) | (apply Wl.convI; exact rfl; exact rfl) | (apply Wl.neg; exact rfl; exact rfl) | (apply Wl.compl; exact rfl; exact rfl) | (apply Wl.len; exact rfl; exact rfl) | (apply Wl.lenS; exact rfl; exact rfl) | (apply Wl.store; exact rfl; exact rfl; exact rfl; (repeat (first | apply HSet.here | apply HSet.there)); (repeat (first | apply LSet.z | apply LSet.s))) | (apply Wl.storeA; exact rfl; exact rfl; exact rfl; exact rfl; (repeat (first | apply HSet.here | apply HSet.there)); (repeat (first | apply LPut.s | apply LPut.z | apply LOver.nil | apply LOver.cons))) | (apply Wl.loadAH; exact rfl; exact rfl; (repeat (first | exact List.Mem.head _ | apply List.Mem.tail)); (repeat (first | apply LSub.z | apply LSub.t | apply LSub.s))) | (apply Wl.buildS; exact rfl; (repeat (first | exact Parts.nil | apply Parts.cons rfl)); (repeat (first | apply Fills.nil | (apply Fills.one; exact rfl; exact rfl; (repeat (first | apply LSet.z | apply LSet.s))) | (apply Fills.agg; exact rfl; exact rfl; (repeat (first | apply LPut.s | apply LPut.z | apply LOver.nil | apply LOver.cons)))))) | (apply Wl.buildA; exact rfl; (repeat (first | exact Parts.nil | apply Parts.cons rfl)); (repeat (first | apply Fills.nil | (apply Fills.one; exact rfl; exact rfl; (repeat (first | apply LSet.z | apply LSet.s))) | (apply Fills.agg; exact rfl; exact rfl; (repeat (first | apply LPut.s | apply LPut.z | apply LOver.nil | apply LOver.cons)))))) | (apply Wl.lit; exact rfl; (repeat (first | exact Parts.nil | apply Parts.cons rfl)); exact rfl; exact rfl; (repeat (first | apply CatP.nil | (apply CatP.one; exact rfl; exact rfl) | (apply CatP.agg; exact rfl) | apply LApp.nil | apply LApp.cons)); intro c hc ho) | (apply Wl.boxA; exact rfl; exact rfl; intro c hc ho) | (apply Wl.box1; exact rfl; exact rfl; exact rfl; intro c hc ho) | (apply Wl.alloc; exact rfl; intro c hc ho) | (apply Wl.slice0; exact rfl; exact rfl; (first | exact BoundIs.no | exact BoundIs.yes rfl (by omega)); (first | exact BoundIs.no | exact BoundIs.yes rfl (by omega)); (first | exact fun _ => rfl | exact fun h => nomatch h); (omega); (omega)) | (apply Wl.sliceFull; exact rfl; exact rfl; (first | exact BoundIs.no | exact BoundIs.yes rfl (by omega)); (first | exact BoundIs.no | exact BoundIs.yes rfl (by omega)); (first | exact BoundIs.no | exact BoundIs.yes rfl (by omega)); (first | exact fun _ => rfl | exact fun h => nomatch h); (omega); (omega); (omega)) | (apply Wl.indexAddr1; exact rfl; exact rfl; exact rfl; (constructor <;> omega)) | (apply Wl.indexAddr; exact rfl; exact rfl; exact rfl; (constructor <;> omega)) | (apply Wl.indexArr; exact rfl; exact rfl; exact rfl; (constructor <;> omega)) | (apply Wl.nil) | (apply Wl.nilQ) | (apply Wl.nilM) | (apply St.seq) | (apply St.block) | (apply St.region) | (apply St.condT; exact rfl; (first | with_reducible rfl | with_reducible assumption | decide)) | (apply St.condF; exact rfl; (first | with_reducible rfl | with_reducible assumption | decide)) | (apply St.ret) | (apply St.skip) | (apply St.exit) | (apply Gt.next) | (apply Gt.thenRet) | (apply Gt.thenExit) | (apply Gt.inNormal) | (apply Gt.inRet) | (apply Gt.inExit) | (apply Gt.inOther; exact rfl) | (apply Gt.out1; exact rfl; exact rfl; intro w' hp) | (apply Gt.out2; exact rfl; exact rfl; exact rfl; intro w' hp) | (apply Gt.out3; exact rfl; exact rfl; exact rfl; exact rfl; intro w' hp) | (apply Gt.out4; exact rfl; exact rfl; exact rfl; exact rfl; exact rfl; intro w' hp) | (apply Gt.out0; exact rfl; intro w' hp) | (apply Gt.out0n; exact rfl; intro w' hp) | (apply Wl.splitP; exact rfl; exact rfl; all_goals (intros; try (exfalso; omega))) | (apply Wl.splitB; exact rfl; exact rfl; all_goals intros) | (apply St.condP; exact rfl; all_goals (intros; try (exfalso; omega))) | (apply St.condB; exact rfl; all_goals intros))
      apply Gt.round (i2 + 1, xs, ys)
      rotate_left
      · simp only; omega
      · (repeat (first | exact Sub.nil | apply Sub.cons rfl))
      · exact fun _ h => Hp.pop h (by simp only; omega)
      · exact ⟨hlt2, hxs, hys⟩
  have hie2 : i2 = xn := by omega
  have hd2 : decide ((i2 : Int) < (xn : Int)) = false := decide_eq_false (by omega)
  have hne := hB6.ne
  have hge := hB6.ge
  repeat' (first | (apply St.bagX (i := 15) 9 []; exact mixed; (decide +kernel); kernel_rfl) | (apply Wl.loadHi 1; exact rfl; exact rfl; (repeat (first | exact List.Mem.head _ | apply List.Mem.tail)); (first | exact hxs.1 | exact hys); exact rfl; exact rfl) | (apply OpsX.nil) | (apply OpsX.v; (intro X hX; change Wl [_] _ _ _ _ _ _ _; apply Wl.catX; (repeat (first | apply CatB.nil | apply CatB.cons)))) | (apply Gt.endX; exact rfl) | (apply EndX.on; exact rfl) | (apply EndX.off; exact rfl) | (apply EndX.nil'; apply Wl.catE; (repeat (first | apply CatB.nil | apply CatB.cons))) | (apply Wl.move; exact rfl; exact rfl) | (apply Wl.nilCheck; exact rfl; exact rfl) | (apply Wl.fieldAddr0; exact rfl; exact rfl) | (apply Wl.fieldAddrZ; exact rfl; exact rfl) | (apply Wl.loadH; exact rfl; exact rfl; (repeat (first | exact List.Mem.head _ | apply List.Mem.tail)); exact rfl) | (apply Wl.lss; exact rfl; exact rfl; exact rfl) | (apply Wl.nil) | (apply St.seq) | (apply St.region) | (apply St.condF; exact rfl; (first | with_reducible rfl | with_reducible assumption | decide)) | (apply St.exit) | (apply Gt.next) | (apply Gt.thenExit) | (apply Gt.inExit))
  apply Wl.callC
  · exact rfl
  · (repeat (first | exact Evs.nil | apply Evs.cons rfl))
  intro wq hq
  have hBq := hB6.upd hq.upd (fun y => y ⟨by simp only; omega, by simp only; omega, by simp only; omega, by simp only; omega, trivial⟩) (fun y => y ⟨by simp only; omega, by simp only; omega, by simp only; omega, by simp only; omega, trivial⟩) (fun y => y ⟨by simp only; omega, by simp only; omega, by simp only; omega, by simp only; omega, trivial⟩) (fun y => y ⟨by simp only; omega, by simp only; omega, by simp only; omega, by simp only; omega, trivial⟩) fun j hs => Classical.byContradiction fun hn => hs ⟨by simp only; omega, by simp only; omega, by simp only; omega, by simp only; omega, trivial⟩
  refine (fprotect cf ln lc la 3 0 w wq hBq.ff hBq.u hBq.ge.1 hL).mono ?_
  rintro e w7 ⟨rfl, hf7, u7⟩
  have sq3 := hq.upd.size
  have hq7 := Hp.rest hq u7 (by simp only [List.mem_cons, List.not_mem_nil, or_false, forall_eq_or_imp, forall_eq]; omega)
  refine ⟨_, _, rfl, hq7, ?_⟩
  have hB7 := hBq.fcall hf7 (by decide) u7
  have l7 := u7.size
  clear hq hq7 hBq
  repeat' (first | (apply St.bagX (i := 16) 9 []; exact mixed; (decide +kernel); kernel_rfl) | (apply Wl.loadHi 1; exact rfl; exact rfl; (repeat (first | exact List.Mem.head _ | apply List.Mem.tail)); (first | exact hxs.1 | exact hys); exact rfl; exact rfl) | (apply OpsX.nil) | (apply OpsX.v; (intro X hX; change Wl [_] _ _ _ _ _ _ _; apply Wl.catX; (repeat (first | apply CatB.nil | apply CatB.cons)))) | (apply Gt.endX; exact rfl) | (apply EndX.on; exact rfl) | (apply EndX.off; exact rfl) | (apply EndX.nil'; apply Wl.catE; (repeat (first | apply CatB.nil | apply CatB.cons))) | (apply Wl.move; exact rfl; exact rfl) | (apply Wl.nilCheck; exact rfl; exact rfl) | (apply Wl.fieldAddrZ; exact rfl; exact rfl) | (apply Wl.loadH; exact rfl; exact rfl; (repeat (first | exact List.Mem.head _ | apply List.Mem.tail)); exact rfl) | (apply Wl.nil) | (apply St.seq) | (apply Gt.next))
  apply Wl.callC
  · exact rfl
  · (repeat (first | exact Evs.nil | apply Evs.cons rfl))
  intro wq hq
  have hBq := hB7.upd hq.upd (fun y => y ⟨by simp only; omega, by simp only; omega, by simp only; omega, by simp only; omega, trivial⟩) (fun y => y ⟨by simp only; omega, by simp only; omega, by simp only; omega, by simp only; omega, trivial⟩) (fun y => y ⟨by simp only; omega, by simp only; omega, by simp only; omega, by simp only; omega, trivial⟩) (fun y => y ⟨by simp only; omega, by simp only; omega, by simp only; omega, by simp only; omega, trivial⟩) fun j hs => Classical.byContradiction fun hn => hs ⟨by simp only; omega, by simp only; omega, by simp only; omega, by simp only; omega, trivial⟩
  obtain ⟨tv2, hM2⟩ := hBq.mf
  refine (mprotect cm b 24 ln lc la tv2 w wq hM2 (by decide) hBq.u hBq.ge.2.2.1 hBq.ge.2.2.2 hL).mono ?_
  rintro e w8 ⟨rfl, hM8, u8⟩
  have sq4 := hq.upd.size
  have hq8 := Hp.rest hq u8 (by simp only [List.mem_cons, List.not_mem_nil, or_false, forall_eq_or_imp, forall_eq]; omega)
  refine ⟨_, _, rfl, hq8, ?_⟩
  have hB8 := hBq.mcall hM8 u8
  have l8 := u8.size
  have s68 : w6.heap.size ≤ w8.heap.size := by omega
  clear hq hq8 hBq hB7
  repeat' (first | (apply Wl.move; exact rfl; exact rfl) | (apply Wl.fieldAddrZ; exact rfl; exact rfl) | (apply Wl.loadH; exact rfl; exact rfl; (repeat (first | exact List.Mem.head _ | apply List.Mem.tail)); exact rfl) | (apply Wl.len; exact rfl; exact rfl) | (apply Wl.nil) | (apply St.seq) | (apply St.block) | (apply St.region) | (apply Gt.next))
  refine St.loop (σ := Nat × World × Int) (fun τ => τ.1 ≤ cn ∧ BW w τ.2.1 cf cM cm b (24 + 32 + τ.1) τ.2.2 f ∧ w6.heap.size ≤ τ.2.1.heap.size)
    (fun τ => [(1, .pointer (some ⟨c1, 0, none⟩)), (7, .pointer (some ⟨p, 0, none⟩)), (103, .slice ca cn cc), (104, .int .i64 (cn : Int)), (105, .int .i64 (τ.1 : Int))]) (fun τ => Hp τ.2.1 [⟨p, [.pointer (some ⟨h, 0, none⟩), .pointer (some ⟨cH, 0, none⟩)], 44⟩, ⟨cH, ys ++ [.int .i64 0, .pointer (some ⟨cm, 0, none⟩), .pointer (some ⟨rb, 0, none⟩)], 82⟩, ⟨h, xs ++ [.int .u32 0, .pointer (some ⟨cf, 0, none⟩), .pointer (some ⟨cM, 0, none⟩)], 30⟩, ⟨c1, [.slice wa wn wc, .slice xa xn xc, .slice la ln lc, .bool true, .slice ca cn cc, .int .u32 pc0], 39⟩]) (fun τ => cn - τ.1) (0, w8, 0) ⟨Nat.zero_le _, hB8, s68⟩ (by (repeat (first | exact Sub.nil | apply Sub.cons rfl))) (fun _ h => h) ?_
  clear hB8 s68
  rintro ⟨i3, w9, tv⟩ ⟨hi3, hB9, s69⟩
  simp only at hi3 hB9 s69 ⊢
  by_cases hlt3 : i3 < cn
  · have hd3 : decide ((i3 : Int) < (cn : Int)) = true := decide_eq_true (by omega)
    obtain ⟨vb, vo, rfl, x, y, ⟨hx, hx2⟩, ⟨hy, hy2⟩⟩ := hC i3 hlt3
    have lv := World.block_lt_of_cell? w _ hx
    simp only at lv
    have hag : ∀ (j : Nat) (v : Value), [Value.int .u32 x, Value.int .u32 y][j]? = some v → w9.cell? ⟨vb, vo + (i3 : Int).toNat * 2 + j, none⟩ = some v := fun j v hj => by
      rw [Int.toNat_natCast]
      rcases j with _ | _ | j
      · cases hj; exact hB9.u.cell hx (by simp only; omega)
      · cases hj; exact hB9.u.cell hy (by simp only; omega)
      · simp at hj
    repeat' (first | (apply Wl.loadAF (xs := [Value.int .u32 x, Value.int .u32 y]); exact rfl; exact rfl; exact rfl; (intro wq hq q v hq'; rw [addLit]; exact hq.old (hag q v hq') (by show Off _ vb; repeat (first | exact trivial | refine ⟨by first | omega | (simp only; omega), ?_⟩)))) | (apply St.bagX (i := 20) 11 []; exact mixed; (decide +kernel); kernel_rfl) | (apply Wl.loadHi 1; exact rfl; exact rfl; (repeat (first | exact List.Mem.head _ | apply List.Mem.tail)); (first | exact hxs.1 | exact hys); exact rfl; exact rfl) | (apply OpsX.nil) | (apply OpsX.v; (intro X hX; change Wl [_] _ _ _ _ _ _ _; apply Wl.catX; (repeat (first | apply CatB.nil | apply CatB.cons)))) | (apply Gt.endX; exact rfl) | (apply EndX.on; exact rfl) | (apply EndX.off; exact rfl) | (apply EndX.nil'; apply Wl.catE; (repeat (first | apply CatB.nil | apply CatB.cons))) | (apply Wl.move; exact rfl; exact rfl) | (apply Wl.nilCheck; exact rfl; exact rfl) | (apply Wl.fieldAddr0; exact rfl; exact rfl) | (apply Wl.fieldAddrZ; exact rfl; exact rfl) | (apply Wl.loadH; exact rfl; exact rfl; (repeat (first | exact List.Mem.head _ | apply List.Mem.tail)); exact rfl) | (apply Wl.lss; exact rfl; exact rfl; exact rfl) | (apply Wl.storeA; exact rfl; exact rfl; exact rfl; exact rfl; (repeat (first | apply HSet.here | apply HSet.there)); (repeat (first | apply LPut.s | apply LPut.z | apply LOver.nil | apply LOver.cons))) | (apply Wl.alloc; exact rfl; intro c hc ho) | (apply Wl.indexAddr; exact rfl; exact rfl; exact rfl; (constructor <;> omega)) | (apply Wl.indexArr; exact rfl; exact rfl; exact rfl; (constructor <;> omega)) | (apply Wl.nil) | (apply St.seq) | (apply St.block) | (apply St.region) | (apply St.condT; exact rfl; (first | with_reducible rfl | with_reducible assumption | decide)) | (apply St.skip) | (apply Gt.next))
    generalize c = c9 at *
    have hc9 : w9.heap.size ≤ c9 := by assumption
    apply Wl.callC
    · exact rfl
    · (repeat (first | exact Evs.nil | apply Evs.cons rfl))
    intro wq hq
    have l9 := hB9.lt
    have hBq := hB9.upd hq.upd (fun y => y ⟨by simp only; omega, by simp only; omega, by simp only; omega, by simp only; omega, by simp only; omega, trivial⟩) (fun y => y ⟨by simp only; omega, by simp only; omega, by simp only; omega, by simp only; omega, by simp only; omega, trivial⟩) (fun y => y ⟨by simp only; omega, by simp only; omega, by simp only; omega, by simp only; omega, by simp only; omega, trivial⟩) (fun y => y ⟨by simp only; omega, by simp only; omega, by simp only; omega, by simp only; omega, by simp only; omega, trivial⟩) fun j hs => Classical.byContradiction fun hn => hs ⟨by simp only; omega, by simp only; omega, by simp only; omega, by simp only; omega, by simp only; omega, trivial⟩
    refine (fwrite cf x y 3 tv wq hx2 hy2 hBq.ff).mono ?_
    rintro e wA ⟨rfl, hfA, uA⟩
    have sq5 := hq.upd.size
    have lq9 := hq.own.lt (.head _)
    simp only at lq9
    have hqA := Hp.rest hq uA (by simp only [List.mem_cons, List.not_mem_nil, or_false, forall_eq_or_imp, forall_eq]; omega)
    refine ⟨_, _, rfl, hqA, ?_⟩
    have hBA := hBq.fcall hfA (by have := hBq.tv0; split <;> (constructor <;> omega)) uA
    have lA := uA.size
    have lA2 := hBA.lt
    clear hq hqA hBq
    repeat' (first | (apply St.bagX (i := 21) 13 []; exact mixed; (decide +kernel); kernel_rfl) | (apply Wl.loadHi 1; exact rfl; exact rfl; (repeat (first | exact List.Mem.head _ | apply List.Mem.tail)); (first | exact hxs.1 | exact hys); exact rfl; exact rfl) | (apply OpsX.nil) | (apply OpsX.v; (intro X hX; change Wl [_] _ _ _ _ _ _ _; apply Wl.catX; (repeat (first | apply CatB.nil | apply CatB.cons)))) | (apply Gt.endX; exact rfl) | (apply EndX.on; exact rfl) | (apply EndX.off; exact rfl) | (apply EndX.nil'; apply Wl.catE; (repeat (first | apply CatB.nil | apply CatB.cons))) | (apply Wl.move; exact rfl; exact rfl) | (apply Wl.nilCheck; exact rfl; exact rfl) | (apply Wl.fieldAddrZ; exact rfl; exact rfl) | (apply Wl.loadH; exact rfl; exact rfl; (repeat (first | exact List.Mem.head _ | apply List.Mem.tail)); exact rfl) | (apply Wl.convI64; exact rfl; exact rfl; (constructor <;> omega)) | (apply Wl.indexArr; exact rfl; exact rfl; exact rfl; (constructor <;> omega)) | (apply Wl.nil) | (apply Gt.next))
    apply Wl.callC
    · exact rfl
    · (repeat (first | exact Evs.nil | apply Evs.cons rfl))
    intro wq hq
    have hBq := hBA.upd hq.upd (fun y => y ⟨by simp only; omega, by simp only; omega, by simp only; omega, by simp only; omega, by simp only; omega, trivial⟩) (fun y => y ⟨by simp only; omega, by simp only; omega, by simp only; omega, by simp only; omega, by simp only; omega, trivial⟩) (fun y => y ⟨by simp only; omega, by simp only; omega, by simp only; omega, by simp only; omega, by simp only; omega, trivial⟩) (fun y => y ⟨by simp only; omega, by simp only; omega, by simp only; omega, by simp only; omega, by simp only; omega, trivial⟩) fun j hs => Classical.byContradiction fun hn => hs ⟨by simp only; omega, by simp only; omega, by simp only; omega, by simp only; omega, by simp only; omega, trivial⟩
    obtain ⟨tv3, hM3⟩ := hBq.mf
    refine (mwrite cm b (24 + 32 + i3) x y tv3 wq hx2 hy2 hM3 (by omega)).mono ?_
    rintro e wB ⟨rfl, hMB, uB⟩
    have sq6 := hq.upd.size
    have hqB := Hp.rest hq uB (by simp only [List.mem_cons, List.not_mem_nil, or_false, forall_eq_or_imp, forall_eq]; omega)
    have hBB := hBq.mcall hMB uB
    have lB := uB.size
    refine ⟨_, Hp wB [⟨p, [.pointer (some ⟨h, 0, none⟩), .pointer (some ⟨cH, 0, none⟩)], 44⟩, ⟨cH, ys ++ [.int .i64 0, .pointer (some ⟨cm, 0, none⟩), .pointer (some ⟨rb, 0, none⟩)], 82⟩, ⟨h, xs ++ [.int .u32 0, .pointer (some ⟨cf, 0, none⟩), .pointer (some ⟨cM, 0, none⟩)], 30⟩, ⟨c1, [.slice wa wn wc, .slice xa xn xc, .slice la ln lc, .bool true, .slice (some ⟨vb, vo, none⟩) cn cc, .int .u32 pc0], 39⟩], rfl, ⟨Upd.refl _ _, hqB.own.2, hqB.apart.2⟩, ?_⟩
    clear hq hqB hBq
    repeat' (first | (apply Wl.move; exact rfl; exact rfl) | (apply Wl.addI; exact rfl; exact rfl; exact rfl; (constructor <;> omega)) | (apply Wl.nil) | (apply St.region) | (apply Gt.next) | (apply Gt.inNormal))
    apply Gt.round (i3 + 1, wB, if x = 773 then y - y % 4 else tv)
    rotate_left
    · simp only; omega
    · (repeat (first | exact Sub.nil | apply Sub.cons rfl))
    · exact fun _ h => h
    · exact ⟨hlt3, by rw [show 24 + 32 + (i3 + 1) = 24 + 32 + i3 + 1 by omega]; exact hBB, by simp only; omega⟩
  have hie3 : i3 = cn := by omega
  have hd3 : decide ((i3 : Int) < (cn : Int)) = false := decide_eq_false (by omega)
  have l9 := hB9.lt
  repeat' (first | (apply Wl.lss; exact rfl; exact rfl; exact rfl) | (apply Wl.nil) | (apply St.seq) | (apply St.region) | (apply St.condF; exact rfl; (first | with_reducible rfl | with_reducible assumption | decide)) | (apply St.exit) | (apply Gt.next) | (apply Gt.thenExit) | (apply Gt.inExit))
  refine St.tree (fun w' => Own w' [⟨p, [.pointer (some ⟨h, 0, none⟩), .pointer (some ⟨cH, 0, none⟩)], 44⟩, ⟨c1, [.slice wa wn wc, .slice xa xn xc, .slice la ln lc, .bool true, .slice ca cn cc, .int .u32 pc0], 39⟩]) mixed (fun _ h => ⟨Hp.drew h, own_at (Hp.drew h).own (by (repeat (first | exact List.Mem.head _ | apply List.Mem.tail))), own_at (Hp.drew h).own (by (repeat (first | exact List.Mem.head _ | apply List.Mem.tail))), trivial⟩) ?_
  refine Mt.pure 0 (by decide +kernel) (by exact rfl) (by exact rfl) (by decide +kernel) (by decide +kernel) ?_
  repeat' (first | (apply Wl.move; exact rfl; exact rfl) | (apply Wl.nilM))
  apply Mt.back
  refine Mt.pure 1 (by decide +kernel) (by exact rfl) (by exact rfl) (by decide +kernel) (by decide +kernel) ?_
  repeat' (first | (apply Wl.nilCheck; exact rfl; exact rfl) | (apply Wl.nilM))
  apply Mt.back
  refine Mt.pure 2 (by decide +kernel) (by exact rfl) (by exact rfl) (by decide +kernel) (by decide +kernel) ?_
  repeat' (first | (apply Wl.fieldAddr0; exact rfl; exact rfl) | (apply Wl.nilM))
  apply Mt.back
  refine Mt.pure 3 (by decide +kernel) (by exact rfl) (by exact rfl) (by decide +kernel) (by decide +kernel) ?_
  repeat' (first | (apply Wl.loadF; exact rfl; exact rfl; (intro w' h'; first | exact cell_of h'.1 rfl | exact cell_of h'.2.1 rfl)) | (apply Wl.nilM))
  apply Mt.back
  refine Mt.pure 4 (by decide +kernel) (by exact rfl) (by exact rfl) (by decide +kernel) (by decide +kernel) ?_
  repeat' (first | (apply Wl.move; exact rfl; exact rfl) | (apply Wl.nilM))
  apply Mt.back
  refine Mt.pure 5 (by decide +kernel) (by exact rfl) (by exact rfl) (by decide +kernel) (by decide +kernel) ?_
  repeat' (first | (apply Wl.nilCheck; exact rfl; exact rfl) | (apply Wl.nilM))
  apply Mt.back
  refine Mt.pure 6 (by decide +kernel) (by exact rfl) (by exact rfl) (by decide +kernel) (by decide +kernel) ?_
  repeat' (first | (apply Wl.fieldAddrZ; exact rfl; exact rfl) | (apply Wl.nilM))
  apply Mt.back
  refine Mt.pure 7 (by decide +kernel) (by exact rfl) (by exact rfl) (by decide +kernel) (by decide +kernel) ?_
  repeat' (first | (apply Wl.loadF; exact rfl; exact rfl; (intro w' h'; first | exact cell_of h'.1 rfl | exact cell_of h'.2.1 rfl)) | (apply Wl.nilM))
  apply Mt.back
  refine Mt.pure 8 (by decide +kernel) (by exact rfl) (by exact rfl) (by decide +kernel) (by decide +kernel) ?_
  repeat' (first | (apply Wl.fieldAddrZ; exact rfl; exact rfl) | (apply Wl.nilM))
  apply Mt.back
  refine Mt.pure 9 (by decide +kernel) (by exact rfl) (by exact rfl) (by decide +kernel) (by decide +kernel) ?_
  repeat' (first | (apply Wl.loadF; exact rfl; exact rfl; (intro w' h'; first | exact cell_of h'.1 rfl | exact cell_of h'.2.1 rfl)) | (apply Wl.nilM))
  apply Mt.back
  refine Mt.pure 10 (by decide +kernel) (by exact rfl) (by exact rfl) (by decide +kernel) (by decide +kernel) ?_
  repeat' (first | (apply Wl.add; exact rfl; exact rfl; exact rfl) | (apply Wl.nilM))
  apply Mt.back
  refine Mt.pure 11 (by decide +kernel) (by exact rfl) (by exact rfl) (by decide +kernel) (by decide +kernel) ?_
  repeat' (first | (apply Wl.fieldAddrZ; exact rfl; exact rfl) | (apply Wl.nilM))
  apply Mt.back
  refine Mt.pure 12 (by decide +kernel) (by exact rfl) (by exact rfl) (by decide +kernel) (by decide +kernel) ?_
  repeat' (first | (apply Wl.loadF; exact rfl; exact rfl; (intro w' h'; first | exact cell_of h'.1 rfl | exact cell_of h'.2.1 rfl)) | (apply Wl.nilM))
  apply Mt.back
  refine Mt.pure 13 (by decide +kernel) (by exact rfl) (by exact rfl) (by decide +kernel) (by decide +kernel) ?_
  repeat' (first | (apply Wl.add; exact rfl; exact rfl; exact rfl) | (apply Wl.nilM))
  apply Mt.back
  refine Mt.pure 14 (by decide +kernel) (by exact rfl) (by exact rfl) (by decide +kernel) (by decide +kernel) ?_
  repeat' (first | (apply Wl.convI; exact rfl; exact rfl) | (apply Wl.nilM))
  apply Mt.back
  refine Mt.pure 15 (by decide +kernel) (by exact rfl) (by exact rfl) (by decide +kernel) (by decide +kernel) ?_
  repeat' (first | (apply Wl.nilCheck; exact rfl; exact rfl) | (apply Wl.nilM))
  apply Mt.back
  refine Mt.pure 16 (by decide +kernel) (by exact rfl) (by exact rfl) (by decide +kernel) (by decide +kernel) ?_
  repeat' (first | (apply Wl.fieldAddrZ; exact rfl; exact rfl) | (apply Wl.nilM))
  apply Mt.back
  refine Mt.eff1 (i := 17) (by decide +kernel) (by exact rfl) ?_
  repeat' (first | (apply Wl.storeHi 0; exact rfl; exact rfl; exact rfl; (repeat (first | apply HSet.here | apply HSet.there)); exact hxs.1; exact rfl; (repeat (first | apply LSet.z | apply LSet.s))) | (apply Wl.nil))
  refine Mt.backE (fun _ h => ⟨own_at h.own (by (repeat (first | exact List.Mem.head _ | apply List.Mem.tail))), own_at h.own (by (repeat (first | exact List.Mem.head _ | apply List.Mem.tail))), trivial⟩) ?_
  refine Mt.pure 18 (by decide +kernel) (by exact rfl) (by exact rfl) (by decide +kernel) (by decide +kernel) ?_
  repeat' (first | (apply Wl.nilCheck; exact rfl; exact rfl) | (apply Wl.nilM))
  apply Mt.back
  refine Mt.pure 19 (by decide +kernel) (by exact rfl) (by exact rfl) (by decide +kernel) (by decide +kernel) ?_
  repeat' (first | (apply Wl.fieldAddrZ; exact rfl; exact rfl) | (apply Wl.nilM))
  apply Mt.back
  refine Mt.eff1 (i := 20) (by decide +kernel) (by exact rfl) ?_
  repeat' (first | (apply Wl.storeHi 0; exact rfl; exact rfl; exact rfl; (repeat (first | apply HSet.here | apply HSet.there)); exact hys; exact rfl; (repeat (first | apply LSet.z | apply LSet.s))) | (apply Wl.nil))
  refine Mt.backE (fun _ h => ⟨own_at h.own (by (repeat (first | exact List.Mem.head _ | apply List.Mem.tail))), own_at h.own (by (repeat (first | exact List.Mem.head _ | apply List.Mem.tail))), trivial⟩) ?_
  refine Mt.toGt (by decide +kernel) ?_
  repeat' (first | (apply Wl.fieldAddrZ; exact rfl; exact rfl) | (apply Wl.loadH; exact rfl; exact rfl; (repeat (first | exact List.Mem.head _ | apply List.Mem.tail)); exact rfl) | (apply Wl.nil) | (apply St.seq) | (apply St.region) | (apply St.condT; exact rfl; (first | with_reducible rfl | with_reducible assumption | decide)) | (apply Gt.next))
  obtain ⟨st, mie, mip, sc, ep, ca1, tl, cs, hkf, hcf9⟩ := hB9.ff
  obtain ⟨tv4, md4, cs4, n4, lk4, hk4, hcm9, hmm4, _⟩ := hB9.mf
  refine St.cls (C' := Hp w9 ([⟨cf, Value.int .i64 3 :: .int .u32 st :: .int .u32 mie :: .int .u32 mip :: .int .u32 tv :: .int .u32 sc :: .int .u32 ep :: .int .u32 ca1 :: .int .u32 tl :: cs, 54⟩, ⟨cm, Value.int .i64 md4 :: .map (some b) :: cs4, 89⟩, ⟨p, [.pointer (some ⟨h, 0, none⟩), .pointer (some ⟨cH, 0, none⟩)], 44⟩, ⟨cH, ys ++ [.int .i64 (IntKind.i64.wrap (IntKind.u32.wrap (2147487744 + pc0))), .pointer (some ⟨cm, 0, none⟩), .pointer (some ⟨rb, 0, none⟩)], 82⟩, ⟨h, xs ++ [.int .u32 (IntKind.u32.wrap (2147487744 + pc0)), .pointer (some ⟨cf, 0, none⟩), .pointer (some ⟨cM, 0, none⟩)], 30⟩, ⟨c1, [.slice wa wn wc, .slice xa xn xc, .slice la ln lc, .bool true, .slice ca cn cc, .int .u32 pc0], 39⟩])) (fun _ h' => Hp.open (Hp.open h' hcm9 ⟨by simp only; omega, by simp only; omega, by simp only; omega, by simp only; omega, trivial⟩) hcf9 ⟨fun e => hne.1.2.1 e.symm, ⟨by simp only; omega, by simp only; omega, by simp only; omega, by simp only; omega, trivial⟩⟩) ?_
  refine St.tree (fun w' => w'.cell? ⟨p, 0, none⟩ = some (.pointer (some ⟨h, 0, none⟩)) ∧ w'.cell? ⟨p, 1, none⟩ = some (.pointer (some ⟨cH, 0, none⟩)) ∧ w'.cell? ⟨h, 33, none⟩ = some (.pointer (some ⟨cf, 0, none⟩)) ∧ w'.cell? ⟨cH, 33, none⟩ = some (.pointer (some ⟨cm, 0, none⟩))) mixed (fun _ h => ⟨Hp.drew h, ownC (Hp.drew h) hxs.1 hys⟩) ?_
  refine Mt.pure 0 (by decide +kernel) (by exact rfl) (by exact rfl) (by decide +kernel) (by decide +kernel) ?_
  repeat' (first | (apply Wl.move; exact rfl; exact rfl) | (apply Wl.nilM))
  apply Mt.back
  refine Mt.pure 1 (by decide +kernel) (by exact rfl) (by exact rfl) (by decide +kernel) (by decide +kernel) ?_
  repeat' (first | (apply Wl.nilCheck; exact rfl; exact rfl) | (apply Wl.nilM))
  apply Mt.back
  refine Mt.pure 2 (by decide +kernel) (by exact rfl) (by exact rfl) (by decide +kernel) (by decide +kernel) ?_
  repeat' (first | (apply Wl.fieldAddr0; exact rfl; exact rfl) | (apply Wl.nilM))
  apply Mt.back
  refine Mt.pure 3 (by decide +kernel) (by exact rfl) (by exact rfl) (by decide +kernel) (by decide +kernel) ?_
  repeat' (first | (apply Wl.loadF; exact rfl; exact rfl; (intro w' h'; first | exact h'.1 | exact h'.2.1 | exact h'.2.2.1 | exact h'.2.2.2)) | (apply Wl.nilM))
  apply Mt.back
  refine Mt.pure 4 (by decide +kernel) (by exact rfl) (by exact rfl) (by decide +kernel) (by decide +kernel) ?_
  repeat' (first | (apply Wl.nilCheck; exact rfl; exact rfl) | (apply Wl.nilM))
  apply Mt.back
  refine Mt.pure 5 (by decide +kernel) (by exact rfl) (by exact rfl) (by decide +kernel) (by decide +kernel) ?_
  repeat' (first | (apply Wl.fieldAddrZ; exact rfl; exact rfl) | (apply Wl.nilM))
  apply Mt.back
  refine Mt.pure 6 (by decide +kernel) (by exact rfl) (by exact rfl) (by decide +kernel) (by decide +kernel) ?_
  repeat' (first | (apply Wl.loadF; exact rfl; exact rfl; (intro w' h'; first | exact h'.1 | exact h'.2.1 | exact h'.2.2.1 | exact h'.2.2.2)) | (apply Wl.nilM))
  apply Mt.back
  refine Mt.pure 7 (by decide +kernel) (by exact rfl) (by exact rfl) (by decide +kernel) (by decide +kernel) ?_
  repeat' (first | (apply Wl.move; exact rfl; exact rfl) | (apply Wl.nilM))
  apply Mt.back
  refine Mt.pure 8 (by decide +kernel) (by exact rfl) (by exact rfl) (by decide +kernel) (by decide +kernel) ?_
  repeat' (first | (apply Wl.nilCheck; exact rfl; exact rfl) | (apply Wl.nilM))
  apply Mt.back
  refine Mt.pure 9 (by decide +kernel) (by exact rfl) (by exact rfl) (by decide +kernel) (by decide +kernel) ?_
  repeat' (first | (apply Wl.fieldAddrZ; exact rfl; exact rfl) | (apply Wl.nilM))
  apply Mt.back
  refine Mt.pure 10 (by decide +kernel) (by exact rfl) (by exact rfl) (by decide +kernel) (by decide +kernel) ?_
  repeat' (first | (apply Wl.loadF; exact rfl; exact rfl; (intro w' h'; first | exact h'.1 | exact h'.2.1 | exact h'.2.2.1 | exact h'.2.2.2)) | (apply Wl.nilM))
  apply Mt.back
  refine Mt.pure 11 (by decide +kernel) (by exact rfl) (by exact rfl) (by decide +kernel) (by decide +kernel) ?_
  repeat' (first | (apply Wl.nilCheck; exact rfl; exact rfl) | (apply Wl.nilM))
  apply Mt.back
  refine Mt.pure 12 (by decide +kernel) (by exact rfl) (by exact rfl) (by decide +kernel) (by decide +kernel) ?_
  repeat' (first | (apply Wl.fieldAddrZ; exact rfl; exact rfl) | (apply Wl.nilM))
  apply Mt.back
  refine Mt.pure 13 (by decide +kernel) (by exact rfl) (by exact rfl) (by decide +kernel) (by decide +kernel) ?_
  repeat' (first | (apply Wl.loadF; exact rfl; exact rfl; (intro w' h'; first | exact h'.1 | exact h'.2.1 | exact h'.2.2.1 | exact h'.2.2.2)) | (apply Wl.nilM))
  apply Mt.back
  refine Mt.pure 14 (by decide +kernel) (by exact rfl) (by exact rfl) (by decide +kernel) (by decide +kernel) ?_
  repeat' (first | (apply Wl.nilCheck; exact rfl; exact rfl) | (apply Wl.nilM))
  apply Mt.back
  refine Mt.pure 15 (by decide +kernel) (by exact rfl) (by exact rfl) (by decide +kernel) (by decide +kernel) ?_
  repeat' (first | (apply Wl.fieldAddr0; exact rfl; exact rfl) | (apply Wl.nilM))
  apply Mt.back
  refine Mt.eff1 (i := 16) (by decide +kernel) (by exact rfl) ?_
  repeat' (first | (apply Wl.store; exact rfl; exact rfl; exact rfl; (repeat (first | apply HSet.here | apply HSet.there)); (repeat (first | apply LSet.z | apply LSet.s))) | (apply Wl.nil))
  refine Mt.backE (fun _ h => ownC h hxs.1 hys) ?_
  refine Mt.pure 17 (by decide +kernel) (by exact rfl) (by exact rfl) (by decide +kernel) (by decide +kernel) ?_
  repeat' (first | (apply Wl.nilCheck; exact rfl; exact rfl) | (apply Wl.nilM))
  apply Mt.back
  refine Mt.pure 18 (by decide +kernel) (by exact rfl) (by exact rfl) (by decide +kernel) (by decide +kernel) ?_
  repeat' (first | (apply Wl.fieldAddr0; exact rfl; exact rfl) | (apply Wl.nilM))
  apply Mt.back
  refine Mt.eff1 (i := 19) (by decide +kernel) (by exact rfl) ?_
  repeat' (first | (apply Wl.store; exact rfl; exact rfl; exact rfl; (repeat (first | apply HSet.here | apply HSet.there)); (repeat (first | apply LSet.z | apply LSet.s))) | (apply Wl.nil))
  refine Mt.backE (fun _ h => ownC h hxs.1 hys) ?_
  refine Mt.toGt (by decide +kernel) ?_
  repeat' (first | (apply Wl.move; exact rfl; exact rfl) | (apply Wl.assign; exact rfl; exact rfl) | (apply Wl.nil) | (apply St.seq) | (apply St.region) | (apply St.ret) | (apply Gt.next) | (apply Gt.out1; exact rfl; exact rfl; intro w' hp))
  have hff : FF w' cf 0 tv := ⟨st, mie, mip, sc, ep, ca1, tl, cs, hkf, own_at hp.own (by (repeat (first | exact List.Mem.head _ | apply List.Mem.tail)))⟩
  obtain ⟨F, hFX, hmd, htv⟩ := ffx hff
  have huF : Upd (fun k => w.heap.size ≤ k) w w' := hp.on hB9.u (by simp only [List.mem_cons, List.not_mem_nil, or_false, forall_eq_or_imp, forall_eq]; omega)
  refine ⟨p, h, cf, cM, cH, xs, _, F, f, rfl, own_at hp.own (by (repeat (first | exact List.Mem.head _ | apply List.Mem.tail))), ⟨⟨hxs.1, own_at hp.own (by (repeat (first | exact List.Mem.head _ | apply List.Mem.tail)))⟩, hFX, hp.upd.heap hB9.mm fun y => y ⟨by simp only; omega, by simp only; omega, by simp only; omega, by simp only; omega, by simp only; omega, by simp only; omega, trivial⟩, hxs, wr32 _, by rw [htv]; exact hB9.tv0, hT.upd huF (by omega), ⟨by omega, by omega, by omega⟩, by omega, by omega, by omega⟩, hmd, ⟨by omega, by omega, by omega, by omega⟩, ⟨by omega, by omega, by omega⟩, huF⟩
end Go.Proofs.YtcefkbnachnciaaDoor
end
section
namespace Go.Proofs.YtcefkbnachnciaaDoor
open Go.RowKit Go.Pt
section
variable {md : Md} {N : Nat} {ops : Array Oper} {rest : List Oper} {Γ : Env} {C : World → Prop} {Q : Exit → Act → World → Prop} {d : Nat} {ty : TypeId} {pos : String} {af : Array Edge} {x y : Operand} {u : TypeId}
end
set_option maxHeartbeats 2000000 in
theorem small16 (wa xa la ca : Option Addr) (wn wc xn xc ln lc cn cc : Nat) (us : Bool) (pc0 : Int) (w : World) :
    Calls Tryd.prog 10 #[.agg #[.slice wa wn wc, .slice xa xn xc, .slice la ln lc, .bool us, .slice ca cn cc, .int .u32 pc0]] w fun e w' => e = .returned (.bool (decide (wn ≤ 300 ∧ xn ≤ 100 ∧ ln ≤ 16 ∧ cn ≤ 100))) ∧ Hp w [] w' := by
  refine enter (args := [_]) (Γ := [(0, _)]) Tryd.func10 Tryd.ntmps10 rfl (of_decide_eq_true rfl) (.cons rfl .nil) ?_
  apply St.seq
  apply St.region
  apply Wl.boxA
  · exact rfl
  · exact rfl
  intro c1 hc1 ho1
  by_cases h1 : wn ≤ 300
  · have d1 : decide ((wn : Int) ≤ 300) = true := decide_eq_true (by omega)
    by_cases h2 : xn ≤ 100
    · have d2 : decide ((xn : Int) ≤ 100) = true := decide_eq_true (by omega)
      by_cases h3 : ln ≤ 16
      · have d3 : decide ((ln : Int) ≤ 16) = true := decide_eq_true (by omega)
        repeat' (first | (apply Wl.move; exact rfl; exact rfl) | (apply Wl.assign; exact rfl; exact rfl) | (apply Wl.on; exact rfl; exact rfl; (first | with_reducible rfl | with_reducible assumption | decide)) | (apply Wl.pickT; exact rfl; exact rfl; (first | with_reducible rfl | with_reducible assumption | decide); exact rfl) | (apply Wl.fieldAddr0; exact rfl; exact rfl) | (apply Wl.fieldAddrZ; exact rfl; exact rfl) | (apply Wl.loadH; exact rfl; exact rfl; (repeat (first | exact List.Mem.head _ | apply List.Mem.tail)); exact rfl) | (apply Wl.leq; exact rfl; exact rfl; exact rfl) | (apply Wl.len; exact rfl; exact rfl) | (apply Wl.nil) | (apply St.seq) | (apply St.region) | (apply St.ret) | (apply Gt.next) | (apply Gt.out1; exact rfl; exact rfl; intro w' hp))
        refine ⟨?_, hp.drop (by simp; omega)⟩
        by_cases h4 : cn ≤ 100
        · rw [decide_eq_true (show (cn : Int) ≤ 100 by omega), decide_eq_true ⟨h1, h2, h3, h4⟩]
        · rw [decide_eq_false (show ¬ (cn : Int) ≤ 100 by omega), decide_eq_false (fun h => h4 h.2.2.2)]
      · have d3 : decide ((ln : Int) ≤ 16) = false := decide_eq_false (by omega)
        repeat' (first | (apply Wl.move; exact rfl; exact rfl) | (apply Wl.assign; exact rfl; exact rfl) | (apply Wl.on; exact rfl; exact rfl; (first | with_reducible rfl | with_reducible assumption | decide)) | (apply Wl.off; exact rfl; exact rfl; exact rfl; (first | with_reducible rfl | (show _ = false; with_reducible assumption) | (show _ = true; with_reducible assumption) | decide)) | (apply Wl.pickT; exact rfl; exact rfl; (first | with_reducible rfl | with_reducible assumption | decide); exact rfl) | (apply Wl.pickF; exact rfl; exact rfl; (first | with_reducible rfl | with_reducible assumption | decide); exact rfl) | (apply Wl.fieldAddr0; exact rfl; exact rfl) | (apply Wl.fieldAddrZ; exact rfl; exact rfl) | (apply Wl.loadH; exact rfl; exact rfl; (repeat (first | exact List.Mem.head _ | apply List.Mem.tail)); exact rfl) | (apply Wl.leq; exact rfl; exact rfl; exact rfl) | (apply Wl.len; exact rfl; exact rfl) | (apply Wl.nil) | (apply St.seq) | (apply St.region) | (apply St.ret) | (apply Gt.next) | (apply Gt.out1; exact rfl; exact rfl; intro w' hp))
        refine ⟨?_, hp.drop (by simp; omega)⟩
        rw [decide_eq_false (fun h => h3 h.2.2.1)]
    · have d2 : decide ((xn : Int) ≤ 100) = false := decide_eq_false (by omega)
      repeat' (first | (apply Wl.move; exact rfl; exact rfl) | (apply Wl.assign; exact rfl; exact rfl) | (apply Wl.on; exact rfl; exact rfl; (first | with_reducible rfl | with_reducible assumption | decide)) | (apply Wl.off; exact rfl; exact rfl; exact rfl; (first | with_reducible rfl | (show _ = false; with_reducible assumption) | (show _ = true; with_reducible assumption) | decide)) | (apply Wl.pickT; exact rfl; exact rfl; (first | with_reducible rfl | with_reducible assumption | decide); exact rfl) | (apply Wl.pickF; exact rfl; exact rfl; (first | with_reducible rfl | with_reducible assumption | decide); exact rfl) | (apply Wl.fieldAddr0; exact rfl; exact rfl) | (apply Wl.fieldAddrZ; exact rfl; exact rfl) | (apply Wl.loadH; exact rfl; exact rfl; (repeat (first | exact List.Mem.head _ | apply List.Mem.tail)); exact rfl) | (apply Wl.leq; exact rfl; exact rfl; exact rfl) | (apply Wl.len; exact rfl; exact rfl) | (apply Wl.nil) | (apply St.seq) | (apply St.region) | (apply St.ret) | (apply Gt.next) | (apply Gt.out1; exact rfl; exact rfl; intro w' hp))
      refine ⟨?_, hp.drop (by simp; omega)⟩
      rw [decide_eq_false (fun h => h2 h.2.1)]
  · have d1 : decide ((wn : Int) ≤ 300) = false := decide_eq_false (by omega)
    repeat' (first | (apply Wl.move; exact rfl; exact rfl) | (apply Wl.assign; exact rfl; exact rfl) | (apply Wl.off; exact rfl; exact rfl; exact rfl; (first | with_reducible rfl | (show _ = false; with_reducible assumption) | (show _ = true; with_reducible assumption) | decide)) | (apply Wl.pickF; exact rfl; exact rfl; (first | with_reducible rfl | with_reducible assumption | decide); exact rfl) | (apply Wl.fieldAddr0; exact rfl; exact rfl) | (apply Wl.loadH; exact rfl; exact rfl; (repeat (first | exact List.Mem.head _ | apply List.Mem.tail)); exact rfl) | (apply Wl.leq; exact rfl; exact rfl; exact rfl) | (apply Wl.len; exact rfl; exact rfl) | (apply Wl.nil) | (apply St.seq) | (apply St.region) | (apply St.ret) | (apply Gt.next) | (apply Gt.out1; exact rfl; exact rfl; intro w' hp))
    refine ⟨?_, hp.drop (by simp; omega)⟩
    rw [decide_eq_false (fun h => h1 h.1)]
end Go.Proofs.YtcefkbnachnciaaDoor
end
section
namespace Go.Proofs.YtcefkbnachnciaaDoor
open Go.RowKit Go.Pt
theorem hpNil (w : World) : Hp w [] w := ⟨Upd.refl _ _, trivial, trivial⟩
theorem _root_.Go.Pt.Hp.fin {w w1 w' : World} {H : List Blk} (hp : Hp w1 H w') (hu : Upd (fun k => w.heap.size ≤ k) w w1) (hH : ∀ x ∈ H, w.heap.size ≤ x.b) : Hp w [] w' := (hpNil w).newer (hp.on hu hH)
theorem k60 (n : Int) : ∃ K : Nat, (n.tmod 60 + 60).tmod 60 = (K : Int) ∧ K < 60 ∧ -60 < n.tmod 60 ∧ n.tmod 60 < 60 := by
  have h1 : -60 < n.tmod 60 ∧ n.tmod 60 < 60 := by
    rcases Int.le_total 0 n with h | h
    · have := Int.tmod_eq_emod_of_nonneg (b := 60) h
      omega
    · have e : n.tmod 60 = -((-n).tmod 60) := by rw [Int.neg_tmod, Int.neg_neg]
      have := Int.tmod_eq_emod_of_nonneg (a := -n) (b := 60) (by omega)
      omega
  have h2 : 0 ≤ n.tmod 60 + 60 := by omega
  have h3 := Int.tmod_eq_emod_of_nonneg (b := 60) h2
  refine ⟨((n.tmod 60 + 60) % 60).toNat, ?_, by omega, h1.1, h1.2⟩
  rw [h3]; omega
end Go.Proofs.YtcefkbnachnciaaDoor
end
section
namespace Go.Pt
open Go.RowKit
section
variable {P : Program} {md : Md} {N : Nat} {ops : Array Oper} {rest : List Oper} {Γ : Env} {C : World → Prop} {Q : Exit → Act → World → Prop} {d : Nat} {ty : TypeId} {pos : String} {af : Array Edge}
theorem Wl.sliceArr2 {t e sz by_ n : TypeId} {x lo hi : Operand} {b o : Nat} {k k' : IntKind} [ht : TyD P t (.array n e)] [TyS P e sz by_] (hd : Nat.blt d N = true) (hx : ev Γ x = some (.pointer (some ⟨b, o, none⟩))) (hlo : ev Γ lo = some (.int k 0)) (hhi : ev Γ hi = some (.int k' (n : Int))) (hn : n ≠ 0)
    (h : Wl rest P md ops N ((d, .slice (some ⟨b, o, none⟩) n n) :: Γ) C Q) : Wl (⟨some d, .slice t x (some lo) (some hi) none, ty, pos, af, none⟩ :: rest) P md ops N Γ C Q :=
  Wl.val hd (fun a w ha _ => by
    have e1 : ∀ m c, (Instr.sliceBound (.int k 0) m c).run P w = .ok 0 w := fun m c => by
      simp only [Instr.sliceBound, asIntOf, pure_bind]
      rw [if_pos (by omega)]
      simp
    have e2 : ∀ c, (Instr.sliceBound (.int k' (n : Int)) n c).run P w = .ok n w := fun c => by
      simp only [Instr.sliceBound, asIntOf, pure_bind]
      rw [if_pos (by omega)]
      simp
    simp [execOp, ha.ev hx, ha.ev hlo, ha.ev hhi, Instr.sliceAt, run_underlying ht.out, Instr.sureAddr, Instr.sliceBounds, e1, e2, run_size (P := P) (t := e), Addr.add, hn]) h
end
end Go.Pt
namespace Go.Proofs.YtcefkbnachnciaaDoor
open Go.RowKit Go.Pt
theorem memC_one (f : Nat → Int) : (memC f).all Value.oneCell' = true := by
  rw [List.all_eq_true]
  intro v hv
  obtain ⟨i, hi, e⟩ := List.mem_iff_getElem.1 hv
  rw [memC_len] at hi
  have h := memC_get (f := f) hi
  rw [List.getElem?_eq_getElem (by rw [memC_len]; exact hi), e] at h
  cases h
  rfl
theorem tyZ0 : TyZ Tryd.prog 94 (.agg Tryd.zeroCells94) := ⟨by kernel_rfl⟩
theorem zcellsA : Tryd.zeroCells94 = (memC fun _ => 0).toArray := by rw [← zcells]
instance tyZM : TyZ Tryd.prog 94 (.agg (memC fun _ => 0).toArray) := zcellsA ▸ tyZ0
set_option maxHeartbeats 2000000 in
theorem mcopy (c : Nat) (f : Nat → Int) (w : World) (hc : memH w c f) :
    Calls Tryd.prog 15 #[.pointer (some ⟨c, 0, none⟩)] w fun e w' => ∃ d, e = .returned (.pointer (some ⟨d, 0, none⟩)) ∧ w.heap.size ≤ d ∧ memH w' d f ∧ Upd (fun k => w.heap.size ≤ k) w w' := by
  unfold memH at hc
  refine enter (args := [_]) (Γ := [(0, _)]) Tryd.func15 Tryd.ntmps15 rfl (of_decide_eq_true rfl) (.cons rfl .nil) ?_
  repeat' (first | (apply Wl.loadAF (xs := memC f); exact rfl; exact rfl; exact memC_len f; (intro wq hq q v hq'; rw [addLit]; exact hq.old (cell_of hc (by rw [Nat.zero_add]; exact hq')) trivial)) | (apply Wl.storeA; exact rfl; exact rfl; exact memC_len f; exact memC_one f; (repeat (first | apply HSet.here | apply HSet.there)); exact .z (LOver.whole ((memC_len _).trans (memC_len f).symm))) | (apply Wl.move; exact rfl; exact rfl) | (apply Wl.assign; exact rfl; exact rfl) | (apply Wl.nilCheck; exact rfl; exact rfl) | (apply Wl.eqlPN; exact rfl; exact rfl; exact rfl) | (apply Wl.alloc; exact rfl; intro c hc ho) | (apply Wl.nil) | (apply St.seq) | (apply St.region) | (apply St.condF; exact rfl; (first | with_reducible rfl | with_reducible assumption | decide)) | (apply St.ret) | (apply St.skip) | (apply Gt.next) | (apply Gt.out1; exact rfl; exact rfl; intro w' hp))
  exact ⟨_, rfl, by assumption, hp.own.at (.head _), hp.on (Upd.refl _ _) (by simp; omega)⟩
set_option maxHeartbeats 2000000 in
theorem mget (c : Nat) (f : Nat → Int) (w : World) (hc : memH w c f) :
    Calls Tryd.prog 16 #[.pointer (some ⟨c, 0, none⟩), .int .u32 2147483648, .int .u32 65536] w fun e w' => ∃ b o cap, e = .returned (.tuple #[.slice (some ⟨b, o, none⟩) 65536 cap, .int .i64 0]) ∧ w.heap.size ≤ b ∧ b < w'.heap.size ∧ (∀ j : Nat, j < 65536 → w'.cell? ⟨b, o + j, none⟩ = some (.int .u8 (f j))) ∧ Upd (fun k => w.heap.size ≤ k) w w' := by
  unfold memH at hc
  have hd : decide ((2147483648 : Int) ≤ 2147483648 ∧ (2147483648 : Int) + 65536 ≤ 2147483648 + 65536) = true := by decide
  have hd2 : (!decide ((2147483648 : Int) ≤ 2147483648 ∧ (2147483648 : Int) + 65536 ≤ 2147483648 + 65536)) = false := by decide
  refine enter (args := [_, _, _]) (Γ := [(0, _), (1, _), (2, _)]) Tryd.func16 Tryd.ntmps16 rfl (of_decide_eq_true rfl) (.cons rfl (.cons rfl (.cons rfl .nil))) ?_
  repeat' (first | (apply Wl.move; exact rfl; exact rfl) | (apply Wl.assign; exact rfl; exact rfl) | (apply Wl.nil) | (apply St.seq) | (apply St.region) | (apply Gt.next))
  apply Wl.callQ
  exact rfl
  (repeat (first | exact Evs.nil | apply Evs.cons rfl))
  · intro wq hq
    refine (has_any c 2147483648 65536 wq (by decide) (by decide)).mono ?_
    rintro e wr ⟨rfl, hr⟩
    exact ⟨rfl, hq.keep hr⟩
  repeat' (first | (apply Wl.sliceArr2; exact rfl; exact rfl; exact rfl; exact rfl; decide) | (apply Wl.move; exact rfl; exact rfl) | (apply Wl.nilCheck; exact rfl; exact rfl) | (apply Wl.not; exact rfl; exact rfl) | (apply Wl.fieldAddr0; exact rfl; exact rfl) | (apply Wl.add; exact rfl; exact rfl; exact rfl) | (apply Wl.sub'; exact rfl; exact rfl; exact rfl) | (apply Wl.nil) | (apply St.seq) | (apply St.region) | (apply St.condF; exact rfl; (first | with_reducible rfl | with_reducible assumption | decide)) | (apply St.skip) | (apply Gt.next))
  apply Wl.append (base := w.heap.size) (n := 0) (m := 65536) (xs := []) (news := memC f) (v := .slice none 0 0)
  · exact rfl
  · exact rfl
  · exact rfl
  · exact World.ownsRow_nil w _ _ _
  · exact memC_len f
  · intro wq hq j u hj
    rw [addLit]
    exact hq.old (cell_of hc (by rw [Nat.zero_add]; exact hj)) trivial
  · exact fun k hk => by cases hk
  · exact memC_one f
  · exact rfl
  · decide
  · decide
  · decide
  · exact Nat.le_refl _
  intro v1 w1 h1 u1 h3 h4
  have hlt := h1.lt
  obtain ⟨hl', a, cap, rfl, _, _, _, hcc⟩ := Sv.ofOwn h1
  obtain ⟨b, o, rfl, hx⟩ := hcc (fun e => by have := congrArg List.length e; rw [List.nil_append, memC_len] at this; cases this)
  repeat' (first | (apply Wl.assign; exact rfl; exact rfl) | (apply Wl.nil) | (apply St.ret) | (apply Gt.next) | (apply Gt.out2; exact rfl; exact rfl; exact rfl; intro w' hp))
  have hu1 : Upd (fun k => w.heap.size ≤ k) w w1 := u1.mono fun k _ hk => hk.elim (fun e => by cases e) fun y => absurd trivial y
  have hb := hlt b rfl
  have sz := hp.upd.size
  refine ⟨b, o, cap, by rw [Nat.zero_add], hb.1, by omega, fun j hj => ?_, hp.on hu1 (by simp)⟩
  have hlen : ([] ++ memC f).length = 65536 := memC_len f
  have e1 := hx j (by omega)
  have e2 : ([] ++ memC f)[j]? = some (.int .u8 (f j)) := memC_get hj
  rw [List.getElem?_eq_getElem (by omega)] at e2
  exact hp.upd.cell (e1.trans e2) (fun y => y trivial)
theorem rgN {xs : List Value} (h : Rg xs) : ∃ g : Nat → Nat, xs = cellsN .u32 32 g ∧ ∀ j, j < 32 → IntKind.u32.min ≤ (g j : Int) ∧ (g j : Int) ≤ IntKind.u32.max := by
  refine ⟨fun i => match xs[i]? with | some (.int _ z) => z.toNat | _ => 0, ?_, ?_⟩
  · apply List.ext_getElem?
    intro j
    by_cases hj : j < 32
    · obtain ⟨z, hz, h0, h1⟩ := h.2 j hj
      rw [cellsN_get hj, hz]
      simp only [hz]
      congr 2
      omega
    · rw [List.getElem?_eq_none (by rw [h.1]; omega), List.getElem?_eq_none (by rw [cellsN_len]; omega)]
  · intro j hj
    obtain ⟨z, hz, h0, h1⟩ := h.2 j hj
    simp only [hz]
    have e1 : IntKind.u32.min = 0 := rfl
    have e2 : IntKind.u32.max = 4294967295 := rfl
    omega
theorem Rg.one {xs : List Value} (h : Rg xs) : xs.all Value.oneCell' = true := by
  rw [List.all_eq_true]
  intro v hv
  obtain ⟨i, hi, e⟩ := List.mem_iff_getElem.1 hv
  rw [h.1] at hi
  obtain ⟨z, hz, _⟩ := h.2 i hi
  rw [List.getElem?_eq_getElem (by rw [h.1]; exact hi), e] at hz
  cases hz
  rfl
theorem HH.reg {w : World} {h c : Nat} {vM : Value} {xs : List Value} {pc : Int} (k : HH w h c vM xs pc) {q : Nat} {v : Value} (hq : xs[q]? = some v) : w.cell? (Addr.add ⟨h, 0, none⟩ q) = some v := by
  rw [addLit, Nat.zero_add]
  exact cell_of k.2 (by rw [List.getElem?_append_left (List.getElem?_eq_some_iff.1 hq).1]; exact hq)
theorem stepS {w' : World} {h cf cM : Nat} {xs : List Value} {pc : Int} {F : Fs} {f : Nat → Int} {v : Value} (hmd : F.md = 0) (k : StepO w' h cf cM xs pc F f v) :
    ∃ (wd c1 tl1 at_ wi : Int) (tr st : Bool) (xs' : List Value) (pc' : Int) (F' : Fs) (f' : Nat → Int), v = trc wd tr c1 tl1 at_ wi st ∧ SS w' h cf cM xs' pc' F' f' ∧ F'.cf = F.cf ∧
      ((tr = true ∧ F'.md = 3 ∧ xs' = xs ∧ f' = f) ∨ (tr = false ∧ F'.md = 0 ∧ mayB F.cf pc 4 4 = true ∧ MemP F.cf f f' at_ wi st)) := by
  rcases k with ⟨_, rfl, s', _, _, _, hS⟩ | ⟨_, ⟨wd, c1, tl1, at_, wi, tr, st, rfl, _, hO⟩, hm⟩
  · exact ⟨_, _, _, _, _, _, _, _, _, _, _, rfl, hS, rfl, .inl ⟨rfl, rfl, rfl, rfl⟩⟩
  · rcases hO with ⟨rfl, s', _, _, _, hS⟩ | ⟨rfl, _, xs', pc', f', hS, hMP⟩
    · exact ⟨_, _, _, _, _, _, _, _, _, _, _, rfl, hS, rfl, .inl ⟨rfl, rfl, rfl, rfl⟩⟩
    · refine ⟨_, _, _, _, _, _, _, _, _, _, _, rfl, hS, rfl, .inr ⟨rfl, hmd, ?_, hMP⟩⟩
      rcases hm with hm | ⟨_, _, _, _, _, _, e⟩
      · exact hm
      · simp [trc] at e
end Go.Proofs.YtcefkbnachnciaaDoor
end
