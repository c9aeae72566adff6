/-
  A region in any order whose first operations yield one value each, whatever the order, or make one new block each; the rest comes behind all of these, one behind the other. One walk in the order of the text serves.
-/
import Derived.Test.YtfaobdakpbpkbaaChain
namespace Go.Pt
open Go.RowKit

/-- what an operation yields: one value, whatever the order; or a new block -/
inductive Kn
  | v (x : Value)
  | b (t : TypeId) (cs : List Value)
def DepX (l : List Oper) (ks : List Kn) (K : Env → Prop) : List Edge → Env → Prop
  | [], Γ => K Γ
  | e :: es, Γ => if Region.binds .any e then (match ks[e.on]? with
    | some (.v x) => DepX l ks K es ((dstAt l e.on, x) :: Γ)
    | _ => DepX l ks K es Γ) else DepX l ks K es Γ
def PostX (N d : Nat) (x : Value) (D : World → Prop) : Exit → Act → World → Prop := fun e a w => e = .normal ∧ Fr N a [(d, x)] ∧ D w
def PostB (N d : Nat) (t : TypeId) (cs : List Value) (w0 : World) (H : List Blk) : Exit → Act → World → Prop := fun e a w => e = .normal ∧ ∃ c, w0.heap.size ≤ c ∧ Off H c ∧ Fr N a [(d, .pointer (some ⟨c, 0, none⟩))] ∧ Hp w0 (⟨c, cs, t⟩ :: H) w
def NewX (w0 : World) (X : List Blk) : Prop := ∀ y ∈ X, w0.heap.size ≤ y.b
inductive OpsX (P : Program) (l : List Oper) (N : Nat) (Γ : Env) (w0 : World) (H : List Blk) (all : List Kn) : List Oper → List Kn → Prop
  | nil : OpsX P l N Γ w0 H all [] []
  | v {o : Oper} {rest : List Oper} {x : Value} {tl : List Kn} (h : ∀ X, NewX w0 X → DepX l all (fun Γ' => Wl [o] P .seq l.toArray N Γ' (Hp w0 (H ++ X)) (PostX N (dstO o) x (Hp w0 (H ++ X)))) o.after.toList Γ) (hs : OpsX P l N Γ w0 H all rest tl) : OpsX P l N Γ w0 H all (o :: rest) (.v x :: tl)
  | b {d t : Nat} {ty : TypeId} {pos : String} {af : Array Edge} {rest : List Oper} {z : Value} {tl : List Kn} [hz : TyZ P t z] (hd : Nat.blt d N = true) (hs : OpsX P l N Γ w0 H all rest tl) : OpsX P l N Γ w0 H all (⟨some d, .alloc t, ty, pos, af, none⟩ :: rest) (.b t z.cells.toList :: tl)
def keepX (sel : List Nat) (tail : List Oper) (i : Nat) : Bool := (sel.any (Nat.beq i)) || tail.any fun o => o.after.toList.any fun e => Nat.beq e.on i && (match e.ground with | .data => true | _ => false)
def EndX (kp : Nat → Bool) (w0 : World) (H : List Blk) (K : Env → List Blk → Prop) : List Oper → List Kn → Nat → Env → List Blk → Prop
  | [], _, _, Γ, B => K Γ B
  | _ :: _, [], _, Γ, B => K Γ B
  | o :: os, .v x :: ks, i, Γ, B => EndX kp w0 H K os ks (i + 1) (bif kp i then (dstO o, x) :: Γ else Γ) B
  | o :: os, .b t cs :: ks, i, Γ, B => ∀ c, w0.heap.size ≤ c → Off (B ++ H) c → EndX kp w0 H K os ks (i + 1) ((dstO o, .pointer (some ⟨c, 0, none⟩)) :: Γ) (⟨c, cs, t⟩ :: B)
theorem apart_append {H X : List Blk} (h : Apart H) (hx : ∀ x ∈ X, Off H x.b) (hX : Apart X) : Apart (H ++ X) := by
  induction H with
  | nil => exact hX
  | cons y r ih => exact ⟨Off.of fun x hm => by
      rcases List.mem_append.1 hm with hm | hm
      · exact h.1.at hm
      · exact fun e => (hx x hm).1 e.symm, ih h.2 fun x hm => (hx x hm).2⟩
theorem off_append {H X : List Blk} {c : Nat} (h : Off H c) (hX : Off X c) : Off (H ++ X) c := Off.of fun x hm => (List.mem_append.1 hm).elim (fun h1 => h.at h1) fun h1 => hX.at h1
theorem off_left {H X : List Blk} {c : Nat} (h : Off (H ++ X) c) : Off H c := Off.of fun _ hm => h.at (List.mem_append_left _ hm)
theorem off_right {H X : List Blk} {c : Nat} (h : Off (H ++ X) c) : Off X c := Off.of fun _ hm => h.at (List.mem_append_right _ hm)
theorem hp_left {w0 w : World} {H X : List Blk} (h : Hp w0 (H ++ X) w) (hX : NewX w0 X) : Hp w0 H w := by
  refine ⟨h.upd.mono fun k hk hn ho => hn (off_append ho (Off.of fun x hm e => by have := hX x hm; omega)), Own.of fun x hm => h.own.at (List.mem_append_left _ hm), ?_⟩
  have := h.apart
  clear h
  induction H with
  | nil => trivial
  | cons y r ih => exact ⟨off_left this.1, ih this.2⟩

theorem OpsX.out {P : Program} {l : List Oper} {N : Nat} {Γ : Env} {w0 : World} {H : List Blk} {all : List Kn} {l' : List Oper} {tl : List Kn} (h : OpsX P l N Γ w0 H all l' tl) {i : Nat} {o : Oper} (hi : l'[i]? = some o) :
    (∃ x, tl[i]? = some (.v x) ∧ ∀ X, NewX w0 X → DepX l all (fun Γ' => Wl [o] P .seq l.toArray N Γ' (Hp w0 (H ++ X)) (PostX N (dstO o) x (Hp w0 (H ++ X)))) o.after.toList Γ) ∨
    (∃ t cs, tl[i]? = some (.b t cs) ∧ ∀ X, Wl [o] P .seq l.toArray N Γ (Hp w0 (H ++ X)) (PostB N (dstO o) t cs w0 (H ++ X))) := by
  induction h generalizing i with
  | nil => simp at hi
  | @v o' rest x tl h hs ih =>
    cases i with
    | zero => simp only [List.getElem?_cons_zero, Option.some.injEq] at hi; subst hi; exact .inl ⟨x, rfl, h⟩
    | succ i => simpa using ih (i := i) (by simpa using hi)
  | @b d t ty pos af rest z tl hz hd hs ih =>
    cases i with
    | zero =>
      simp only [List.getElem?_cons_zero, Option.some.injEq] at hi
      subst hi
      refine .inr ⟨t, z.cells.toList, rfl, fun X => ?_⟩
      apply Wl.alloc hd
      intro c hc ho
      apply Wl.nil
      exact Gt.intro fun a w ha hw => ⟨rfl, c, hc, ho, ha.sub (.cons (by simp [look, dstO]) .nil), hw⟩
    | succ i => simpa using ih (i := i) (by simpa using hi)
theorem OpsX.len {P : Program} {l : List Oper} {N : Nat} {Γ : Env} {w0 : World} {H : List Blk} {all : List Kn} {l' : List Oper} {tl : List Kn} (h : OpsX P l N Γ w0 H all l' tl) : tl.length = l'.length := by
  induction h with
  | nil => rfl
  | v _ _ ih => simp [ih]
  | b _ _ ih => simp [ih]
theorem DepX.run {l : List Oper} {ks : List Kn} {K : Env → Prop} {N : Nat} {a : Act} {es : List Edge} {Γ : Env} (h : DepX l ks K es Γ) (ha : Fr N a Γ)
    (hes : ∀ e ∈ es, Region.binds .any e = true → ∀ x, ks[e.on]? = some (.v x) → a.tmps[dstAt l e.on]? = some x) : ∃ Γ', Fr N a Γ' ∧ K Γ' := by
  induction es generalizing Γ with
  | nil => exact ⟨Γ, ha, h⟩
  | cons e es ih =>
    unfold DepX at h
    split at h
    · rename_i hb
      split at h
      · rename_i x hx
        exact ih h (ha.cons (hes e (by simp) hb x hx)) fun e he => hes e (by simp [he])
      · exact ih h ha fun e he => hes e (by simp [he])
    · exact ih h ha fun e he => hes e (by simp [he])

structure InvX (l : List Oper) (m N : Nat) (Γ : Env) (w0 : World) (H : List Blk) (ks : List Kn) (f : Nat → Nat) (listed : Array Bool) (a : Act) (w : World) : Prop where
  fr : Fr N a Γ
  hp : Hp w0 H w
  val : ∀ i o x, i < m → l[i]? = some o → ks[i]? = some (.v x) → listed.getD i true = true → a.tmps[dstO o]? = some x
  ptr : ∀ i o t cs, i < m → l[i]? = some o → ks[i]? = some (.b t cs) → listed.getD i true = true → a.tmps[dstO o]? = some (.pointer (some ⟨f i, 0, none⟩)) ∧ w0.heap.size ≤ f i ∧ Off H (f i) ∧ w.heap[f i]? = some (.cells cs.toArray t (0, 0))
  inj : ∀ i j t cs t' cs', i < j → j < m → ks[i]? = some (.b t cs) → ks[j]? = some (.b t' cs') → listed.getD i true = true → listed.getD j true = true → f i ≠ f j
def blkX (f : Nat → Nat) (listed : Array Bool) (ks : List Kn) (i : Nat) : Option Blk := match ks[i]? with
  | some (.b t cs) => if listed.getD i true then some ⟨f i, cs, t⟩ else none
  | _ => none
theorem blkX_some {f : Nat → Nat} {listed : Array Bool} {ks : List Kn} {i : Nat} {x : Blk} (h : blkX f listed ks i = some x) : ∃ t cs, ks[i]? = some (.b t cs) ∧ listed.getD i true = true ∧ x = ⟨f i, cs, t⟩ := by
  unfold blkX at h
  split at h
  · rename_i t cs hk
    split at h
    · rename_i hl; cases h; exact ⟨t, cs, hk, hl, rfl⟩
    · cases h
  · cases h
theorem apart_map {g : Nat → Option Blk} (n : Nat) (h : ∀ i j x y, i < j → j < n → g i = some x → g j = some y → x.b ≠ y.b) : Apart ((List.range n).reverse.filterMap g) := by
  induction n with
  | zero => trivial
  | succ n ih =>
    rw [List.range_succ, List.reverse_append, List.reverse_singleton, List.singleton_append, List.filterMap_cons]
    have ih := ih fun i j x y hij hj => h i j x y hij (by omega)
    cases hg : g n with
    | none => exact ih
    | some x =>
      refine ⟨Off.of fun y hy => ?_, ih⟩
      obtain ⟨i, hi, hgi⟩ := List.mem_filterMap.1 hy
      exact h i n y x (by simpa using hi) (by omega) hgi hg
def blksX (f : Nat → Nat) (listed : Array Bool) (ks : List Kn) (m : Nat) : List Blk := (List.range m).reverse.filterMap (blkX f listed ks)
theorem InvX.full {l : List Oper} {m N : Nat} {Γ : Env} {w0 : World} {H : List Blk} {ks : List Kn} {f : Nat → Nat} {listed : Array Bool} {a : Act} {w : World} (hml : m ≤ l.length) (h : InvX l m N Γ w0 H ks f listed a w) :
    NewX w0 (blksX f listed ks m) ∧ Hp w0 (H ++ blksX f listed ks m) w := by
  have key : ∀ x ∈ blksX f listed ks m, w0.heap.size ≤ x.b ∧ Off H x.b ∧ w.heap[x.b]? = some (.cells x.cs.toArray x.t (0, 0)) := fun x hx => by
    obtain ⟨i, hi, hgi⟩ := List.mem_filterMap.1 hx
    obtain ⟨t, cs, hk, hl, rfl⟩ := blkX_some hgi
    have him : i < m := by simpa using hi
    obtain ⟨_, h2, h3, h4⟩ := h.ptr i _ t cs him (List.getElem?_eq_getElem (by omega)) hk hl
    exact ⟨h2, h3, h4⟩
  refine ⟨fun x hx => (key x hx).1, ⟨h.hp.upd.mono fun k hk hn ho => hn (off_left ho), Own.of fun x hx => ?_, apart_append h.hp.apart (fun x hx => (key x hx).2.1) (apart_map m fun i j x y hij hj hx hy => ?_)⟩⟩
  · rcases List.mem_append.1 hx with hx | hx
    · exact h.hp.own.at hx
    · exact (key x hx).2.2
  · obtain ⟨t, cs, hk, hl, rfl⟩ := blkX_some hx
    obtain ⟨t', cs', hk', hl', rfl⟩ := blkX_some hy
    exact h.inj i j t cs t' cs' hij hj hk hk' hl hl'
theorem mem_blksX {f : Nat → Nat} {listed : Array Bool} {ks : List Kn} {m i : Nat} {t : TypeId} {cs : List Value} (hi : i < m) (hk : ks[i]? = some (.b t cs)) (hl : listed.getD i true = true) : (⟨f i, cs, t⟩ : Blk) ∈ blksX f listed ks m :=
  List.mem_filterMap.2 ⟨i, by simpa using hi, by unfold blkX; rw [hk]; simp only; rw [if_pos hl]⟩
theorem InvX.step {P : Program} {l : List Oper} {m N : Nat} {Γ : Env} {w0 : World} {H : List Blk} {ks : List Kn} {f : Nat → Nat} {Q : Exit → Act → World → Prop} {listed : Array Bool} {a : Act} {w : World} (hml : m ≤ l.length) (hc : bagB l N Γ 0 (l.take m) = true)
    (hops : OpsX P l N Γ w0 H ks (l.take m) ks) (hi : InvX l m N Γ w0 H ks f listed a w) {i : Nat} (him : i < m) (hr : i ∈ Region.ready .any l.toArray listed) {K : Act → World → Prop}
    (hK : ∀ f' a' w', InvX l m N Γ w0 H ks f' (listed.setIfInBounds i true) a' w' → K a' w') : wpOp P l.toArray Q i K a w := by
  have hlt := ready_lt hr
  have hol : l[i]? = some l[i] := List.getElem?_eq_getElem hlt
  have hedges := ((ready_iff hol).1 hr).2
  have hunl := ((ready_iff hol).1 hr).1
  have ho : (l.take m)[i]? = some l[i] := by rw [List.getElem?_take_of_lt him]; exact hol
  generalize l[i] = o at ho hol hedges
  have hoa : l.toArray[i]? = some o := by simpa using hol
  obtain ⟨hd, hdN, hΓ, hed, hlater⟩ := bagB_out hc ho
  have hdst : ∀ j oj, j < m → l[j]? = some oj → i ≠ j → dstO oj ≠ dstO o := fun j oj hj hjo e => by
    have hjo' : (l.take m)[j]? = some oj := by rw [List.getElem?_take_of_lt hj]; exact hjo
    rcases Nat.lt_or_gt_of_ne e with e | e
    · exact hlater j oj e hjo'
    · exact fun e' => (bagB_out hc hjo').2.2.2.2 i o e ho e'.symm
  obtain ⟨hnew, hfull⟩ := hi.full hml
  have hdep : ∀ e ∈ o.after.toList, Region.binds .any e = true → ∀ x, ks[e.on]? = some (.v x) → a.tmps[dstAt l e.on]? = some x := fun e he hb x hx => by
    have h1 := hedges e (by simpa using he) hb
    have h2 := hed e he
    have h3 : l[e.on]? = some l[e.on] := List.getElem?_eq_getElem (by omega)
    have := hi.val e.on _ x (by omega) h3 hx (by
      simp only [Array.getD_eq_getD_getElem?] at h1 ⊢
      cases hx : listed[e.on]? with
      | none => rfl
      | some b => rw [hx] at h1; exact h1)
    unfold dstAt
    rw [h3]
    exact this
  have fin : ∀ (Post : Exit → Act → World → Prop), wpList P l.toArray Post [o] a w → (∀ e a' w', Post e a' w' → e = .normal) → (∀ a' w', Post .normal a' w' → (∃ v, a'.tmps = (a.put o.dst v).tmps) → K a' w') → wpOp P l.toArray Q i K a w := fun Post hwl hn key => by
    unfold wpOp
    simp only [hoa]
    simp only [wpList] at hwl
    split
    · rename_i hw
      rw [if_pos hw] at hwl
      rcases hwl with h | ⟨_, x, y, h⟩
      · have h1 := wp_only (fun _ _ _ h => hn _ _ _ h) (wp_tmps h)
        refine .inl ?_
        have h2 := Oper.wp_mono (fun a' w' hh => key a' w' hh.1 hh.2) h1
        unfold Oper.wp at *
        generalize (execOp a.eval o).run P w = r at *
        cases r with
        | ok n w' =>
          cases n <;> simp only [Oper.upon] at h2 ⊢
          case value u => exact h2
          case skip => exact h2
          case defer d => exact h2
          case enter f args => exact Calls.mono h2 (fun e w'' he => by cases e <;> first | exact he | exact he.elim | (obtain ⟨_, _, hf⟩ := he; exact hf.elim))
          case row row args => exact h2
        | halt x w' => cases x <;> simp only [Oper.upon] at h2
      · cases hn _ _ _ h
    · rename_i hw
      rw [if_neg hw] at hwl
      exact key _ _ hwl ⟨undef, rfl⟩
  have keepT : ∀ {a' : Act} {u : Value}, a'.tmps = (a.put o.dst u).tmps → ∀ t, t ≠ dstO o → a'.tmps[t]? = a.tmps[t]? := fun {a' u} hu t ht => by
    rw [hd] at hu
    rw [hu]
    simp [Act.put, Array.getElem?_setIfInBounds_ne (Ne.symm ht)]
  rcases hops.out ho with ⟨x, hx, hW⟩ | ⟨t, cs, hx, hW⟩
  · obtain ⟨Γ', hf', hW⟩ := (hW _ hnew).run hi.fr hdep
    refine fin _ (hW.elim a w hf' hfull) (fun _ _ _ h => h.1) ?_
    rintro a' w' ⟨_, hfr, hp'⟩ ⟨u, hu⟩
    have hne := keepT hu
    refine hK f a' w' ⟨⟨hfr.defers, hfr.size, fun t v ht => by rw [hne t (hΓ t v ht)]; exact hi.fr.get t v ht⟩, hp_left hp' hnew, fun j oj y hj hjo hy hl => ?_, fun j oj t cs hj hjo hy hl => ?_, fun j k t cs t' cs' hjk hk hkj hkk hl hl' => ?_⟩
    · by_cases e : i = j
      · subst e
        rw [hol] at hjo
        cases hjo
        rw [hx] at hy
        cases hy
        exact hfr.get _ _ (by simp [look])
      · rw [getD_set e] at hl
        rw [hne _ (hdst j oj hj hjo e)]
        exact hi.val j oj y hj hjo hy hl
    · have e : i ≠ j := fun e => by subst e; rw [hx] at hy; cases hy
      rw [getD_set e] at hl
      obtain ⟨h1, h2, h3, _⟩ := hi.ptr j oj t cs hj hjo hy hl
      exact ⟨by rw [hne _ (hdst j oj hj hjo e)]; exact h1, h2, h3, hp'.own.at (List.mem_append_right _ (mem_blksX hj hy hl))⟩
    · have e : i ≠ j := fun e => by subst e; rw [hx] at hkj; cases hkj
      have e' : i ≠ k := fun e => by subst e; rw [hx] at hkk; cases hkk
      rw [getD_set e] at hl
      rw [getD_set e'] at hl'
      exact hi.inj j k t cs t' cs' hjk hk hkj hkk hl hl'
  · refine fin _ ((hW _).elim a w hi.fr hfull) (fun _ _ _ h => h.1) ?_
    rintro a' w' ⟨_, c, hc0, hco, hfr, hp'⟩ ⟨u, hu⟩
    have hne := keepT hu
    have hnew' : NewX w0 (⟨c, cs, t⟩ :: blksX f listed ks m) := fun y hy => by
      rcases List.mem_cons.1 hy with rfl | hy
      · exact hc0
      · exact hnew y hy
    have hH : Hp w0 H w' := by
      have h1 : Hp w0 (H ++ (⟨c, cs, t⟩ :: blksX f listed ks m)) w' := by
        refine ⟨hp'.upd.mono fun k hk hn ho => hn ?_, Own.of fun x hx => hp'.own.at ?_, apart_append hi.hp.apart (fun x hx => ?_) ⟨off_right hco, ?_⟩⟩
        · have h1 := off_left ho
          have h2 := off_right ho
          exact ⟨h2.1, off_append h1 h2.2⟩
        · rcases List.mem_append.1 hx with hx | hx
          · exact .tail _ (List.mem_append_left _ hx)
          · rcases List.mem_cons.1 hx with rfl | hx
            · exact .head _
            · exact .tail _ (List.mem_append_right _ hx)
        · rcases List.mem_cons.1 hx with rfl | hx
          · exact off_left hco
          · have := hfull.apart
            have key : ∀ (H X : List Blk), Apart (H ++ X) → ∀ x ∈ X, Off H x.b := by
              intro H
              induction H with
              | nil => intros; trivial
              | cons y r ih => exact fun X h x hx => ⟨h.1.at (List.mem_append_right _ hx) |>.symm, ih X h.2 x hx⟩
            exact key H _ this x hx
        · have := hfull.apart
          have key : ∀ (H X : List Blk), Apart (H ++ X) → Apart X := by
            intro H
            induction H with
            | nil => exact fun _ h => h
            | cons y r ih => exact fun X h => ih X h.2
          exact key H _ this
      exact hp_left h1 hnew'
    have hfi : ∀ j, i ≠ j → (if j = i then c else f j) = f j := fun j e => if_neg (fun e' => e e'.symm)
    have hoff : ∀ j t' cs', j < m → ks[j]? = some (.b t' cs') → listed.getD j true = true → f j ≠ c := fun j t' cs' hj hk hl => (off_right hco).at (mem_blksX hj hk hl)
    refine hK (fun k => if k = i then c else f k) a' w' ⟨⟨hfr.defers, hfr.size, fun t v ht => by rw [hne t (hΓ t v ht)]; exact hi.fr.get t v ht⟩, hH, fun j oj y hj hjo hy hl => ?_, fun j oj t' cs' hj hjo hy hl => ?_, fun j k t1 cs1 t2 cs2 hjk hk hkj hkk hl hl' => ?_⟩
    · have e : i ≠ j := fun e => by subst e; rw [hx] at hy; cases hy
      rw [getD_set e] at hl
      rw [hne _ (hdst j oj hj hjo e)]
      exact hi.val j oj y hj hjo hy hl
    · by_cases e : i = j
      · subst e
        rw [hol] at hjo
        cases hjo
        rw [hx] at hy
        cases hy
        simp only [if_true]
        exact ⟨hfr.get _ _ (by simp [look]), hc0, off_left hco, hp'.own.1⟩
      · rw [getD_set e] at hl
        obtain ⟨h1, h2, h3, _⟩ := hi.ptr j oj t' cs' hj hjo hy hl
        rw [hfi j e]
        exact ⟨by rw [hne _ (hdst j oj hj hjo e)]; exact h1, h2, h3, hp'.own.at (.tail _ (List.mem_append_right _ (mem_blksX hj hy hl)))⟩
    · by_cases e : i = j
      · subst e
        have e' : i ≠ k := by omega
        rw [getD_set e'] at hl'
        rw [hfi k e']
        simp only [if_true]
        exact fun h => hoff k _ _ hk hkk hl' h.symm
      · by_cases e' : i = k
        · subst e'
          rw [getD_set e] at hl
          rw [hfi j e]
          simp only [if_true]
          exact hoff j _ _ (by omega) hkj hl
        · rw [getD_set e] at hl
          rw [getD_set e'] at hl'
          rw [hfi j e, hfi k e']
          exact hi.inj j k _ _ _ _ hjk hk hkj hkk hl hl'
/-- all of the first m are awaited by what comes behind them -/
def chainX (l : List Oper) (m : Nat) : Bool := (Nat.beq m l.length && l.all (fun o => o.dst.isSome) && (List.range l.length).all (fun i => match l[i]? with | some o => o.after.toList.all (fun e => Nat.blt e.on i) | none => true)) || chainB l m
theorem countF (n : Nat) : ∀ (x : Array Bool) (k : Nat), k ≤ x.size → (∀ j, j < k → x.getD j true = true) → (∀ j, k ≤ j → j < x.size → x.getD j true = false) → x.toList.count false = x.size - k := by
  intro x k hk h1 h2
  obtain ⟨l⟩ := x
  simp only [List.size_toArray] at hk h2 ⊢
  have e : l = List.replicate k true ++ List.replicate (l.length - k) false := by
    apply List.ext_getElem
    · simp; omega
    · intro i hi1 hi2
      rw [List.getElem_append]
      split
      · rename_i h
        have := h1 i (by simpa using h)
        simpa [Array.getD_eq_getD_getElem?, hi1] using this
      · rename_i h
        have := h2 i (by simpa using h) hi1
        simpa [Array.getD_eq_getD_getElem?, hi1] using this
  rw [e]
  simp [List.count_append, List.count_replicate]
theorem bagX_run {P : Program} {l : List Oper} {m N : Nat} {Γ : Env} {w0 : World} {H : List Blk} {ks : List Kn} {Q : Exit → Act → World → Prop} (hch : chainX l m = true) (hc : bagB l N Γ 0 (l.take m) = true)
    (hops : OpsX P l N Γ w0 H ks (l.take m) ks) (hend : ∀ f listed a w, (∀ j, j < m → listed.getD j true = true) → InvX l m N Γ w0 H ks f listed a w → wpList P l.toArray Q (l.drop m) a w) :
    ∀ n (listed : Array Bool) f a w, listed.size = l.length → listed.toList.count false = n → InvX l m N Γ w0 H ks f listed a w →
      (∀ j o, l[j]? = some o → listed.getD j true = true → ∀ e ∈ o.after.toList, Region.binds .any e = true → listed.getD e.on false = true) → (∀ j, m ≤ j → j < l.length → listed.getD j true = false) → wpAny P .any l.toArray Q n listed a w := by
  have hback : m ≤ l.length ∧ (∀ (i : Nat) (o : Oper), l[i]? = some o → ∀ e ∈ o.after.toList, e.on < i) ∧ (m < l.length → Chain l m) := by
    unfold chainX at hch
    rw [Bool.or_eq_true] at hch
    rcases hch with h | h
    · rw [Bool.and_eq_true] at h
      rw [Bool.and_eq_true] at h
      have := Nat.eq_of_beq_eq_true h.1.1
      refine ⟨by omega, fun i o ho e he => ?_, fun hl => by omega⟩
      have hil := (List.getElem?_eq_some_iff.1 ho).1
      have := List.all_eq_true.1 h.2 i (List.mem_range.2 hil)
      rw [ho] at this
      exact Nat.le_of_ble_eq_true (List.all_eq_true.1 this e he)
    · have := chainB_out h
      exact ⟨Nat.le_of_lt this.lt, this.back, fun _ => this⟩
  obtain ⟨hml, hbk, hch⟩ := hback
  intro n
  induction n with
  | zero =>
    intro listed f a w hsz hn hi hdown hun
    have hcn : ∀ j, j < l.length → listed.getD j true = true := fun j hj => by
      have h2 : false ∉ listed.toList := List.count_eq_zero.1 hn
      cases e : listed.getD j true with
      | true => rfl
      | false =>
        rw [Array.getD_eq_getD_getElem?, Array.getElem?_eq_getElem (by omega)] at e
        have h3 : listed[j]'(by omega) ∈ listed.toList := by simp
        have e' : listed[j]'(by omega) = false := e
        rw [e'] at h3
        exact (h2 h3).elim
    have hmeq : m = l.length := by
      rcases Nat.lt_or_ge m l.length with h | h
      · have h1 := hun m (Nat.le_refl _) h
        rw [hcn m h] at h1
        cases h1
      · omega
    have hall : ∀ j, j < m → listed.getD j true = true := fun j hj => hcn j (by omega)
    have hr : Region.ready .any l.toArray listed = [] := by
      rw [List.eq_nil_iff_forall_not_mem]
      intro i hi'
      have hil := ready_lt hi'
      have := ((ready_iff (List.getElem?_eq_getElem hil)).1 hi').1
      rw [hcn i hil] at this
      cases this
    refine ⟨hr, ?_⟩
    have := hend f listed a w hall hi
    rw [hmeq, List.drop_length] at this
    exact this
  | succ n ih =>
    intro listed f a w hsz hn hi hdown hun
    have hcount : ∀ i, i < l.length → listed.getD i true = false → (listed.setIfInBounds i true).toList.count false = n := fun i hil h => by
      have hm' : i < listed.size := by omega
      have h3 : listed[i] = false := by
        rw [Array.getD_eq_getD_getElem?, Array.getElem?_eq_getElem hm'] at h
        exact h
      rw [Array.toList_setIfInBounds, List.count_set (by simpa using hm')]
      simp [h3, hn]
    by_cases hall : ∀ j, j < m → listed.getD j true = true
    · have hlt : m < l.length := by
        have := countF 0 listed m (by omega) hall (fun j h1 h2 => hun j h1 (by omega))
        omega
      have hch := hch hlt
      refine tail_run hch (l.drop m) m rfl (Nat.le_refl _) (n + 1) listed a w hsz (fun j hj _ => hall j hj) hun ?_ (hend f listed a w hall hi)
      have h := countF 0 listed m (by omega) hall (fun j h1 h2 => hun j h1 (by omega))
      rw [hn, hsz] at h
      exact h
    · have hex : ∃ j, j < m ∧ listed.getD j true = false ∧ ∀ i, i < j → listed.getD i true = true := by
        have key : ∀ k, k ≤ m → (∀ j, j < k → listed.getD j true = true) ∨ ∃ j, j < m ∧ listed.getD j true = false ∧ ∀ i, i < j → listed.getD i true = true := by
          intro k
          induction k with
          | zero => exact fun _ => .inl fun j hj => by omega
          | succ k ihk =>
            intro hk
            rcases ihk (by omega) with h | h
            · cases hl : listed.getD k true
              · exact .inr ⟨k, by omega, hl, h⟩
              · refine .inl fun j hj => ?_
                rcases Nat.lt_succ_iff_lt_or_eq.1 hj with hj | hj
                · exact h j hj
                · subst hj; exact hl
            · exact .inr h
        exact (key m (Nat.le_refl _)).elim (fun h => (hall h).elim) id
      refine ⟨fun hr => ?_, fun i hr => ?_⟩
      · obtain ⟨j, hjm, hj, hbefore⟩ := hex
        have ho : l[j]? = some l[j] := List.getElem?_eq_getElem (by omega)
        have : j ∈ Region.ready .any l.toArray listed := (ready_iff ho).2 ⟨hj, fun e he _ => by
          have := hbk j _ ho e he
          rw [← getD_tf (by omega)]
          exact hbefore e.on this⟩
        rw [hr] at this
        cases this
      · have hil := ready_lt hr
        have hio := (ready_iff (List.getElem?_eq_getElem hil)).1 hr
        have him : i < m := by
          rcases Nat.lt_or_ge i m with h | h
          · exact h
          · exfalso
            have hch := hch (by omega)
            rcases Nat.lt_or_eq_of_le h with h | h
            · obtain ⟨e, he, he1, he2⟩ := hch.next i _ h (List.getElem?_eq_getElem hil)
              have := hio.2 e he he2
              rw [← getD_tf (by omega), he1, hun (i - 1) (by omega) (by omega)] at this
              cases this
            · subst h
              refine hall ?_
              have key : ∀ d j, j < m → m - j ≤ d → listed.getD j true = true := by
                intro d
                induction d with
                | zero => intro j h1 h2; omega
                | succ d ihd =>
                  intro j hj hd
                  obtain ⟨x, o, h1, h2, ho, e, he, he1, he2⟩ := hch.pre j hj
                  rcases Nat.lt_or_eq_of_le h2 with h2 | h2
                  · have := hdown x o ho (ihd x h2 (by omega)) e he he2
                    rw [← getD_tf (by omega), he1] at this
                    exact this
                  · subst h2
                    have hox := List.getElem?_eq_getElem hil
                    rw [ho] at hox
                    cases hox
                    have := hio.2 e he he2
                    rw [← getD_tf (by omega), he1] at this
                    exact this
              exact fun j hj => key m j hj (by omega)
        refine hi.step hml hc hops him hr fun f' a' w' hi' => ih _ f' a' w' (by simp [hsz]) (hcount i hil hio.1) hi' (fun j o ho hl e he hb => ?_) (fun j hj hjl => ?_)
        · have hjl := (List.getElem?_eq_some_iff.1 ho).1
          have hej := hbk j o ho e he
          have hlist : listed.getD e.on false = true := by
            by_cases e' : i = j
            · subst e'
              have hox := List.getElem?_eq_getElem hil
              rw [ho] at hox
              cases hox
              exact hio.2 e he hb
            · rw [getD_set e'] at hl
              exact hdown j o ho hl e he hb
          rw [← getD_tf (by simp; omega)]
          by_cases e' : i = e.on
          · rw [e']; simp [Array.getD_eq_getD_getElem?, hsz]; try omega
          · rw [getD_set e', getD_tf (by omega)]; exact hlist
        · rw [getD_set (by omega)]; exact hun j hj hjl
theorem EndX.run {kp : Nat → Bool} {w0 : World} {H : List Blk} {K : Env → List Blk → Prop} {l : List Oper} {m N : Nat} {Γ0 : Env} {ks : List Kn} {f : Nat → Nat} {listed : Array Bool} {a : Act} {w : World} (hml : m ≤ l.length) (hi : InvX l m N Γ0 w0 H ks f listed a w) (hall : ∀ j, j < m → listed.getD j true = true) :
    ∀ (l' : List Oper) (ks' : List Kn) (i : Nat) (Γ : Env) (B : List Blk), l' = (l.take m).drop i → ks' = ks.drop i → i ≤ m → ks.length = m → Fr N a Γ → B = blksX f listed ks i → EndX kp w0 H K l' ks' i Γ B →
      ∃ Γ', Fr N a Γ' ∧ K Γ' (blksX f listed ks m) := by
  intro l'
  induction l' with
  | nil =>
    intro ks' i Γ B hl hk him hkl hf hB h
    have h1 : (l.take m).length ≤ i := by simpa using hl.symm
    rw [List.length_take] at h1
    have : i = m := by omega
    subst this
    subst hB
    cases ks' <;> exact ⟨Γ, hf, h⟩
  | cons o os ih =>
    intro ks' i Γ B hl hk him hkl hf hB h
    have hlt : i < m := by
      rcases Nat.lt_or_ge i m with h' | h'
      · exact h'
      · rw [List.drop_eq_nil_of_le (by rw [List.length_take]; omega)] at hl; cases hl
    have hol : l[i]? = some o := by
      have := List.getElem?_drop (xs := l.take m) (i := i) (j := 0)
      rw [← hl, List.getElem?_take_of_lt (by omega)] at this
      simpa using this.symm
    have hos : os = (l.take m).drop (i + 1) := by rw [← List.drop_drop, ← hl]; rfl
    have hki : ks[i]? = some (ks[i]'(by omega)) := List.getElem?_eq_getElem (by omega)
    rw [List.drop_eq_getElem_cons (by omega)] at hk
    have bstep : blksX f listed ks (i + 1) = (match blkX f listed ks i with | some x => x :: blksX f listed ks i | none => blksX f listed ks i) := by
      unfold blksX
      rw [List.range_succ, List.reverse_append, List.reverse_singleton, List.singleton_append, List.filterMap_cons]
      cases blkX f listed ks i <;> rfl
    generalize ks[i]'(by omega) = k at hk hki
    subst hk
    cases k with
    | v x =>
      have hv := hi.val i o x hlt hol hki (hall i hlt)
      refine ih (ks.drop (i + 1)) (i + 1) _ B hos rfl (by omega) hkl ?_ ?_ h
      · cases kp i
        · exact hf
        · exact hf.cons hv
      · rw [bstep, hB]
        unfold blkX
        rw [hki]
    | b t cs =>
      obtain ⟨h1, h2, h3, h4⟩ := hi.ptr i o t cs hlt hol hki (hall i hlt)
      have hoff : Off B (f i) := by
        rw [hB]
        refine Off.of fun x hx => ?_
        obtain ⟨j, hj, hg⟩ := List.mem_filterMap.1 hx
        obtain ⟨t', cs', hk', hl', rfl⟩ := blkX_some hg
        exact hi.inj j i _ _ _ _ (by simpa using hj) hlt hk' hki hl' (hall i hlt)
      refine ih (ks.drop (i + 1)) (i + 1) _ (⟨f i, cs, t⟩ :: B) hos rfl (by omega) hkl (hf.cons h1) ?_ (h (f i) h2 (off_append hoff h3))
      rw [bstep, hB]
      unfold blkX
      rw [hki]
      simp only [hall i hlt, if_true]
theorem hp_swap {w0 w : World} {H X : List Blk} (h : Hp w0 (H ++ X) w) : Hp w0 (X ++ H) w := by
  refine ⟨h.upd.mono fun k hk hn ho => hn (off_append (off_right ho) (off_left ho)), Own.of fun x hx => h.own.at (List.mem_append.2 (List.mem_append.1 hx).symm), ?_⟩
  have key : ∀ (H X : List Blk), Apart (H ++ X) → Apart X ∧ Apart H ∧ ∀ x ∈ H, Off X x.b := by
    intro H
    induction H with
    | nil => exact fun X h => ⟨h, trivial, fun _ h => nomatch h⟩
    | cons y r ih =>
        intro X h
        obtain ⟨h1, h2, h3⟩ := ih X h.2
        refine ⟨h1, ⟨off_left h.1, h2⟩, fun x hx => ?_⟩
        rcases List.mem_cons.1 hx with rfl | hx
        · exact off_right h.1
        · exact h3 x hx
  obtain ⟨h1, h2, h3⟩ := key H X h.apart
  exact apart_append h1 h3 h2
section
variable {P : Program} {N : Nat} {Γ : Env} {C : World → Prop} {Q : Exit → Act → World → Prop}
theorem St.bagX {i : Nat} {l : List Oper} {w0 : World} {H : List Blk} {ks : List Kn} (m : Nat) (sel : List Nat) (hm : P.follows .mixedOrders = true) (hch : chainX l m = true) (hc : bagB l N Γ 0 (l.take m) = true)
    (hops : OpsX P l N Γ w0 H ks (l.take m) ks)
    (hend : EndX (keepX sel (l.drop m)) w0 H (fun Γ' B => Wl (l.drop m) P .seq l.toArray N Γ' (Hp w0 (B ++ H)) Q) (l.take m) ks 0 Γ []) : St (.region i l.toArray true) P N Γ (Hp w0 H) Q := St.intro fun a w ha hw => by
  have hml : m ≤ l.length := by
    have := hops.len
    unfold chainX at hch
    rw [Bool.or_eq_true] at hch
    rcases hch with h | h
    · rw [Bool.and_eq_true, Bool.and_eq_true] at h
      have := Nat.eq_of_beq_eq_true h.1.1
      omega
    · exact Nat.le_of_lt (chainB_out h).lt
  refine wp_region_any hm ?_
  have := bagX_run (Q := Q) hch hc hops (fun f listed a w hall hi => by
    obtain ⟨Γ', hf, hK⟩ := EndX.run hml hi hall _ _ 0 Γ [] rfl rfl (Nat.zero_le _) (by rw [hops.len, List.length_take]; omega) hi.fr (by simp [blksX]) hend
    exact hK.elim a w hf (hp_swap (hi.full hml).2)) l.length (Array.replicate l.length false) (fun _ => 0) a w.drew (by simp) (by simp [List.count_replicate])
    ⟨ha, hw.drew, fun i o x hi ho _ hl => by
      have h1 := (List.getElem?_eq_some_iff.1 ho).1
      simp [Array.getD_eq_getD_getElem?, h1] at hl, fun i o t cs hi ho _ hl => by
      have h1 := (List.getElem?_eq_some_iff.1 ho).1
      simp [Array.getD_eq_getD_getElem?, h1] at hl, fun i j t cs t' cs' _ hj _ _ _ hl => by
      have h1 : j < l.length := by omega
      simp [Array.getD_eq_getD_getElem?, h1] at hl⟩ (fun j o ho hl => by
      have h1 := (List.getElem?_eq_some_iff.1 ho).1
      simp [Array.getD_eq_getD_getElem?, h1] at hl) (fun j _ hjl => by simp [Array.getD_eq_getD_getElem?, hjl])
  simpa using this
/-- the slots that the region writes are forgotten -/
inductive CleanX (l : List Oper) : Env → Env → Prop
  | nil : CleanX l [] []
  | skip {t : Nat} {v : Value} {r r' : Env} (h : (l.any fun o => match o.dst with | some d => Nat.beq d t | none => false) = true) (hs : CleanX l r r') : CleanX l ((t, v) :: r) r'
  | keep {t : Nat} {v : Value} {r r' : Env} (h : (l.any fun o => match o.dst with | some d => Nat.beq d t | none => false) = false) (hs : CleanX l r r') : CleanX l ((t, v) :: r) ((t, v) :: r')
theorem CleanX.look {l : List Oper} {Γ' : Env} (h : CleanX l Γ Γ') {t : Nat} {v : Value} (hl : look Γ' t = some v) : (l.any fun o => match o.dst with | some d => Nat.beq d t | none => false) = false ∧ look Γ t = some v := by
  induction h with
  | nil => cases hl
  | @skip d u r r' h hs ih =>
    obtain ⟨h1, h2⟩ := ih hl
    refine ⟨h1, ?_⟩
    simp only [Pt.look]
    have : t ≠ d := fun e => by subst e; rw [h] at h1; cases h1
    rw [beqFalse this]
    exact h2
  | @keep d u r r' h hs ih =>
    simp only [Pt.look] at hl ⊢
    by_cases e : t = d
    · subst e
      simp at hl
      subst hl
      exact ⟨h, by simp⟩
    · rw [beqFalse e] at hl ⊢
      exact ih hl
theorem St.bagXc {Γ' : Env} {i : Nat} {l : List Oper} {w0 : World} {H : List Blk} {ks : List Kn} (m : Nat) (sel : List Nat) (hm : P.follows .mixedOrders = true) (hch : chainX l m = true) (hcl : CleanX l Γ Γ') (hc : bagB l N Γ' 0 (l.take m) = true)
    (hops : OpsX P l N Γ' w0 H ks (l.take m) ks)
    (hend : EndX (keepX sel (l.drop m)) w0 H (fun Γ' B => Wl (l.drop m) P .seq l.toArray N Γ' (Hp w0 (B ++ H)) Q) (l.take m) ks 0 Γ' []) : St (.region i l.toArray true) P N Γ (Hp w0 H) Q := St.intro fun a w ha hw =>
  (St.bagX m sel hm hch hc hops hend).elim a w ⟨ha.defers, ha.size, fun t v ht => ha.get t v (hcl.look ht).2⟩ hw
theorem Gt.endX {d : Nat} {x : Value} (hv : look Γ d = some x) : Gt N .normal Γ C (PostX N d x C) := Gt.intro fun a w ha hw => ⟨rfl, ha.sub (.cons hv .nil), hw⟩
theorem EndX.nil' {kp : Nat → Bool} {w0 : World} {H : List Blk} {K : Env → List Blk → Prop} {ks : List Kn} {i : Nat} {B : List Blk} (h : K Γ B) : EndX kp w0 H K [] ks i Γ B := by
  cases ks <;> exact h
theorem EndX.on {kp : Nat → Bool} {w0 : World} {H : List Blk} {K : Env → List Blk → Prop} {ks : List Kn} {i d : Nat} {op : Op} {ty : TypeId} {pos : String} {af : Array Edge} {g : Option (Nat × Bool)} {os : List Oper} {x : Value} {B : List Blk} (hk : kp i = true) (h : EndX kp w0 H K os ks (i + 1) ((d, x) :: Γ) B) : EndX kp w0 H K (⟨some d, op, ty, pos, af, g⟩ :: os) (.v x :: ks) i Γ B := by
  unfold EndX; rw [hk]; exact h
theorem EndX.off {kp : Nat → Bool} {w0 : World} {H : List Blk} {K : Env → List Blk → Prop} {ks : List Kn} {i : Nat} {o : Oper} {os : List Oper} {x : Value} {B : List Blk} (hk : kp i = false) (h : EndX kp w0 H K os ks (i + 1) Γ B) : EndX kp w0 H K (o :: os) (.v x :: ks) i Γ B := by
  unfold EndX; rw [hk]; exact h
theorem EndX.new {kp : Nat → Bool} {w0 : World} {H : List Blk} {K : Env → List Blk → Prop} {ks : List Kn} {i d : Nat} {op : Op} {ty : TypeId} {pos : String} {af : Array Edge} {g : Option (Nat × Bool)} {os : List Oper} {t : TypeId} {cs : List Value} {B : List Blk} (h : ∀ c, w0.heap.size ≤ c → Off (B ++ H) c → EndX kp w0 H K os ks (i + 1) ((d, .pointer (some ⟨c, 0, none⟩)) :: Γ) (⟨c, cs, t⟩ :: B)) : EndX kp w0 H K (⟨some d, op, ty, pos, af, g⟩ :: os) (.b t cs :: ks) i Γ B := h
inductive CatB : List Blk → List Blk → List Blk → Prop
  | nil {H : List Blk} : CatB [] H H
  | cons {x : Blk} {B H R : List Blk} (h : CatB B H R) : CatB (x :: B) H (x :: R)
theorem CatB.out {B H R : List Blk} (h : CatB B H R) : R = B ++ H := by
  induction h with
  | nil => rfl
  | cons _ ih => rw [ih]; rfl
theorem Wl.catX {ops : Array Oper} {w0 : World} {l : List Oper} {B H R : List Blk} {dd : Nat} {x : Value} (e : CatB B H R) (h : Wl l P .seq ops N Γ (Hp w0 R) (PostX N dd x (Hp w0 R))) : Wl l P .seq ops N Γ (Hp w0 (B ++ H)) (PostX N dd x (Hp w0 (B ++ H))) := by
  rw [e.out] at h; exact h
theorem Wl.catE {ops : Array Oper} {w0 : World} {l : List Oper} {B H R : List Blk} (e : CatB B H R) (h : Wl l P .seq ops N Γ (Hp w0 R) Q) : Wl l P .seq ops N Γ (Hp w0 (B ++ H)) Q := by
  rw [e.out] at h; exact h
theorem NewX.off {w0 : World} {X : List Blk} {b : Nat} (h : NewX w0 X) (hb : b < w0.heap.size) : Off X b := Off.of fun x hx e => by have := h x hx; omega
theorem Wl.cat {ops : Array Oper} {md : Md} {w0 : World} {l : List Oper} {B H H' : List Blk} (e : B ++ H = H') (h : Wl l P md ops N Γ (Hp w0 H') Q) : Wl l P md ops N Γ (Hp w0 (B ++ H)) Q := e ▸ h
end
attribute [irreducible] EndX
end Go.Pt
