/-
  A region that draws its order and holds operations that turn the world: if each of these comes up alone, and all others yield one value in a class of worlds that is kept, one walk in one order serves every order.
-/
import Derived.Test.YtfaobdakpbpkbaaEng
import Derived.Deep.Quiet
namespace Go.Pt

/-- operations that turn the world -/
def effB (o : Oper) : Bool := match o.op with
  | .call { callee := .builtin .len, .. } => false
  | .call _ | .store .. | .alloc _ | .box .. | .buildSlice .. | .makeSlice .. | .makeMap .. | .mapUpdate .. | .insert .. | .mapEntry .. | .entryStore .. => true
  | _ => false

section
variable {P : Program} {ops : Array Oper} {C : World → Prop}

/-- the walk in the order of the list -/
def wpE (P : Program) (ops : Array Oper) (C : World → Prop) (Q : Act → World → Prop) : List Oper → Act → World → Prop
  | [], a, w => Q a w
  | o :: rest, a, w =>
    if Region.wanted o (yielded ops a.tmps) then
      if effB o then o.wp P a w (fun a' w' => C w' ∧ wpE P ops C Q rest a' w') (fun _ _ _ => False)
      else ∃ v, (∀ w', C w' → (execOp a.eval o).run P w' = .ok (.value v) w') ∧ wpE P ops C Q rest (a.put o.dst v) w
    else wpE P ops C Q rest (a.put o.dst undef) w

def onlyN (Q : Act → World → Prop) : Exit → Act → World → Prop
  | .normal, a, w => Q a w
  | _, _, _ => False

/-- every order, the class kept at each step -/
def wpAnyC (P : Program) (ops : Array Oper) (C : World → Prop) (Q : Act → World → Prop) : Nat → Array Bool → Act → World → Prop
  | 0, listed, a, w => C w ∧ Region.ready .any ops listed = [] ∧ Q a w
  | n + 1, listed, a, w => C w ∧ (Region.ready .any ops listed = [] → Q a w) ∧ ∀ i ∈ Region.ready .any ops listed, wpOp P ops (onlyN Q) i (wpAnyC P ops C Q n (listed.setIfInBounds i true)) a w

theorem wpAnyC.cls {Q : Act → World → Prop} {n : Nat} {listed : Array Bool} {a : Act} {w : World} (h : wpAnyC P ops C Q n listed a w) : C w := by
  cases n <;> exact h.1
theorem wpAny_of_C {Q : Act → World → Prop} : ∀ (n : Nat) (listed : Array Bool) (a : Act) (w : World), wpAnyC P ops C Q n listed a w → wpAny P .any ops (onlyN Q) n listed a w
  | 0, _, _, _, h => ⟨h.2.1, h.2.2⟩
  | n + 1, _, _, _, h => ⟨h.2.1, fun i hi => wpOp_mono (fun a' w' hh => wpAny_of_C n _ a' w' hh) (h.2.2 i hi)⟩

def YC (P : Program) (ops : Array Oper) (C : World → Prop) (o : Oper) (v : Value) (a : Act) : Prop :=
  (Region.wanted o (yielded ops a.tmps) = true ∧ ∀ w, C w → (execOp a.eval o).run P w = .ok (.value v) w) ∨ (Region.wanted o (yielded ops a.tmps) = false ∧ v = undef)

theorem YC.same {o : Oper} {v : Value} {a a' : Act} (hy : YC P ops C o v a) (he : execOp a'.eval o = execOp a.eval o) (hw : Region.wanted o (yielded ops a'.tmps) = Region.wanted o (yielded ops a.tmps)) : YC P ops C o v a' := by
  unfold YC at *; rw [he, hw]; exact hy

theorem YC.now {i : Nat} {o : Oper} {v : Value} {a : Act} {w : World} (hi : ops[i]? = some o) (hy : YC P ops C o v a) (hC : C w) {Q : Exit → Act → World → Prop} {K : Act → World → Prop} (h : K (a.put o.dst v) w) : wpOp P ops Q i K a w := by
  unfold wpOp
  simp only [hi]
  rcases hy with ⟨hw, hv⟩ | ⟨hw, rfl⟩
  · rw [if_pos hw]; refine .inl ?_; simp only [Oper.wp, hv w hC, Oper.upon]; exact h
  · rw [hw]; exact h

/-- an operation oj that is apart from oi: done ahead of oi instead of behind it -/
theorem wpOp_swap {j : Nat} {oi oj : Oper} {v : Value} {Q : Act → World → Prop} (hj : ops[j]? = some oj) (hap : oi.apart ops oj = true) (hsi : ∀ cs b, oi.op ≠ .select cs b) (hsj : ∀ cs b, oj.op ≠ .select cs b)
    {K : Act → World → Prop} {a : Act} {w : World} (hy : YC P ops C oi v a) (h : wpOp P ops (onlyN Q) j K (a.put oi.dst v) w) :
    wpOp P ops (onlyN Q) j (fun a' w' => YC P ops C oi v a' ∧ K (a'.put oi.dst v) w') a w := by
  obtain ⟨h1, h2, h3⟩ := Oper.apart_spec hap
  have keep : ∀ (a : Act), YC P ops C oi v a → ∀ u, YC P ops C oi v (a.put oj.dst u) := fun a hy u => hy.same (execOp_put oi hsi a oj.dst u h3) (wanted_put oi a oj.dst u h3)
  have keepD : ∀ d, YC P ops C oi v { a with defers := d :: a.defers } := fun d => hy.same rfl rfl
  have noOut : ¬ LetsOut (onlyN Q) := fun ⟨_, _, h⟩ => h
  unfold wpOp at *
  simp only [hj] at *
  rw [wanted_put oj a oi.dst v h1] at h
  by_cases hw : Region.wanted oj (yielded ops a.tmps) = true
  · rw [if_pos hw] at h ⊢
    rcases h with h | ⟨_, hout⟩
    case inr => exact (noOut hout).elim
    refine .inl ?_
    unfold Oper.wp at *
    rw [execOp_put oj hsj a oi.dst v h1] at h
    generalize (execOp a.eval oj).run P w = r at *
    cases r with
    | halt x w' => cases x <;> simp only [Oper.upon, onlyN] at h
    | ok n w' =>
      cases n <;> simp only [Oper.upon] at h ⊢
      case value u => exact ⟨keep a hy u, by rw [← Act.put_comm a v u h2]; exact h⟩
      case skip => exact ⟨keep a hy _, by rw [← Act.put_comm a v undef h2]; exact h⟩
      case defer d => exact ⟨keep _ (keepD d) _, by rw [← Act.put_comm _ v undef h2, ← Act.put_defers]; exact h⟩
      case enter f args =>
        refine Calls.mono h fun e w'' he => ?_
        cases e with
        | returned u => exact ⟨keep a hy u, by rw [← Act.put_comm a v u h2]; exact he⟩
        | panicked c => exact he.elim
        | outgrown => exact (noOut he).elim
      case row row args => exact Rows.mono h fun u w'' he => ⟨keep a hy u, by rw [← Act.put_comm a v u h2]; exact he⟩
  · rw [if_neg hw] at h ⊢
    exact ⟨keep a hy _, by rw [← Act.put_comm a v undef h2]; exact h⟩

/-- what yields one value in every world of the class may be taken first -/
theorem firstC {Q : Act → World → Prop} {i : Nat} {oi : Oper} {v : Value} (hi : ops[i]? = some oi) (hsel : Region.noSelect ops = true) :
    ∀ (n : Nat) (listed : Array Bool) (a : Act) (w : World),
      (∀ j oj, ops[j]? = some oj → j ≠ i → listed.getD j true = false → (∀ e ∈ oj.after, Region.binds .any e = true → e.on ≠ i) → oi.apart ops oj = true) →
      i ∈ Region.ready .any ops listed → YC P ops C oi v a → wpAnyC P ops C Q n (listed.setIfInBounds i true) (a.put oi.dst v) w → wpAnyC P ops C Q (n + 1) listed a w := by
  have hs := fun j o cs b => Region.noSelect_spec hsel j o cs b
  intro n
  induction n with
  | zero =>
    intro listed a w _ hr hy H
    refine ⟨H.1, fun h => (by rw [h] at hr; cases hr), fun j hj => ?_⟩
    by_cases hji : j = i
    · subst hji; exact hy.now hi H.1 H
    · have := ready_mono hj hji
      rw [H.2.1] at this
      cases this
  | succ n ih =>
    intro listed a w hfree hr hy H
    refine ⟨H.1, fun h => (by rw [h] at hr; cases hr), fun j hj => ?_⟩
    by_cases hji : j = i
    · subst hji; exact hy.now hi H.1 H
    · have h1 := H.2.2 j (ready_mono hj hji)
      obtain ⟨hjun, oj, hoj, hall⟩ := mem_ready.1 hj
      have hnot : ∀ e ∈ oj.after, Region.binds .any e = true → e.on ≠ i := fun e he hb heq => by
        have h1 := hall e he hb
        have h0 := (mem_ready.1 hr).1
        rw [heq] at h1
        rcases Nat.lt_or_ge i listed.size with h' | h'
        · simp [h'] at h0 h1; rw [h0] at h1; cases h1
        · simp [Array.getElem?_eq_none h'] at h1
      have h2 := wpOp_swap hoj (hfree j oj hoj hji hjun hnot) (fun cs b => hs i oi cs b hi) (fun cs b => hs j oj cs b hoj) hy h1
      have hfree' : ∀ k ok, ops[k]? = some ok → k ≠ i → (listed.setIfInBounds j true).getD k true = false → (∀ e ∈ ok.after, Region.binds .any e = true → e.on ≠ i) → oi.apart ops ok = true := fun k ok hk hki hun hno => by
        refine hfree k ok hk hki ?_ hno
        by_cases hjk : j = k
        · subst hjk; exact hjun
        · rw [getD_set_ne true hjk] at hun; exact hun
      refine wpOp_mono (fun a' w' h3 => ih (listed.setIfInBounds j true) a' w' hfree' (ready_mono hr (Ne.symm hji)) h3.1 ?_) h2
      rw [Array.setIfInBounds_comm _ _ hji]
      exact h3.2

/-- the order π: each operation is ready in its turn; one that turns the world is the only one that is -/
def orderB (ops : Array Oper) : List Nat → Array Bool → Bool
  | [], listed => (Region.ready .any ops listed).isEmpty
  | i :: r, listed =>
    (match ops[i]? with
     | some o => if effB o then (match Region.ready .any ops listed with | [j] => Nat.beq j i | _ => false) else (Region.ready .any ops listed).contains i && Region.free .any ops listed i
     | none => false) && orderB ops r (listed.setIfInBounds i true)

theorem wpAnyC_of {Q : Act → World → Prop} (hs : Region.noSelect ops = true) : ∀ (π : List Nat) (l : List Oper) (listed : Array Bool) (a : Act) (w : World), π.map (ops[·]?) = l.map some →
    orderB ops π listed = true → C w → wpE P ops C Q l a w → wpAnyC P ops C Q π.length listed a w
  | [], l, listed, a, w, hl, hB, hC, h => by
    cases l with
    | nil => exact ⟨hC, by simpa [orderB] using hB, h⟩
    | cons o l => simp at hl
  | i :: π, [], listed, a, w, hl, hB, hC, h => by simp at hl
  | i :: π, o :: l, listed, a, w, hl, hB, hC, h => by
    simp only [List.map_cons, List.cons.injEq] at hl
    obtain ⟨h0, hl⟩ := hl
    simp only [orderB, h0, Bool.and_eq_true] at hB
    obtain ⟨hB1, hB2⟩ := hB
    have ih := fun a w => wpAnyC_of (Q := Q) hs π l (listed.setIfInBounds i true) a w hl hB2
    simp only [List.length_cons]
    by_cases he : effB o = true
    · rw [if_pos he] at hB1
      have hr : Region.ready .any ops listed = [i] := by
        split at hB1
        · rename_i j hj; have := Nat.eq_of_beq_eq_true hB1; subst this; exact hj
        · cases hB1
      refine ⟨hC, fun h => (by rw [hr] at h; cases h), fun j hj => ?_⟩
      rw [hr] at hj
      have hji : j = i := by simpa using hj
      subst hji
      unfold wpOp
      simp only [h0]
      simp only [wpE, he, if_true] at h
      split
      · rename_i hw
        rw [if_pos hw] at h
        refine .inl ?_
        unfold Oper.wp at *
        generalize (execOp a.eval o).run P w = r at *
        cases r with
        | halt x w' => cases x <;> simp only [Oper.upon] at h
        | ok n w' =>
          cases n <;> simp only [Oper.upon] at h ⊢
          case value u => exact ih _ _ h.1 h.2
          case skip => exact ih _ _ h.1 h.2
          case defer d => exact ih _ _ h.1 h.2
          case enter f args =>
            refine Calls.mono h fun e w'' he => ?_
            cases e with
            | returned u => exact ih _ _ he.1 he.2
            | panicked c => exact he.elim
            | outgrown => obtain ⟨_, _, hf⟩ := he; exact hf.elim
          case row row args => exact Rows.mono h fun u w'' he => ih _ _ he.1 he.2
      · rename_i hw
        rw [if_neg hw] at h
        exact ih _ _ hC h
    · rw [if_neg he, Bool.and_eq_true] at hB1
      obtain ⟨hr, hf⟩ := hB1
      simp only [wpE, he] at h
      by_cases hw : Region.wanted o (yielded ops a.tmps) = true
      · rw [if_pos hw] at h
        obtain ⟨v, hv, h⟩ := h
        exact firstC h0 hs π.length listed a w (Region.free_spec h0 hf) (by simpa using hr) (.inl ⟨hw, hv⟩) (ih _ _ hC h)
      · rw [if_neg hw] at h
        exact firstC h0 hs π.length listed a w (Region.free_spec h0 hf) (by simpa using hr) (.inr ⟨by simpa using hw, rfl⟩) (ih _ _ hC h)

/-- the region, by one walk in the order π -/
theorem wp_region_mix {id : Nat} {Q : Exit → Act → World → Prop} {a : Act} {w : World} {l : List Oper} (π : List Nat) (l' : List Oper) (hm : P.follows .mixedOrders = true) (hs : Region.noSelect l.toArray = true)
    (hl : π.map (l.toArray[·]?) = l'.map some) (hn : Nat.beq π.length l.length = true) (hB : orderB l.toArray π (Array.replicate l.length false) = true) (hC : C { w with drawn := w.drawn + 1 })
    (h : wpE P l.toArray C (fun a' w' => Q .normal a' w') l' a { w with drawn := w.drawn + 1 }) : (Code.region id l.toArray true).wp P Q a w := by
  refine wp_mono (wp_region_any (Q := onlyN fun a' w' => Q .normal a' w') hm ?_) ?_
  · have := wpAnyC_of (C := C) hs π l' (Array.replicate l.length false) a _ hl hB hC h
    have := wpAny_of_C _ _ _ _ this
    rw [Nat.eq_of_beq_eq_true hn] at this
    simpa using this
  · intro e a w h
    cases e <;> first | exact h | exact h.elim
end
end Go.Pt
