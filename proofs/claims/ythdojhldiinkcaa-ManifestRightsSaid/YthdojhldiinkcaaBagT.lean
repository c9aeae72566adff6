/-
  A region in any order whose first m operations make new memory only, and whose last ones must come behind all of these, one behind the other.
-/
import Derived.Test.YthdojhldiinkcaaFile
namespace Go.Pt
open Go.RowKit

/-- the operation o waits for the j-th -/
def waits (o : Oper) (j : Nat) : Bool := o.after.toList.any fun e => Nat.beq e.on j && Region.binds .any e
/-- each of the first m is awaited by a later one up to the m-th; from the m-th on each awaits the one before; none awaits a later one -/
def chainB (l : List Oper) (m : Nat) : Bool :=
  Nat.blt m l.length &&
  ((List.range m).all fun i => (List.range (m + 1)).any fun j => Nat.blt i j && (match l[j]? with | some o => waits o i | none => false)) &&
  ((List.range l.length).all fun i => Nat.ble i m || (match l[i]? with | some o => waits o (i - 1) | none => false)) &&
  ((List.range l.length).all fun i => match l[i]? with | some o => o.after.toList.all (fun e => Nat.blt e.on i) | none => true)
theorem waits_out {o : Oper} {j : Nat} (h : waits o j = true) : ∃ e ∈ o.after.toList, e.on = j ∧ Region.binds .any e = true := by
  obtain ⟨e, h1, h2⟩ := List.any_eq_true.1 h
  rw [Bool.and_eq_true] at h2
  exact ⟨e, h1, Nat.eq_of_beq_eq_true h2.1, h2.2⟩
structure Chain (l : List Oper) (m : Nat) : Prop where
  lt : m < l.length
  pre : ∀ i, i < m → ∃ (j : Nat) (o : Oper), i < j ∧ j ≤ m ∧ l[j]? = some o ∧ ∃ e ∈ o.after.toList, e.on = i ∧ Region.binds .any e = true
  next : ∀ (i : Nat) (o : Oper), m < i → l[i]? = some o → ∃ e ∈ o.after.toList, e.on = i - 1 ∧ Region.binds .any e = true
  back : ∀ (i : Nat) (o : Oper), l[i]? = some o → ∀ e ∈ o.after.toList, e.on < i
theorem chainB_out {l : List Oper} {m : Nat} (h : chainB l m = true) : Chain l m := by
  unfold chainB at h
  simp only [Bool.and_eq_true] at h
  obtain ⟨⟨⟨h0, h1⟩, h2⟩, h3⟩ := h
  refine ⟨Nat.le_of_ble_eq_true h0, fun i hi => ?_, fun i o hi ho => ?_, fun i o ho e he => ?_⟩
  · have := List.all_eq_true.1 h1 i (List.mem_range.2 hi)
    obtain ⟨j, hj, hj2⟩ := List.any_eq_true.1 this
    rw [Bool.and_eq_true] at hj2
    have hjm := List.mem_range.1 hj
    cases ho : l[j]? with
    | none => rw [ho] at hj2; cases hj2.2
    | some o =>
      rw [ho] at hj2
      exact ⟨j, o, Nat.le_of_ble_eq_true hj2.1, by omega, ho, waits_out hj2.2⟩
  · have hil := (List.getElem?_eq_some_iff.1 ho).1
    have := List.all_eq_true.1 h2 i (List.mem_range.2 hil)
    rw [ho, Bool.or_eq_true] at this
    rcases this with h | h
    · have := Nat.le_of_ble_eq_true h; omega
    · exact waits_out h
  · have hil := (List.getElem?_eq_some_iff.1 ho).1
    have := List.all_eq_true.1 h3 i (List.mem_range.2 hil)
    rw [ho] at this
    exact Nat.le_of_ble_eq_true (List.all_eq_true.1 this e he)
theorem getD_tf {x : Array Bool} {i : Nat} (h : i < x.size) : x.getD i true = x.getD i false := by
  simp [Array.getD_eq_getD_getElem?, h]
theorem ready_iff {l : List Oper} {listed : Array Bool} {i : Nat} {o : Oper} (ho : l[i]? = some o) : i ∈ Region.ready .any l.toArray listed ↔ listed.getD i true = false ∧ ∀ e ∈ o.after.toList, Region.binds .any e = true → listed.getD e.on false = true := by
  have hil := (List.getElem?_eq_some_iff.1 ho).1
  have hoa : l.toArray[i]? = some o := by simpa using ho
  unfold Region.ready
  rw [List.mem_filter]
  simp only [List.size_toArray, List.mem_range, hoa, Option.map_some, Option.getD_some, Bool.and_eq_true, Bool.not_eq_true', Array.all_eq_true', Bool.or_eq_true]
  constructor
  · rintro ⟨_, h1, h2⟩
    exact ⟨h1, fun e he hb => (h2 e (by simpa using he)).elim (fun y => by rw [hb] at y; cases y) id⟩
  · rintro ⟨h1, h2⟩
    refine ⟨hil, h1, fun e he => ?_⟩
    cases hb : Region.binds .any e with
    | false => exact .inl rfl
    | true => exact .inr (h2 e (by simpa using he) hb)
theorem ready_lt {l : List Oper} {listed : Array Bool} {i : Nat} (h : i ∈ Region.ready .any l.toArray listed) : i < l.length := by
  unfold Region.ready at h
  rw [List.mem_filter] at h
  simpa using h.1
/-- from the m-th on: one behind the other -/
theorem tail_run {P : Program} {l : List Oper} {m : Nat} {Q : Exit → Act → World → Prop} (hch : Chain l m) : ∀ (rest : List Oper) (k : Nat), l.drop k = rest → m ≤ k → ∀ n (listed : Array Bool) a w, listed.size = l.length → (∀ j, j < k → j < l.length → listed.getD j true = true) →
    (∀ j, k ≤ j → j < l.length → listed.getD j true = false) → n = l.length - k → wpList P l.toArray Q rest a w → wpAny P .any l.toArray Q n listed a w := by
  intro rest
  induction rest with
  | nil =>
    intro k hk hmk n listed a w hsz h1 h2 hn h
    have hl : l.length ≤ k := by simpa using hk
    have hr : Region.ready .any l.toArray listed = [] := by
      rw [List.eq_nil_iff_forall_not_mem]
      intro i hi
      have hil := ready_lt hi
      have := ((ready_iff (List.getElem?_eq_getElem hil)).1 hi).1
      rw [h1 i (by omega) hil] at this
      cases this
    have hn0 : n = 0 := by omega
    subst hn0
    exact ⟨hr, h⟩
  | cons o rest ih =>
    intro k hk hmk n listed a w hsz h1 h2 hn h
    have hkl : k < l.length := by
      rcases Nat.lt_or_ge k l.length with h | h
      · exact h
      · rw [List.drop_eq_nil_of_le h] at hk; cases hk
    have ho : l[k]? = some o := by
      have := List.getElem?_drop (xs := l) (i := k) (j := 0)
      rw [hk] at this
      simpa using this.symm
    have hrk : k ∈ Region.ready .any l.toArray listed := (ready_iff ho).2 ⟨h2 k (Nat.le_refl _) hkl, fun e he _ => by
      have hek := hch.back k o ho e he
      rw [← getD_tf (by omega)]
      exact h1 e.on hek (by omega)⟩
    have hn' : n = (l.length - (k + 1)) + 1 := by omega
    subst hn'
    refine ⟨fun hr => (by rw [hr] at hrk; cases hrk), fun i hi => ?_⟩
    have hil := ready_lt hi
    have hio := (ready_iff (List.getElem?_eq_getElem hil)).1 hi
    have hik : i = k := by
      rcases Nat.lt_trichotomy i k with h | h | h
      · rw [h1 i h hil] at hio; cases hio.1
      · exact h
      · obtain ⟨e, he, he1, he2⟩ := hch.next i _ (by omega) (List.getElem?_eq_getElem hil)
        have := hio.2 e he he2
        rw [← getD_tf (by omega), he1, h2 (i - 1) (by omega) (by omega)] at this
        cases this
    subst hik
    have hoa : l.toArray[i]? = some o := by simpa using ho
    have hK : ∀ a' w', wpList P l.toArray Q rest a' w' → wpAny P .any l.toArray Q (l.length - (i + 1)) (listed.setIfInBounds i true) a' w' := fun a' w' h' => by
      refine ih (i + 1) ?_ (by omega) _ _ a' w' (by simp [hsz]) (fun j hj hjl => ?_) (fun j hj hjl => ?_) rfl h'
      · rw [← List.drop_drop, hk]; rfl
      · by_cases e : i = j
        · subst e; simp [Array.getD_eq_getD_getElem?, hsz, hil]
        · rw [getD_set e]; exact h1 j (by omega) hjl
      · rw [getD_set (by omega)]; exact h2 j (by omega) hjl
    unfold wpOp
    simp only [hoa]
    simp only [wpList] at h
    split
    · rename_i hw
      rw [if_pos hw] at h
      exact h.imp (fun h => Oper.wp_mono hK h) id
    · rename_i hw
      rw [if_neg hw] at h
      exact hK _ _ h
theorem BagInv.stepT {E : World → World → Prop} (hE : ∀ a b c, E a b → E b c → E a c) {P : Program} {l : List Oper} {m N : Nat} {Γ : Env} {w0 : World} {Rs : List (Value → World → Prop)} {Q : Exit → Act → World → Prop} {listed : Array Bool} {a : Act} {w : World} (hml : m ≤ l.length) (hc : bagB l N Γ 0 (l.take m) = true) (hst : BagSt E Rs)
    (hops : BagOps E P l N Γ w0 Rs (l.take m) 0) (hi : BagInv E (l.take m) N Γ w0 Rs listed a w) {i : Nat} (him : i < m) (hr : i ∈ Region.ready .any l.toArray listed) {K : Act → World → Prop}
    (hK : ∀ a' w', BagInv E (l.take m) N Γ w0 Rs (listed.setIfInBounds i true) a' w' → K a' w') : wpOp P l.toArray Q i K a w := by
  have hlt := ready_lt hr
  have hol : l[i]? = some l[i] := List.getElem?_eq_getElem hlt
  have hedges := ((ready_iff hol).1 hr).2
  have ho : (l.take m)[i]? = some l[i] := by rw [List.getElem?_take_of_lt him]; exact hol
  generalize l[i] = o at ho hol hedges
  have hoa : l.toArray[i]? = some o := by simpa using hol
  obtain ⟨hd, hdN, hΓ, hed, hlater⟩ := bagB_out hc ho
  have hop := hops.out ho w hi.ext
  rw [Nat.zero_add] at hop
  obtain ⟨Γ', hf', hW⟩ := hop.run hi.fr fun e he hb => by
    have h1 := hedges e (by simpa using he) hb
    have h2 := hed e he
    have h3 : l[e.on]? = some l[e.on] := List.getElem?_eq_getElem (by omega)
    have h4 : (l.take m)[e.on]? = some l[e.on] := by rw [List.getElem?_take_of_lt (by omega)]; exact h3
    obtain ⟨v, hv, hR⟩ := hi.held e.on _ h4 (by
      simp only [Array.getD_eq_getD_getElem?] at h1 ⊢
      cases hx : listed[e.on]? with
      | none => rfl
      | some b => rw [hx] at h1; exact h1)
    exact ⟨v, by unfold dstAt; rw [h3]; exact hv, hR⟩
  have hwl : wpList P l.toArray (BagPost E N w (dstO o) (RAt Rs i)) [o] a w := hW.elim a w hf' (Hp.start w)
  have key : ∀ a' w', BagPost E N w (dstO o) (RAt Rs i) .normal a' w' → (∃ v, a'.tmps = (a.put o.dst v).tmps) → BagInv E (l.take m) N Γ w0 Rs (listed.setIfInBounds i true) a' w' := by
    rintro a' w' ⟨_, he, v, hfr, hR⟩ ⟨u, hu⟩
    rw [hd] at hu
    have hne : ∀ t, t ≠ dstO o → a'.tmps[t]? = a.tmps[t]? := fun t ht => by rw [hu]; simp [Act.put, Array.getElem?_setIfInBounds_ne (Ne.symm ht)]
    refine ⟨⟨hfr.defers, hfr.size, fun t x ht => ?_⟩, hE _ _ _ hi.ext he, fun j oj hj hl => ?_⟩
    · rw [hne t (hΓ t x ht)]; exact hi.fr.get t x ht
    · by_cases e : i = j
      · subst e
        rw [ho] at hj
        cases hj
        exact ⟨v, hfr.get _ _ (by simp [look]), hR⟩
      · rw [getD_set e] at hl
        obtain ⟨x, hx, hRx⟩ := hi.held j oj hj hl
        refine ⟨x, ?_, hst.out he hRx⟩
        rw [hne _ ?_]
        · exact hx
        · rcases Nat.lt_or_gt_of_ne e with e | e
          · exact hlater j oj e hj
          · exact fun e' => (bagB_out hc hj).2.2.2.2 i o e ho e'.symm
  unfold wpOp
  simp only [hoa]
  simp only [wpList] at hwl
  split
  · rename_i hw
    rw [if_pos hw] at hwl
    rcases hwl with h | ⟨_, x, y, h⟩
    · have h1 := wp_only (fun _ _ _ h => h.1) (wp_tmps h)
      refine .inl ?_
      have h2 := Oper.wp_mono (fun a' w' hh => hK a' w' (key a' w' hh.1 hh.2)) h1
      unfold Oper.wp at *
      generalize (execOp a.eval o).run P w = r at *
      cases r with
      | ok n w' =>
        cases n <;> simp only [Oper.upon] at h2 ⊢
        case value u => exact h2
        case skip => exact h2
        case defer d => exact h2
        case enter f args => exact Calls.mono h2 (fun e w'' he => by cases e <;> first | exact he | exact he.elim | (obtain ⟨_, _, hf⟩ := he; exact hf.elim))
        case row row args => exact h2
      | halt x w' => cases x <;> simp only [Oper.upon] at h2
    · cases h.1
  · rename_i hw
    rw [if_neg hw] at hwl
    exact hK _ _ (key _ _ hwl ⟨undef, rfl⟩)
theorem bagT_run {E : World → World → Prop} (hE : ∀ a b c, E a b → E b c → E a c) {P : Program} {l : List Oper} {m N : Nat} {Γ : Env} {w0 : World} {Rs : List (Value → World → Prop)} {Q : Exit → Act → World → Prop} (hch : Chain l m) (hc : bagB l N Γ 0 (l.take m) = true) (hst : BagSt E Rs)
    (hops : BagOps E P l N Γ w0 Rs (l.take m) 0) (hend : ∀ listed a w, (∀ j, j < m → listed.getD j true = true) → BagInv E (l.take m) N Γ w0 Rs listed a w → wpList P l.toArray Q (l.drop m) a w) :
    ∀ n (listed : Array Bool) a w, listed.size = l.length → listed.toList.count false = n → BagInv E (l.take m) N Γ w0 Rs listed a w →
      (∀ j o, l[j]? = some o → listed.getD j true = true → ∀ e ∈ o.after.toList, Region.binds .any e = true → listed.getD e.on false = true) → (∀ j, m ≤ j → j < l.length → listed.getD j true = false) → wpAny P .any l.toArray Q n listed a w := by
  have hml := hch.lt
  intro n
  induction n with
  | zero =>
    intro listed a w hsz hn hi hdown hun
    have h1 := hun m (Nat.le_refl _) hml
    have h2 : false ∉ listed.toList := List.count_eq_zero.1 hn
    have h3 : listed[m]'(by omega) ∈ listed.toList := by simp
    rw [Array.getD_eq_getD_getElem?, Array.getElem?_eq_getElem (by omega)] at h1
    have h1' : listed[m]'(by omega) = false := h1
    rw [h1'] at h3
    exact (h2 h3).elim
  | succ n ih =>
    intro listed a w hsz hn hi hdown hun
    have hcount : ∀ i, i < l.length → listed.getD i true = false → (listed.setIfInBounds i true).toList.count false = n := fun i hil h => by
      have hm' : i < listed.size := by omega
      have h3 : listed[i] = false := by
        rw [Array.getD_eq_getD_getElem?, Array.getElem?_eq_getElem hm'] at h
        exact h
      rw [Array.toList_setIfInBounds, List.count_set (by simpa using hm')]
      simp [h3, hn]
    by_cases hall : ∀ j, j < m → listed.getD j true = true
    · refine tail_run hch (l.drop m) m rfl (Nat.le_refl _) (n + 1) listed a w hsz (fun j hj _ => hall j hj) hun ?_ (hend listed a w hall hi)
      have : ∀ (x : Array Bool) (k : Nat), k ≤ x.size → (∀ j, j < k → x.getD j true = true) → (∀ j, k ≤ j → j < x.size → x.getD j true = false) → x.toList.count false = x.size - k := by
        intro x k hk h1 h2
        obtain ⟨l⟩ := x
        simp only [List.size_toArray] at hk h2 ⊢
        have e : l = List.replicate k true ++ List.replicate (l.length - k) false := by
          apply List.ext_getElem
          · simp; omega
          · intro i hi1 hi2
            rw [List.getElem_append]
            split
            · rename_i h
              have := h1 i (by simpa using h)
              simpa [Array.getD_eq_getD_getElem?, hi1] using this
            · rename_i h
              have := h2 i (by simpa using h) hi1
              simpa [Array.getD_eq_getD_getElem?, hi1] using this
        rw [e]
        simp [List.count_append, List.count_replicate]
      have h := this listed m (by omega) hall (fun j h1 h2 => hun j h1 (by omega))
      rw [hn, hsz] at h
      exact h
    · have hex : ∃ j, j < m ∧ listed.getD j true = false ∧ ∀ i, i < j → listed.getD i true = true := by
        have key : ∀ k, k ≤ m → (∀ j, j < k → listed.getD j true = true) ∨ ∃ j, j < m ∧ listed.getD j true = false ∧ ∀ i, i < j → listed.getD i true = true := by
          intro k
          induction k with
          | zero => exact fun _ => .inl fun j hj => by omega
          | succ k ihk =>
            intro hk
            rcases ihk (by omega) with h | h
            · cases hl : listed.getD k true
              · exact .inr ⟨k, by omega, hl, h⟩
              · refine .inl fun j hj => ?_
                rcases Nat.lt_succ_iff_lt_or_eq.1 hj with hj | hj
                · exact h j hj
                · subst hj; exact hl
            · exact .inr h
        exact (key m (Nat.le_refl _)).elim (fun h => (hall h).elim) id
      refine ⟨fun hr => ?_, fun i hr => ?_⟩
      · obtain ⟨j, hjm, hj, hbefore⟩ := hex
        have ho : l[j]? = some l[j] := List.getElem?_eq_getElem (by omega)
        have : j ∈ Region.ready .any l.toArray listed := (ready_iff ho).2 ⟨hj, fun e he _ => by
          have := hch.back j _ ho e he
          rw [← getD_tf (by omega)]
          exact hbefore e.on this⟩
        rw [hr] at this
        cases this
      · have hil := ready_lt hr
        have hio := (ready_iff (List.getElem?_eq_getElem hil)).1 hr
        have him : i < m := by
          rcases Nat.lt_or_ge i m with h | h
          · exact h
          · exfalso
            rcases Nat.lt_or_eq_of_le h with h | h
            · obtain ⟨e, he, he1, he2⟩ := hch.next i _ h (List.getElem?_eq_getElem hil)
              have := hio.2 e he he2
              rw [← getD_tf (by omega), he1, hun (i - 1) (by omega) (by omega)] at this
              cases this
            · subst h
              refine hall ?_
              have key : ∀ d j, j < m → m - j ≤ d → listed.getD j true = true := by
                intro d
                induction d with
                | zero => intro j h1 h2; omega
                | succ d ihd =>
                  intro j hj hd
                  obtain ⟨x, o, h1, h2, ho, e, he, he1, he2⟩ := hch.pre j hj
                  rcases Nat.lt_or_eq_of_le h2 with h2 | h2
                  · have := hdown x o ho (ihd x h2 (by omega)) e he he2
                    rw [← getD_tf (by omega), he1] at this
                    exact this
                  · subst h2
                    have hox := List.getElem?_eq_getElem hil
                    rw [ho] at hox
                    cases hox
                    have := hio.2 e he he2
                    rw [← getD_tf (by omega), he1] at this
                    exact this
              exact fun j hj => key m j hj (by omega)
        refine hi.stepT hE (by omega) hc hst hops him hr fun a' w' hi' => ih _ a' w' (by simp [hsz]) (hcount i hil hio.1) hi' (fun j o ho hl e he hb => ?_) (fun j hj hjl => ?_)
        · have hjl := (List.getElem?_eq_some_iff.1 ho).1
          have hej := hch.back j o ho e he
          have hlist : listed.getD e.on false = true := by
            by_cases e' : i = j
            · subst e'
              have hox := List.getElem?_eq_getElem hil
              rw [ho] at hox
              cases hox
              exact hio.2 e he hb
            · rw [getD_set e'] at hl
              exact hdown j o ho hl e he hb
          rw [← getD_tf (by simp; omega)]
          by_cases e' : i = e.on
          · rw [e']; simp [Array.getD_eq_getD_getElem?, hsz]; try omega
          · rw [getD_set e', getD_tf (by omega)]; exact hlist
        · rw [getD_set (by omega)]; exact hun j hj hjl

section
variable {P : Program} {N : Nat} {Γ : Env} {C : World → Prop} {Q : Exit → Act → World → Prop}
/-- a region in whatever order: the first m operations told one by one, the rest walked behind them -/
theorem St.bagT {i : Nat} {l : List Oper} {w0 : World} (m : Nat) (E : World → World → Prop) (hE : ∀ a b c, E a b → E b c → E a c) (hE0 : ∀ w, Hp w0 [] w → E w0 w.drew) (Rs : List (Value → World → Prop)) (sel : List Nat) (hm : P.follows .mixedOrders = true) (hch : chainB l m = true) (hc : bagB l N Γ 0 (l.take m) = true) (hst : BagSt E Rs) (hsel : (sel.all fun i => Nat.blt i m) = true)
    (hops : BagOps E P l N Γ w0 Rs (l.take m) 0) (hend : ∀ w1, E w0 w1 → SelG l Rs w1 (fun Γ' => Wl (l.drop m) P .seq l.toArray N Γ' (Hp w1 []) Q) sel Γ) : St (.region i l.toArray true) P N Γ (Hp w0 []) Q := St.intro fun a w ha hw => by
  have hch := chainB_out hch
  have hml := hch.lt
  refine wp_region_any hm ?_
  have := bagT_run hE (Q := Q) hch hc hst hops (fun listed a w hall hi => by
    obtain ⟨Γ', hf, hK⟩ := (hend w hi.ext).run hi.fr fun j hj => by
      have hj' : j < m := Nat.le_of_ble_eq_true (List.all_eq_true.1 hsel j hj)
      have ho : l[j]? = some l[j] := List.getElem?_eq_getElem (by omega)
      have hot : (l.take m)[j]? = some l[j] := by rw [List.getElem?_take_of_lt hj']; exact ho
      obtain ⟨v, hv, hR⟩ := hi.held j _ hot (hall j hj')
      exact ⟨v, by unfold dstAt; rw [ho]; exact hv, hR⟩
    exact hK.elim a w hf (Hp.start w)) l.length (Array.replicate l.length false) a w.drew (by simp) (by simp [List.count_replicate]) ⟨ha, hE0 w hw, fun i o ho hl => by
      have h1 := (List.getElem?_eq_some_iff.1 ho).1
      rw [List.length_take] at h1
      have : i < l.length := by omega
      simp [Array.getD_eq_getD_getElem?, this] at hl⟩ (fun j o ho hl => by
      have h1 := (List.getElem?_eq_some_iff.1 ho).1
      simp [Array.getD_eq_getD_getElem?, h1] at hl) (fun j _ hjl => by simp [Array.getD_eq_getD_getElem?, hjl])
  simpa using this
end
end Go.Pt
