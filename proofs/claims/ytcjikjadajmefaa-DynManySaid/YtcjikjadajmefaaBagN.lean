/-
  A region in any order, told operation by operation, whose operations may have no slot; relations that let blocks of one type be turned.
-/
import Derived.Test.YtcjikjadajmefaaFile
namespace Go.Pt
open Go.RowKit

/-! ### only new memory was made, or new blocks of the type T were turned -/
structure ExtC (T base : Nat) (G : List Value → Prop) (w w' : World) : Prop where
  os : w'.os = w.os
  tape : w'.tape = w.tape
  output : w'.output = w.output
  size : w.heap.size ≤ w'.heap.size
  block : ∀ k, k < w.heap.size → w'.heap[k]? = w.heap[k]? ∨ (base ≤ k ∧ ∃ cs cs' fs, w.heap[k]? = some (.cells cs T fs) ∧ w'.heap[k]? = some (.cells cs' T fs) ∧ G cs'.toList)
theorem ExtC.ofUpd {T base : Nat} {G : List Value → Prop} {w w' : World} (h : Ext w w') : ExtC T base G w w' := ⟨h.os, h.tape, h.output, h.size, fun k hk => .inl (h.block k hk id)⟩
theorem ExtC.start {T base : Nat} {G : List Value → Prop} (w0 w : World) (h : Hp w0 [] w) : ExtC T base G w0 w.drew := .ofUpd (Ext.start w0 w h)
theorem ExtC.trans {T base : Nat} {G : List Value → Prop} (a b c : World) (h : ExtC T base G a b) (k : ExtC T base G b c) : ExtC T base G a c := by
  refine ⟨k.os.trans h.os, k.tape.trans h.tape, k.output.trans h.output, Nat.le_trans h.size k.size, fun i hi => ?_⟩
  rcases h.block i hi with e | ⟨hb, cs, cs', fs, h1, h2, h3⟩
  · rcases k.block i (Nat.lt_of_lt_of_le hi h.size) with e' | ⟨hb, cs, cs', fs, h1, h2, h3⟩
    · exact .inl (e'.trans e)
    · exact .inr ⟨hb, cs, cs', fs, e ▸ h1, h2, h3⟩
  · rcases k.block i (Nat.lt_of_lt_of_le hi h.size) with e' | ⟨_, ds, ds', gs, g1, g2, g3⟩
    · exact .inr ⟨hb, cs, cs', fs, h1, e'.trans h2, h3⟩
    · rw [h2] at g1; cases g1
      exact .inr ⟨hb, cs, ds', fs, h1, g2, g3⟩
theorem ExtC.upd {T base : Nat} {G : List Value → Prop} {w w' : World} (h : ExtC T base G w w') : Upd (fun k => base ≤ k) w w' := ⟨h.os, h.tape, h.output, h.size, fun k hk hn => (h.block k hk).elim id fun ⟨hb, _⟩ => (hn hb).elim⟩
theorem ExtC.keep {T base c t : Nat} {G : List Value → Prop} {w w' : World} {cs : Array Value} {fr : Nat × Nat} (h : ExtC T base G w w') (hT : t ≠ T) (hc : w.heap[c]? = some (.cells cs t fr)) : w'.heap[c]? = some (.cells cs t fr) := by
  rcases h.block c (lt_of_block hc) with e | ⟨_, ds, ds', gs, g1, g2, _⟩
  · rw [e, hc]
  · rw [hc] at g1; cases g1; exact (hT rfl).elim
theorem ExtC.own {T base : Nat} {G : List Value → Prop} {w w' : World} (h : ExtC T base G w w') {b e sz n : Nat} {v : Value} {cs : List Value} (hT : e ≠ T) (hv : w.ownsRow b e sz v n cs) : w'.ownsRow b e sz v n cs := by
  obtain ⟨hl, hv⟩ := hv
  refine ⟨hl, ?_⟩
  rcases hv with hv | ⟨g, cap, cur, e1, h1, h2, h3⟩
  · exact .inl hv
  · refine .inr ⟨g, cap, cur, e1, h1, ?_, h3⟩
    exact h.keep hT h2
/-- an own block of the type T .. -/
def Bk (T base : Nat) (k : Nat) (w : World) (v : Value) : Prop := ∃ (c : Nat) (cs : List Value), v = .pointer (some ⟨c, 0, none⟩) ∧ base ≤ c ∧ cs.length = k ∧ w.heap[c]? = some (.cells cs.toArray T (0, 0))
/-- .. that holds what it is to hold -/
def Bg (T base : Nat) (G : List Value → Prop) (w : World) (v : Value) : Prop := ∃ (c : Nat) (cs : List Value), v = .pointer (some ⟨c, 0, none⟩) ∧ base ≤ c ∧ G cs ∧ w.heap[c]? = some (.cells cs.toArray T (0, 0))
theorem ExtC.bk {T base k : Nat} {G : List Value → Prop} {w w' : World} {v : Value} (h : ExtC T base G w w') (hG : ∀ cs, G cs → cs.length = k) (hv : Bk T base k w v) : Bk T base k w' v := by
  obtain ⟨c, cs, rfl, hb, hk, hh⟩ := hv
  rcases h.block c (lt_of_block hh) with e | ⟨_, ds, ds', gs, g1, g2, g3⟩
  · exact ⟨c, cs, rfl, hb, hk, by rw [e, hh]⟩
  · rw [hh] at g1; cases g1
    exact ⟨c, ds'.toList, rfl, hb, hG _ g3, by rw [g2]⟩
theorem ExtC.bg {T base : Nat} {G : List Value → Prop} {w w' : World} {v : Value} (h : ExtC T base G w w') (hv : Bg T base G w v) : Bg T base G w' v := by
  obtain ⟨c, cs, rfl, hb, hk, hh⟩ := hv
  rcases h.block c (lt_of_block hh) with e | ⟨_, ds, ds', gs, g1, g2, g3⟩
  · exact ⟨c, cs, rfl, hb, hk, by rw [e, hh]⟩
  · rw [hh] at g1; cases g1
    exact ⟨c, ds'.toList, rfl, hb, g3, by rw [g2]⟩
/-- a new row whose block is of another type -/
def Rw (t base n : Nat) (cs : List Value) (w : World) (v : Value) : Prop := ∃ c, v = .slice (some ⟨c, 0, none⟩) n n ∧ base ≤ c ∧ w.heap[c]? = some (.cells cs.toArray t (0, 0))
theorem ExtC.rw {T base t b n : Nat} {G : List Value → Prop} {cs : List Value} {w w' : World} {v : Value} (h : ExtC T base G w w') (hT : t ≠ T) (hv : Rw t b n cs w v) : Rw t b n cs w' v := by
  obtain ⟨c, rfl, h1, h2⟩ := hv
  exact ⟨c, rfl, h1, h.keep hT h2⟩
theorem Sv.ofRw {t b n sz : Nat} {cs : List Value} {w : World} {v : Value} (h : Rw t b n cs w v) (hl : cs.length = n * sz) (hn : n ≤ maxLen) : Sv w sz n v cs := by
  obtain ⟨c, rfl, h1, h2⟩ := h
  refine ⟨hl, _, _, rfl, Nat.le_refl _, hn, fun e => (by cases e), fun _ => ⟨c, 0, rfl, fun i hi => ?_⟩⟩
  unfold World.cell?
  rw [h2]
  simp [hi]
theorem Rw.keep {t b n : Nat} {cs : List Value} {w w' : World} {v : Value} (h : Rw t b n cs w v) (hp : Hp w [] w') : Rw t b n cs w' v := by
  obtain ⟨c, rfl, h1, h2⟩ := h
  exact ⟨c, rfl, h1, hp.upd.heap h2 fun y => y trivial⟩
theorem Rw.sv {t b n sz : Nat} {cs : List Value} {w : World} {v : Value} (h : Rw t b n cs w v) (hl : cs.length = n * sz) (hn : n ≤ maxLen) : Sv w sz n v cs := Sv.ofRw h hl hn
theorem ExtC.turn {T base c : Nat} {G : List Value → Prop} {w1 w' : World} {cs ds : List Value} (h : Hp w1 [⟨c, ds, T⟩] w') (hb : base ≤ c) (hG : G ds) (hc : w1.heap[c]? = some (.cells cs.toArray T (0, 0))) : ExtC T base G w1 w' :=
  ⟨h.upd.os, h.upd.tape, h.upd.output, h.upd.size, fun k hk => by
    by_cases e : k = c
    · subst e
      exact .inr ⟨hb, _, _, _, hc, h.own.1, hG⟩
    · exact .inl (h.upd.block k hk fun y => y ⟨fun e' => e e'.symm, trivial⟩)⟩

/-! ### the operations -/
/-- where an operation's value lies: a store has the slot of its pointer -/
def slotN (o : Oper) : Nat := match o.dst, o.op with
  | some d, _ => d
  | none, .store _ (.tmp p) _ => p
  | _, _ => 0
def slotAt (l : List Oper) (i : Nat) : Nat := match l[i]? with
  | some o => slotN o
  | none => 0
def SelN (l : List Oper) (Rs : List (Value → World → Prop)) (w1 : World) (K : Env → Prop) : List Nat → Env → Prop
  | [], Γ => K Γ
  | i :: is, Γ => ∀ v, RAt Rs i v w1 → SelN l Rs w1 K is ((slotAt l i, v) :: Γ)
def DepN (l : List Oper) (Rs : List (Value → World → Prop)) (w1 : World) (K : Env → Prop) : List Edge → Env → Prop
  | [], Γ => K Γ
  | e :: es, Γ => if Region.binds .any e then ∀ v, RAt Rs e.on v w1 → DepN l Rs w1 K es ((slotAt l e.on, v) :: Γ) else DepN l Rs w1 K es Γ
def PostN (E : World → World → Prop) (N : Nat) (w1 : World) (d : Nat) (R : Value → World → Prop) : Exit → Act → World → Prop := fun e a' w' => e = .normal ∧ E w1 w' ∧ ∃ v, Fr N a' [(d, v)] ∧ R v w'
inductive OpsN (E : World → World → Prop) (P : Program) (l : List Oper) (N : Nat) (Γ : Env) (w0 : World) (Rs : List (Value → World → Prop)) : List Oper → Nat → Prop
  | nil {i : Nat} : OpsN E P l N Γ w0 Rs [] i
  | cons {o : Oper} {rest : List Oper} {i : Nat}
      (h : ∀ w1, E w0 w1 → DepN l Rs w1 (fun Γ' => Wl [o] P .seq l.toArray N Γ' (Hp w1 []) (PostN E N w1 (slotN o) (RAt Rs i))) o.after.toList Γ)
      (hs : OpsN E P l N Γ w0 Rs rest (i + 1)) : OpsN E P l N Γ w0 Rs (o :: rest) i
def bagN (N : Nat) (Γ : Env) : Nat → List Oper → Bool
  | _, [] => true
  | i, o :: rest => (match o.dst with | some d => Nat.blt d N && !(Γ.any fun p => Nat.beq p.1 d) && rest.all (fun o' => match o'.dst with | some d' => !(Nat.beq d' d) | none => true) | none => true) && o.after.toList.all (fun e => !(Region.binds .any e) || Nat.blt e.on i) && bagN N Γ (i + 1) rest
/-- a store waits for the operation that made its pointer -/
def bagP (l : List Oper) : Bool := (List.range l.length).all fun i => match l[i]? with
  | none => true
  | some o => match o.dst with
    | some _ => true
    | none => o.after.toList.any fun e => Region.binds .any e && Nat.blt e.on i && (match l[e.on]? with
      | none => false
      | some o' => match o'.dst with
        | some d => Nat.beq d (slotN o)
        | none => false)
theorem slotN_some {o : Oper} {d : Nat} (h : o.dst = some d) : slotN o = d := by
  unfold slotN; rw [h]
theorem bagP_out {l : List Oper} (h : bagP l = true) {i : Nat} {o : Oper} (hi : l[i]? = some o) (hd : o.dst = none) : ∃ e ∈ o.after.toList, Region.binds .any e = true ∧ e.on < i ∧ ∃ o', l[e.on]? = some o' ∧ o'.dst = some (slotN o) := by
  have := List.all_eq_true.1 h i (List.mem_range.2 (List.getElem?_eq_some_iff.1 hi).1)
  rw [hi] at this
  simp only [hd] at this
  obtain ⟨e, he, h2⟩ := List.any_eq_true.1 this
  simp only [Bool.and_eq_true] at h2
  obtain ⟨⟨h2, h3⟩, h4⟩ := h2
  refine ⟨e, he, h2, Nat.le_of_ble_eq_true h3, ?_⟩
  cases ho : l[e.on]? with
  | none => rw [ho] at h4; cases h4
  | some o' =>
    rw [ho] at h4
    cases hd' : o'.dst with
    | none => simp only [hd'] at h4; cases h4
    | some d => simp only [hd'] at h4; exact ⟨o', rfl, by rw [hd', Nat.eq_of_beq_eq_true h4]⟩
theorem OpsN.out {E : World → World → Prop} {P : Program} {l : List Oper} {N : Nat} {Γ : Env} {w0 : World} {Rs : List (Value → World → Prop)} {l' : List Oper} {k : Nat} (h : OpsN E P l N Γ w0 Rs l' k) {i : Nat} {o : Oper} (hi : l'[i]? = some o) :
    ∀ w1, E w0 w1 → DepN l Rs w1 (fun Γ' => Wl [o] P .seq l.toArray N Γ' (Hp w1 []) (PostN E N w1 (slotN o) (RAt Rs (k + i)))) o.after.toList Γ := by
  induction h generalizing i with
  | nil => simp at hi
  | @cons o' rest j h hs ih =>
    cases i with
    | zero => simp only [List.getElem?_cons_zero, Option.some.injEq] at hi; subst hi; exact h
    | succ i =>
      have := ih (i := i) (by simpa using hi)
      rw [show j + (i + 1) = j + 1 + i by omega]
      exact this
theorem bagN_out {N : Nat} {Γ : Env} {k : Nat} {l' : List Oper} (h : bagN N Γ k l' = true) {i : Nat} {o : Oper} (hi : l'[i]? = some o) :
    (∀ d, o.dst = some d → d < N ∧ (∀ t v, look Γ t = some v → t ≠ d) ∧ ∀ j o' d', i < j → l'[j]? = some o' → o'.dst = some d' → d' ≠ d) ∧ (∀ e ∈ o.after.toList, Region.binds .any e = true → e.on < k + i) := by
  induction l' generalizing k i with
  | nil => simp at hi
  | cons x rest ih =>
    simp only [bagN, Bool.and_eq_true] at h
    obtain ⟨⟨h1, h2⟩, h3⟩ := h
    cases i with
    | zero =>
      simp only [List.getElem?_cons_zero, Option.some.injEq] at hi
      subst hi
      refine ⟨fun d hd => ?_, fun e he hb => ?_⟩
      · rw [hd] at h1
        simp only [Bool.and_eq_true, Bool.not_eq_true', List.all_eq_true] at h1
        obtain ⟨⟨h1, h4⟩, h5⟩ := h1
        refine ⟨Nat.le_of_ble_eq_true h1, fun t v ht e => ?_, fun j o' d' hj ho' hd' e => ?_⟩
        · rw [← e, look_any ht] at h4; cases h4
        · cases j with
          | zero => omega
          | succ j =>
            have := h5 o' (List.mem_of_getElem? (by simpa using ho'))
            rw [hd', e] at this
            simp at this
      · have := List.all_eq_true.1 h2 e he
        rw [hb] at this
        simp only [Bool.not_true, Bool.false_or] at this
        exact Nat.le_of_ble_eq_true this
    | succ i =>
      have := ih h3 (i := i) (by simpa using hi)
      refine ⟨fun d hd => ?_, fun e he hb => by have := this.2 e he hb; omega⟩
      obtain ⟨g1, g2, g3⟩ := this.1 d hd
      refine ⟨g1, g2, fun j o' d' hj ho' hd' => ?_⟩
      cases j with
      | zero => omega
      | succ j => exact g3 j o' d' (by omega) (by simpa using ho') hd'
theorem DepN.run {l : List Oper} {Rs : List (Value → World → Prop)} {w1 : World} {K : Env → Prop} {N : Nat} {a : Act} {es : List Edge} {Γ : Env} (h : DepN l Rs w1 K es Γ) (ha : Fr N a Γ)
    (hes : ∀ e ∈ es, Region.binds .any e = true → ∃ v, a.tmps[slotAt l e.on]? = some v ∧ RAt Rs e.on v w1) : ∃ Γ', Fr N a Γ' ∧ K Γ' := by
  induction es generalizing Γ with
  | nil => exact ⟨Γ, ha, h⟩
  | cons e es ih =>
    unfold DepN at h
    split at h
    · rename_i hb
      obtain ⟨v, hv, hr⟩ := hes e (by simp) hb
      exact ih (h v hr) (ha.cons hv) fun e he => hes e (by simp [he])
    · exact ih h ha fun e he => hes e (by simp [he])
theorem SelN.run {l : List Oper} {Rs : List (Value → World → Prop)} {w1 : World} {K : Env → Prop} {N : Nat} {a : Act} {is : List Nat} {Γ : Env} (h : SelN l Rs w1 K is Γ) (ha : Fr N a Γ)
    (hes : ∀ i ∈ is, ∃ v, a.tmps[slotAt l i]? = some v ∧ RAt Rs i v w1) : ∃ Γ', Fr N a Γ' ∧ K Γ' := by
  induction is generalizing Γ with
  | nil => exact ⟨Γ, ha, h⟩
  | cons i is ih =>
    obtain ⟨v, hv, hr⟩ := hes i (by simp)
    exact ih (h v hr) (ha.cons hv) fun e he => hes e (by simp [he])
structure InvN (E : World → World → Prop) (l : List Oper) (N : Nat) (Γ : Env) (w0 : World) (Rs : List (Value → World → Prop)) (listed : Array Bool) (a : Act) (w : World) : Prop where
  fr : Fr N a Γ
  ext : E w0 w
  held : ∀ i o, l[i]? = some o → listed.getD i true = true → ∃ v, a.tmps[slotN o]? = some v ∧ RAt Rs i v w
  down : ∀ i o, l[i]? = some o → listed.getD i true = true → ∀ e ∈ o.after.toList, Region.binds .any e = true → listed.getD e.on true = true
theorem InvN.step {E : World → World → Prop} (hE : ∀ a b c, E a b → E b c → E a c) {P : Program} {l : List Oper} {N : Nat} {Γ : Env} {w0 : World} {Rs : List (Value → World → Prop)} {Q : Exit → Act → World → Prop} {listed : Array Bool} {a : Act} {w : World} (hc : bagN N Γ 0 l = true) (hp : bagP l = true) (hst : BagSt E Rs)
    (hops : OpsN E P l N Γ w0 Rs l 0) (hi : InvN E l N Γ w0 Rs listed a w) (hsz : listed.size = l.length) {i : Nat} (hr : i ∈ Region.ready .any l.toArray listed) {K : Act → World → Prop}
    (hK : ∀ a' w', InvN E l N Γ w0 Rs (listed.setIfInBounds i true) a' w' → K a' w') : wpOp P l.toArray Q i K a w := by
  unfold Region.ready at hr
  rw [List.mem_filter] at hr
  obtain ⟨hlt, hr⟩ := hr
  simp only [List.size_toArray, List.mem_range] at hlt
  have ho : l[i]? = some l[i] := List.getElem?_eq_getElem hlt
  generalize l[i] = o at ho
  have hoa : l.toArray[i]? = some o := by simpa using ho
  simp only [hoa, Option.map_some, Option.getD_some, Bool.and_eq_true, Bool.not_eq_true', Array.all_eq_true'] at hr
  obtain ⟨hun', hedges⟩ := hr
  obtain ⟨hdd, hed⟩ := bagN_out hc ho
  have hop := hops.out ho w hi.ext
  rw [Nat.zero_add] at hop
  have hwait : ∀ e ∈ o.after.toList, Region.binds .any e = true → listed.getD e.on true = true := fun e he hb => by
    have h1 := hedges e (by simpa using he)
    rw [hb] at h1
    simp only [Bool.not_true, Bool.false_or] at h1
    simp only [Array.getD_eq_getD_getElem?] at h1 ⊢
    cases hx : listed[e.on]? with
    | none => rfl
    | some b => rw [hx] at h1; exact h1
  obtain ⟨Γ', hf', hW⟩ := hop.run hi.fr fun e he hb => by
    have h2 := hed e he hb
    have h3 : l[e.on]? = some l[e.on] := List.getElem?_eq_getElem (by omega)
    obtain ⟨v, hv, hR⟩ := hi.held e.on _ h3 (hwait e he hb)
    exact ⟨v, by unfold slotAt; rw [h3]; exact hv, hR⟩
  have hwl : wpList P l.toArray (PostN E N w (slotN o) (RAt Rs i)) [o] a w := hW.elim a w hf' (Hp.start w)
  have key : ∀ a' w', PostN E N w (slotN o) (RAt Rs i) .normal a' w' → (∃ v, a'.tmps = (a.put o.dst v).tmps) → InvN E l N Γ w0 Rs (listed.setIfInBounds i true) a' w' := by
    rintro a' w' ⟨_, he, v, hfr, hR⟩ ⟨u, hu⟩
    have hne : ∀ t, o.dst ≠ some t → a'.tmps[t]? = a.tmps[t]? := fun t ht => by
      rw [hu]
      cases hd : o.dst with
      | none => rfl
      | some d => simp [Act.put, Array.getElem?_setIfInBounds_ne (show d ≠ t from fun e => ht (by rw [hd, e]))]
    have hset : ∀ j, listed.getD j true = true → (listed.setIfInBounds i true).getD j true = true := fun j hj => by
      by_cases e : i = j
      · subst e; simp [Array.getD_eq_getD_getElem?, hsz, hlt]
      · rw [getD_set e]; exact hj
    refine ⟨⟨hfr.defers, hfr.size, fun t x ht => ?_⟩, hE _ _ _ hi.ext he, fun j oj hj hl => ?_, fun j oj hj hl e he hb => ?_⟩
    · rw [hne t fun e => (hdd t e).2.1 t x ht rfl]; exact hi.fr.get t x ht
    · by_cases e : i = j
      · subst e
        rw [ho] at hj
        cases hj
        exact ⟨v, hfr.get _ _ (by simp [look]), hR⟩
      · rw [getD_set e] at hl
        obtain ⟨x, hx, hRx⟩ := hi.held j oj hj hl
        refine ⟨x, ?_, hst.out he hRx⟩
        rw [hne _ ?_]
        · exact hx
        · intro hd
          cases hdj : oj.dst with
          | some d =>
            rw [slotN_some hdj] at hd
            rcases Nat.lt_or_gt_of_ne e with e | e
            · exact (hdd d hd).2.2 j oj d e hj hdj rfl
            · exact ((bagN_out hc hj).1 d hdj).2.2 i o d e ho hd rfl
          | none =>
            obtain ⟨e', he', hb', _, o', ho', hd'⟩ := bagP_out hp hj hdj
            have h1 := hi.down j oj hj hl e' he' hb'
            by_cases e2 : i = e'.on
            · rw [← e2, hun'] at h1; cases h1
            · rcases Nat.lt_or_gt_of_ne e2 with e3 | e3
              · exact (hdd _ hd).2.2 _ o' _ e3 ho' hd' rfl
              · exact ((bagN_out hc ho').1 _ hd').2.2 i o _ e3 ho hd rfl
    · by_cases e2 : i = j
      · subst e2
        rw [ho] at hj
        cases hj
        exact hset _ (hwait e he hb)
      · rw [getD_set e2] at hl
        exact hset _ (hi.down j oj hj hl e he hb)
  unfold wpOp
  simp only [hoa]
  simp only [wpList] at hwl
  split
  · rename_i hw
    rw [if_pos hw] at hwl
    rcases hwl with h | ⟨_, x, y, h⟩
    · have h1 := wp_only (fun _ _ _ h => h.1) (wp_tmps h)
      refine .inl ?_
      have h2 := Oper.wp_mono (fun a' w' hh => hK a' w' (key a' w' hh.1 hh.2)) h1
      unfold Oper.wp at *
      generalize (execOp a.eval o).run P w = r at *
      cases r with
      | ok n w' =>
        cases n <;> simp only [Oper.upon] at h2 ⊢
        case value u => exact h2
        case skip => exact h2
        case defer d => exact h2
        case enter f args => exact Calls.mono h2 (fun e w'' he => by cases e <;> first | exact he | exact he.elim | (obtain ⟨_, _, hf⟩ := he; exact hf.elim))
        case row row args => exact h2
      | halt x w' => cases x <;> simp only [Oper.upon] at h2
    · cases h.1
  · rename_i hw
    rw [if_neg hw] at hwl
    exact hK _ _ (key _ _ hwl ⟨undef, rfl⟩)
theorem bagN_done {l : List Oper} {N : Nat} {Γ : Env} {listed : Array Bool} (hc : bagN N Γ 0 l = true) (hsz : listed.size = l.length) (hr : Region.ready .any l.toArray listed = []) : ∀ i, listed.getD i true = true := by
  intro i
  induction i using Nat.strongRecOn with
  | _ i ih =>
    cases hl : listed.getD i true with
    | true => rfl
    | false =>
      have hlt : i < l.length := by
        rcases Nat.lt_or_ge i l.length with h | h
        · exact h
        · rw [Array.getD_eq_getD_getElem?, Array.getElem?_eq_none (by omega)] at hl; cases hl
      have ho : l[i]? = some l[i] := List.getElem?_eq_getElem hlt
      generalize l[i] = o at ho
      have hoa : l.toArray[i]? = some o := by simpa using ho
      obtain ⟨_, hed⟩ := bagN_out hc ho
      have : i ∈ Region.ready .any l.toArray listed := by
        unfold Region.ready
        rw [List.mem_filter]
        refine ⟨by simpa using hlt, ?_⟩
        simp only [hoa, Option.map_some, Option.getD_some, Bool.and_eq_true, Bool.not_eq_true', Array.all_eq_true']
        refine ⟨hl, fun e he => ?_⟩
        rw [Bool.or_eq_true]
        cases hb : Region.binds .any e with
        | false => exact .inl rfl
        | true =>
          have h1 := hed e (by simpa using he) hb
          have h2 := ih e.on (by omega)
          refine .inr ?_
          simp only [Array.getD_eq_getD_getElem?] at h2 ⊢
          rw [Array.getElem?_eq_getElem (by omega)] at h2 ⊢
          exact h2
      rw [hr] at this
      cases this
theorem bagN_run {E : World → World → Prop} (hE : ∀ a b c, E a b → E b c → E a c) {P : Program} {l : List Oper} {N : Nat} {Γ : Env} {w0 : World} {Rs : List (Value → World → Prop)} {Q : Exit → Act → World → Prop} (hc : bagN N Γ 0 l = true) (hp : bagP l = true) (hst : BagSt E Rs) (hops : OpsN E P l N Γ w0 Rs l 0)
    (hend : ∀ a w, InvN E l N Γ w0 Rs (Array.replicate l.length true) a w → Q .normal a w) :
    ∀ n listed a w, listed.size = l.length → listed.toList.count false = n → InvN E l N Γ w0 Rs listed a w → wpAny P .any l.toArray Q n listed a w := by
  have hfull : ∀ listed a w, listed.size = l.length → Region.ready .any l.toArray listed = [] → InvN E l N Γ w0 Rs listed a w → Q .normal a w := fun listed a w hsz hr hi =>
    hend a w ⟨hi.fr, hi.ext, fun i o ho _ => hi.held i o ho (bagN_done hc hsz hr i), fun i o ho _ e he hb => by
      have := ((bagN_out hc ho).2 e he hb)
      have := (List.getElem?_eq_some_iff.1 ho).1
      simp [Array.getD_eq_getD_getElem?, show e.on < l.length by omega]⟩
  intro n
  induction n with
  | zero =>
    intro listed a w hsz hn hi
    have hr : Region.ready .any l.toArray listed = [] := by
      unfold Region.ready
      rw [List.filter_eq_nil_iff]
      intro i hm
      have hm' : i < listed.size := by rw [hsz]; simpa using hm
      have h1 : false ∉ listed.toList := List.count_eq_zero.1 hn
      have h2 : listed[i] ∈ listed.toList := by simp
      have h3 : listed[i] = true := by
        cases e : listed[i]
        · rw [e] at h2; exact (h1 h2).elim
        · rfl
      rw [Array.getD_eq_getD_getElem?, Array.getElem?_eq_getElem hm', h3]
      simp
    exact ⟨hr, hfull _ _ _ hsz hr hi⟩
  | succ n ih =>
    intro listed a w hsz hn hi
    refine ⟨fun hr => hfull _ _ _ hsz hr hi, fun i hr => ?_⟩
    refine hi.step hE hc hp hst hops hsz hr fun a' w' hi' => ih _ a' w' (by simp [hsz]) ?_ hi'
    unfold Region.ready at hr
    rw [List.mem_filter] at hr
    obtain ⟨hm, hr⟩ := hr
    have hm' : i < listed.size := by rw [hsz]; simpa using hm
    simp only [Bool.and_eq_true, Bool.not_eq_true'] at hr
    have h3 : listed[i] = false := by
      have := hr.1
      rw [Array.getD_eq_getD_getElem?, Array.getElem?_eq_getElem hm'] at this
      exact this
    rw [Array.toList_setIfInBounds, List.count_set (by simpa using hm')]
    simp [h3, hn]

section
variable {P : Program} {N : Nat} {Γ : Env} {C : World → Prop} {Q : Exit → Act → World → Prop}
/-- a region in whatever order, told operation by operation -/
theorem St.bagN {i : Nat} {l : List Oper} {w0 : World} (E : World → World → Prop) (hE : ∀ a b c, E a b → E b c → E a c) (hE0 : ∀ w, Hp w0 [] w → E w0 w.drew) (Rs : List (Value → World → Prop)) (sel : List Nat) (hm : P.follows .mixedOrders = true) (hc : bagN N Γ 0 l = true) (hp : bagP l = true) (hst : BagSt E Rs) (hsel : (sel.all fun i => Nat.blt i l.length) = true)
    (hops : OpsN E P l N Γ w0 Rs l 0) (hend : ∀ w1, E w0 w1 → SelN l Rs w1 (fun Γ' => Gt N .normal Γ' (Hp w1 []) Q) sel Γ) : St (.region i l.toArray true) P N Γ (Hp w0 []) Q := St.intro fun a w ha hw => by
  refine wp_region_any hm ?_
  have := bagN_run hE (Q := Q) hc hp hst hops (fun a w hi => by
    obtain ⟨Γ', hf, hK⟩ := (hend w hi.ext).run hi.fr fun j hj => by
      have hj' : j < l.length := Nat.le_of_ble_eq_true (List.all_eq_true.1 hsel j hj)
      have ho : l[j]? = some l[j] := List.getElem?_eq_getElem hj'
      obtain ⟨v, hv, hR⟩ := hi.held j _ ho (by simp [Array.getD_eq_getD_getElem?, hj'])
      exact ⟨v, by unfold slotAt; rw [ho]; exact hv, hR⟩
    exact hK.elim a w hf (Hp.start w)) l.length (Array.replicate l.length false) a w.drew (by simp) (by simp [List.count_replicate]) ⟨ha, hE0 w hw, fun i o ho hl => by
      have : i < l.length := (List.getElem?_eq_some_iff.1 ho).1
      simp [Array.getD_eq_getD_getElem?, this] at hl, fun i o ho hl => by
      have : i < l.length := (List.getElem?_eq_some_iff.1 ho).1
      simp [Array.getD_eq_getD_getElem?, this] at hl⟩
  simpa using this
theorem Gt.endN {E : World → World → Prop} {d : Nat} {v : Value} {w1 : World} {R : Value → World → Prop} (hv : look Γ d = some v) (h : ∀ w', C w' → E w1 w' ∧ R v w') : Gt N .normal Γ C (PostN E N w1 d R) :=
  Gt.intro fun a w ha hw => ⟨rfl, (h w hw).1, v, ha.sub (.cons hv .nil), (h w hw).2⟩
end
end Go.Pt
