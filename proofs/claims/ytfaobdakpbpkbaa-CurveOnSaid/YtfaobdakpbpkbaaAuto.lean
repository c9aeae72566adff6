/-
  Concrete code by itself: calls entered, loops unrolled. For closed computations (the laws' own examples) and for calls on nothing.
-/
import Derived.Test.YtfaobdakpbpkbaaRul
import Derived.LoopN
namespace Go.Pt

/-- a function and the number of its slots -/
class FnE (P : Program) (f : Nat) (fn : outParam Func) (N : outParam Nat) : Prop where
  out : P.funcs[f]? = some fn ∧ fn.ntmps = N
def argsE : Nat → List Value → Env
  | _, [] => []
  | i, v :: r => (i, v) :: argsE (i + 1) r
theorem argsE_get (l : List Value) : ∀ (k t : Nat) (v : Value), look (argsE k l) t = some v → k ≤ t ∧ l[t - k]? = some v := by
  induction l with
  | nil => intro k t v h; simp [argsE, look] at h
  | cons x r ih =>
    intro k t v h
    simp only [argsE, look] at h
    by_cases e : t = k
    · subst e; simp at h; subst h; simp
    · rw [beqFalse e] at h
      obtain ⟨h1, h2⟩ := ih (k + 1) t v (by simpa using h)
      refine ⟨by omega, ?_⟩
      rw [show t - k = (t - (k + 1)) + 1 by omega, List.getElem?_cons_succ]
      exact h2

section
variable {P : Program} {N N' : Nat} {ops : Array Oper} {rest : List Oper} {Γ Γ' : Env} {C : World → Prop} {Q : Exit → Act → World → Prop} {d : Nat} {ty : TypeId} {pos : String} {af : Array Edge}
/-- what a callee that is entered leaves to its caller -/
def InlPost (P : Program) (ops : Array Oper) (N d : Nat) (rest : List Oper) (Γ : Env) (Q : Exit → Act → World → Prop) : Ending → World → Prop :=
  fun e w' => ∃ v C', e = .returned v ∧ C' w' ∧ Wl rest P .seq ops N ((d, v) :: Γ) C' Q
def InlPost0 (P : Program) (ops : Array Oper) (N : Nat) (rest : List Oper) (Γ : Env) (Q : Exit → Act → World → Prop) : Ending → World → Prop :=
  fun e w' => ∃ v C', e = .returned v ∧ C' w' ∧ Wl rest P .seq ops N Γ C' Q
theorem enterC {f : FuncId} {fn : Func} {c : Code} {vs : List Value} {R : Ending → World → Prop} (hf : P.funcs[f]? = some fn) (hn : fn.ntmps = N') (hb : fn.body = some c) (hN : Nat.ble vs.length N' = true)
    (h : St c P N' (argsE 0 vs) C (bodyPost P fn R)) (w : World) (hw : C w) : Calls P f vs.toArray w R := by
  refine calls_of_wp hf hb ?_
  have := h.elim _ w (Fr.start (N := N') (Nat.le_of_ble_eq_true hN) fun t v ht => by have := argsE_get vs 0 t v ht; simpa using this.2) hw
  rw [hn]
  exact this
theorem Wl.inline {f : FuncId} {fn : Func} {c : Code} {xs : Array Operand} {vs : List Value} {ts : Array TypeId} [he : FnE P f fn N'] [Ent P f] (hd : Nat.blt d N = true) (hx : Evs Γ xs.toList vs) (hb : fn.body = some c) (hN : Nat.ble vs.length N' = true)
    (h : St c P N' (argsE 0 vs) C (bodyPost P fn (InlPost P ops N d rest Γ Q))) : Wl (⟨some d, .call { callee := .value (.func f), args := xs, argTypes := ts }, ty, pos, af, none⟩ :: rest) P .seq ops N Γ C Q :=
  Wl.callC hd hx fun w hw => enterC he.out.1 he.out.2 hb hN h w hw
theorem Wl.inline0 {f : FuncId} {fn : Func} {c : Code} {xs : Array Operand} {vs : List Value} {ts : Array TypeId} [he : FnE P f fn N'] [Ent P f] (hx : Evs Γ xs.toList vs) (hb : fn.body = some c) (hN : Nat.ble vs.length N' = true)
    (h : St c P N' (argsE 0 vs) C (bodyPost P fn (InlPost0 P ops N rest Γ Q))) : Wl (⟨none, .call { callee := .value (.func f), args := xs, argTypes := ts }, ty, pos, af, none⟩ :: rest) P .seq ops N Γ C Q :=
  Wl.call0 (fun _ h => by cases h) hx (fun w hw => enterC he.out.1 he.out.2 hb hN h w hw) (fun _ h => by cases h)
theorem Wl.inlineN {f : FuncId} {fn : Func} {c : Code} {xs : Array Operand} {vs : List Value} {ts : Array TypeId} [he : FnE P f fn N'] [Ent P f] (hd : Nat.blt d N = true) (hf : look Γ d = none) (hx : Evs Γ xs.toList vs) (hb : fn.body = some c) (hN : Nat.ble vs.length N' = true)
    (h : St c P N' (argsE 0 vs) C (bodyPost P fn (InlPost0 P ops N rest Γ Q))) : Wl (⟨some d, .call { callee := .value (.func f), args := xs, argTypes := ts }, ty, pos, af, none⟩ :: rest) P .seq ops N Γ C Q :=
  Wl.call0 (fun e h => by cases h; exact hd) hx (fun w hw => enterC he.out.1 he.out.2 hb hN h w hw) (fun e h => by cases h; exact hf)
variable {fn : Func} {t u s r : Nat} {v v' v'' v3 : Value}
theorem Gt.inl1 (hr : fn.results = #[.tmp t]) (ht : look Γ' t = some v) (h : Wl rest P .seq ops N ((d, v) :: Γ) C Q) : Gt N' .ret Γ' C (bodyPost P fn (InlPost P ops N d rest Γ Q)) :=
  Gt.out1 hr ht fun _ hw => ⟨_, C, rfl, hw, h⟩
theorem Gt.inl2 (hr : fn.results = #[.tmp t, .tmp u]) (ht : look Γ' t = some v) (hu : look Γ' u = some v') (h : Wl rest P .seq ops N ((d, .tuple #[v, v']) :: Γ) C Q) : Gt N' .ret Γ' C (bodyPost P fn (InlPost P ops N d rest Γ Q)) :=
  Gt.out2 hr ht hu fun _ hw => ⟨_, C, rfl, hw, h⟩
theorem Gt.inl3 (hr : fn.results = #[.tmp t, .tmp u, .tmp s]) (ht : look Γ' t = some v) (hu : look Γ' u = some v') (hs : look Γ' s = some v'') (h : Wl rest P .seq ops N ((d, .tuple #[v, v', v'']) :: Γ) C Q) : Gt N' .ret Γ' C (bodyPost P fn (InlPost P ops N d rest Γ Q)) :=
  Gt.out3 hr ht hu hs fun _ hw => ⟨_, C, rfl, hw, h⟩
theorem Gt.inl4 (hr : fn.results = #[.tmp t, .tmp u, .tmp s, .tmp r]) (ht : look Γ' t = some v) (hu : look Γ' u = some v') (hs : look Γ' s = some v'') (h3 : look Γ' r = some v3) (h : Wl rest P .seq ops N ((d, .tuple #[v, v', v'', v3]) :: Γ) C Q) :
    Gt N' .ret Γ' C (bodyPost P fn (InlPost P ops N d rest Γ Q)) := Gt.out4 hr ht hu hs h3 fun _ hw => ⟨_, C, rfl, hw, h⟩
theorem Gt.inl00 (hr : fn.results = #[]) (h : Wl rest P .seq ops N ((d, .tuple #[]) :: Γ) C Q) : Gt N' .ret Γ' C (bodyPost P fn (InlPost P ops N d rest Γ Q)) := Gt.out0 hr fun _ hw => ⟨_, C, rfl, hw, h⟩
theorem Gt.inl00n (hr : fn.results = #[]) (h : Wl rest P .seq ops N ((d, .tuple #[]) :: Γ) C Q) : Gt N' .normal Γ' C (bodyPost P fn (InlPost P ops N d rest Γ Q)) := Gt.out0n hr fun _ hw => ⟨_, C, rfl, hw, h⟩
theorem Gt.inl0 (hr : fn.results = #[]) (h : Wl rest P .seq ops N Γ C Q) : Gt N' .ret Γ' C (bodyPost P fn (InlPost0 P ops N rest Γ Q)) := Gt.out0 hr fun _ hw => ⟨_, C, rfl, hw, h⟩
theorem Gt.inl0n (hr : fn.results = #[]) (h : Wl rest P .seq ops N Γ C Q) : Gt N' .normal Γ' C (bodyPost P fn (InlPost0 P ops N rest Γ Q)) := Gt.out0n hr fun _ hw => ⟨_, C, rfl, hw, h⟩
end

/-- a result that lies in a variable's cells -/
theorem run_results_cell {P : Program} {fn : Func} {t ty n c i : Nat} {w : World} {tmps : Array Value} {xs : List Value} [ht : TyA P ty n] (hr : fn.results = #[.cell t ty]) (hv : tmps[t]? = some (.pointer (some ⟨c, i, none⟩))) (hn : xs.length = n)
    (hc : ∀ j v, xs[j]? = some v → w.cell? (Addr.add ⟨c, i, none⟩ j) = some v) : (results fn tmps).run P w = .ok (.agg xs.toArray) w := by
  have h := run_loadA (P := P) (t := ty) hn hc
  simp [results, hr, hv, asAddr, h]
theorem Gt.outC {P : Program} {N : Nat} {Γ : Env} {w0 : World} {H : List Blk} {fn : Func} {R : Ending → World → Prop} {t ty n c i bt : Nat} {cs xs : List Value} [TyA P ty n] (hr : fn.results = #[.cell t ty]) (ht : look Γ t = some (.pointer (some ⟨c, i, none⟩))) (hm : (⟨c, cs, bt⟩ : Blk) ∈ H) (hi' : LSub cs i n xs)
    (h : ∀ w, Hp w0 H w → R (.returned (.agg xs.toArray)) w) : Gt N .ret Γ (Hp w0 H) (bodyPost P fn R) := Gt.intro fun a w ha hw => by
  have hi := hi'.out.1
  have hn := hi'.out.2
  refine ⟨ha.defers, _, run_results_cell hr (ha.get _ _ ht) hn (fun j v hj => ?_), h w hw⟩
  rw [addLit]
  refine hw.cell hm ?_
  subst hi
  rw [List.getElem?_take] at hj
  split at hj
  · simpa [List.getElem?_drop] using hj
  · cases hj
theorem Gt.inlC {P : Program} {N N' d : Nat} {ops : Array Oper} {rest : List Oper} {Γ Γ' : Env} {Q : Exit → Act → World → Prop} {w0 : World} {H : List Blk} {fn : Func} {t ty n c i bt : Nat} {cs xs : List Value} [TyA P ty n] (hr : fn.results = #[.cell t ty]) (ht : look Γ' t = some (.pointer (some ⟨c, i, none⟩))) (hm : (⟨c, cs, bt⟩ : Blk) ∈ H) (hi' : LSub cs i n xs)
    (h : Wl rest P .seq ops N ((d, .agg xs.toArray) :: Γ) (Hp w0 H) Q) : Gt N' .ret Γ' (Hp w0 H) (bodyPost P fn (InlPost P ops N d rest Γ Q)) := Gt.outC hr ht hm hi' fun _ hw => ⟨_, Hp w0 H, rfl, hw, h⟩

/-! ### loops, round by round -/
/-- what is known twice of a slot is known once -/
inductive Clean : List Nat → Env → Env → Prop
  | nil {seen : List Nat} : Clean seen [] []
  | skip {seen : List Nat} {t : Nat} {v : Value} {r r' : Env} (h : (seen.any (Nat.beq t)) = true) (hs : Clean seen r r') : Clean seen ((t, v) :: r) r'
  | keep {seen : List Nat} {t : Nat} {v : Value} {r r' : Env} (h : (seen.any (Nat.beq t)) = false) (hs : Clean (t :: seen) r r') : Clean seen ((t, v) :: r) ((t, v) :: r')
theorem Clean.look {seen : List Nat} {Γ Γ' : Env} (h : Clean seen Γ Γ') {t : Nat} {v : Value} (hs : (seen.any (Nat.beq t)) = false) (ht : Pt.look Γ' t = some v) : Pt.look Γ t = some v := by
  induction h with
  | nil => simp [Pt.look] at ht
  | @skip seen d u r r' h hr ih =>
    simp only [Pt.look]
    have : t ≠ d := fun e => by subst e; rw [h] at hs; cases hs
    rw [beqFalse this]
    exact ih hs ht
  | @keep seen d u r r' h hr ih =>
    simp only [Pt.look] at ht ⊢
    by_cases e : t = d
    · subst e; simpa using ht
    · rw [beqFalse e] at ht ⊢
      refine ih ?_ ht
      simp only [List.any_cons, Bool.or_eq_false_iff]
      exact ⟨beqFalse e, hs⟩
/-- of the range k .. the look-ups of Γ' are those of Γ -/
theorem Fr.clean {N : Nat} {a : Act} {Γ Γ' : Env} (h : Fr N a Γ) (hs : Clean [] Γ Γ') : Fr N a Γ' := ⟨h.defers, h.size, fun t v ht => h.get t v (hs.look rfl ht)⟩
def StR (c : Code) (n : Nat) (P : Program) (N : Nat) (Γ : Env) (C : World → Prop) (Q : Exit → Act → World → Prop) : Prop := ∀ a w, Fr N a Γ → C w → Code.rounds P c Q n a w
section
variable {P : Program} {N n : Nat} {Γ Γ' : Env} {C : World → Prop} {Q Q' : Exit → Act → World → Prop} {c : Code}
theorem St.loopN (n : Nat) (h : StR c n P N Γ C Q) : St (.loop c) P N Γ C Q := St.intro fun a w ha hw => wp_loop_rounds n (h a w ha hw)
theorem StR.step (hs : Clean [] Γ Γ') (h : St c P N Γ' C (Exit.then (Code.rounds P c Q n) Q)) : StR c (n + 1) P N Γ C Q := fun a w ha hw => h.elim a w (ha.clean hs) hw
theorem Gt.nextR (h : StR c n P N Γ C Q) : Gt N .normal Γ C (Exit.then (Code.rounds P c Q n) Q') := Gt.intro fun a w ha hw => h a w ha hw
end
attribute [irreducible] StR
end Go.Pt
