/-
  10 texts, one behind the other; each says what it proves. Conditions: as each text says.
-/
import Derived.Test.YtfaobdakpbpkbaaDoorM01
import Derived.Test.YtfaobdakpbpkbaaDoorProg
import Derived.KernelRfl
section
/-
  A region that draws its order and holds several operations that turn the world: what only reads is taken first; then each operation that may come next, in turn.
-/
namespace Go.Pt

section
variable {P : Program} {ops : Array Oper} {N n : Nat} {Γ : Env} {C D : World → Prop} {Q : Act → World → Prop}
/-- what is left of the region, listed being done -/
def Mt (P : Program) (ops : Array Oper) (N n : Nat) (listed : Array Bool) (Γ : Env) (D C : World → Prop) (Q : Act → World → Prop) : Prop :=
  ∀ a w, Fr N a Γ → D w → C w → wpAnyC P ops C Q n listed a w
def MtQ (P : Program) (ops : Array Oper) (C : World → Prop) (Q : Act → World → Prop) (n : Nat) (listed : Array Bool) : Exit → Act → World → Prop := fun _ a w => C w → wpAnyC P ops C Q n listed a w
def MtE (P : Program) (ops : Array Oper) (C : World → Prop) (Q : Act → World → Prop) (n : Nat) (listed : Array Bool) : Exit → Act → World → Prop := fun e a w => e = .normal ∧ C w ∧ wpAnyC P ops C Q n listed a w
theorem Mt.back {listed : Array Bool} (h : Mt P ops N n listed Γ D C Q) : Gt N .normal Γ D (MtQ P ops C Q n listed) := Gt.intro fun a w ha hD hC => h a w ha hD hC
theorem Mt.backE {listed : Array Bool} (hc : ∀ w, D w → C w) (h : Mt P ops N n listed Γ D C Q) : Gt N .normal Γ D (MtE P ops C Q n listed) := Gt.intro fun a w ha hD => ⟨rfl, hc w hD, h a w ha hD (hc w hD)⟩
/-- nothing is left -/
theorem Mt.done {listed : Array Bool} (hr : (Region.ready .any ops listed).isEmpty = true) (h : ∀ a w, Fr N a Γ → D w → Q a w) : Mt P ops N n listed Γ D C Q := fun a w ha hD hC => by
  have hr' : Region.ready .any ops listed = [] := by simpa using hr
  cases n with
  | zero => exact ⟨hC, hr', h a w ha hD⟩
  | succ n => exact ⟨hC, fun _ => h a w ha hD, fun i hi => by rw [hr'] at hi; cases hi⟩
/-- an operation that only reads -/
theorem Mt.pure {listed : Array Bool} (i : Nat) {o : Oper} (hs : Region.noSelect ops = true) (hi : ops[i]? = some o) (he : effB o = false) (hr : (Region.ready .any ops listed).contains i = true) (hf : Region.free .any ops listed i = true)
    (h : Wl [o] P (.mix D) ops N Γ C (MtQ P ops C Q n (listed.setIfInBounds i true))) : Mt P ops N (n + 1) listed Γ D C Q := fun a w ha hD hC => by
  have h := h.elimM a w ha hD hC
  simp only [wpE, he] at h
  by_cases hw : Region.wanted o (yielded ops a.tmps) = true
  · rw [if_pos hw] at h
    obtain ⟨v, hv, h⟩ := h
    exact firstC hi hs n listed a w (Region.free_spec hi hf) (by simpa using hr) (.inl ⟨hw, hv⟩) (h hC)
  · rw [if_neg hw] at h
    exact firstC hi hs n listed a w (Region.free_spec hi hf) (by simpa using hr) (.inr ⟨by simpa using hw, rfl⟩) (h hC)
/-- one that turns the world, told by itself -/
theorem Mt.op {listed : Array Bool} {i : Nat} {o : Oper} (hi : ops[i]? = some o) (h : Wl [o] P .seq ops N Γ D (MtE P ops C Q n (listed.setIfInBounds i true))) (a : Act) (w : World) (ha : Fr N a Γ) (hD : D w) :
    wpOp P ops (onlyN Q) i (wpAnyC P ops C Q n (listed.setIfInBounds i true)) a w := by
  have h := h.elim a w ha hD
  unfold wpOp
  simp only [hi]
  simp only [wpList] at h
  split
  · rename_i hw
    rw [if_pos hw] at h
    rcases h with h | ⟨_, x, y, h⟩
    · refine .inl ?_
      have h1 := wp_only (fun _ _ _ h => h.1) h
      have h2 := Oper.wp_mono (fun a' w' hh => hh.2.2) h1
      unfold Oper.wp at *
      generalize (execOp a.eval o).run P w = r at *
      cases r with
      | ok n w' =>
        cases n <;> simp only [Oper.upon] at h2 ⊢
        case value u => exact h2
        case skip => exact h2
        case defer d => exact h2
        case enter f args => exact Calls.mono h2 (fun e w'' he => by cases e <;> first | exact he | exact he.elim | (obtain ⟨_, _, hf⟩ := he; exact hf.elim))
        case row row args => exact h2
      | halt x w' => cases x <;> simp only [Oper.upon] at h2
    · cases h.1
  · rename_i hw
    rw [if_neg hw] at h
    exact h.2.2
theorem Mt.eff1 {listed : Array Bool} {i : Nat} {o : Oper} (hr : Region.ready .any ops listed = [i]) (hi : ops[i]? = some o) (h : Wl [o] P .seq ops N Γ D (MtE P ops C Q n (listed.setIfInBounds i true))) : Mt P ops N (n + 1) listed Γ D C Q := fun a w ha hD hC => by
  refine ⟨hC, fun e => (by rw [hr] at e; cases e), fun j hj => ?_⟩
  rw [hr, List.mem_singleton] at hj
  subst hj
  exact Mt.op hi h a w ha hD
theorem Mt.eff2 {listed : Array Bool} {i j : Nat} {o o' : Oper} (hr : Region.ready .any ops listed = [i, j]) (hi : ops[i]? = some o) (hj : ops[j]? = some o') (h : Wl [o] P .seq ops N Γ D (MtE P ops C Q n (listed.setIfInBounds i true)))
    (h' : Wl [o'] P .seq ops N Γ D (MtE P ops C Q n (listed.setIfInBounds j true))) : Mt P ops N (n + 1) listed Γ D C Q := fun a w ha hD hC => by
  refine ⟨hC, fun e => (by rw [hr] at e; cases e), fun k hk => ?_⟩
  rw [hr] at hk
  simp only [List.mem_cons, List.not_mem_nil, or_false] at hk
  rcases hk with rfl | rfl
  · exact Mt.op hi h a w ha hD
  · exact Mt.op hj h' a w ha hD
end
section
variable {P : Program} {N : Nat} {Γ : Env} {C B : World → Prop} {Q : Exit → Act → World → Prop}
/-- a region in whatever order, B a class of worlds that all of it keeps -/
theorem St.tree {i : Nat} {l : List Oper} (B : World → Prop) (hm : P.follows .mixedOrders = true) (hC : ∀ w, C w → C w.drew ∧ B w.drew) (h : Mt P l.toArray N l.length (Array.replicate l.length false) Γ C B (fun a w => Q .normal a w)) :
    St (.region i l.toArray true) P N Γ C Q := St.intro fun a w ha hw => by
  refine wp_mono (wp_region_any (Q := onlyN fun a' w' => Q .normal a' w') hm ?_) ?_
  · have := wpAny_of_C _ _ _ _ (h a w.drew ha (hC w hw).1 (hC w hw).2)
    simpa using this
  · intro e a w h
    cases e <;> first | exact h | exact h.elim
theorem Mt.toGt {ops : Array Oper} {n : Nat} {listed : Array Bool} {D : World → Prop} (hr : (Region.ready .any ops listed).isEmpty = true) (h : Gt N .normal Γ D Q) : Mt P ops N n listed Γ D C (fun a w => Q .normal a w) := Mt.done hr fun a w ha hD => h.elim a w ha hD
end
end Go.Pt
end
section
/-
  CLOSED FACTS of this seat's program, by a program of mine (gen_facts.py): types and functions, as my rules ask for them.
-/
namespace Go.Proofs.YtfaobdakpbpkbaaDoor
open Go.Pt

instance : TyD Tryd.prog 2 (.int .i64) := ⟨by kernel_rfl⟩
instance : TyS Tryd.prog 2 1 8 := ⟨by kernel_rfl⟩
instance : TyZ Tryd.prog 2 (.int .i64 0) := ⟨by kernel_rfl⟩
instance : TyC Tryd.prog 2 := ⟨by kernel_rfl, by kernel_rfl, by kernel_rfl⟩
instance : TyD Tryd.prog 3 (.int .i64) := ⟨by kernel_rfl⟩
instance : TyS Tryd.prog 3 1 8 := ⟨by kernel_rfl⟩
instance : TyZ Tryd.prog 3 (.int .i64 0) := ⟨by kernel_rfl⟩
instance : TyC Tryd.prog 3 := ⟨by kernel_rfl, by kernel_rfl, by kernel_rfl⟩
instance : TyD Tryd.prog 4 (.bool) := ⟨by kernel_rfl⟩
instance : TyS Tryd.prog 4 1 1 := ⟨by kernel_rfl⟩
instance : TyZ Tryd.prog 4 (.bool false) := ⟨by kernel_rfl⟩
instance : TyC Tryd.prog 4 := ⟨by kernel_rfl, by kernel_rfl, by kernel_rfl⟩
instance : TyD Tryd.prog 5 (.int .u8) := ⟨by kernel_rfl⟩
instance : TyS Tryd.prog 5 1 1 := ⟨by kernel_rfl⟩
instance : TyZ Tryd.prog 5 (.int .u8 0) := ⟨by kernel_rfl⟩
instance : TyC Tryd.prog 5 := ⟨by kernel_rfl, by kernel_rfl, by kernel_rfl⟩
instance : TyD Tryd.prog 6 (.int .u8) := ⟨by kernel_rfl⟩
instance : TyS Tryd.prog 6 1 1 := ⟨by kernel_rfl⟩
instance : TyZ Tryd.prog 6 (.int .u8 0) := ⟨by kernel_rfl⟩
instance : TyC Tryd.prog 6 := ⟨by kernel_rfl, by kernel_rfl, by kernel_rfl⟩
instance : TyS Tryd.prog 7 4 24 := ⟨by kernel_rfl⟩
instance : TyZ Tryd.prog 7 (.agg #[.int .i64 0, .int .i64 0, .bool false, .int .u8 0]) := ⟨by kernel_rfl⟩
instance : TyA Tryd.prog 7 4 := ⟨by kernel_rfl, by kernel_rfl⟩
instance : TyP Tryd.prog 7 [(0, 1), (1, 1), (2, 1), (3, 1)] [.int .i64 0, .int .i64 0, .bool false, .int .u8 0] := ⟨by kernel_rfl⟩
instance : Fld Tryd.prog 7 0 0 2 := ⟨by kernel_rfl⟩
instance : Fld Tryd.prog 7 1 1 3 := ⟨by kernel_rfl⟩
instance : Fld Tryd.prog 7 2 2 4 := ⟨by kernel_rfl⟩
instance : Fld Tryd.prog 7 3 3 6 := ⟨by kernel_rfl⟩
instance : TyS Tryd.prog 8 4 24 := ⟨by kernel_rfl⟩
instance : TyZ Tryd.prog 8 (.agg #[.int .i64 0, .int .i64 0, .bool false, .int .u8 0]) := ⟨by kernel_rfl⟩
instance : TyA Tryd.prog 8 4 := ⟨by kernel_rfl, by kernel_rfl⟩
instance : TyP Tryd.prog 8 [(0, 1), (1, 1), (2, 1), (3, 1)] [.int .i64 0, .int .i64 0, .bool false, .int .u8 0] := ⟨by kernel_rfl⟩
instance : Fld Tryd.prog 8 0 0 2 := ⟨by kernel_rfl⟩
instance : Fld Tryd.prog 8 1 1 3 := ⟨by kernel_rfl⟩
instance : Fld Tryd.prog 8 2 2 4 := ⟨by kernel_rfl⟩
instance : Fld Tryd.prog 8 3 3 6 := ⟨by kernel_rfl⟩
instance : TyD Tryd.prog 9 (.string) := ⟨by kernel_rfl⟩
instance : TyS Tryd.prog 9 1 16 := ⟨by kernel_rfl⟩
instance : TyZ Tryd.prog 9 (.string ⟨#[]⟩) := ⟨by kernel_rfl⟩
instance : TyC Tryd.prog 9 := ⟨by kernel_rfl, by kernel_rfl, by kernel_rfl⟩
instance : TyD Tryd.prog 10 (.string) := ⟨by kernel_rfl⟩
instance : TyS Tryd.prog 10 1 16 := ⟨by kernel_rfl⟩
instance : TyZ Tryd.prog 10 (.string ⟨#[]⟩) := ⟨by kernel_rfl⟩
instance : TyC Tryd.prog 10 := ⟨by kernel_rfl, by kernel_rfl, by kernel_rfl⟩
instance : TyD Tryd.prog 11 (.string) := ⟨by kernel_rfl⟩
instance : TyS Tryd.prog 11 1 16 := ⟨by kernel_rfl⟩
instance : TyZ Tryd.prog 11 (.string ⟨#[]⟩) := ⟨by kernel_rfl⟩
instance : TyC Tryd.prog 11 := ⟨by kernel_rfl, by kernel_rfl, by kernel_rfl⟩
instance : TyD Tryd.prog 12 (.int .u64) := ⟨by kernel_rfl⟩
instance : TyS Tryd.prog 12 1 8 := ⟨by kernel_rfl⟩
instance : TyZ Tryd.prog 12 (.int .u64 0) := ⟨by kernel_rfl⟩
instance : TyC Tryd.prog 12 := ⟨by kernel_rfl, by kernel_rfl, by kernel_rfl⟩
instance : TyS Tryd.prog 13 2 24 := ⟨by kernel_rfl⟩
instance : TyZ Tryd.prog 13 (.agg #[.string ⟨#[]⟩, .int .u64 0]) := ⟨by kernel_rfl⟩
instance : TyA Tryd.prog 13 2 := ⟨by kernel_rfl, by kernel_rfl⟩
instance : TyP Tryd.prog 13 [(0, 1), (1, 1)] [.string ⟨#[]⟩, .int .u64 0] := ⟨by kernel_rfl⟩
instance : Fld Tryd.prog 13 0 0 9 := ⟨by kernel_rfl⟩
instance : Fld Tryd.prog 13 1 1 12 := ⟨by kernel_rfl⟩
instance : TyS Tryd.prog 14 2 24 := ⟨by kernel_rfl⟩
instance : TyZ Tryd.prog 14 (.agg #[.string ⟨#[]⟩, .int .u64 0]) := ⟨by kernel_rfl⟩
instance : TyA Tryd.prog 14 2 := ⟨by kernel_rfl, by kernel_rfl⟩
instance : TyP Tryd.prog 14 [(0, 1), (1, 1)] [.string ⟨#[]⟩, .int .u64 0] := ⟨by kernel_rfl⟩
instance : Fld Tryd.prog 14 0 0 9 := ⟨by kernel_rfl⟩
instance : Fld Tryd.prog 14 1 1 12 := ⟨by kernel_rfl⟩
instance : TyD Tryd.prog 15 (.pointer 141) := ⟨by kernel_rfl⟩
instance : TyS Tryd.prog 15 1 8 := ⟨by kernel_rfl⟩
instance : TyZ Tryd.prog 15 (.pointer none) := ⟨by kernel_rfl⟩
instance : TyC Tryd.prog 15 := ⟨by kernel_rfl, by kernel_rfl, by kernel_rfl⟩
instance : TyD Tryd.prog 16 (.pointer 144) := ⟨by kernel_rfl⟩
instance : TyS Tryd.prog 16 1 8 := ⟨by kernel_rfl⟩
instance : TyZ Tryd.prog 16 (.pointer none) := ⟨by kernel_rfl⟩
instance : TyC Tryd.prog 16 := ⟨by kernel_rfl, by kernel_rfl, by kernel_rfl⟩
instance : TyD Tryd.prog 17 (.pointer 153) := ⟨by kernel_rfl⟩
instance : TyS Tryd.prog 17 1 8 := ⟨by kernel_rfl⟩
instance : TyZ Tryd.prog 17 (.pointer none) := ⟨by kernel_rfl⟩
instance : TyC Tryd.prog 17 := ⟨by kernel_rfl, by kernel_rfl, by kernel_rfl⟩
instance : TyS Tryd.prog 18 1 8 := ⟨by kernel_rfl⟩
instance : TyZ Tryd.prog 18 (.agg #[.pointer none]) := ⟨by kernel_rfl⟩
instance : TyA Tryd.prog 18 1 := ⟨by kernel_rfl, by kernel_rfl⟩
instance : TyP Tryd.prog 18 [(0, 1)] [.pointer none] := ⟨by kernel_rfl⟩
instance : Fld Tryd.prog 18 0 0 17 := ⟨by kernel_rfl⟩
instance : TyS Tryd.prog 19 1 8 := ⟨by kernel_rfl⟩
instance : TyZ Tryd.prog 19 (.agg #[.pointer none]) := ⟨by kernel_rfl⟩
instance : TyA Tryd.prog 19 1 := ⟨by kernel_rfl, by kernel_rfl⟩
instance : TyP Tryd.prog 19 [(0, 1)] [.pointer none] := ⟨by kernel_rfl⟩
instance : Fld Tryd.prog 19 0 0 17 := ⟨by kernel_rfl⟩
instance : TyD Tryd.prog 21 (.int .i32) := ⟨by kernel_rfl⟩
instance : TyS Tryd.prog 21 1 4 := ⟨by kernel_rfl⟩
instance : TyZ Tryd.prog 21 (.int .i32 0) := ⟨by kernel_rfl⟩
instance : TyC Tryd.prog 21 := ⟨by kernel_rfl, by kernel_rfl, by kernel_rfl⟩
instance : TyD Tryd.prog 22 (.slice 5) := ⟨by kernel_rfl⟩
instance : TyS Tryd.prog 22 1 24 := ⟨by kernel_rfl⟩
instance : TyZ Tryd.prog 22 (.slice none 0 0) := ⟨by kernel_rfl⟩
instance : TyC Tryd.prog 22 := ⟨by kernel_rfl, by kernel_rfl, by kernel_rfl⟩
instance : TyD Tryd.prog 24 (.int .i64) := ⟨by kernel_rfl⟩
instance : TyS Tryd.prog 24 1 8 := ⟨by kernel_rfl⟩
instance : TyZ Tryd.prog 24 (.int .i64 0) := ⟨by kernel_rfl⟩
instance : TyC Tryd.prog 24 := ⟨by kernel_rfl, by kernel_rfl, by kernel_rfl⟩
instance : TyD Tryd.prog 28 (.int .u32) := ⟨by kernel_rfl⟩
instance : TyS Tryd.prog 28 1 4 := ⟨by kernel_rfl⟩
instance : TyZ Tryd.prog 28 (.int .u32 0) := ⟨by kernel_rfl⟩
instance : TyC Tryd.prog 28 := ⟨by kernel_rfl, by kernel_rfl, by kernel_rfl⟩
instance : TyD Tryd.prog 29 (.array 8 28) := ⟨by kernel_rfl⟩
instance : TyS Tryd.prog 29 8 32 := ⟨by kernel_rfl⟩
instance : TyZ Tryd.prog 29 (.agg #[.int .u32 0, .int .u32 0, .int .u32 0, .int .u32 0, .int .u32 0, .int .u32 0, .int .u32 0, .int .u32 0]) := ⟨by kernel_rfl⟩
instance : TyA Tryd.prog 29 8 := ⟨by kernel_rfl, by kernel_rfl⟩
instance : TyD Tryd.prog 30 (.array 8 28) := ⟨by kernel_rfl⟩
instance : TyS Tryd.prog 30 8 32 := ⟨by kernel_rfl⟩
instance : TyZ Tryd.prog 30 (.agg #[.int .u32 0, .int .u32 0, .int .u32 0, .int .u32 0, .int .u32 0, .int .u32 0, .int .u32 0, .int .u32 0]) := ⟨by kernel_rfl⟩
instance : TyA Tryd.prog 30 8 := ⟨by kernel_rfl, by kernel_rfl⟩
instance : TyS Tryd.prog 31 17 68 := ⟨by kernel_rfl⟩
instance : TyZ Tryd.prog 31 (.agg #[.int .u32 0, .int .u32 0, .int .u32 0, .int .u32 0, .int .u32 0, .int .u32 0, .int .u32 0, .int .u32 0, .int .u32 0, .int .u32 0, .int .u32 0, .int .u32 0, .int .u32 0, .int .u32 0, .int .u32 0, .int .u32 0, .bool false]) := ⟨by kernel_rfl⟩
instance : TyA Tryd.prog 31 17 := ⟨by kernel_rfl, by kernel_rfl⟩
instance : TyP Tryd.prog 31 [(0, 8), (8, 8), (16, 1)] [.int .u32 0, .int .u32 0, .int .u32 0, .int .u32 0, .int .u32 0, .int .u32 0, .int .u32 0, .int .u32 0, .int .u32 0, .int .u32 0, .int .u32 0, .int .u32 0, .int .u32 0, .int .u32 0, .int .u32 0, .int .u32 0, .bool false] := ⟨by kernel_rfl⟩
instance : Fld Tryd.prog 31 0 0 30 := ⟨by kernel_rfl⟩
instance : Fld Tryd.prog 31 1 8 30 := ⟨by kernel_rfl⟩
instance : Fld Tryd.prog 31 2 16 4 := ⟨by kernel_rfl⟩
instance : TyS Tryd.prog 32 17 68 := ⟨by kernel_rfl⟩
instance : TyZ Tryd.prog 32 (.agg #[.int .u32 0, .int .u32 0, .int .u32 0, .int .u32 0, .int .u32 0, .int .u32 0, .int .u32 0, .int .u32 0, .int .u32 0, .int .u32 0, .int .u32 0, .int .u32 0, .int .u32 0, .int .u32 0, .int .u32 0, .int .u32 0, .bool false]) := ⟨by kernel_rfl⟩
instance : TyA Tryd.prog 32 17 := ⟨by kernel_rfl, by kernel_rfl⟩
instance : TyP Tryd.prog 32 [(0, 8), (8, 8), (16, 1)] [.int .u32 0, .int .u32 0, .int .u32 0, .int .u32 0, .int .u32 0, .int .u32 0, .int .u32 0, .int .u32 0, .int .u32 0, .int .u32 0, .int .u32 0, .int .u32 0, .int .u32 0, .int .u32 0, .int .u32 0, .int .u32 0, .bool false] := ⟨by kernel_rfl⟩
instance : Fld Tryd.prog 32 0 0 30 := ⟨by kernel_rfl⟩
instance : Fld Tryd.prog 32 1 8 30 := ⟨by kernel_rfl⟩
instance : Fld Tryd.prog 32 2 16 4 := ⟨by kernel_rfl⟩
instance : TyD Tryd.prog 35 (.int .u64) := ⟨by kernel_rfl⟩
instance : TyS Tryd.prog 35 1 8 := ⟨by kernel_rfl⟩
instance : TyZ Tryd.prog 35 (.int .u64 0) := ⟨by kernel_rfl⟩
instance : TyC Tryd.prog 35 := ⟨by kernel_rfl, by kernel_rfl, by kernel_rfl⟩
instance : TyD Tryd.prog 36 (.array 16 35) := ⟨by kernel_rfl⟩
instance : TyS Tryd.prog 36 16 128 := ⟨by kernel_rfl⟩
instance : TyZ Tryd.prog 36 (.agg #[.int .u64 0, .int .u64 0, .int .u64 0, .int .u64 0, .int .u64 0, .int .u64 0, .int .u64 0, .int .u64 0, .int .u64 0, .int .u64 0, .int .u64 0, .int .u64 0, .int .u64 0, .int .u64 0, .int .u64 0, .int .u64 0]) := ⟨by kernel_rfl⟩
instance : TyA Tryd.prog 36 16 := ⟨by kernel_rfl, by kernel_rfl⟩
instance : TyD Tryd.prog 37 (.array 16 35) := ⟨by kernel_rfl⟩
instance : TyS Tryd.prog 37 16 128 := ⟨by kernel_rfl⟩
instance : TyZ Tryd.prog 37 (.agg #[.int .u64 0, .int .u64 0, .int .u64 0, .int .u64 0, .int .u64 0, .int .u64 0, .int .u64 0, .int .u64 0, .int .u64 0, .int .u64 0, .int .u64 0, .int .u64 0, .int .u64 0, .int .u64 0, .int .u64 0, .int .u64 0]) := ⟨by kernel_rfl⟩
instance : TyA Tryd.prog 37 16 := ⟨by kernel_rfl, by kernel_rfl⟩
instance : TyS Tryd.prog 38 48 384 := ⟨by kernel_rfl⟩
instance : TyZ Tryd.prog 38 (.agg #[.int .u64 0, .int .u64 0, .int .u64 0, .int .u64 0, .int .u64 0, .int .u64 0, .int .u64 0, .int .u64 0, .int .u64 0, .int .u64 0, .int .u64 0, .int .u64 0, .int .u64 0, .int .u64 0, .int .u64 0, .int .u64 0, .int .u64 0, .int .u64 0, .int .u64 0, .int .u64 0, .int .u64 0, .int .u64 0, .int .u64 0, .int .u64 0, .int .u64 0, .int .u64 0, .int .u64 0, .int .u64 0, .int .u64 0, .int .u64 0, .int .u64 0, .int .u64 0, .int .u64 0, .int .u64 0, .int .u64 0, .int .u64 0, .int .u64 0, .int .u64 0, .int .u64 0, .int .u64 0, .int .u64 0, .int .u64 0, .int .u64 0, .int .u64 0, .int .u64 0, .int .u64 0, .int .u64 0, .int .u64 0]) := ⟨by kernel_rfl⟩
instance : TyA Tryd.prog 38 48 := ⟨by kernel_rfl, by kernel_rfl⟩
instance : TyP Tryd.prog 38 [(0, 16), (16, 16), (32, 16)] [.int .u64 0, .int .u64 0, .int .u64 0, .int .u64 0, .int .u64 0, .int .u64 0, .int .u64 0, .int .u64 0, .int .u64 0, .int .u64 0, .int .u64 0, .int .u64 0, .int .u64 0, .int .u64 0, .int .u64 0, .int .u64 0, .int .u64 0, .int .u64 0, .int .u64 0, .int .u64 0, .int .u64 0, .int .u64 0, .int .u64 0, .int .u64 0, .int .u64 0, .int .u64 0, .int .u64 0, .int .u64 0, .int .u64 0, .int .u64 0, .int .u64 0, .int .u64 0, .int .u64 0, .int .u64 0, .int .u64 0, .int .u64 0, .int .u64 0, .int .u64 0, .int .u64 0, .int .u64 0, .int .u64 0, .int .u64 0, .int .u64 0, .int .u64 0, .int .u64 0, .int .u64 0, .int .u64 0, .int .u64 0] := ⟨by kernel_rfl⟩
instance : Fld Tryd.prog 38 0 0 37 := ⟨by kernel_rfl⟩
instance : Fld Tryd.prog 38 1 16 37 := ⟨by kernel_rfl⟩
instance : Fld Tryd.prog 38 2 32 37 := ⟨by kernel_rfl⟩
instance : TyS Tryd.prog 39 48 384 := ⟨by kernel_rfl⟩
instance : TyZ Tryd.prog 39 (.agg #[.int .u64 0, .int .u64 0, .int .u64 0, .int .u64 0, .int .u64 0, .int .u64 0, .int .u64 0, .int .u64 0, .int .u64 0, .int .u64 0, .int .u64 0, .int .u64 0, .int .u64 0, .int .u64 0, .int .u64 0, .int .u64 0, .int .u64 0, .int .u64 0, .int .u64 0, .int .u64 0, .int .u64 0, .int .u64 0, .int .u64 0, .int .u64 0, .int .u64 0, .int .u64 0, .int .u64 0, .int .u64 0, .int .u64 0, .int .u64 0, .int .u64 0, .int .u64 0, .int .u64 0, .int .u64 0, .int .u64 0, .int .u64 0, .int .u64 0, .int .u64 0, .int .u64 0, .int .u64 0, .int .u64 0, .int .u64 0, .int .u64 0, .int .u64 0, .int .u64 0, .int .u64 0, .int .u64 0, .int .u64 0]) := ⟨by kernel_rfl⟩
instance : TyA Tryd.prog 39 48 := ⟨by kernel_rfl, by kernel_rfl⟩
instance : TyP Tryd.prog 39 [(0, 16), (16, 16), (32, 16)] [.int .u64 0, .int .u64 0, .int .u64 0, .int .u64 0, .int .u64 0, .int .u64 0, .int .u64 0, .int .u64 0, .int .u64 0, .int .u64 0, .int .u64 0, .int .u64 0, .int .u64 0, .int .u64 0, .int .u64 0, .int .u64 0, .int .u64 0, .int .u64 0, .int .u64 0, .int .u64 0, .int .u64 0, .int .u64 0, .int .u64 0, .int .u64 0, .int .u64 0, .int .u64 0, .int .u64 0, .int .u64 0, .int .u64 0, .int .u64 0, .int .u64 0, .int .u64 0, .int .u64 0, .int .u64 0, .int .u64 0, .int .u64 0, .int .u64 0, .int .u64 0, .int .u64 0, .int .u64 0, .int .u64 0, .int .u64 0, .int .u64 0, .int .u64 0, .int .u64 0, .int .u64 0, .int .u64 0, .int .u64 0] := ⟨by kernel_rfl⟩
instance : Fld Tryd.prog 39 0 0 37 := ⟨by kernel_rfl⟩
instance : Fld Tryd.prog 39 1 16 37 := ⟨by kernel_rfl⟩
instance : Fld Tryd.prog 39 2 32 37 := ⟨by kernel_rfl⟩
instance : TyD Tryd.prog 44 (.slice 22) := ⟨by kernel_rfl⟩
instance : TyS Tryd.prog 44 1 24 := ⟨by kernel_rfl⟩
instance : TyZ Tryd.prog 44 (.slice none 0 0) := ⟨by kernel_rfl⟩
instance : TyC Tryd.prog 44 := ⟨by kernel_rfl, by kernel_rfl, by kernel_rfl⟩
instance : TyD Tryd.prog 45 (.array 32 5) := ⟨by kernel_rfl⟩
instance : TyS Tryd.prog 45 32 32 := ⟨by kernel_rfl⟩
instance : TyZ Tryd.prog 45 (.agg #[.int .u8 0, .int .u8 0, .int .u8 0, .int .u8 0, .int .u8 0, .int .u8 0, .int .u8 0, .int .u8 0, .int .u8 0, .int .u8 0, .int .u8 0, .int .u8 0, .int .u8 0, .int .u8 0, .int .u8 0, .int .u8 0, .int .u8 0, .int .u8 0, .int .u8 0, .int .u8 0, .int .u8 0, .int .u8 0, .int .u8 0, .int .u8 0, .int .u8 0, .int .u8 0, .int .u8 0, .int .u8 0, .int .u8 0, .int .u8 0, .int .u8 0, .int .u8 0]) := ⟨by kernel_rfl⟩
instance : TyA Tryd.prog 45 32 := ⟨by kernel_rfl, by kernel_rfl⟩
instance : TyD Tryd.prog 56 (.pointer 99) := ⟨by kernel_rfl⟩
instance : TyS Tryd.prog 56 1 8 := ⟨by kernel_rfl⟩
instance : TyZ Tryd.prog 56 (.pointer none) := ⟨by kernel_rfl⟩
instance : TyC Tryd.prog 56 := ⟨by kernel_rfl, by kernel_rfl, by kernel_rfl⟩
instance : TyD Tryd.prog 62 (.pointer 106) := ⟨by kernel_rfl⟩
instance : TyS Tryd.prog 62 1 8 := ⟨by kernel_rfl⟩
instance : TyZ Tryd.prog 62 (.pointer none) := ⟨by kernel_rfl⟩
instance : TyC Tryd.prog 62 := ⟨by kernel_rfl, by kernel_rfl, by kernel_rfl⟩
instance : TyD Tryd.prog 67 (.pointer 73) := ⟨by kernel_rfl⟩
instance : TyS Tryd.prog 67 1 8 := ⟨by kernel_rfl⟩
instance : TyZ Tryd.prog 67 (.pointer none) := ⟨by kernel_rfl⟩
instance : TyC Tryd.prog 67 := ⟨by kernel_rfl, by kernel_rfl, by kernel_rfl⟩
instance : TyD Tryd.prog 71 (.array 16 37) := ⟨by kernel_rfl⟩
instance : TyS Tryd.prog 71 256 2048 := ⟨by kernel_rfl⟩
instance : TyA Tryd.prog 71 256 := ⟨by kernel_rfl, by kernel_rfl⟩
instance : TyS Tryd.prog 72 272 2176 := ⟨by kernel_rfl⟩
instance : TyA Tryd.prog 72 272 := ⟨by kernel_rfl, by kernel_rfl⟩
instance : Fld Tryd.prog 72 0 0 37 := ⟨by kernel_rfl⟩
instance : Fld Tryd.prog 72 1 16 71 := ⟨by kernel_rfl⟩
instance : TyS Tryd.prog 73 272 2176 := ⟨by kernel_rfl⟩
instance : TyA Tryd.prog 73 272 := ⟨by kernel_rfl, by kernel_rfl⟩
instance : Fld Tryd.prog 73 0 0 37 := ⟨by kernel_rfl⟩
instance : Fld Tryd.prog 73 1 16 71 := ⟨by kernel_rfl⟩
instance : TyD Tryd.prog 86 (.array 64 5) := ⟨by kernel_rfl⟩
instance : TyS Tryd.prog 86 64 64 := ⟨by kernel_rfl⟩
instance : TyZ Tryd.prog 86 (.agg #[.int .u8 0, .int .u8 0, .int .u8 0, .int .u8 0, .int .u8 0, .int .u8 0, .int .u8 0, .int .u8 0, .int .u8 0, .int .u8 0, .int .u8 0, .int .u8 0, .int .u8 0, .int .u8 0, .int .u8 0, .int .u8 0, .int .u8 0, .int .u8 0, .int .u8 0, .int .u8 0, .int .u8 0, .int .u8 0, .int .u8 0, .int .u8 0, .int .u8 0, .int .u8 0, .int .u8 0, .int .u8 0, .int .u8 0, .int .u8 0, .int .u8 0, .int .u8 0, .int .u8 0, .int .u8 0, .int .u8 0, .int .u8 0, .int .u8 0, .int .u8 0, .int .u8 0, .int .u8 0, .int .u8 0, .int .u8 0, .int .u8 0, .int .u8 0, .int .u8 0, .int .u8 0, .int .u8 0, .int .u8 0, .int .u8 0, .int .u8 0, .int .u8 0, .int .u8 0, .int .u8 0, .int .u8 0, .int .u8 0, .int .u8 0, .int .u8 0, .int .u8 0, .int .u8 0, .int .u8 0, .int .u8 0, .int .u8 0, .int .u8 0, .int .u8 0]) := ⟨by kernel_rfl⟩
instance : TyA Tryd.prog 86 64 := ⟨by kernel_rfl, by kernel_rfl⟩
instance : TyD Tryd.prog 87 (.array 2 86) := ⟨by kernel_rfl⟩
instance : TyS Tryd.prog 87 128 128 := ⟨by kernel_rfl⟩
instance : TyA Tryd.prog 87 128 := ⟨by kernel_rfl, by kernel_rfl⟩
instance : TyD Tryd.prog 88 (.pointer 128) := ⟨by kernel_rfl⟩
instance : TyS Tryd.prog 88 1 8 := ⟨by kernel_rfl⟩
instance : TyZ Tryd.prog 88 (.pointer none) := ⟨by kernel_rfl⟩
instance : TyC Tryd.prog 88 := ⟨by kernel_rfl, by kernel_rfl, by kernel_rfl⟩
instance : TyD Tryd.prog 92 (.slice 35) := ⟨by kernel_rfl⟩
instance : TyS Tryd.prog 92 1 24 := ⟨by kernel_rfl⟩
instance : TyZ Tryd.prog 92 (.slice none 0 0) := ⟨by kernel_rfl⟩
instance : TyC Tryd.prog 92 := ⟨by kernel_rfl, by kernel_rfl, by kernel_rfl⟩
instance : TyD Tryd.prog 94 (.array 64 35) := ⟨by kernel_rfl⟩
instance : TyS Tryd.prog 94 64 512 := ⟨by kernel_rfl⟩
instance : TyZ Tryd.prog 94 (.agg #[.int .u64 0, .int .u64 0, .int .u64 0, .int .u64 0, .int .u64 0, .int .u64 0, .int .u64 0, .int .u64 0, .int .u64 0, .int .u64 0, .int .u64 0, .int .u64 0, .int .u64 0, .int .u64 0, .int .u64 0, .int .u64 0, .int .u64 0, .int .u64 0, .int .u64 0, .int .u64 0, .int .u64 0, .int .u64 0, .int .u64 0, .int .u64 0, .int .u64 0, .int .u64 0, .int .u64 0, .int .u64 0, .int .u64 0, .int .u64 0, .int .u64 0, .int .u64 0, .int .u64 0, .int .u64 0, .int .u64 0, .int .u64 0, .int .u64 0, .int .u64 0, .int .u64 0, .int .u64 0, .int .u64 0, .int .u64 0, .int .u64 0, .int .u64 0, .int .u64 0, .int .u64 0, .int .u64 0, .int .u64 0, .int .u64 0, .int .u64 0, .int .u64 0, .int .u64 0, .int .u64 0, .int .u64 0, .int .u64 0, .int .u64 0, .int .u64 0, .int .u64 0, .int .u64 0, .int .u64 0, .int .u64 0, .int .u64 0, .int .u64 0, .int .u64 0]) := ⟨by kernel_rfl⟩
instance : TyA Tryd.prog 94 64 := ⟨by kernel_rfl, by kernel_rfl⟩
instance : TyD Tryd.prog 96 (.int .u64) := ⟨by kernel_rfl⟩
instance : TyS Tryd.prog 96 1 8 := ⟨by kernel_rfl⟩
instance : TyZ Tryd.prog 96 (.int .u64 0) := ⟨by kernel_rfl⟩
instance : TyC Tryd.prog 96 := ⟨by kernel_rfl, by kernel_rfl, by kernel_rfl⟩
instance : TyS Tryd.prog 98 25 100 := ⟨by kernel_rfl⟩
instance : TyZ Tryd.prog 98 (.agg #[.int .u32 0, .int .u32 0, .int .u32 0, .int .u32 0, .int .u32 0, .int .u32 0, .int .u32 0, .int .u32 0, .int .u32 0, .int .u32 0, .int .u32 0, .int .u32 0, .int .u32 0, .int .u32 0, .int .u32 0, .int .u32 0, .int .u32 0, .int .u32 0, .int .u32 0, .int .u32 0, .int .u32 0, .int .u32 0, .int .u32 0, .int .u32 0, .int .u32 0]) := ⟨by kernel_rfl⟩
instance : TyA Tryd.prog 98 25 := ⟨by kernel_rfl, by kernel_rfl⟩
instance : TyP Tryd.prog 98 [(0, 8), (8, 1), (9, 8), (17, 8)] [.int .u32 0, .int .u32 0, .int .u32 0, .int .u32 0, .int .u32 0, .int .u32 0, .int .u32 0, .int .u32 0, .int .u32 0, .int .u32 0, .int .u32 0, .int .u32 0, .int .u32 0, .int .u32 0, .int .u32 0, .int .u32 0, .int .u32 0, .int .u32 0, .int .u32 0, .int .u32 0, .int .u32 0, .int .u32 0, .int .u32 0, .int .u32 0, .int .u32 0] := ⟨by kernel_rfl⟩
instance : Fld Tryd.prog 98 0 0 30 := ⟨by kernel_rfl⟩
instance : Fld Tryd.prog 98 1 8 28 := ⟨by kernel_rfl⟩
instance : Fld Tryd.prog 98 2 9 30 := ⟨by kernel_rfl⟩
instance : Fld Tryd.prog 98 3 17 30 := ⟨by kernel_rfl⟩
instance : TyS Tryd.prog 99 25 100 := ⟨by kernel_rfl⟩
instance : TyZ Tryd.prog 99 (.agg #[.int .u32 0, .int .u32 0, .int .u32 0, .int .u32 0, .int .u32 0, .int .u32 0, .int .u32 0, .int .u32 0, .int .u32 0, .int .u32 0, .int .u32 0, .int .u32 0, .int .u32 0, .int .u32 0, .int .u32 0, .int .u32 0, .int .u32 0, .int .u32 0, .int .u32 0, .int .u32 0, .int .u32 0, .int .u32 0, .int .u32 0, .int .u32 0, .int .u32 0]) := ⟨by kernel_rfl⟩
instance : TyA Tryd.prog 99 25 := ⟨by kernel_rfl, by kernel_rfl⟩
instance : TyP Tryd.prog 99 [(0, 8), (8, 1), (9, 8), (17, 8)] [.int .u32 0, .int .u32 0, .int .u32 0, .int .u32 0, .int .u32 0, .int .u32 0, .int .u32 0, .int .u32 0, .int .u32 0, .int .u32 0, .int .u32 0, .int .u32 0, .int .u32 0, .int .u32 0, .int .u32 0, .int .u32 0, .int .u32 0, .int .u32 0, .int .u32 0, .int .u32 0, .int .u32 0, .int .u32 0, .int .u32 0, .int .u32 0, .int .u32 0] := ⟨by kernel_rfl⟩
instance : Fld Tryd.prog 99 0 0 30 := ⟨by kernel_rfl⟩
instance : Fld Tryd.prog 99 1 8 28 := ⟨by kernel_rfl⟩
instance : Fld Tryd.prog 99 2 9 30 := ⟨by kernel_rfl⟩
instance : Fld Tryd.prog 99 3 17 30 := ⟨by kernel_rfl⟩
instance : TyD Tryd.prog 102 (.array 10 28) := ⟨by kernel_rfl⟩
instance : TyS Tryd.prog 102 10 40 := ⟨by kernel_rfl⟩
instance : TyZ Tryd.prog 102 (.agg #[.int .u32 0, .int .u32 0, .int .u32 0, .int .u32 0, .int .u32 0, .int .u32 0, .int .u32 0, .int .u32 0, .int .u32 0, .int .u32 0]) := ⟨by kernel_rfl⟩
instance : TyA Tryd.prog 102 10 := ⟨by kernel_rfl, by kernel_rfl⟩
instance : TyD Tryd.prog 104 (.slice 28) := ⟨by kernel_rfl⟩
instance : TyS Tryd.prog 104 1 24 := ⟨by kernel_rfl⟩
instance : TyZ Tryd.prog 104 (.slice none 0 0) := ⟨by kernel_rfl⟩
instance : TyC Tryd.prog 104 := ⟨by kernel_rfl, by kernel_rfl, by kernel_rfl⟩
instance : TyS Tryd.prog 105 9 40 := ⟨by kernel_rfl⟩
instance : TyZ Tryd.prog 105 (.agg #[.pointer none, .int .u32 0, .int .u32 0, .int .u32 0, .int .u32 0, .int .u32 0, .int .u32 0, .int .u32 0, .int .u32 0]) := ⟨by kernel_rfl⟩
instance : TyA Tryd.prog 105 9 := ⟨by kernel_rfl, by kernel_rfl⟩
instance : TyP Tryd.prog 105 [(0, 1), (1, 8)] [.pointer none, .int .u32 0, .int .u32 0, .int .u32 0, .int .u32 0, .int .u32 0, .int .u32 0, .int .u32 0, .int .u32 0] := ⟨by kernel_rfl⟩
instance : Fld Tryd.prog 105 0 0 56 := ⟨by kernel_rfl⟩
instance : Fld Tryd.prog 105 1 1 30 := ⟨by kernel_rfl⟩
instance : TyS Tryd.prog 106 9 40 := ⟨by kernel_rfl⟩
instance : TyZ Tryd.prog 106 (.agg #[.pointer none, .int .u32 0, .int .u32 0, .int .u32 0, .int .u32 0, .int .u32 0, .int .u32 0, .int .u32 0, .int .u32 0]) := ⟨by kernel_rfl⟩
instance : TyA Tryd.prog 106 9 := ⟨by kernel_rfl, by kernel_rfl⟩
instance : TyP Tryd.prog 106 [(0, 1), (1, 8)] [.pointer none, .int .u32 0, .int .u32 0, .int .u32 0, .int .u32 0, .int .u32 0, .int .u32 0, .int .u32 0, .int .u32 0] := ⟨by kernel_rfl⟩
instance : Fld Tryd.prog 106 0 0 56 := ⟨by kernel_rfl⟩
instance : Fld Tryd.prog 106 1 1 30 := ⟨by kernel_rfl⟩
instance : TyS Tryd.prog 107 24 96 := ⟨by kernel_rfl⟩
instance : TyZ Tryd.prog 107 (.agg #[.int .u32 0, .int .u32 0, .int .u32 0, .int .u32 0, .int .u32 0, .int .u32 0, .int .u32 0, .int .u32 0, .int .u32 0, .int .u32 0, .int .u32 0, .int .u32 0, .int .u32 0, .int .u32 0, .int .u32 0, .int .u32 0, .int .u32 0, .int .u32 0, .int .u32 0, .int .u32 0, .int .u32 0, .int .u32 0, .int .u32 0, .int .u32 0]) := ⟨by kernel_rfl⟩
instance : TyA Tryd.prog 107 24 := ⟨by kernel_rfl, by kernel_rfl⟩
instance : TyP Tryd.prog 107 [(0, 8), (8, 8), (16, 8)] [.int .u32 0, .int .u32 0, .int .u32 0, .int .u32 0, .int .u32 0, .int .u32 0, .int .u32 0, .int .u32 0, .int .u32 0, .int .u32 0, .int .u32 0, .int .u32 0, .int .u32 0, .int .u32 0, .int .u32 0, .int .u32 0, .int .u32 0, .int .u32 0, .int .u32 0, .int .u32 0, .int .u32 0, .int .u32 0, .int .u32 0, .int .u32 0] := ⟨by kernel_rfl⟩
instance : Fld Tryd.prog 107 0 0 30 := ⟨by kernel_rfl⟩
instance : Fld Tryd.prog 107 1 8 30 := ⟨by kernel_rfl⟩
instance : Fld Tryd.prog 107 2 16 30 := ⟨by kernel_rfl⟩
instance : TyS Tryd.prog 108 24 96 := ⟨by kernel_rfl⟩
instance : TyZ Tryd.prog 108 (.agg #[.int .u32 0, .int .u32 0, .int .u32 0, .int .u32 0, .int .u32 0, .int .u32 0, .int .u32 0, .int .u32 0, .int .u32 0, .int .u32 0, .int .u32 0, .int .u32 0, .int .u32 0, .int .u32 0, .int .u32 0, .int .u32 0, .int .u32 0, .int .u32 0, .int .u32 0, .int .u32 0, .int .u32 0, .int .u32 0, .int .u32 0, .int .u32 0]) := ⟨by kernel_rfl⟩
instance : TyA Tryd.prog 108 24 := ⟨by kernel_rfl, by kernel_rfl⟩
instance : TyP Tryd.prog 108 [(0, 8), (8, 8), (16, 8)] [.int .u32 0, .int .u32 0, .int .u32 0, .int .u32 0, .int .u32 0, .int .u32 0, .int .u32 0, .int .u32 0, .int .u32 0, .int .u32 0, .int .u32 0, .int .u32 0, .int .u32 0, .int .u32 0, .int .u32 0, .int .u32 0, .int .u32 0, .int .u32 0, .int .u32 0, .int .u32 0, .int .u32 0, .int .u32 0, .int .u32 0, .int .u32 0] := ⟨by kernel_rfl⟩
instance : Fld Tryd.prog 108 0 0 30 := ⟨by kernel_rfl⟩
instance : Fld Tryd.prog 108 1 8 30 := ⟨by kernel_rfl⟩
instance : Fld Tryd.prog 108 2 16 30 := ⟨by kernel_rfl⟩
instance : TyD Tryd.prog 118 (.array 33 35) := ⟨by kernel_rfl⟩
instance : TyS Tryd.prog 118 33 264 := ⟨by kernel_rfl⟩
instance : TyZ Tryd.prog 118 (.agg #[.int .u64 0, .int .u64 0, .int .u64 0, .int .u64 0, .int .u64 0, .int .u64 0, .int .u64 0, .int .u64 0, .int .u64 0, .int .u64 0, .int .u64 0, .int .u64 0, .int .u64 0, .int .u64 0, .int .u64 0, .int .u64 0, .int .u64 0, .int .u64 0, .int .u64 0, .int .u64 0, .int .u64 0, .int .u64 0, .int .u64 0, .int .u64 0, .int .u64 0, .int .u64 0, .int .u64 0, .int .u64 0, .int .u64 0, .int .u64 0, .int .u64 0, .int .u64 0, .int .u64 0]) := ⟨by kernel_rfl⟩
instance : TyA Tryd.prog 118 33 := ⟨by kernel_rfl, by kernel_rfl⟩
instance : TyD Tryd.prog 120 (.pointer 118) := ⟨by kernel_rfl⟩
instance : TyS Tryd.prog 120 1 8 := ⟨by kernel_rfl⟩
instance : TyZ Tryd.prog 120 (.pointer none) := ⟨by kernel_rfl⟩
instance : TyC Tryd.prog 120 := ⟨by kernel_rfl, by kernel_rfl, by kernel_rfl⟩
instance : TyD Tryd.prog 125 (.pointer 134) := ⟨by kernel_rfl⟩
instance : TyS Tryd.prog 125 1 8 := ⟨by kernel_rfl⟩
instance : TyZ Tryd.prog 125 (.pointer none) := ⟨by kernel_rfl⟩
instance : TyC Tryd.prog 125 := ⟨by kernel_rfl, by kernel_rfl, by kernel_rfl⟩
instance : TyS Tryd.prog 127 73 104 := ⟨by kernel_rfl⟩
instance : TyA Tryd.prog 127 73 := ⟨by kernel_rfl, by kernel_rfl⟩
instance : Fld Tryd.prog 127 0 0 29 := ⟨by kernel_rfl⟩
instance : Fld Tryd.prog 127 1 8 86 := ⟨by kernel_rfl⟩
instance : Fld Tryd.prog 127 2 72 35 := ⟨by kernel_rfl⟩
instance : TyS Tryd.prog 128 73 104 := ⟨by kernel_rfl⟩
instance : TyA Tryd.prog 128 73 := ⟨by kernel_rfl, by kernel_rfl⟩
instance : Fld Tryd.prog 128 0 0 29 := ⟨by kernel_rfl⟩
instance : Fld Tryd.prog 128 1 8 86 := ⟨by kernel_rfl⟩
instance : Fld Tryd.prog 128 2 72 35 := ⟨by kernel_rfl⟩
instance : TyD Tryd.prog 130 (.array 17 35) := ⟨by kernel_rfl⟩
instance : TyS Tryd.prog 130 17 136 := ⟨by kernel_rfl⟩
instance : TyZ Tryd.prog 130 (.agg #[.int .u64 0, .int .u64 0, .int .u64 0, .int .u64 0, .int .u64 0, .int .u64 0, .int .u64 0, .int .u64 0, .int .u64 0, .int .u64 0, .int .u64 0, .int .u64 0, .int .u64 0, .int .u64 0, .int .u64 0, .int .u64 0, .int .u64 0]) := ⟨by kernel_rfl⟩
instance : TyA Tryd.prog 130 17 := ⟨by kernel_rfl, by kernel_rfl⟩
instance : TyS Tryd.prog 133 64 64 := ⟨by kernel_rfl⟩
instance : TyZ Tryd.prog 133 (.agg #[.int .u8 0, .int .u8 0, .int .u8 0, .int .u8 0, .int .u8 0, .int .u8 0, .int .u8 0, .int .u8 0, .int .u8 0, .int .u8 0, .int .u8 0, .int .u8 0, .int .u8 0, .int .u8 0, .int .u8 0, .int .u8 0, .int .u8 0, .int .u8 0, .int .u8 0, .int .u8 0, .int .u8 0, .int .u8 0, .int .u8 0, .int .u8 0, .int .u8 0, .int .u8 0, .int .u8 0, .int .u8 0, .int .u8 0, .int .u8 0, .int .u8 0, .int .u8 0, .int .u8 0, .int .u8 0, .int .u8 0, .int .u8 0, .int .u8 0, .int .u8 0, .int .u8 0, .int .u8 0, .int .u8 0, .int .u8 0, .int .u8 0, .int .u8 0, .int .u8 0, .int .u8 0, .int .u8 0, .int .u8 0, .int .u8 0, .int .u8 0, .int .u8 0, .int .u8 0, .int .u8 0, .int .u8 0, .int .u8 0, .int .u8 0, .int .u8 0, .int .u8 0, .int .u8 0, .int .u8 0, .int .u8 0, .int .u8 0, .int .u8 0, .int .u8 0]) := ⟨by kernel_rfl⟩
instance : TyA Tryd.prog 133 64 := ⟨by kernel_rfl, by kernel_rfl⟩
instance : TyP Tryd.prog 133 [(0, 32), (32, 32)] [.int .u8 0, .int .u8 0, .int .u8 0, .int .u8 0, .int .u8 0, .int .u8 0, .int .u8 0, .int .u8 0, .int .u8 0, .int .u8 0, .int .u8 0, .int .u8 0, .int .u8 0, .int .u8 0, .int .u8 0, .int .u8 0, .int .u8 0, .int .u8 0, .int .u8 0, .int .u8 0, .int .u8 0, .int .u8 0, .int .u8 0, .int .u8 0, .int .u8 0, .int .u8 0, .int .u8 0, .int .u8 0, .int .u8 0, .int .u8 0, .int .u8 0, .int .u8 0, .int .u8 0, .int .u8 0, .int .u8 0, .int .u8 0, .int .u8 0, .int .u8 0, .int .u8 0, .int .u8 0, .int .u8 0, .int .u8 0, .int .u8 0, .int .u8 0, .int .u8 0, .int .u8 0, .int .u8 0, .int .u8 0, .int .u8 0, .int .u8 0, .int .u8 0, .int .u8 0, .int .u8 0, .int .u8 0, .int .u8 0, .int .u8 0, .int .u8 0, .int .u8 0, .int .u8 0, .int .u8 0, .int .u8 0, .int .u8 0, .int .u8 0, .int .u8 0] := ⟨by kernel_rfl⟩
instance : Fld Tryd.prog 133 0 0 45 := ⟨by kernel_rfl⟩
instance : Fld Tryd.prog 133 1 32 45 := ⟨by kernel_rfl⟩
instance : TyS Tryd.prog 134 64 64 := ⟨by kernel_rfl⟩
instance : TyZ Tryd.prog 134 (.agg #[.int .u8 0, .int .u8 0, .int .u8 0, .int .u8 0, .int .u8 0, .int .u8 0, .int .u8 0, .int .u8 0, .int .u8 0, .int .u8 0, .int .u8 0, .int .u8 0, .int .u8 0, .int .u8 0, .int .u8 0, .int .u8 0, .int .u8 0, .int .u8 0, .int .u8 0, .int .u8 0, .int .u8 0, .int .u8 0, .int .u8 0, .int .u8 0, .int .u8 0, .int .u8 0, .int .u8 0, .int .u8 0, .int .u8 0, .int .u8 0, .int .u8 0, .int .u8 0, .int .u8 0, .int .u8 0, .int .u8 0, .int .u8 0, .int .u8 0, .int .u8 0, .int .u8 0, .int .u8 0, .int .u8 0, .int .u8 0, .int .u8 0, .int .u8 0, .int .u8 0, .int .u8 0, .int .u8 0, .int .u8 0, .int .u8 0, .int .u8 0, .int .u8 0, .int .u8 0, .int .u8 0, .int .u8 0, .int .u8 0, .int .u8 0, .int .u8 0, .int .u8 0, .int .u8 0, .int .u8 0, .int .u8 0, .int .u8 0, .int .u8 0, .int .u8 0]) := ⟨by kernel_rfl⟩
instance : TyA Tryd.prog 134 64 := ⟨by kernel_rfl, by kernel_rfl⟩
instance : TyP Tryd.prog 134 [(0, 32), (32, 32)] [.int .u8 0, .int .u8 0, .int .u8 0, .int .u8 0, .int .u8 0, .int .u8 0, .int .u8 0, .int .u8 0, .int .u8 0, .int .u8 0, .int .u8 0, .int .u8 0, .int .u8 0, .int .u8 0, .int .u8 0, .int .u8 0, .int .u8 0, .int .u8 0, .int .u8 0, .int .u8 0, .int .u8 0, .int .u8 0, .int .u8 0, .int .u8 0, .int .u8 0, .int .u8 0, .int .u8 0, .int .u8 0, .int .u8 0, .int .u8 0, .int .u8 0, .int .u8 0, .int .u8 0, .int .u8 0, .int .u8 0, .int .u8 0, .int .u8 0, .int .u8 0, .int .u8 0, .int .u8 0, .int .u8 0, .int .u8 0, .int .u8 0, .int .u8 0, .int .u8 0, .int .u8 0, .int .u8 0, .int .u8 0, .int .u8 0, .int .u8 0, .int .u8 0, .int .u8 0, .int .u8 0, .int .u8 0, .int .u8 0, .int .u8 0, .int .u8 0, .int .u8 0, .int .u8 0, .int .u8 0, .int .u8 0, .int .u8 0, .int .u8 0, .int .u8 0] := ⟨by kernel_rfl⟩
instance : Fld Tryd.prog 134 0 0 45 := ⟨by kernel_rfl⟩
instance : Fld Tryd.prog 134 1 32 45 := ⟨by kernel_rfl⟩
instance : TyD Tryd.prog 135 (.array 64 28) := ⟨by kernel_rfl⟩
instance : TyS Tryd.prog 135 64 256 := ⟨by kernel_rfl⟩
instance : TyZ Tryd.prog 135 (.agg #[.int .u32 0, .int .u32 0, .int .u32 0, .int .u32 0, .int .u32 0, .int .u32 0, .int .u32 0, .int .u32 0, .int .u32 0, .int .u32 0, .int .u32 0, .int .u32 0, .int .u32 0, .int .u32 0, .int .u32 0, .int .u32 0, .int .u32 0, .int .u32 0, .int .u32 0, .int .u32 0, .int .u32 0, .int .u32 0, .int .u32 0, .int .u32 0, .int .u32 0, .int .u32 0, .int .u32 0, .int .u32 0, .int .u32 0, .int .u32 0, .int .u32 0, .int .u32 0, .int .u32 0, .int .u32 0, .int .u32 0, .int .u32 0, .int .u32 0, .int .u32 0, .int .u32 0, .int .u32 0, .int .u32 0, .int .u32 0, .int .u32 0, .int .u32 0, .int .u32 0, .int .u32 0, .int .u32 0, .int .u32 0, .int .u32 0, .int .u32 0, .int .u32 0, .int .u32 0, .int .u32 0, .int .u32 0, .int .u32 0, .int .u32 0, .int .u32 0, .int .u32 0, .int .u32 0, .int .u32 0, .int .u32 0, .int .u32 0, .int .u32 0, .int .u32 0]) := ⟨by kernel_rfl⟩
instance : TyA Tryd.prog 135 64 := ⟨by kernel_rfl, by kernel_rfl⟩
instance : TyD Tryd.prog 138 (.array 8 35) := ⟨by kernel_rfl⟩
instance : TyS Tryd.prog 138 8 64 := ⟨by kernel_rfl⟩
instance : TyZ Tryd.prog 138 (.agg #[.int .u64 0, .int .u64 0, .int .u64 0, .int .u64 0, .int .u64 0, .int .u64 0, .int .u64 0, .int .u64 0]) := ⟨by kernel_rfl⟩
instance : TyA Tryd.prog 138 8 := ⟨by kernel_rfl, by kernel_rfl⟩
instance : TyS Tryd.prog 140 4 40 := ⟨by kernel_rfl⟩
instance : TyZ Tryd.prog 140 (.agg #[.pointer none, .pointer none, .pointer none, .string ⟨#[]⟩]) := ⟨by kernel_rfl⟩
instance : TyA Tryd.prog 140 4 := ⟨by kernel_rfl, by kernel_rfl⟩
instance : TyP Tryd.prog 140 [(0, 1), (1, 1), (2, 1), (3, 1)] [.pointer none, .pointer none, .pointer none, .string ⟨#[]⟩] := ⟨by kernel_rfl⟩
instance : Fld Tryd.prog 140 0 0 17 := ⟨by kernel_rfl⟩
instance : Fld Tryd.prog 140 1 1 17 := ⟨by kernel_rfl⟩
instance : Fld Tryd.prog 140 2 2 17 := ⟨by kernel_rfl⟩
instance : Fld Tryd.prog 140 3 3 9 := ⟨by kernel_rfl⟩
instance : TyS Tryd.prog 141 4 40 := ⟨by kernel_rfl⟩
instance : TyZ Tryd.prog 141 (.agg #[.pointer none, .pointer none, .pointer none, .string ⟨#[]⟩]) := ⟨by kernel_rfl⟩
instance : TyA Tryd.prog 141 4 := ⟨by kernel_rfl, by kernel_rfl⟩
instance : TyP Tryd.prog 141 [(0, 1), (1, 1), (2, 1), (3, 1)] [.pointer none, .pointer none, .pointer none, .string ⟨#[]⟩] := ⟨by kernel_rfl⟩
instance : Fld Tryd.prog 141 0 0 17 := ⟨by kernel_rfl⟩
instance : Fld Tryd.prog 141 1 1 17 := ⟨by kernel_rfl⟩
instance : Fld Tryd.prog 141 2 2 17 := ⟨by kernel_rfl⟩
instance : Fld Tryd.prog 141 3 3 9 := ⟨by kernel_rfl⟩
instance : TyD Tryd.prog 142 (.array 0 16) := ⟨by kernel_rfl⟩
instance : TyS Tryd.prog 142 0 0 := ⟨by kernel_rfl⟩
instance : TyZ Tryd.prog 142 (.agg #[]) := ⟨by kernel_rfl⟩
instance : TyA Tryd.prog 142 0 := ⟨by kernel_rfl, by kernel_rfl⟩
instance : TyS Tryd.prog 143 0 0 := ⟨by kernel_rfl⟩
instance : TyZ Tryd.prog 143 (.agg #[]) := ⟨by kernel_rfl⟩
instance : TyA Tryd.prog 143 0 := ⟨by kernel_rfl, by kernel_rfl⟩
instance : TyP Tryd.prog 143 [(0, 0)] [] := ⟨by kernel_rfl⟩
instance : TyS Tryd.prog 144 0 0 := ⟨by kernel_rfl⟩
instance : TyZ Tryd.prog 144 (.agg #[]) := ⟨by kernel_rfl⟩
instance : TyA Tryd.prog 144 0 := ⟨by kernel_rfl, by kernel_rfl⟩
instance : TyP Tryd.prog 144 [(0, 0)] [] := ⟨by kernel_rfl⟩
instance : TyD Tryd.prog 146 (.int .u8) := ⟨by kernel_rfl⟩
instance : TyS Tryd.prog 146 1 1 := ⟨by kernel_rfl⟩
instance : TyZ Tryd.prog 146 (.int .u8 0) := ⟨by kernel_rfl⟩
instance : TyC Tryd.prog 146 := ⟨by kernel_rfl, by kernel_rfl, by kernel_rfl⟩
instance : TyD Tryd.prog 147 (.int .u8) := ⟨by kernel_rfl⟩
instance : TyS Tryd.prog 147 1 1 := ⟨by kernel_rfl⟩
instance : TyZ Tryd.prog 147 (.int .u8 0) := ⟨by kernel_rfl⟩
instance : TyC Tryd.prog 147 := ⟨by kernel_rfl, by kernel_rfl, by kernel_rfl⟩
instance : TyD Tryd.prog 149 (.pointer 5) := ⟨by kernel_rfl⟩
instance : TyS Tryd.prog 149 1 8 := ⟨by kernel_rfl⟩
instance : TyZ Tryd.prog 149 (.pointer none) := ⟨by kernel_rfl⟩
instance : TyC Tryd.prog 149 := ⟨by kernel_rfl, by kernel_rfl, by kernel_rfl⟩
instance : TyD Tryd.prog 150 (.int .i32) := ⟨by kernel_rfl⟩
instance : TyS Tryd.prog 150 1 4 := ⟨by kernel_rfl⟩
instance : TyZ Tryd.prog 150 (.int .i32 0) := ⟨by kernel_rfl⟩
instance : TyC Tryd.prog 150 := ⟨by kernel_rfl, by kernel_rfl, by kernel_rfl⟩
instance : TyD Tryd.prog 151 (.int .i32) := ⟨by kernel_rfl⟩
instance : TyS Tryd.prog 151 1 4 := ⟨by kernel_rfl⟩
instance : TyZ Tryd.prog 151 (.int .i32 0) := ⟨by kernel_rfl⟩
instance : TyC Tryd.prog 151 := ⟨by kernel_rfl, by kernel_rfl, by kernel_rfl⟩
instance : TyS Tryd.prog 152 11 48 := ⟨by kernel_rfl⟩
instance : TyZ Tryd.prog 152 (.agg #[.int .u64 0, .int .u64 0, .int .u32 0, .int .u8 0, .int .u8 0, .int .u8 0, .int .u8 0, .nilFunc, .pointer none, .int .i32 0, .int .i32 0]) := ⟨by kernel_rfl⟩
instance : TyA Tryd.prog 152 11 := ⟨by kernel_rfl, by kernel_rfl⟩
instance : Fld Tryd.prog 152 0 0 12 := ⟨by kernel_rfl⟩
instance : Fld Tryd.prog 152 1 1 12 := ⟨by kernel_rfl⟩
instance : Fld Tryd.prog 152 2 2 28 := ⟨by kernel_rfl⟩
instance : Fld Tryd.prog 152 3 3 146 := ⟨by kernel_rfl⟩
instance : Fld Tryd.prog 152 4 4 5 := ⟨by kernel_rfl⟩
instance : Fld Tryd.prog 152 5 5 5 := ⟨by kernel_rfl⟩
instance : Fld Tryd.prog 152 6 6 147 := ⟨by kernel_rfl⟩
instance : Fld Tryd.prog 152 8 8 149 := ⟨by kernel_rfl⟩
instance : Fld Tryd.prog 152 9 9 150 := ⟨by kernel_rfl⟩
instance : Fld Tryd.prog 152 10 10 151 := ⟨by kernel_rfl⟩
instance : TyS Tryd.prog 153 11 48 := ⟨by kernel_rfl⟩
instance : TyZ Tryd.prog 153 (.agg #[.int .u64 0, .int .u64 0, .int .u32 0, .int .u8 0, .int .u8 0, .int .u8 0, .int .u8 0, .nilFunc, .pointer none, .int .i32 0, .int .i32 0]) := ⟨by kernel_rfl⟩
instance : TyA Tryd.prog 153 11 := ⟨by kernel_rfl, by kernel_rfl⟩
instance : Fld Tryd.prog 153 0 0 12 := ⟨by kernel_rfl⟩
instance : Fld Tryd.prog 153 1 1 12 := ⟨by kernel_rfl⟩
instance : Fld Tryd.prog 153 2 2 28 := ⟨by kernel_rfl⟩
instance : Fld Tryd.prog 153 3 3 146 := ⟨by kernel_rfl⟩
instance : Fld Tryd.prog 153 4 4 5 := ⟨by kernel_rfl⟩
instance : Fld Tryd.prog 153 5 5 5 := ⟨by kernel_rfl⟩
instance : Fld Tryd.prog 153 6 6 147 := ⟨by kernel_rfl⟩
instance : Fld Tryd.prog 153 8 8 149 := ⟨by kernel_rfl⟩
instance : Fld Tryd.prog 153 9 9 150 := ⟨by kernel_rfl⟩
instance : Fld Tryd.prog 153 10 10 151 := ⟨by kernel_rfl⟩
instance : TyS Tryd.prog 154 1 8 := ⟨by kernel_rfl⟩
instance : TyZ Tryd.prog 154 (.pointer none) := ⟨by kernel_rfl⟩
instance : TyC Tryd.prog 154 := ⟨by kernel_rfl, by kernel_rfl, by kernel_rfl⟩
instance : Ent Tryd.prog 3 := ent_of Tryd.func3 (by kernel_rfl) (by kernel_rfl)
instance : FnE Tryd.prog 3 Tryd.f3 23 := ⟨Tryd.func3, Tryd.ntmps3⟩
instance : Ent Tryd.prog 4 := ent_of Tryd.func4 (by kernel_rfl) (by kernel_rfl)
instance : FnE Tryd.prog 4 Tryd.f4 64 := ⟨Tryd.func4, Tryd.ntmps4⟩
instance : Ent Tryd.prog 5 := ent_of Tryd.func5 (by kernel_rfl) (by kernel_rfl)
instance : FnE Tryd.prog 5 Tryd.f5 56 := ⟨Tryd.func5, Tryd.ntmps5⟩
instance : Ent Tryd.prog 6 := ent_of Tryd.func6 (by kernel_rfl) (by kernel_rfl)
instance : FnE Tryd.prog 6 Tryd.f6 56 := ⟨Tryd.func6, Tryd.ntmps6⟩
instance : Ent Tryd.prog 7 := ent_of Tryd.func7 (by kernel_rfl) (by kernel_rfl)
instance : FnE Tryd.prog 7 Tryd.f7 31 := ⟨Tryd.func7, Tryd.ntmps7⟩
instance : Ent Tryd.prog 8 := ent_of Tryd.func8 (by kernel_rfl) (by kernel_rfl)
instance : FnE Tryd.prog 8 Tryd.f8 101 := ⟨Tryd.func8, Tryd.ntmps8⟩
instance : Ent Tryd.prog 9 := ent_of Tryd.func9 (by kernel_rfl) (by kernel_rfl)
instance : FnE Tryd.prog 9 Tryd.f9 111 := ⟨Tryd.func9, Tryd.ntmps9⟩
instance : Ent Tryd.prog 10 := ent_of Tryd.func10 (by kernel_rfl) (by kernel_rfl)
instance : FnE Tryd.prog 10 Tryd.f10 34 := ⟨Tryd.func10, Tryd.ntmps10⟩
instance : Ent Tryd.prog 11 := ent_of Tryd.func11 (by kernel_rfl) (by kernel_rfl)
instance : FnE Tryd.prog 11 Tryd.f11 47 := ⟨Tryd.func11, Tryd.ntmps11⟩
instance : Ent Tryd.prog 12 := ent_of Tryd.func12 (by kernel_rfl) (by kernel_rfl)
instance : FnE Tryd.prog 12 Tryd.f12 24 := ⟨Tryd.func12, Tryd.ntmps12⟩
instance : Ent Tryd.prog 13 := ent_of Tryd.func13 (by kernel_rfl) (by kernel_rfl)
instance : FnE Tryd.prog 13 Tryd.f13 46 := ⟨Tryd.func13, Tryd.ntmps13⟩
instance : Ent Tryd.prog 14 := ent_of Tryd.func14 (by kernel_rfl) (by kernel_rfl)
instance : FnE Tryd.prog 14 Tryd.f14 69 := ⟨Tryd.func14, Tryd.ntmps14⟩
instance : Ent Tryd.prog 15 := ent_of Tryd.func15 (by kernel_rfl) (by kernel_rfl)
instance : FnE Tryd.prog 15 Tryd.f15 66 := ⟨Tryd.func15, Tryd.ntmps15⟩
instance : Ent Tryd.prog 16 := ent_of Tryd.func16 (by kernel_rfl) (by kernel_rfl)
instance : FnE Tryd.prog 16 Tryd.f16 260 := ⟨Tryd.func16, Tryd.ntmps16⟩
instance : Ent Tryd.prog 17 := ent_of Tryd.func17 (by kernel_rfl) (by kernel_rfl)
instance : FnE Tryd.prog 17 Tryd.f17 24 := ⟨Tryd.func17, Tryd.ntmps17⟩
instance : Ent Tryd.prog 18 := ent_of Tryd.func18 (by kernel_rfl) (by kernel_rfl)
instance : FnE Tryd.prog 18 Tryd.f18 70 := ⟨Tryd.func18, Tryd.ntmps18⟩
instance : Ent Tryd.prog 19 := ent_of Tryd.func19 (by kernel_rfl) (by kernel_rfl)
instance : FnE Tryd.prog 19 Tryd.f19 33 := ⟨Tryd.func19, Tryd.ntmps19⟩
instance : Ent Tryd.prog 20 := ent_of Tryd.func20 (by kernel_rfl) (by kernel_rfl)
instance : FnE Tryd.prog 20 Tryd.f20 12 := ⟨Tryd.func20, Tryd.ntmps20⟩
instance : Ent Tryd.prog 21 := ent_of Tryd.func21 (by kernel_rfl) (by kernel_rfl)
instance : FnE Tryd.prog 21 Tryd.f21 55 := ⟨Tryd.func21, Tryd.ntmps21⟩
instance : Ent Tryd.prog 22 := ent_of Tryd.func22 (by kernel_rfl) (by kernel_rfl)
instance : FnE Tryd.prog 22 Tryd.f22 2 := ⟨Tryd.func22, Tryd.ntmps22⟩
instance : Ent Tryd.prog 23 := ent_of Tryd.func23 (by kernel_rfl) (by kernel_rfl)
instance : FnE Tryd.prog 23 Tryd.f23 10 := ⟨Tryd.func23, Tryd.ntmps23⟩
instance : Ent Tryd.prog 24 := ent_of Tryd.func24 (by kernel_rfl) (by kernel_rfl)
instance : FnE Tryd.prog 24 Tryd.f24 18 := ⟨Tryd.func24, Tryd.ntmps24⟩
instance : Ent Tryd.prog 25 := ent_of Tryd.func25 (by kernel_rfl) (by kernel_rfl)
instance : FnE Tryd.prog 25 Tryd.f25 17 := ⟨Tryd.func25, Tryd.ntmps25⟩
instance : Ent Tryd.prog 26 := ent_of Tryd.func26 (by kernel_rfl) (by kernel_rfl)
instance : FnE Tryd.prog 26 Tryd.f26 9 := ⟨Tryd.func26, Tryd.ntmps26⟩
instance : Ent Tryd.prog 27 := ent_of Tryd.func27 (by kernel_rfl) (by kernel_rfl)
instance : FnE Tryd.prog 27 Tryd.f27 129 := ⟨Tryd.func27, Tryd.ntmps27⟩
instance : Ent Tryd.prog 28 := ent_of Tryd.func28 (by kernel_rfl) (by kernel_rfl)
instance : FnE Tryd.prog 28 Tryd.f28 14 := ⟨Tryd.func28, Tryd.ntmps28⟩
instance : Ent Tryd.prog 29 := ent_of Tryd.func29 (by kernel_rfl) (by kernel_rfl)
instance : FnE Tryd.prog 29 Tryd.f29 77 := ⟨Tryd.func29, Tryd.ntmps29⟩
instance : Ent Tryd.prog 30 := ent_of Tryd.func30 (by kernel_rfl) (by kernel_rfl)
instance : FnE Tryd.prog 30 Tryd.f30 4 := ⟨Tryd.func30, Tryd.ntmps30⟩
instance : Ent Tryd.prog 31 := ent_of Tryd.func31 (by kernel_rfl) (by kernel_rfl)
instance : FnE Tryd.prog 31 Tryd.f31 11 := ⟨Tryd.func31, Tryd.ntmps31⟩
instance : Ent Tryd.prog 32 := ent_of Tryd.func32 (by kernel_rfl) (by kernel_rfl)
instance : FnE Tryd.prog 32 Tryd.f32 28 := ⟨Tryd.func32, Tryd.ntmps32⟩
instance : Ent Tryd.prog 33 := ent_of Tryd.func33 (by kernel_rfl) (by kernel_rfl)
instance : FnE Tryd.prog 33 Tryd.f33 31 := ⟨Tryd.func33, Tryd.ntmps33⟩
instance : Ent Tryd.prog 34 := ent_of Tryd.func34 (by kernel_rfl) (by kernel_rfl)
instance : FnE Tryd.prog 34 Tryd.f34 3 := ⟨Tryd.func34, Tryd.ntmps34⟩
instance : Ent Tryd.prog 35 := ent_of Tryd.func35 (by kernel_rfl) (by kernel_rfl)
instance : FnE Tryd.prog 35 Tryd.f35 24 := ⟨Tryd.func35, Tryd.ntmps35⟩
instance : Ent Tryd.prog 36 := ent_of Tryd.func36 (by kernel_rfl) (by kernel_rfl)
instance : FnE Tryd.prog 36 Tryd.f36 23 := ⟨Tryd.func36, Tryd.ntmps36⟩
instance : Ent Tryd.prog 37 := ent_of Tryd.func37 (by kernel_rfl) (by kernel_rfl)
instance : FnE Tryd.prog 37 Tryd.f37 39 := ⟨Tryd.func37, Tryd.ntmps37⟩
instance : Ent Tryd.prog 38 := ent_of Tryd.func38 (by kernel_rfl) (by kernel_rfl)
instance : FnE Tryd.prog 38 Tryd.f38 3 := ⟨Tryd.func38, Tryd.ntmps38⟩
instance : Ent Tryd.prog 39 := ent_of Tryd.func39 (by kernel_rfl) (by kernel_rfl)
instance : FnE Tryd.prog 39 Tryd.f39 28 := ⟨Tryd.func39, Tryd.ntmps39⟩
instance : Ent Tryd.prog 40 := ent_of Tryd.func40 (by kernel_rfl) (by kernel_rfl)
instance : FnE Tryd.prog 40 Tryd.f40 125 := ⟨Tryd.func40, Tryd.ntmps40⟩
instance : Ent Tryd.prog 41 := ent_of Tryd.func41 (by kernel_rfl) (by kernel_rfl)
instance : FnE Tryd.prog 41 Tryd.f41 32 := ⟨Tryd.func41, Tryd.ntmps41⟩
instance : Ent Tryd.prog 42 := ent_of Tryd.func42 (by kernel_rfl) (by kernel_rfl)
instance : FnE Tryd.prog 42 Tryd.f42 109 := ⟨Tryd.func42, Tryd.ntmps42⟩
instance : Ent Tryd.prog 43 := ent_of Tryd.func43 (by kernel_rfl) (by kernel_rfl)
instance : FnE Tryd.prog 43 Tryd.f43 11 := ⟨Tryd.func43, Tryd.ntmps43⟩
instance : Ent Tryd.prog 44 := ent_of Tryd.func44 (by kernel_rfl) (by kernel_rfl)
instance : FnE Tryd.prog 44 Tryd.f44 101 := ⟨Tryd.func44, Tryd.ntmps44⟩
instance : Ent Tryd.prog 45 := ent_of Tryd.func45 (by kernel_rfl) (by kernel_rfl)
instance : FnE Tryd.prog 45 Tryd.f45 35 := ⟨Tryd.func45, Tryd.ntmps45⟩
instance : Ent Tryd.prog 46 := ent_of Tryd.func46 (by kernel_rfl) (by kernel_rfl)
instance : FnE Tryd.prog 46 Tryd.f46 29 := ⟨Tryd.func46, Tryd.ntmps46⟩
instance : Ent Tryd.prog 47 := ent_of Tryd.func47 (by kernel_rfl) (by kernel_rfl)
instance : FnE Tryd.prog 47 Tryd.f47 94 := ⟨Tryd.func47, Tryd.ntmps47⟩
instance : Ent Tryd.prog 48 := ent_of Tryd.func48 (by kernel_rfl) (by kernel_rfl)
instance : FnE Tryd.prog 48 Tryd.f48 4 := ⟨Tryd.func48, Tryd.ntmps48⟩
instance : Ent Tryd.prog 49 := ent_of Tryd.func49 (by kernel_rfl) (by kernel_rfl)
instance : FnE Tryd.prog 49 Tryd.f49 40 := ⟨Tryd.func49, Tryd.ntmps49⟩
instance : Ent Tryd.prog 50 := ent_of Tryd.func50 (by kernel_rfl) (by kernel_rfl)
instance : FnE Tryd.prog 50 Tryd.f50 55 := ⟨Tryd.func50, Tryd.ntmps50⟩
instance : Ent Tryd.prog 51 := ent_of Tryd.func51 (by kernel_rfl) (by kernel_rfl)
instance : FnE Tryd.prog 51 Tryd.f51 37 := ⟨Tryd.func51, Tryd.ntmps51⟩
instance : Ent Tryd.prog 52 := ent_of Tryd.func52 (by kernel_rfl) (by kernel_rfl)
instance : FnE Tryd.prog 52 Tryd.f52 14 := ⟨Tryd.func52, Tryd.ntmps52⟩
instance : Ent Tryd.prog 53 := ent_of Tryd.func53 (by kernel_rfl) (by kernel_rfl)
instance : FnE Tryd.prog 53 Tryd.f53 25 := ⟨Tryd.func53, Tryd.ntmps53⟩
instance : Ent Tryd.prog 54 := ent_of Tryd.func54 (by kernel_rfl) (by kernel_rfl)
instance : FnE Tryd.prog 54 Tryd.f54 14 := ⟨Tryd.func54, Tryd.ntmps54⟩
instance : Ent Tryd.prog 55 := ent_of Tryd.func55 (by kernel_rfl) (by kernel_rfl)
instance : FnE Tryd.prog 55 Tryd.f55 6 := ⟨Tryd.func55, Tryd.ntmps55⟩
instance : Ent Tryd.prog 56 := ent_of Tryd.func56 (by kernel_rfl) (by kernel_rfl)
instance : FnE Tryd.prog 56 Tryd.f56 26 := ⟨Tryd.func56, Tryd.ntmps56⟩
instance : Ent Tryd.prog 57 := ent_of Tryd.func57 (by kernel_rfl) (by kernel_rfl)
instance : FnE Tryd.prog 57 Tryd.f57 17 := ⟨Tryd.func57, Tryd.ntmps57⟩
instance : Ent Tryd.prog 58 := ent_of Tryd.func58 (by kernel_rfl) (by kernel_rfl)
instance : FnE Tryd.prog 58 Tryd.f58 32 := ⟨Tryd.func58, Tryd.ntmps58⟩
instance : Ent Tryd.prog 59 := ent_of Tryd.func59 (by kernel_rfl) (by kernel_rfl)
instance : FnE Tryd.prog 59 Tryd.f59 10 := ⟨Tryd.func59, Tryd.ntmps59⟩
instance : Ent Tryd.prog 60 := ent_of Tryd.func60 (by kernel_rfl) (by kernel_rfl)
instance : FnE Tryd.prog 60 Tryd.f60 28 := ⟨Tryd.func60, Tryd.ntmps60⟩
instance : Ent Tryd.prog 61 := ent_of Tryd.func61 (by kernel_rfl) (by kernel_rfl)
instance : FnE Tryd.prog 61 Tryd.f61 32 := ⟨Tryd.func61, Tryd.ntmps61⟩
instance : Ent Tryd.prog 62 := ent_of Tryd.func62 (by kernel_rfl) (by kernel_rfl)
instance : FnE Tryd.prog 62 Tryd.f62 26 := ⟨Tryd.func62, Tryd.ntmps62⟩
instance : Ent Tryd.prog 63 := ent_of Tryd.func63 (by kernel_rfl) (by kernel_rfl)
instance : FnE Tryd.prog 63 Tryd.f63 39 := ⟨Tryd.func63, Tryd.ntmps63⟩
instance : Ent Tryd.prog 64 := ent_of Tryd.func64 (by kernel_rfl) (by kernel_rfl)
instance : FnE Tryd.prog 64 Tryd.f64 144 := ⟨Tryd.func64, Tryd.ntmps64⟩
instance : Ent Tryd.prog 65 := ent_of Tryd.func65 (by kernel_rfl) (by kernel_rfl)
instance : FnE Tryd.prog 65 Tryd.f65 10 := ⟨Tryd.func65, Tryd.ntmps65⟩
instance : Ent Tryd.prog 66 := ent_of Tryd.func66 (by kernel_rfl) (by kernel_rfl)
instance : FnE Tryd.prog 66 Tryd.f66 109 := ⟨Tryd.func66, Tryd.ntmps66⟩
instance : Ent Tryd.prog 67 := ent_of Tryd.func67 (by kernel_rfl) (by kernel_rfl)
instance : FnE Tryd.prog 67 Tryd.f67 19 := ⟨Tryd.func67, Tryd.ntmps67⟩
instance : Ent Tryd.prog 68 := ent_of Tryd.func68 (by kernel_rfl) (by kernel_rfl)
instance : FnE Tryd.prog 68 Tryd.f68 58 := ⟨Tryd.func68, Tryd.ntmps68⟩
instance : Ent Tryd.prog 69 := ent_of Tryd.func69 (by kernel_rfl) (by kernel_rfl)
instance : FnE Tryd.prog 69 Tryd.f69 16 := ⟨Tryd.func69, Tryd.ntmps69⟩
instance : Ent Tryd.prog 70 := ent_of Tryd.func70 (by kernel_rfl) (by kernel_rfl)
instance : FnE Tryd.prog 70 Tryd.f70 42 := ⟨Tryd.func70, Tryd.ntmps70⟩
instance : Ent Tryd.prog 71 := ent_of Tryd.func71 (by kernel_rfl) (by kernel_rfl)
instance : FnE Tryd.prog 71 Tryd.f71 22 := ⟨Tryd.func71, Tryd.ntmps71⟩
instance : Ent Tryd.prog 72 := ent_of Tryd.func72 (by kernel_rfl) (by kernel_rfl)
instance : FnE Tryd.prog 72 Tryd.f72 40 := ⟨Tryd.func72, Tryd.ntmps72⟩
instance : Ent Tryd.prog 73 := ent_of Tryd.func73 (by kernel_rfl) (by kernel_rfl)
instance : FnE Tryd.prog 73 Tryd.f73 21 := ⟨Tryd.func73, Tryd.ntmps73⟩
instance : Ent Tryd.prog 74 := ent_of Tryd.func74 (by kernel_rfl) (by kernel_rfl)
instance : FnE Tryd.prog 74 Tryd.f74 144 := ⟨Tryd.func74, Tryd.ntmps74⟩
instance : Ent Tryd.prog 75 := ent_of Tryd.func75 (by kernel_rfl) (by kernel_rfl)
instance : FnE Tryd.prog 75 Tryd.f75 23 := ⟨Tryd.func75, Tryd.ntmps75⟩
instance : Ent Tryd.prog 76 := ent_of Tryd.func76 (by kernel_rfl) (by kernel_rfl)
instance : FnE Tryd.prog 76 Tryd.f76 50 := ⟨Tryd.func76, Tryd.ntmps76⟩
instance : Ent Tryd.prog 77 := ent_of Tryd.func77 (by kernel_rfl) (by kernel_rfl)
instance : FnE Tryd.prog 77 Tryd.f77 30 := ⟨Tryd.func77, Tryd.ntmps77⟩
instance : Ent Tryd.prog 78 := ent_of Tryd.func78 (by kernel_rfl) (by kernel_rfl)
instance : FnE Tryd.prog 78 Tryd.f78 3 := ⟨Tryd.func78, Tryd.ntmps78⟩
instance : Ent Tryd.prog 79 := ent_of Tryd.func79 (by kernel_rfl) (by kernel_rfl)
instance : FnE Tryd.prog 79 Tryd.f79 25 := ⟨Tryd.func79, Tryd.ntmps79⟩
instance : Ent Tryd.prog 80 := ent_of Tryd.func80 (by kernel_rfl) (by kernel_rfl)
instance : FnE Tryd.prog 80 Tryd.f80 13 := ⟨Tryd.func80, Tryd.ntmps80⟩
instance : Ent Tryd.prog 81 := ent_of Tryd.func81 (by kernel_rfl) (by kernel_rfl)
instance : FnE Tryd.prog 81 Tryd.f81 23 := ⟨Tryd.func81, Tryd.ntmps81⟩
instance : Ent Tryd.prog 82 := ent_of Tryd.func82 (by kernel_rfl) (by kernel_rfl)
instance : FnE Tryd.prog 82 Tryd.f82 54 := ⟨Tryd.func82, Tryd.ntmps82⟩
instance : Ent Tryd.prog 83 := ent_of Tryd.func83 (by kernel_rfl) (by kernel_rfl)
instance : FnE Tryd.prog 83 Tryd.f83 29 := ⟨Tryd.func83, Tryd.ntmps83⟩
instance : Ent Tryd.prog 84 := ent_of Tryd.func84 (by kernel_rfl) (by kernel_rfl)
instance : FnE Tryd.prog 84 Tryd.f84 30 := ⟨Tryd.func84, Tryd.ntmps84⟩
instance : Ent Tryd.prog 85 := ent_of Tryd.func85 (by kernel_rfl) (by kernel_rfl)
instance : FnE Tryd.prog 85 Tryd.f85 17 := ⟨Tryd.func85, Tryd.ntmps85⟩
instance : Ent Tryd.prog 86 := ent_of Tryd.func86 (by kernel_rfl) (by kernel_rfl)
instance : FnE Tryd.prog 86 Tryd.f86 191 := ⟨Tryd.func86, Tryd.ntmps86⟩
instance : Ent Tryd.prog 87 := ent_of Tryd.func87 (by kernel_rfl) (by kernel_rfl)
instance : FnE Tryd.prog 87 Tryd.f87 24 := ⟨Tryd.func87, Tryd.ntmps87⟩
instance : Ent Tryd.prog 88 := ent_of Tryd.func88 (by kernel_rfl) (by kernel_rfl)
instance : FnE Tryd.prog 88 Tryd.f88 32 := ⟨Tryd.func88, Tryd.ntmps88⟩
instance : Ent Tryd.prog 89 := ent_of Tryd.func89 (by kernel_rfl) (by kernel_rfl)
instance : FnE Tryd.prog 89 Tryd.f89 27 := ⟨Tryd.func89, Tryd.ntmps89⟩
instance : Ent Tryd.prog 90 := ent_of Tryd.func90 (by kernel_rfl) (by kernel_rfl)
instance : FnE Tryd.prog 90 Tryd.f90 34 := ⟨Tryd.func90, Tryd.ntmps90⟩
instance : Ent Tryd.prog 91 := ent_of Tryd.func91 (by kernel_rfl) (by kernel_rfl)
instance : FnE Tryd.prog 91 Tryd.f91 34 := ⟨Tryd.func91, Tryd.ntmps91⟩
instance : Ent Tryd.prog 93 := ent_of Tryd.func93 (by kernel_rfl) (by kernel_rfl)
instance : FnE Tryd.prog 93 Tryd.f93 110 := ⟨Tryd.func93, Tryd.ntmps93⟩
theorem mixed : Tryd.prog.follows .mixedOrders = true := by kernel_rfl
end Go.Proofs.YtfaobdakpbpkbaaDoor
end
section
/-
  limbs: numbers of eight words: Add, Sub, Compare, Bit, Zero. Conditions: the numbers are below 2^256.
-/
namespace Go.Proofs.YtfaobdakpbpkbaaDoor
open Go.RowKit Go.Pt

/-- the words of a number -/
def d8 (n : Nat) : List Value := cellsN .u32 8 (dg W32 n)
abbrev numV (n : Nat) : Value := .agg (cellsN .u32 8 (dg W32 n)).toArray
theorem dlt (n i : Nat) : dg W32 n i < 4294967296 := dg_lt (by decide) n i
theorem d8_mod (n : Nat) : cellsN .u32 8 (dg W32 (n % W256)) = cellsN .u32 8 (dg W32 n) := cellsN_congr fun j hj => by rw [W256_eq]; exact dg_mod hj
theorem hi8_eq (n : Nat) : hi W32 n 8 = n / W256 := by unfold hi; rw [W256_eq]
theorem hi8_lt {n : Nat} (h : n < W256) : hi W32 n 8 = 0 := hi_top (by rw [← W256_eq]; exact h)
set_option maxHeartbeats 1000000 in
theorem limbAdd (a b : Nat) (ha : a < W256) (hb : b < W256) (w : World) :
    Calls Tryd.prog 88 #[numV a, numV b] w fun e w' => e = .returned (.tuple #[numV ((a + b) % W256), .int .u32 ((a + b) / W256 : Nat)]) ∧ Hp w [] w' := by
  refine enter (args := [_, _]) (Γ := [(0, _), (1, _)]) Tryd.func88 Tryd.ntmps88 rfl (of_decide_eq_true rfl) (.cons rfl (.cons rfl .nil)) ?_
  repeat' (first | (apply Wl.boxN; exact rfl; exact rfl; intro c hc ho) | (apply Wl.allocN; exact rfl; (first | exact z8 | exact z16 | exact z17 | exact z33 | exact z10); intro c hc ho) | (apply Wl.move; exact rfl; exact rfl) | (apply Wl.assign; exact rfl; exact rfl) | (apply Wl.nil) | (apply St.seq) | (apply St.block) | (apply St.region) | (apply Gt.next) | (apply Wl.splitP; exact rfl; exact rfl; all_goals (intros; try (exfalso; omega))) | (apply Wl.splitB; exact rfl; exact rfl; all_goals intros) | (apply St.condP; exact rfl; all_goals (intros; try (exfalso; omega))) | (apply St.condB; exact rfl; all_goals intros))
  rename_i ca hca hoa cb hcb hob
  generalize c = cr at *
  refine St.loop (σ := Nat × Nat) (fun τ => τ.1 ≤ 8 ∧ τ.2 ≤ 1 ∧ hi W32 (a + b) τ.1 = hi W32 a τ.1 + hi W32 b τ.1 + τ.2)
    (fun τ => [(2, .pointer (some ⟨ca, 0, none⟩)), (3, .pointer (some ⟨cb, 0, none⟩)), (4, .pointer (some ⟨cr, 0, none⟩)), (6, .int .u64 τ.2), (8, .int .i64 τ.1)])
    (fun τ => Hp w [⟨cr, cellsN .u32 8 fun _ => 0, 30⟩, ⟨cb, cellsN .u32 8 (dg W32 b), 30⟩, ⟨ca, cellsN .u32 8 (fillN (dg W32 a) (dg W32 (a + b)) τ.1), 30⟩])
    (fun τ => 8 - τ.1) (0, 0) ⟨by simp, by simp, by simp [hi_zero]⟩ (by (repeat (first | exact Sub.nil | apply Sub.cons rfl))) (fun _ h => by simpa only [fillN_zero] using h) ?_
  rintro ⟨i, c⟩ ⟨hi8, hc1, hic⟩
  simp only at hi8 hc1 hic ⊢
  have hA := dlt a i
  have hB := dlt b i
  have hf : fillN (dg W32 a) (dg W32 (a + b)) i i = dg W32 a i := fillN_at (Nat.le_refl _)
  by_cases hlt : i < 8
  · have hF := hA
    rw [← hf] at hF
    obtain ⟨e1, e2⟩ := add_step hic
    repeat' (first | (apply Wl.indexA; exact rfl; exact rfl; exact rfl; (omega)) | (apply Wl.loadN; exact rfl; exact rfl; (repeat (first | exact List.Mem.head _ | apply List.Mem.tail)); (omega)) | (apply Wl.storeN; exact rfl; exact rfl; (repeat (first | apply HSet.here | apply HSet.there)); (omega)) | (apply Wl.addNU; exact rfl; exact rfl; exact rfl; (first | assumption | omega)) | (apply Wl.shr32; exact rfl; exact rfl; exact rfl) | (apply Wl.convN32 (k := .u64); exact rfl; exact rfl) | (apply Wl.move; exact rfl; exact rfl) | (apply Wl.assign; exact rfl; exact rfl) | (apply Wl.lss; exact rfl; exact rfl; exact rfl) | (apply Wl.addI; exact rfl; exact rfl; exact rfl; (constructor <;> omega)) | (apply Wl.convU64; exact rfl; exact rfl; (constructor <;> omega)) | (apply Wl.nil) | (apply Wl.nilQ) | (apply St.seq) | (apply St.block) | (apply St.region) | (apply St.draw; exact mixed; (kernel_rfl); exact (fun _ h => Hp.drew h)) | (apply St.skip) | (apply Gt.next) | (apply Gt.inNormal) | (apply Wl.splitP; exact rfl; exact rfl; all_goals (intros; try (exfalso; omega))) | (apply Wl.splitB; exact rfl; exact rfl; all_goals intros) | (apply St.condP; exact rfl; all_goals (intros; try (exfalso; omega))) | (apply St.condB; exact rfl; all_goals intros))
    rw [hf, e1]
    apply Gt.round (i + 1, (c + (dg W32 a i + dg W32 b i)) / 4294967296)
    rotate_left
    · simp only; omega
    · (repeat (first | exact Sub.nil | apply Sub.cons rfl))
    · exact fun _ h => by rw [fillN_step] at h; exact h
    · exact ⟨by simp only; omega, by simp only; omega, e2⟩
  · have : i = 8 := by omega
    subst this
    have hc : c = (a + b) / W256 := by rw [hi8_lt ha, hi8_lt hb, hi8_eq] at hic; omega
    repeat' (first | (apply Wl.loadW; exact rfl; exact rfl; (repeat (first | exact List.Mem.head _ | apply List.Mem.tail)); exact rfl) | (apply Wl.storeW; exact rfl; exact rfl; (repeat (first | apply HSet.here | apply HSet.there)); exact rfl; (first | exact cellsN_len _ _ _ | exact rfl)) | (apply Wl.convN32 (k := .u64); exact rfl; exact rfl) | (apply Wl.move; exact rfl; exact rfl) | (apply Wl.assign; exact rfl; exact rfl) | (apply Wl.lss; exact rfl; exact rfl; exact rfl) | (apply Wl.nil) | (apply St.seq) | (apply St.region) | (apply St.condF; exact rfl; (first | with_reducible rfl | with_reducible assumption | decide)) | (apply St.ret) | (apply St.exit) | (apply Gt.next) | (apply Gt.thenExit) | (apply Gt.inExit) | (apply Wl.splitP; exact rfl; exact rfl; all_goals (intros; try (exfalso; omega))) | (apply Wl.splitB; exact rfl; exact rfl; all_goals intros) | (apply St.condP; exact rfl; all_goals (intros; try (exfalso; omega))) | (apply St.condB; exact rfl; all_goals intros))
    apply Gt.outCT
    · exact rfl
    · infer_instance
    · exact rfl
    · exact rfl
    · (repeat (first | exact List.Mem.head _ | apply List.Mem.tail))
    · exact LSub.whole (cellsN_len _ _ _)
    intro w' hp
    refine ⟨?_, hp.drop (by simp; omega)⟩
    rw [fillN_end, ← d8_mod, Nat.mod_eq_of_lt (show c < 4294967296 by omega), hc]
theorem two56 : W32 ^ 8 = W256 := W256_eq.symm
set_option maxHeartbeats 1000000 in
theorem limbSub (a b : Nat) (ha : a < W256) (hb : b < W256) (w : World) :
    Calls Tryd.prog 58 #[numV a, numV b] w fun e w' => e = .returned (.tuple #[numV ((a + W256 - b) % W256), .int .u32 (if a < b then 1 else 0 : Nat)]) ∧ Hp w [] w' := by
  refine enter (args := [_, _]) (Γ := [(0, _), (1, _)]) Tryd.func58 Tryd.ntmps58 rfl (of_decide_eq_true rfl) (.cons rfl (.cons rfl .nil)) ?_
  repeat' (first | (apply Wl.boxN; exact rfl; exact rfl; intro c hc ho) | (apply Wl.allocN; exact rfl; (first | exact z8 | exact z16 | exact z17 | exact z33 | exact z10); intro c hc ho) | (apply Wl.move; exact rfl; exact rfl) | (apply Wl.assign; exact rfl; exact rfl) | (apply Wl.nil) | (apply St.seq) | (apply St.block) | (apply St.region) | (apply Gt.next) | (apply Wl.splitP; exact rfl; exact rfl; all_goals (intros; try (exfalso; omega))) | (apply Wl.splitB; exact rfl; exact rfl; all_goals intros) | (apply St.condP; exact rfl; all_goals (intros; try (exfalso; omega))) | (apply St.condB; exact rfl; all_goals intros))
  rename_i ca hca hoa cb hcb hob
  generalize c = cr at *
  refine St.loop (σ := Nat × Nat) (fun τ => τ.1 ≤ 8 ∧ τ.2 ≤ 1 ∧ hi W32 (a + W256 - b) τ.1 + hi W32 b τ.1 + τ.2 = hi W32 a τ.1 + W32 ^ (8 - τ.1))
    (fun τ => [(2, .pointer (some ⟨ca, 0, none⟩)), (3, .pointer (some ⟨cb, 0, none⟩)), (4, .pointer (some ⟨cr, 0, none⟩)), (6, .int .u64 τ.2), (8, .int .i64 τ.1)])
    (fun τ => Hp w [⟨cr, cellsN .u32 8 fun _ => 0, 30⟩, ⟨cb, cellsN .u32 8 (dg W32 b), 30⟩, ⟨ca, cellsN .u32 8 (fillN (dg W32 a) (dg W32 (a + W256 - b)) τ.1), 30⟩])
    (fun τ => 8 - τ.1) (0, 0) ⟨by simp, by simp, by simp only [hi_zero, Nat.sub_zero, two56]; omega⟩ (by (repeat (first | exact Sub.nil | apply Sub.cons rfl))) (fun _ h => by simpa only [fillN_zero] using h) ?_
  rintro ⟨i, c⟩ ⟨hi8, hc1, hic⟩
  simp only at hi8 hc1 hic ⊢
  have hA := dlt a i
  have hB := dlt b i
  have hf : fillN (dg W32 a) (dg W32 (a + W256 - b)) i i = dg W32 a i := fillN_at (Nat.le_refl _)
  by_cases hlt : i < 8
  · have hF := hA
    rw [← hf] at hF
    obtain ⟨e1, e2, e3⟩ := sub_step hlt hic hc1
    repeat' (first | (apply Wl.indexA; exact rfl; exact rfl; exact rfl; (omega)) | (apply Wl.loadN; exact rfl; exact rfl; (repeat (first | exact List.Mem.head _ | apply List.Mem.tail)); (omega)) | (apply Wl.storeN; exact rfl; exact rfl; (repeat (first | apply HSet.here | apply HSet.there)); (omega)) | (apply Wl.shr63; exact rfl; exact rfl; exact rfl) | (apply Wl.convN32 (k := .u64); exact rfl; exact rfl) | (apply Wl.subNU; exact rfl; exact rfl; exact rfl; (omega)) | (apply Wl.move; exact rfl; exact rfl) | (apply Wl.assign; exact rfl; exact rfl) | (apply Wl.lss; exact rfl; exact rfl; exact rfl) | (apply Wl.addI; exact rfl; exact rfl; exact rfl; (constructor <;> omega)) | (apply Wl.convU64; exact rfl; exact rfl; (constructor <;> omega)) | (apply Wl.nil) | (apply Wl.nilQ) | (apply St.seq) | (apply St.block) | (apply St.region) | (apply St.draw; exact mixed; (kernel_rfl); exact (fun _ h => Hp.drew h)) | (apply St.skip) | (apply Gt.next) | (apply Gt.inNormal) | (apply Wl.splitP; exact rfl; exact rfl; all_goals (intros; try (exfalso; omega))) | (apply Wl.splitB; exact rfl; exact rfl; all_goals intros) | (apply St.condP; exact rfl; all_goals (intros; try (exfalso; omega))) | (apply St.condB; exact rfl; all_goals intros))
    rw [hf, e1]
    apply Gt.round (i + 1, ((dg W32 a i + 18446744073709551616 - dg W32 b i) % 18446744073709551616 + 18446744073709551616 - c) % 18446744073709551616 / 9223372036854775808)
    rotate_left
    · simp only; omega
    · (repeat (first | exact Sub.nil | apply Sub.cons rfl))
    · exact fun _ h => by rw [fillN_step] at h; exact h
    · exact ⟨by simp only; omega, e3, e2⟩
  · have : i = 8 := by omega
    subst this
    have hc : c = if a < b then 1 else 0 := by
      rw [hi8_lt ha, hi8_lt hb, hi8_eq, Nat.sub_self, Nat.pow_zero] at hic
      unfold W256 at *
      split <;> omega
    repeat' (first | (apply Wl.loadW; exact rfl; exact rfl; (repeat (first | exact List.Mem.head _ | apply List.Mem.tail)); exact rfl) | (apply Wl.storeW; exact rfl; exact rfl; (repeat (first | apply HSet.here | apply HSet.there)); exact rfl; (first | exact cellsN_len _ _ _ | exact rfl)) | (apply Wl.convN32 (k := .u64); exact rfl; exact rfl) | (apply Wl.move; exact rfl; exact rfl) | (apply Wl.assign; exact rfl; exact rfl) | (apply Wl.lss; exact rfl; exact rfl; exact rfl) | (apply Wl.nil) | (apply St.seq) | (apply St.region) | (apply St.condF; exact rfl; (first | with_reducible rfl | with_reducible assumption | decide)) | (apply St.ret) | (apply St.exit) | (apply Gt.next) | (apply Gt.thenExit) | (apply Gt.inExit) | (apply Wl.splitP; exact rfl; exact rfl; all_goals (intros; try (exfalso; omega))) | (apply Wl.splitB; exact rfl; exact rfl; all_goals intros) | (apply St.condP; exact rfl; all_goals (intros; try (exfalso; omega))) | (apply St.condB; exact rfl; all_goals intros))
    apply Gt.outCT
    · exact rfl
    · infer_instance
    · exact rfl
    · exact rfl
    · (repeat (first | exact List.Mem.head _ | apply List.Mem.tail))
    · exact LSub.whole (cellsN_len _ _ _)
    intro w' hp
    refine ⟨?_, hp.drop (by simp; omega)⟩
    rw [fillN_end, ← d8_mod, Nat.mod_eq_of_lt (show c < 4294967296 by omega), hc]
def cmpN (a b : Nat) : Int := if a < b then -1 else if b < a then 1 else 0
set_option maxHeartbeats 1000000 in
theorem limbCompare (a b : Nat) (ha : a < W256) (hb : b < W256) (w : World) :
    Calls Tryd.prog 56 #[numV a, numV b] w fun e w' => e = .returned (.int .i64 (cmpN a b)) ∧ Hp w [] w' := by
  refine enter (args := [_, _]) (Γ := [(0, _), (1, _)]) Tryd.func56 Tryd.ntmps56 rfl (of_decide_eq_true rfl) (.cons rfl (.cons rfl .nil)) ?_
  repeat' (first | (apply Wl.boxN; exact rfl; exact rfl; intro c hc ho) | (apply Wl.assign; exact rfl; exact rfl) | (apply Wl.nil) | (apply St.seq) | (apply St.block) | (apply St.region) | (apply Gt.next) | (apply Wl.splitP; exact rfl; exact rfl; all_goals (intros; try (exfalso; omega))) | (apply Wl.splitB; exact rfl; exact rfl; all_goals intros) | (apply St.condP; exact rfl; all_goals (intros; try (exfalso; omega))) | (apply St.condB; exact rfl; all_goals intros))
  rename_i ca hca hoa
  generalize c = cb at *
  refine St.loop (σ := Nat) (fun τ => τ ≤ 8 ∧ hi W32 a τ = hi W32 b τ)
    (fun τ => [(2, .pointer (some ⟨ca, 0, none⟩)), (3, .pointer (some ⟨cb, 0, none⟩)), (5, .int .i64 ((τ : Int) - 1))])
    (fun τ => Hp w [⟨cb, cellsN .u32 8 (dg W32 b), 30⟩, ⟨ca, cellsN .u32 8 (dg W32 a), 30⟩])
    (fun τ => τ) 8 ⟨by simp, by rw [hi8_lt ha, hi8_lt hb]⟩ (by (repeat (first | exact Sub.nil | apply Sub.cons rfl))) (fun _ h => h) ?_
  rintro i ⟨hi8, hic⟩
  cases i with
  | zero =>
    rw [hi_zero, hi_zero] at hic
    repeat' (first | (apply Wl.move; exact rfl; exact rfl) | (apply Wl.assign; exact rfl; exact rfl) | (apply Wl.geq; exact rfl; exact rfl; exact rfl) | (apply Wl.nil) | (apply St.seq) | (apply St.region) | (apply St.condF; exact rfl; (first | with_reducible rfl | with_reducible assumption | decide)) | (apply St.ret) | (apply St.exit) | (apply Gt.next) | (apply Gt.thenExit) | (apply Gt.inExit) | (apply Gt.out1; exact rfl; exact rfl; intro w' hp) | (apply Wl.splitP; exact rfl; exact rfl; all_goals (intros; try (exfalso; omega))) | (apply Wl.splitB; exact rfl; exact rfl; all_goals intros) | (apply St.condP; exact rfl; all_goals (intros; try (exfalso; omega))) | (apply St.condB; exact rfl; all_goals intros))
    refine ⟨?_, hp.drop (by simp; omega)⟩
    unfold cmpN
    rw [if_neg (by omega), if_neg (by omega)]
  | succ i =>
    have e : (((i + 1 : Nat) : Int) - 1) = (i : Int) := by omega
    rw [e]
    have ea := hi_eq W32 a i
    have eb := hi_eq W32 b i
    rw [hic] at ea
    repeat' (first | (apply Wl.indexA; exact rfl; exact rfl; exact rfl; (omega)) | (apply Wl.loadN; exact rfl; exact rfl; (repeat (first | exact List.Mem.head _ | apply List.Mem.tail)); (omega)) | (apply Wl.move; exact rfl; exact rfl) | (apply Wl.assign; exact rfl; exact rfl) | (apply Wl.lss; exact rfl; exact rfl; exact rfl) | (apply Wl.gtr; exact rfl; exact rfl; exact rfl) | (apply Wl.geq; exact rfl; exact rfl; exact rfl) | (apply Wl.subI; exact rfl; exact rfl; exact rfl; (constructor <;> omega)) | (apply Wl.nil) | (apply Wl.nilQ) | (apply St.seq) | (apply St.block) | (apply St.region) | (apply St.draw; exact mixed; (kernel_rfl); exact (fun _ h => Hp.drew h)) | (apply St.ret) | (apply St.skip) | (apply Gt.next) | (apply Gt.thenRet) | (apply Gt.inNormal) | (apply Gt.inRet) | (apply Gt.out1; exact rfl; exact rfl; intro w' hp) | (apply Wl.splitP; exact rfl; exact rfl; all_goals (intros; try (exfalso; omega))) | (apply Wl.splitB; exact rfl; exact rfl; all_goals intros) | (apply St.condP; exact rfl; all_goals (intros; try (exfalso; omega))) | (apply St.condB; exact rfl; all_goals intros))
    · refine ⟨?_, hp.drop (by simp; omega)⟩
      unfold cmpN
      rw [if_pos (lt_of_hi (B := W32) (i := i) (by omega))]
    · refine ⟨?_, hp.drop (by simp; omega)⟩
      unfold cmpN
      have : b < a := lt_of_hi (B := W32) (i := i) (by omega)
      rw [if_neg (by omega), if_pos this]
    · apply Gt.round i
      rotate_left
      · simp
      · (repeat (first | exact Sub.nil | apply Sub.cons rfl))
      · exact fun _ h => h
      · exact ⟨by omega, by omega⟩
set_option maxHeartbeats 1000000 in
theorem limbBit (a i : Nat) (hi' : i < 256) (w : World) :
    Calls Tryd.prog 67 #[numV a, .int .i64 i] w fun e w' => e = .returned (.int .u32 (a / 2 ^ i % 2 : Nat)) ∧ Hp w [] w' := by
  refine enter (args := [_, _]) (Γ := [(0, _), (1, _)]) Tryd.func67 Tryd.ntmps67 rfl (of_decide_eq_true rfl) (.cons rfl (.cons rfl .nil)) ?_
  have hi32 : i / 32 < 8 := by omega
  repeat' (first | (apply Wl.indexA; exact rfl; exact rfl; exact rfl; (omega)) | (apply Wl.loadN; exact rfl; exact rfl; (repeat (first | exact List.Mem.head _ | apply List.Mem.tail)); (omega)) | (apply Wl.boxN; exact rfl; exact rfl; intro c hc ho) | (apply Wl.and1; exact rfl; exact rfl; exact rfl; exact rfl; (first | exact wrap2_u32 | exact wrap2_u64 | exact wrap2_i64)) | (apply Wl.quoN (n := 32); exact rfl; exact rfl; exact rfl; (decide); (first | exact IntWalk.u64_in _ (by omega) | exact IntWalk.i64_in _ (by omega))) | (apply Wl.remN (n := 32); exact rfl; exact rfl; exact rfl; (decide)) | (apply Wl.shrV; exact rfl; exact rfl; exact rfl; (first | (show _ ≤ 32; omega) | (show _ ≤ 64; omega))) | (apply Wl.move; exact rfl; exact rfl) | (apply Wl.assign; exact rfl; exact rfl) | (apply Wl.on; exact rfl; exact rfl; (first | with_reducible rfl | with_reducible assumption | decide)) | (apply Wl.pickF; exact rfl; exact rfl; (first | with_reducible rfl | with_reducible assumption | decide); exact rfl) | (apply Wl.lss; exact rfl; exact rfl; exact rfl) | (apply Wl.gtr; exact rfl; exact rfl; exact rfl) | (apply Wl.nil) | (apply St.seq) | (apply St.region) | (apply St.ret) | (apply St.skip) | (apply Gt.next) | (apply Gt.out1; exact rfl; exact rfl; intro w' hp) | (apply Wl.splitP; exact rfl; exact rfl; all_goals (intros; try (exfalso; omega))) | (apply Wl.splitB; exact rfl; exact rfl; all_goals intros) | (apply St.condP; exact rfl; all_goals (intros; try (exfalso; omega))) | (apply St.condB; exact rfl; all_goals intros))
  refine ⟨?_, hp.drop (by simp; omega)⟩
  rw [bit_dg]
theorem cell32 (f : Nat → Nat) (hf : ∀ j, f j < 4294967296) : ∀ j, j < 8 → IntKind.u32.min ≤ (f j : Int) ∧ (f j : Int) ≤ IntKind.u32.max := fun j _ => by
  have := hf j
  simp only [IntKind.min, IntKind.max, IntKind.signed, IntKind.bits]
  constructor <;> simp <;> omega
theorem d8_inj {a b : Nat} (ha : a < W256) (hb : b < W256) : decide (a = b) = true ↔ ∀ j, j < 8 → dg W32 a j = dg W32 b j := by
  rw [decide_eq_true_eq]
  exact ⟨fun e _ _ => by rw [e], dg_ext (k := 8) (by rw [← W256_eq]; exact ha) (by rw [← W256_eq]; exact hb)⟩
end Go.Proofs.YtfaobdakpbpkbaaDoor
end
section
/-
  mont.Mod: fit, Add, Sub. Conditions: the receiver's modulus lies in memory.
-/
namespace Go.Pt
open Go.RowKit
theorem hpNil (w : World) : Hp w [] w := ⟨Upd.refl _ _, trivial, trivial⟩
theorem hpPop {w0 w : World} {x : Blk} {H : List Blk} (h : Hp w0 (x :: H) w) (hx : w0.heap.size ≤ x.b) : Hp w0 H w :=
  ⟨h.upd.mono fun k hk hs ho => hs ⟨fun e => by omega, ho⟩, h.own.2, h.apart.2⟩
/-- n integers lie in memory from the o-th cell of a block on -/
def ArrAt (w : World) (b o : Nat) (k : IntKind) (n : Nat) (f : Nat → Nat) : Prop := ∀ j, j < n → w.cell? ⟨b, o + j, none⟩ = some (.int k (f j))
theorem ArrAt.get {w : World} {b o n : Nat} {k : IntKind} {f : Nat → Nat} (h : ArrAt w b o k n f) (j : Nat) (v : Value) (hj : (cellsN k n f)[j]? = some v) : w.cell? ⟨b, o + j, none⟩ = some v := by
  have hl := (List.getElem?_eq_some_iff.1 hj).1
  rw [cellsN_len] at hl
  rw [cellsN_get hl] at hj
  rw [← hj]
  exact h j hl
theorem ArrAt.lt {w : World} {b o n : Nat} {k : IntKind} {f : Nat → Nat} (h : ArrAt w b o k n f) (hn : 0 < n) : b < w.heap.size := World.block_lt_of_cell? w _ (h 0 hn)
theorem ArrAt.upd {S : Nat → Prop} {w w' : World} {b o n : Nat} {k : IntKind} {f : Nat → Nat} (h : ArrAt w b o k n f) (u : Upd S w w') (hs : ¬ S b) : ArrAt w' b o k n f := fun j hj => u.cell (h j hj) hs
theorem ArrAt.hp {w w' : World} {H : List Blk} {b o n : Nat} {k : IntKind} {f : Nat → Nat} (h : ArrAt w b o k n f) (u : Hp w H w') (hs : Off H b) : ArrAt w' b o k n f := h.upd u.upd fun y => y hs
section
variable {P : Program} {md : Md} {N : Nat} {ops : Array Oper} {rest : List Oper} {Γ : Env} {Q : Exit → Act → World → Prop} {d : Nat} {ty : TypeId} {pos : String} {af : Array Edge} {t : TypeId} {x y : Operand}
theorem Wl.loadM {w0 : World} {H : List Blk} {n m : Nat} [TyA P t n] {b o : Nat} {k : IntKind} {f : Nat → Nat} (hd : Nat.blt d N = true) (hx : ev Γ x = some (.pointer (some ⟨b, o, none⟩))) (hm : ArrAt w0 b o k m f) (ho : Off H b) (hn : Nat.beq m n = true)
    (h : Wl rest P md ops N ((d, .agg (cellsN k m f).toArray) :: Γ) (Hp w0 H) Q) : Wl (⟨some d, .load t x, ty, pos, af, none⟩ :: rest) P md ops N Γ (Hp w0 H) Q :=
  Wl.loadAF hd hx ((cellsN_len k m f).trans (Nat.eq_of_beq_eq_true hn)) (fun w hw i v hv => by rw [addLit]; exact hw.old (hm.get i v hv) ho) h
theorem Wl.loadME {w0 : World} {H : List Blk} {n : Nat} [TyC P t] {b j : Nat} {k : IntKind} {f : Nat → Nat} (hd : Nat.blt d N = true) (hx : ev Γ x = some (.pointer (some ⟨b, j, none⟩))) (hm : ArrAt w0 b 0 k n f) (ho : Off H b) (hj : j < n)
    (h : Wl rest P md ops N ((d, .int k (f j)) :: Γ) (Hp w0 H) Q) : Wl (⟨some d, .load t x, ty, pos, af, none⟩ :: rest) P md ops N Γ (Hp w0 H) Q :=
  Wl.loadO hd hx (by have := hm j hj; rw [Nat.zero_add] at this; exact this) ho h
end
theorem Gt.outN {P : Program} {N : Nat} {Γ : Env} {w0 : World} {H : List Blk} {fn : Func} {R : Ending → World → Prop} {t ty n c m bt : Nat} {k : IntKind} {f : Nat → Nat} (hr : fn.results = #[.cell t ty]) (hT : TyA P ty n) (ht : look Γ t = some (.pointer (some ⟨c, 0, none⟩))) (hm : (⟨c, cellsN k m f, bt⟩ : Blk) ∈ H) (hn : Nat.beq m n = true)
    (h : ∀ w, Hp w0 H w → R (.returned (.agg (cellsN k m f).toArray)) w) : Gt N .ret Γ (Hp w0 H) (bodyPost P fn R) := Gt.outC' hr hT ht hm (LSub.whole ((cellsN_len k m f).trans (Nat.eq_of_beq_eq_true hn))) h
end Go.Pt
namespace Go.Proofs.YtfaobdakpbpkbaaDoor
open Go.RowKit Go.Pt

abbrev mp (b : Nat) : Value := .pointer (some ⟨b, 0, none⟩)
set_option maxHeartbeats 1000000 in
theorem modFit (b m n over : Nat) (w : World) (hM : ArrAt w b 0 .u32 8 (dg W32 m)) (hm : m < W256) (hn : n < W256) (hov : over ≤ 1) (h2 : n + W256 * over < 2 * m) :
    Calls Tryd.prog 62 #[mp b, numV n, .int .u32 over] w fun e w' => e = .returned (numV ((n + W256 * over) % m)) ∧ Hp w [] w' := by
  have hb := hM.lt (by decide)
  have ho := once h2
  have k1 : 0 < over → (n + W256 * over) % m = (n + W256 - m) % W256 := fun h => by
    have e : over = 1 := by omega
    subst e
    rw [Nat.mul_one] at h2 ho
    rw [Nat.mul_one, ho, if_pos (by omega), Nat.mod_eq_of_lt (show n + W256 - m < W256 by omega)]
  have k2 : over = 0 → ¬ n < m → (n + W256 * over) % m = (n + W256 - m) % W256 := fun h h' => by
    subst h
    rw [Nat.mul_zero, Nat.add_zero] at h2 ho
    rw [Nat.mul_zero, Nat.add_zero, ho, if_pos (by omega), show n + W256 - m = (n - m) + W256 by omega, Nat.add_mod_right, Nat.mod_eq_of_lt (by omega)]
  have k3 : over = 0 → n < m → (n + W256 * over) % m = n := fun h h' => by
    subst h
    rw [Nat.mul_zero, Nat.add_zero, Nat.mod_eq_of_lt h']
  refine enter (args := [_, _, _]) (Γ := [(0, _), (1, _), (2, _)]) Tryd.func62 Tryd.ntmps62 rfl (of_decide_eq_true rfl) (.cons rfl (.cons rfl (.cons rfl .nil))) ?_
  repeat' (first | (apply Wl.boxN; exact rfl; exact rfl; intro c hc ho) | (apply Wl.allocN; exact rfl; (first | exact z8 | exact z16 | exact z17 | exact z33 | exact z10); intro c hc ho) | (apply Wl.nil) | (apply St.seq) | (apply St.region) | (apply Gt.next) | (apply Wl.splitP; exact rfl; exact rfl; all_goals (intros; try (exfalso; omega))) | (apply Wl.splitB; exact rfl; exact rfl; all_goals intros) | (apply St.condP; exact rfl; all_goals (intros; try (exfalso; omega))) | (apply St.condB; exact rfl; all_goals intros))
  rename_i ca hca hoa
  generalize c = cr at *
  refine St.tree (Hp w [_, _]) mixed (fun _ h => ⟨Hp.drew h, Hp.drew h⟩) ?_
  repeat' (first | (apply Wl.loadM; exact rfl; exact rfl; exact hM; (apply Off.of; simp; omega); exact rfl) | (refine Mt.pure 0 (by decide +kernel) (by exact rfl) (by exact rfl) (by decide +kernel) (by decide +kernel) ?_) | (refine Mt.pure 1 (by decide +kernel) (by exact rfl) (by exact rfl) (by decide +kernel) (by decide +kernel) ?_) | (refine Mt.pure 2 (by decide +kernel) (by exact rfl) (by exact rfl) (by decide +kernel) (by decide +kernel) ?_) | (refine Mt.pure 3 (by decide +kernel) (by exact rfl) (by exact rfl) (by decide +kernel) (by decide +kernel) ?_) | (refine Mt.pure 4 (by decide +kernel) (by exact rfl) (by exact rfl) (by decide +kernel) (by decide +kernel) ?_) | (refine Mt.eff1 (i := 5) (by decide +kernel) (by exact rfl) ?_) | (refine Mt.eff2 (i := 5) (j := 9) (by decide +kernel) (by exact rfl) (by exact rfl) ?_ ?_) | (apply Mt.back) | (refine Mt.backE (fun _ h => by first | exact h | exact hpPop h (by simp only; omega)) ?_) | (apply Wl.loadW; exact rfl; exact rfl; (repeat (first | exact List.Mem.head _ | apply List.Mem.tail)); exact rfl) | (apply Wl.allocN; exact rfl; (first | exact z8 | exact z16 | exact z17 | exact z33 | exact z10); intro c hc ho) | (apply Wl.move; exact rfl; exact rfl) | (apply Wl.nilCheck; exact rfl; exact rfl) | (apply Wl.fieldAddr0; exact rfl; exact rfl) | (apply Wl.nil) | (apply Wl.nilM) | (apply Wl.splitP; exact rfl; exact rfl; all_goals (intros; try (exfalso; omega))) | (apply Wl.splitB; exact rfl; exact rfl; all_goals intros) | (apply St.condP; exact rfl; all_goals (intros; try (exfalso; omega))) | (apply St.condB; exact rfl; all_goals intros))
  all_goals
    apply Wl.callQ
    exact rfl
    (repeat (first | exact Evs.nil | apply Evs.cons rfl))
    · intro wq hq
      refine (limbSub n m hn hm wq).mono ?_
      rintro e wr ⟨rfl, hr⟩
      exact ⟨rfl, hq.keep hr⟩
    repeat' (first | (apply Gt.outN; exact rfl; infer_instance; exact rfl; (repeat (first | exact List.Mem.head _ | apply List.Mem.tail)); exact rfl; intro w' hp) | (refine Mt.toGt (by decide +kernel) ?_) | (refine Mt.pure 6 (by decide +kernel) (by exact rfl) (by exact rfl) (by decide +kernel) (by decide +kernel) ?_) | (refine Mt.pure 7 (by decide +kernel) (by exact rfl) (by exact rfl) (by decide +kernel) (by decide +kernel) ?_) | (refine Mt.pure 8 (by decide +kernel) (by exact rfl) (by exact rfl) (by decide +kernel) (by decide +kernel) ?_) | (refine Mt.pure 11 (by decide +kernel) (by exact rfl) (by exact rfl) (by decide +kernel) (by decide +kernel) ?_) | (refine Mt.eff1 (i := 9) (by decide +kernel) (by exact rfl) ?_) | (refine Mt.eff1 (i := 10) (by decide +kernel) (by exact rfl) ?_) | (apply Mt.back) | (refine Mt.backE (fun _ h => by first | exact h | exact hpPop h (by simp only; omega)) ?_) | (apply Wl.loadW; exact rfl; exact rfl; (repeat (first | exact List.Mem.head _ | apply List.Mem.tail)); exact rfl) | (apply Wl.storeW; exact rfl; exact rfl; (repeat (first | apply HSet.here | apply HSet.there)); exact rfl; (first | exact cellsN_len _ _ _ | exact rfl)) | (apply Wl.allocN; exact rfl; (first | exact z8 | exact z16 | exact z17 | exact z33 | exact z10); intro c hc ho) | (apply Wl.move; exact rfl; exact rfl) | (apply Wl.assign; exact rfl; exact rfl) | (apply Wl.on; exact rfl; exact rfl; (first | with_reducible rfl | with_reducible assumption | decide)) | (apply Wl.off; exact rfl; exact rfl; exact rfl; (first | with_reducible rfl | (show _ = false; with_reducible assumption) | (show _ = true; with_reducible assumption) | decide)) | (apply Wl.extract; exact rfl; exact rfl; exact rfl) | (apply Wl.pickT; exact rfl; exact rfl; (first | with_reducible rfl | with_reducible assumption | decide); exact rfl) | (apply Wl.pickF; exact rfl; exact rfl; (first | with_reducible rfl | with_reducible assumption | decide); exact rfl) | (apply Wl.eql; exact rfl; exact rfl; exact rfl) | (apply Wl.gtr; exact rfl; exact rfl; exact rfl) | (apply Wl.nil) | (apply Wl.nilM) | (apply St.seq) | (apply St.region) | (apply St.condT; exact rfl; (first | with_reducible rfl | with_reducible assumption | decide)) | (apply St.ret) | (apply St.skip) | (apply Gt.next) | (apply Gt.thenRet) | (apply Wl.splitP; exact rfl; exact rfl; all_goals (intros; try (exfalso; omega))) | (apply Wl.splitB; exact rfl; exact rfl; all_goals intros) | (apply St.condP; exact rfl; all_goals (intros; try (exfalso; omega))) | (apply St.condB; exact rfl; all_goals intros))
  all_goals
    refine ⟨?_, hp.drop (by simp; omega)⟩
    first
      | rw [k1 (by omega)]
      | rw [k2 (by omega) (by have := ‹((if n < m then 1 else 0 : Nat) : Int) = 0›; split at this <;> omega)]
      | rw [k3 (by omega) (by have := ‹¬((if n < m then 1 else 0 : Nat) : Int) = 0›; split at this <;> omega)]
set_option maxHeartbeats 1000000 in
theorem modAdd (b m x y : Nat) (w : World) (hM : ArrAt w b 0 .u32 8 (dg W32 m)) (hm : m < W256) (hx : x < m) (hy : y < m) :
    Calls Tryd.prog 57 #[mp b, numV x, numV y] w fun e w' => e = .returned (numV ((x + y) % m)) ∧ Hp w [] w' := by
  have hb := hM.lt (by decide)
  refine enter (args := [_, _, _]) (Γ := [(0, _), (1, _), (2, _)]) Tryd.func57 Tryd.ntmps57 rfl (of_decide_eq_true rfl) (.cons rfl (.cons rfl (.cons rfl .nil))) ?_
  repeat' (first | (apply Wl.loadW; exact rfl; exact rfl; (repeat (first | exact List.Mem.head _ | apply List.Mem.tail)); exact rfl) | (apply Wl.boxN; exact rfl; exact rfl; intro c hc ho) | (apply Wl.allocN; exact rfl; (first | exact z8 | exact z16 | exact z17 | exact z33 | exact z10); intro c hc ho) | (apply Wl.move; exact rfl; exact rfl) | (apply Wl.eqlPN; exact rfl; exact rfl; exact rfl) | (apply Wl.nil) | (apply St.seq) | (apply St.region) | (apply St.condF; exact rfl; (first | with_reducible rfl | with_reducible assumption | decide)) | (apply St.skip) | (apply Gt.next) | (apply Wl.splitP; exact rfl; exact rfl; all_goals (intros; try (exfalso; omega))) | (apply Wl.splitB; exact rfl; exact rfl; all_goals intros) | (apply St.condP; exact rfl; all_goals (intros; try (exfalso; omega))) | (apply St.condB; exact rfl; all_goals intros))
  apply Wl.callQ
  exact rfl
  (repeat (first | exact Evs.nil | apply Evs.cons rfl))
  · intro wq hq
    refine (limbAdd x y (by omega) (by omega) wq).mono ?_
    rintro e wr ⟨rfl, hr⟩
    exact ⟨rfl, hq.keep hr⟩
  repeat' (first | (apply Wl.extract; exact rfl; exact rfl; exact rfl) | (apply Wl.splitP; exact rfl; exact rfl; all_goals (intros; try (exfalso; omega))) | (apply Wl.splitB; exact rfl; exact rfl; all_goals intros) | (apply St.condP; exact rfl; all_goals (intros; try (exfalso; omega))) | (apply St.condB; exact rfl; all_goals intros))
  apply Wl.callQ
  exact rfl
  (repeat (first | exact Evs.nil | apply Evs.cons rfl))
  · intro wq hq
    refine (modFit b m ((x + y) % W256) ((x + y) / W256) wq (hM.hp hq (by apply Off.of; simp; omega)) hm (Nat.mod_lt _ (by decide)) (by unfold W256 at *; omega) (by rw [Nat.mod_add_div]; omega)).mono ?_
    rintro e wr ⟨rfl, hr⟩
    exact ⟨rfl, hq.keep hr⟩
  rw [Nat.mod_add_div]
  repeat' (first | (apply Gt.outN; exact rfl; infer_instance; exact rfl; (repeat (first | exact List.Mem.head _ | apply List.Mem.tail)); exact rfl; intro w' hp) | (apply Wl.storeW; exact rfl; exact rfl; (repeat (first | apply HSet.here | apply HSet.there)); exact rfl; (first | exact cellsN_len _ _ _ | exact rfl)) | (apply Wl.nil) | (apply St.ret) | (apply Gt.next) | (apply Wl.splitP; exact rfl; exact rfl; all_goals (intros; try (exfalso; omega))) | (apply Wl.splitB; exact rfl; exact rfl; all_goals intros) | (apply St.condP; exact rfl; all_goals (intros; try (exfalso; omega))) | (apply St.condB; exact rfl; all_goals intros))
  exact ⟨rfl, hp.drop (by simp; omega)⟩
end Go.Proofs.YtfaobdakpbpkbaaDoor
end
section
/-
  mont.Mod: Sub, low, and the state of a modulus. Conditions: the receiver's modulus lies in memory.
-/
namespace Go.Proofs.YtfaobdakpbpkbaaDoor
open Go.RowKit Go.Pt
set_option maxHeartbeats 1000000 in
theorem modSub (b m x y : Nat) (w : World) (hM : ArrAt w b 0 .u32 8 (dg W32 m)) (hm : m < W256) (hx : x < m) (hy : y < m) :
    Calls Tryd.prog 77 #[mp b, numV x, numV y] w fun e w' => e = .returned (numV ((x + m - y) % m)) ∧ Hp w [] w' := by
  have hb := hM.lt (by decide)
  refine enter (args := [_, _, _]) (Γ := [(0, _), (1, _), (2, _)]) Tryd.func77 Tryd.ntmps77 rfl (of_decide_eq_true rfl) (.cons rfl (.cons rfl (.cons rfl .nil))) ?_
  repeat' (first | (apply Wl.loadW; exact rfl; exact rfl; (repeat (first | exact List.Mem.head _ | apply List.Mem.tail)); exact rfl) | (apply Wl.boxN; exact rfl; exact rfl; intro c hc ho) | (apply Wl.allocN; exact rfl; (first | exact z8 | exact z16 | exact z17 | exact z33 | exact z10); intro c hc ho) | (apply Wl.move; exact rfl; exact rfl) | (apply Wl.eqlPN; exact rfl; exact rfl; exact rfl) | (apply Wl.nil) | (apply St.seq) | (apply St.region) | (apply St.condF; exact rfl; (first | with_reducible rfl | with_reducible assumption | decide)) | (apply St.skip) | (apply Gt.next) | (apply Wl.splitP; exact rfl; exact rfl; all_goals (intros; try (exfalso; omega))) | (apply Wl.splitB; exact rfl; exact rfl; all_goals intros) | (apply St.condP; exact rfl; all_goals (intros; try (exfalso; omega))) | (apply St.condB; exact rfl; all_goals intros))
  apply Wl.callQ
  exact rfl
  (repeat (first | exact Evs.nil | apply Evs.cons rfl))
  · intro wq hq
    refine (limbSub x y (by omega) (by omega) wq).mono ?_
    rintro e wr ⟨rfl, hr⟩
    exact ⟨rfl, hq.keep hr⟩
  by_cases hxy : x < y
  · have e1 : (x + W256 - y) % W256 = x + W256 - y := Nat.mod_eq_of_lt (by omega)
    have e2 : ((x + W256 - y) % W256 + m) % W256 = (x + m - y) % m := by
      rw [e1, show x + W256 - y + m = (x + m - y) + W256 by omega, Nat.add_mod_right, Nat.mod_eq_of_lt (by omega), Nat.mod_eq_of_lt (by omega)]
    rw [if_pos hxy]
    repeat' (first | (apply Wl.storeW; exact rfl; exact rfl; (repeat (first | apply HSet.here | apply HSet.there)); exact rfl; (first | exact cellsN_len _ _ _ | exact rfl)) | (apply Wl.allocN; exact rfl; (first | exact z8 | exact z16 | exact z17 | exact z33 | exact z10); intro c hc ho) | (apply Wl.move; exact rfl; exact rfl) | (apply Wl.assign; exact rfl; exact rfl) | (apply Wl.extract; exact rfl; exact rfl; exact rfl) | (apply Wl.gtr; exact rfl; exact rfl; exact rfl) | (apply Wl.nil) | (apply St.seq) | (apply St.region) | (apply St.condT; exact rfl; (first | with_reducible rfl | with_reducible assumption | decide)) | (apply Gt.next) | (apply Wl.splitP; exact rfl; exact rfl; all_goals (intros; try (exfalso; omega))) | (apply Wl.splitB; exact rfl; exact rfl; all_goals intros) | (apply St.condP; exact rfl; all_goals (intros; try (exfalso; omega))) | (apply St.condB; exact rfl; all_goals intros))
    refine St.tree (Hp w [_, _, _]) mixed (fun _ h => ⟨Hp.drew h, hpPop (Hp.drew h) (by simp only; omega)⟩) ?_
    refine Mt.pure 1 (by decide +kernel) (by exact rfl) (by exact rfl) (by decide +kernel) (by decide +kernel) ?_
    repeat' (first | (apply Wl.move; exact rfl; exact rfl) | (apply Wl.nilM) | (apply Wl.splitP; exact rfl; exact rfl; all_goals (intros; try (exfalso; omega))) | (apply Wl.splitB; exact rfl; exact rfl; all_goals intros) | (apply St.condP; exact rfl; all_goals (intros; try (exfalso; omega))) | (apply St.condB; exact rfl; all_goals intros))
    apply Mt.back
    refine Mt.pure 2 (by decide +kernel) (by exact rfl) (by exact rfl) (by decide +kernel) (by decide +kernel) ?_
    repeat' (first | (apply Wl.nilCheck; exact rfl; exact rfl) | (apply Wl.nilM) | (apply Wl.splitP; exact rfl; exact rfl; all_goals (intros; try (exfalso; omega))) | (apply Wl.splitB; exact rfl; exact rfl; all_goals intros) | (apply St.condP; exact rfl; all_goals (intros; try (exfalso; omega))) | (apply St.condB; exact rfl; all_goals intros))
    apply Mt.back
    refine Mt.pure 3 (by decide +kernel) (by exact rfl) (by exact rfl) (by decide +kernel) (by decide +kernel) ?_
    repeat' (first | (apply Wl.fieldAddr0; exact rfl; exact rfl) | (apply Wl.nilM) | (apply Wl.splitP; exact rfl; exact rfl; all_goals (intros; try (exfalso; omega))) | (apply Wl.splitB; exact rfl; exact rfl; all_goals intros) | (apply St.condP; exact rfl; all_goals (intros; try (exfalso; omega))) | (apply St.condB; exact rfl; all_goals intros))
    apply Mt.back
    refine Mt.pure 4 (by decide +kernel) (by exact rfl) (by exact rfl) (by decide +kernel) (by decide +kernel) ?_
    repeat' (first | (apply Wl.loadM; exact rfl; exact rfl; exact hM; (apply Off.of; simp; omega); exact rfl) | (apply Wl.nilM) | (apply Wl.splitP; exact rfl; exact rfl; all_goals (intros; try (exfalso; omega))) | (apply Wl.splitB; exact rfl; exact rfl; all_goals intros) | (apply St.condP; exact rfl; all_goals (intros; try (exfalso; omega))) | (apply St.condB; exact rfl; all_goals intros))
    apply Mt.back
    refine Mt.eff1 (i := 0) (by decide +kernel) (by exact rfl) ?_
    repeat' (first | (apply Wl.loadW; exact rfl; exact rfl; (repeat (first | exact List.Mem.head _ | apply List.Mem.tail)); exact rfl) | (apply Wl.nil) | (apply Wl.splitP; exact rfl; exact rfl; all_goals (intros; try (exfalso; omega))) | (apply Wl.splitB; exact rfl; exact rfl; all_goals intros) | (apply St.condP; exact rfl; all_goals (intros; try (exfalso; omega))) | (apply St.condB; exact rfl; all_goals intros))
    refine Mt.backE (fun _ h => by first | exact h | exact hpPop h (by simp only; omega)) ?_
    refine Mt.eff1 (i := 5) (by decide +kernel) (by exact rfl) ?_
    apply Wl.callQ
    exact rfl
    (repeat (first | exact Evs.nil | apply Evs.cons rfl))
    · intro wq hq
      refine (limbAdd ((x + W256 - y) % W256) m (Nat.mod_lt _ (by decide)) hm wq).mono ?_
      rintro e wr ⟨rfl, hr⟩
      exact ⟨rfl, hq.keep hr⟩
    rw [e2]
    repeat' (first | (apply Wl.nil) | (apply Wl.splitP; exact rfl; exact rfl; all_goals (intros; try (exfalso; omega))) | (apply Wl.splitB; exact rfl; exact rfl; all_goals intros) | (apply St.condP; exact rfl; all_goals (intros; try (exfalso; omega))) | (apply St.condB; exact rfl; all_goals intros))
    refine Mt.backE (fun _ h => by first | exact h | exact hpPop h (by simp only; omega)) ?_
    refine Mt.pure 6 (by decide +kernel) (by exact rfl) (by exact rfl) (by decide +kernel) (by decide +kernel) ?_
    repeat' (first | (apply Wl.move; exact rfl; exact rfl) | (apply Wl.nilM) | (apply Wl.splitP; exact rfl; exact rfl; all_goals (intros; try (exfalso; omega))) | (apply Wl.splitB; exact rfl; exact rfl; all_goals intros) | (apply St.condP; exact rfl; all_goals (intros; try (exfalso; omega))) | (apply St.condB; exact rfl; all_goals intros))
    apply Mt.back
    refine Mt.pure 7 (by decide +kernel) (by exact rfl) (by exact rfl) (by decide +kernel) (by decide +kernel) ?_
    repeat' (first | (apply Wl.extract; exact rfl; exact rfl; exact rfl) | (apply Wl.nilM) | (apply Wl.splitP; exact rfl; exact rfl; all_goals (intros; try (exfalso; omega))) | (apply Wl.splitB; exact rfl; exact rfl; all_goals intros) | (apply St.condP; exact rfl; all_goals (intros; try (exfalso; omega))) | (apply St.condB; exact rfl; all_goals intros))
    apply Mt.back
    refine Mt.pure 8 (by decide +kernel) (by exact rfl) (by exact rfl) (by decide +kernel) (by decide +kernel) ?_
    repeat' (first | (apply Wl.extract; exact rfl; exact rfl; exact rfl) | (apply Wl.nilM) | (apply Wl.splitP; exact rfl; exact rfl; all_goals (intros; try (exfalso; omega))) | (apply Wl.splitB; exact rfl; exact rfl; all_goals intros) | (apply St.condP; exact rfl; all_goals (intros; try (exfalso; omega))) | (apply St.condB; exact rfl; all_goals intros))
    apply Mt.back
    refine Mt.eff1 (i := 9) (by decide +kernel) (by exact rfl) ?_
    repeat' (first | (apply Wl.storeW; exact rfl; exact rfl; (repeat (first | apply HSet.here | apply HSet.there)); exact rfl; (first | exact cellsN_len _ _ _ | exact rfl)) | (apply Wl.nil) | (apply Wl.splitP; exact rfl; exact rfl; all_goals (intros; try (exfalso; omega))) | (apply Wl.splitB; exact rfl; exact rfl; all_goals intros) | (apply St.condP; exact rfl; all_goals (intros; try (exfalso; omega))) | (apply St.condB; exact rfl; all_goals intros))
    refine Mt.backE (fun _ h => by first | exact h | exact hpPop h (by simp only; omega)) ?_
    refine Mt.toGt (by decide +kernel) ?_
    repeat' (first | (apply Gt.outN; exact rfl; infer_instance; exact rfl; (repeat (first | exact List.Mem.head _ | apply List.Mem.tail)); exact rfl; intro w' hp) | (apply Wl.loadW; exact rfl; exact rfl; (repeat (first | exact List.Mem.head _ | apply List.Mem.tail)); exact rfl) | (apply Wl.storeW; exact rfl; exact rfl; (repeat (first | apply HSet.here | apply HSet.there)); exact rfl; (first | exact cellsN_len _ _ _ | exact rfl)) | (apply Wl.nil) | (apply St.seq) | (apply St.region) | (apply St.ret) | (apply Gt.next) | (apply Wl.splitP; exact rfl; exact rfl; all_goals (intros; try (exfalso; omega))) | (apply Wl.splitB; exact rfl; exact rfl; all_goals intros) | (apply St.condP; exact rfl; all_goals (intros; try (exfalso; omega))) | (apply St.condB; exact rfl; all_goals intros))
    exact ⟨rfl, hp.drop (by simp; omega)⟩
  · have e1 : (x + W256 - y) % W256 = (x + m - y) % m := by
      rw [show x + W256 - y = (x - y) + W256 by omega, Nat.add_mod_right, Nat.mod_eq_of_lt (by omega), show x + m - y = (x - y) + m by omega, Nat.add_mod_right, Nat.mod_eq_of_lt (by omega)]
    rw [if_neg hxy, e1]
    repeat' (first | (apply Gt.outN; exact rfl; infer_instance; exact rfl; (repeat (first | exact List.Mem.head _ | apply List.Mem.tail)); exact rfl; intro w' hp) | (apply Wl.loadW; exact rfl; exact rfl; (repeat (first | exact List.Mem.head _ | apply List.Mem.tail)); exact rfl) | (apply Wl.storeW; exact rfl; exact rfl; (repeat (first | apply HSet.here | apply HSet.there)); exact rfl; (first | exact cellsN_len _ _ _ | exact rfl)) | (apply Wl.allocN; exact rfl; (first | exact z8 | exact z16 | exact z17 | exact z33 | exact z10); intro c hc ho) | (apply Wl.move; exact rfl; exact rfl) | (apply Wl.assign; exact rfl; exact rfl) | (apply Wl.extract; exact rfl; exact rfl; exact rfl) | (apply Wl.gtr; exact rfl; exact rfl; exact rfl) | (apply Wl.nil) | (apply St.seq) | (apply St.region) | (apply St.condF; exact rfl; (first | with_reducible rfl | with_reducible assumption | decide)) | (apply St.ret) | (apply St.skip) | (apply Gt.next) | (apply Wl.splitP; exact rfl; exact rfl; all_goals (intros; try (exfalso; omega))) | (apply Wl.splitB; exact rfl; exact rfl; all_goals intros) | (apply St.condP; exact rfl; all_goals (intros; try (exfalso; omega))) | (apply St.condB; exact rfl; all_goals intros))
    exact ⟨rfl, hp.drop (by simp; omega)⟩
end Go.Proofs.YtfaobdakpbpkbaaDoor
end
section
/-
  mont.Mod.Times: Montgomery's product. Conditions: the second factor is below the modulus.
-/
namespace Go.Pt
open Go.RowKit
theorem hpHead {w0 w : World} {x : Blk} {H : List Blk} (h : Hp w0 (x :: H) w) (hH : ∀ y ∈ H, w0.heap.size ≤ y.b) : Hp w0 [x] w :=
  ⟨h.upd.mono fun k hk hs ho => hs ⟨ho.1, Off.of fun y hy e => by have := hH y hy; omega⟩, ⟨h.own.1, trivial⟩, ⟨trivial, trivial⟩⟩
section
variable {P : Program} {md : Md} {N : Nat} {ops : Array Oper} {rest : List Oper} {Γ : Env} {C : World → Prop} {Q : Exit → Act → World → Prop} {d : Nat} {ty : TypeId} {pos : String} {af : Array Edge} {t : TypeId} {x y : Operand}
theorem Wl.predI {t u : TypeId} {n : Nat} (hd : Nat.blt d N = true) (hx : ev Γ x = some (.int .i64 ((n + 1 : Nat) : Int))) (hy : ev Γ y = some (.int .i64 1)) (hb : n < 9223372036854775807) (h : Wl rest P md ops N ((d, .int .i64 (n : Int)) :: Γ) C Q) : Wl (⟨some d, .binOp .sub t x y u, ty, pos, af, none⟩ :: rest) P md ops N Γ C Q :=
  Wl.subI hd hx hy (by omega) (by rw [show ((n + 1 : Nat) : Int) - 1 = (n : Int) by omega]; exact h)
theorem Wl.sliceToArr {n e : Nat} [ht : TyD P t (.array n e)] {a : Addr} {l c : Nat} (hd : Nat.blt d N = true) (hx : ev Γ x = some (.slice (some a) l c)) (hn : n ≤ l) (h : Wl rest P md ops N ((d, .pointer (some a)) :: Γ) C Q) : Wl (⟨some d, .sliceToArrayPointer t x, ty, pos, af, none⟩ :: rest) P md ops N Γ C Q :=
  Wl.val hd (fun a' w ha _ => by simp [execOp, ha.ev hx, Instr.arrayAt, run_underlying ht.out, show ¬ l < n by omega]) h
theorem Wl.sliceArrF {e sz by_ n : Nat} [ht : TyD P t (.array n e)] [TyS P e sz by_] {b o h' : Nat} {z : Operand} {k : IntKind} (hd : Nat.blt d N = true) (hx : ev Γ x = some (.pointer (some ⟨b, o, none⟩))) (hz : ev Γ z = some (.int k (h' : Int))) (h2 : h' ≤ n) (hn : n ≠ 0)
    (h : Wl rest P md ops N ((d, .slice (some ⟨b, o, none⟩) h' n) :: Γ) C Q) : Wl (⟨some d, .slice t x none (some z) none, ty, pos, af, none⟩ :: rest) P md ops N Γ C Q :=
  Wl.val hd (fun a w ha _ => by
    have e2 : ∀ c, (Instr.sliceBound (.int k (h' : Int)) n c).run P w = .ok h' w := fun c => by
      simp only [Instr.sliceBound, asIntOf, pure_bind]
      rw [if_pos (by omega)]
      simp
    simp [execOp, ha.ev hx, ha.ev hz, Instr.sliceAt, run_underlying ht.out, Instr.sureAddr, Instr.sliceBounds, e2, run_size (P := P) (t := e), Addr.add, hn]) h
/-- the first n cells of a longer array -/
theorem cellsN_take {k : IntKind} {n m : Nat} {f : Nat → Nat} (h : n ≤ m) : LSub (cellsN k m f) 0 n (cellsN k n f) := by
  have key : ∀ (l : List Value) n, n ≤ l.length → LSub l 0 n (l.take n) := by
    intro l
    induction l with
    | nil => intro n hn; have : n = 0 := by simpa using hn
             subst this; exact .z
    | cons x r ih =>
      intro n hn
      cases n with
      | zero => exact .z
      | succ n => exact .t (ih n (by simpa using hn))
  have e : (cellsN k m f).take n = cellsN k n f := by
    unfold cellsN
    rw [← List.map_take, List.take_range, Nat.min_eq_left h]
  rw [← e]
  exact key _ _ (by rw [cellsN_len]; exact h)
theorem Wl.loadT {w0 : World} {H : List Blk} {n m bt : Nat} [TyA P t n] {c : Nat} {k : IntKind} {f : Nat → Nat} (hd : Nat.blt d N = true) (hx : ev Γ x = some (.pointer (some ⟨c, 0, none⟩))) (hm : (⟨c, cellsN k m f, bt⟩ : Blk) ∈ H) (hn : n ≤ m)
    (h : Wl rest P md ops N ((d, .agg (cellsN k n f).toArray) :: Γ) (Hp w0 H) Q) : Wl (⟨some d, .load t x, ty, pos, af, none⟩ :: rest) P md ops N Γ (Hp w0 H) Q :=
  Wl.loadAH hd hx hm (cellsN_take hn) h
end
end Go.Pt
namespace Go.Proofs.YtfaobdakpbpkbaaDoor
open Go.RowKit Go.Pt
/-- nine words of T, and one that is left over -/
def t9 (T u : Nat) : Nat → Nat := fun j => if j < 9 then dg W32 T j else u
theorem t9_lo {T u j : Nat} (h : j < 9) : t9 T u j = dg W32 T j := if_pos h
theorem hi_div (B n i : Nat) : hi B (n / B) i = hi B n (i + 1) := by unfold hi; rw [Nat.div_div_eq_div_mul, ← Nat.pow_succ']
theorem hi9_small {S : Nat} (h : S < W256 * 4294967296 * 4294967296) : hi W32 S 9 < 4294967296 := by
  unfold hi
  rw [Nat.div_lt_iff_lt_mul (by decide)]
  have e : W32 ^ 9 * 4294967296 = W256 * 4294967296 * 4294967296 := by decide
  omega
set_option maxHeartbeats 4000000 in
theorem modTimes (b m neg x y : Nat) (w : World) (hM : ArrAt w b 0 .u32 8 (dg W32 m)) (hN : w.cell? ⟨b, 8, none⟩ = some (.int .u32 neg)) (hneg : (m * neg + 1) % 4294967296 = 0) (hm : m < W256) (hodd : m % 2 = 1) (hx : x < W256) (hy : y < m) :
    Calls Tryd.prog 27 #[mp b, numV x, numV y] w fun e w' => e = .returned (numV (x * y * rinv m % m)) ∧ Hp w [] w' := by
  have hb := hM.lt (by decide)
  refine enter (args := [_, _, _]) (Γ := [(0, _), (1, _), (2, _)]) Tryd.func27 Tryd.ntmps27 rfl (of_decide_eq_true rfl) (.cons rfl (.cons rfl (.cons rfl .nil))) ?_
  repeat' (first | (apply Wl.boxN; exact rfl; exact rfl; intro c hc ho) | (apply Wl.allocN; exact rfl; (first | exact z8 | exact z16 | exact z17 | exact z33 | exact z10); intro c hc ho) | (apply Wl.move; exact rfl; exact rfl) | (apply Wl.eqlPN; exact rfl; exact rfl; exact rfl) | (apply Wl.nil) | (apply St.seq) | (apply St.block) | (apply St.region) | (apply St.condF; exact rfl; (first | with_reducible rfl | with_reducible assumption | decide)) | (apply St.skip) | (apply Gt.next) | (apply Wl.splitP; exact rfl; exact rfl; all_goals (intros; try (exfalso; omega))) | (apply Wl.splitB; exact rfl; exact rfl; all_goals intros) | (apply St.condP; exact rfl; all_goals (intros; try (exfalso; omega))) | (apply St.condB; exact rfl; all_goals intros))
  rename_i ca hca hoa cb hcb hob cr hcr hor
  generalize c = ct at *
  refine St.loop (σ := Nat × Nat × Nat) (fun τ => τ.1 ≤ 8 ∧ τ.2.1 < 2 * m ∧ τ.2.1 * W32 ^ τ.1 % m = (x % W32 ^ τ.1) * y % m)
    (fun τ => [(0, mp b), (4, mp ca), (5, mp cb), (6, mp cr), (7, mp ct), (16, .int .i64 τ.1)])
    (fun τ => Hp w [⟨ct, cellsN .u32 10 (t9 τ.2.1 τ.2.2), 102⟩, ⟨cr, cellsN .u32 8 fun _ => 0, 30⟩, ⟨cb, cellsN .u32 8 (dg W32 y), 30⟩, ⟨ca, cellsN .u32 8 (dg W32 x), 30⟩])
    (fun τ => 8 - τ.1) (0, 0, 0) ⟨by simp, by simp; omega, by simp [Nat.mod_one]⟩ (by (repeat (first | exact Sub.nil | apply Sub.cons rfl))) (fun _ h => by
      have e : cellsN .u32 10 (t9 0 0) = cellsN .u32 10 (fun _ => 0) := cellsN_congr fun j _ => by unfold t9 dg hi; split <;> simp
      show Hp w [⟨ct, cellsN .u32 10 (t9 0 0), _⟩, _, _, _] _
      rw [e]; exact h) ?_
  rintro ⟨i, T, u⟩ ⟨hi8, hT, hTm⟩
  simp only at hi8 hT hTm ⊢
  by_cases hlt : i < 8
  · have hxi := dlt x i
    repeat' (first | (apply Wl.move; exact rfl; exact rfl) | (apply Wl.assign; exact rfl; exact rfl) | (apply Wl.lss; exact rfl; exact rfl; exact rfl) | (apply Wl.nil) | (apply St.seq) | (apply St.block) | (apply St.region) | (apply St.skip) | (apply Gt.next) | (apply Wl.splitP; exact rfl; exact rfl; all_goals (intros; try (exfalso; omega))) | (apply Wl.splitB; exact rfl; exact rfl; all_goals intros) | (apply St.condP; exact rfl; all_goals (intros; try (exfalso; omega))) | (apply St.condB; exact rfl; all_goals intros))
    refine St.loop (σ := Nat × Nat) (fun τ => τ.1 ≤ 8 ∧ τ.2 < W32 ∧ hi W32 (T + dg W32 x i * y) τ.1 = hi W32 T τ.1 + dg W32 x i * hi W32 y τ.1 + τ.2)
      (fun τ => [(0, mp b), (4, mp ca), (5, mp cb), (6, mp cr), (7, mp ct), (8, .int .i64 i), (9, .int .u64 τ.2), (16, .int .i64 i), (19, .int .i64 τ.1)])
      (fun τ => Hp w [⟨ct, cellsN .u32 10 (fillN (t9 T u) (dg W32 (T + dg W32 x i * y)) τ.1), 102⟩, ⟨cr, cellsN .u32 8 fun _ => 0, 30⟩, ⟨cb, cellsN .u32 8 (dg W32 y), 30⟩, ⟨ca, cellsN .u32 8 (dg W32 x), 30⟩])
      (fun τ => 8 - τ.1) (0, 0) ⟨by simp, by decide, by simp [hi_zero]⟩ (by (repeat (first | exact Sub.nil | apply Sub.cons rfl))) (fun _ h => by simpa only [fillN_zero] using h) ?_
    rintro ⟨k, c⟩ ⟨hk8, hc32, hk⟩
    simp only at hk8 hc32 hk ⊢
    by_cases hkl : k < 8
    · have hyk := dlt y k
      have hTk := dlt T k
      have hf : fillN (t9 T u) (dg W32 (T + dg W32 x i * y)) k k = dg W32 T k := (fillN_at (Nat.le_refl _)).trans (t9_lo (by omega))
      obtain ⟨p1, p2, p3, p4⟩ := mul_step hxi hc32 hk
      rw [← hf] at p1 hTk
      have q1 : dg W32 x i * dg W32 y k + fillN (t9 T u) (dg W32 (T + dg W32 x i * y)) k k < 18446744073709551616 := by omega
      have q2 : dg W32 x i * dg W32 y k < 18446744073709551616 := by omega
      repeat' (first | (apply Wl.indexA; exact rfl; exact rfl; exact rfl; (omega)) | (apply Wl.loadN; exact rfl; exact rfl; (repeat (first | exact List.Mem.head _ | apply List.Mem.tail)); (omega)) | (apply Wl.storeN; exact rfl; exact rfl; (repeat (first | apply HSet.here | apply HSet.there)); (omega)) | (apply Wl.addNU; exact rfl; exact rfl; exact rfl; (first | assumption | omega)) | (apply Wl.mulNU; exact rfl; exact rfl; exact rfl; (first | assumption | omega)) | (apply Wl.shr32; exact rfl; exact rfl; exact rfl) | (apply Wl.convN32 (k := .u64); exact rfl; exact rfl) | (apply Wl.move; exact rfl; exact rfl) | (apply Wl.assign; exact rfl; exact rfl) | (apply Wl.lss; exact rfl; exact rfl; exact rfl) | (apply Wl.addI; exact rfl; exact rfl; exact rfl; (constructor <;> omega)) | (apply Wl.convU64; exact rfl; exact rfl; (constructor <;> omega)) | (apply Wl.nil) | (apply Wl.nilQ) | (apply St.seq) | (apply St.block) | (apply St.region) | (apply St.draw; exact mixed; (kernel_rfl); exact (fun _ h => Hp.drew h)) | (apply St.skip) | (apply Gt.next) | (apply Gt.inNormal) | (apply Wl.splitP; exact rfl; exact rfl; all_goals (intros; try (exfalso; omega))) | (apply Wl.splitB; exact rfl; exact rfl; all_goals intros) | (apply St.condP; exact rfl; all_goals (intros; try (exfalso; omega))) | (apply St.condB; exact rfl; all_goals intros))
      rw [hf, p2]
      apply Gt.round (k + 1, (c + (dg W32 x i * dg W32 y k + dg W32 T k)) / 4294967296)
      rotate_left
      · simp only; omega
      · (repeat (first | exact Sub.nil | apply Sub.cons rfl))
      · exact fun _ h => by rw [fillN_step] at h; exact h
      · exact ⟨by simp only; omega, p4, p3⟩
    have hke : k = 8 := by omega
    subst hke
    obtain ⟨ms1, ms2, ms3⟩ := mont_step hneg hy hT hTm
    generalize hSe : T + dg W32 x i * y = S at *
    have hT8 : hi W32 T 8 < 2 := by rw [hi8_eq]; exact Nat.div_lt_of_lt_mul (by omega)
    have hd8 : dg W32 T 8 = hi W32 T 8 := Nat.mod_eq_of_lt (Nat.lt_of_lt_of_le hT8 (by decide))
    have hS8 : c + dg W32 T 8 = hi W32 S 8 := by rw [hk, hi8_lt (show y < W256 by omega), Nat.mul_zero, hd8]; omega
    have hf8 : fillN (t9 T u) (dg W32 S) 8 8 = dg W32 T 8 := (fillN_at (Nat.le_refl _)).trans (t9_lo (by omega))
    have hF8 := dlt T 8
    rw [← hf8] at hF8
    have hc32' : c < 4294967296 := hc32
    have hS9 : hi W32 S 9 = dg W32 S 9 := by
      have h9 : hi W32 S 9 = hi W32 S 8 / 4294967296 := hi_succ _ _ _
      exact (Nat.mod_eq_of_lt (by unfold W32 at *; omega)).symm
    repeat' (first | (apply Wl.indexA (j := 8); exact rfl; exact rfl; exact rfl; (decide)) | (apply Wl.indexA (j := 9); exact rfl; exact rfl; exact rfl; (decide)) | (apply Wl.loadN; exact rfl; exact rfl; (repeat (first | exact List.Mem.head _ | apply List.Mem.tail)); (omega)) | (apply Wl.storeN; exact rfl; exact rfl; (repeat (first | apply HSet.here | apply HSet.there)); (omega)) | (apply Wl.addNU; exact rfl; exact rfl; exact rfl; (first | assumption | omega)) | (apply Wl.shr32; exact rfl; exact rfl; exact rfl) | (apply Wl.convN32 (k := .u64); exact rfl; exact rfl) | (apply Wl.move; exact rfl; exact rfl) | (apply Wl.assign; exact rfl; exact rfl) | (apply Wl.lss; exact rfl; exact rfl; exact rfl) | (apply Wl.convU64; exact rfl; exact rfl; (constructor <;> omega)) | (apply Wl.nil) | (apply St.seq) | (apply St.region) | (apply St.condF; exact rfl; (first | with_reducible rfl | with_reducible assumption | decide)) | (apply St.exit) | (apply Gt.next) | (apply Gt.thenExit) | (apply Gt.inExit) | (apply Wl.splitP; exact rfl; exact rfl; all_goals (intros; try (exfalso; omega))) | (apply Wl.splitB; exact rfl; exact rfl; all_goals intros) | (apply St.condP; exact rfl; all_goals (intros; try (exfalso; omega))) | (apply St.condB; exact rfl; all_goals intros))
    have ec : cellsN .u32 10 (updN (updN (fillN (t9 T u) (dg W32 S) 8) 8 ((c + fillN (t9 T u) (dg W32 S) 8 8) % 4294967296)) 9 ((c + fillN (t9 T u) (dg W32 S) 8 8) / 4294967296 % 4294967296)) = cellsN .u32 10 (dg W32 S) := by
      rw [hf8, hS8]
      refine cellsN_congr fun j hj => ?_
      unfold updN
      split
      · rename_i e; subst e; show _ = hi W32 S (8 + 1) % W32; rw [hi_succ W32 S 8]
      · split
        · rename_i e; subst e; rfl
        · exact fillN_lo (by omega)
    refine St.cls (C' := Hp w [⟨ct, cellsN .u32 10 (dg W32 S), 102⟩, ⟨cr, cellsN .u32 8 fun _ => 0, 30⟩, ⟨cb, cellsN .u32 8 (dg W32 y), 30⟩, ⟨ca, cellsN .u32 8 (dg W32 x), 30⟩]) (fun _ h => by rw [ec] at h; exact h) ?_
    clear ec hf8 hF8 hk hc32 hc32'
    have hS0 : dg W32 S 0 = S % 4294967296 := by unfold dg; rw [hi_zero]
    rw [← hS0] at ms1 ms2 ms3
    generalize hQ : dg W32 S 0 * neg % 4294967296 = q at *
    have hq32 : q < 4294967296 := by rw [← hQ]; exact Nat.mod_lt _ (by decide)
    have hm0 := dlt m 0
    have hs0 := dlt S 0
    obtain ⟨p1, p2, p3, p4⟩ := mul_step (t := S) (x := q) (y := m) (c := 0) (i := 0) hq32 (by decide) (by simp [hi_zero])
    simp only [Nat.zero_add] at p1 p2 p3 p4
    have q2 : q * dg W32 m 0 < 18446744073709551616 := by omega
    apply St.draw
    · exact mixed
    · kernel_rfl
    · exact fun _ h => Hp.drew h
    repeat' (first | (apply Wl.indexA (j := 0); exact rfl; exact rfl; exact rfl; (decide)) | (apply Wl.loadO; exact rfl; exact rfl; exact hN; (apply Off.of; simp; omega)) | (apply Wl.loadN; exact rfl; exact rfl; (repeat (first | exact List.Mem.head _ | apply List.Mem.tail)); (omega)) | (apply Wl.mulN32; exact rfl; exact rfl; exact rfl) | (apply Wl.move; exact rfl; exact rfl) | (apply Wl.assign; exact rfl; exact rfl) | (apply Wl.nilCheck; exact rfl; exact rfl) | (apply Wl.fieldAddrZ; exact rfl; exact rfl) | (apply Wl.nilQ) | (apply St.seq) | (apply Gt.next) | (apply Wl.splitP; exact rfl; exact rfl; all_goals (intros; try (exfalso; omega))) | (apply Wl.splitB; exact rfl; exact rfl; all_goals intros) | (apply St.condP; exact rfl; all_goals (intros; try (exfalso; omega))) | (apply St.condB; exact rfl; all_goals intros))
    rw [hQ]
    apply St.draw
    · exact mixed
    · kernel_rfl
    · exact fun _ h => Hp.drew h
    repeat' (first | (apply Wl.indexA (j := 0); exact rfl; exact rfl; exact rfl; (decide)) | (apply Wl.loadME; exact rfl; exact rfl; exact hM; (apply Off.of; simp; omega); (decide)) | (apply Wl.loadN; exact rfl; exact rfl; (repeat (first | exact List.Mem.head _ | apply List.Mem.tail)); (omega)) | (apply Wl.addNU; exact rfl; exact rfl; exact rfl; (first | assumption | omega)) | (apply Wl.mulNU; exact rfl; exact rfl; exact rfl; (first | assumption | omega)) | (apply Wl.shr32; exact rfl; exact rfl; exact rfl) | (apply Wl.move; exact rfl; exact rfl) | (apply Wl.assign; exact rfl; exact rfl) | (apply Wl.nilCheck; exact rfl; exact rfl) | (apply Wl.fieldAddr0; exact rfl; exact rfl) | (apply Wl.convU64; exact rfl; exact rfl; (constructor <;> omega)) | (apply Wl.nil) | (apply Wl.nilQ) | (apply St.seq) | (apply St.block) | (apply St.region) | (apply Gt.next) | (apply Wl.splitP; exact rfl; exact rfl; all_goals (intros; try (exfalso; omega))) | (apply Wl.splitB; exact rfl; exact rfl; all_goals intros) | (apply St.condP; exact rfl; all_goals (intros; try (exfalso; omega))) | (apply St.condB; exact rfl; all_goals intros))
    generalize hS2 : S + q * m = S2 at *
    have hR (j : Nat) : hi W32 (S2 / 4294967296) j = hi W32 S2 (j + 1) := hi_div W32 S2 j
    refine St.loop (σ := Nat × Nat) (fun τ => τ.1 ≤ 7 ∧ τ.2 < W32 ∧ hi W32 S2 (τ.1 + 1) = hi W32 S (τ.1 + 1) + q * hi W32 m (τ.1 + 1) + τ.2)
      (fun τ => [(0, mp b), (4, mp ca), (5, mp cb), (6, mp cr), (7, mp ct), (8, .int .i64 i), (9, .int .u64 τ.2), (11, .int .u32 q), (12, .int .i64 (τ.1 + 1 : Nat)), (16, .int .i64 i)])
      (fun τ => Hp w [⟨ct, cellsN .u32 10 (fillN (dg W32 S) (dg W32 (S2 / 4294967296)) τ.1), 102⟩, ⟨cr, cellsN .u32 8 fun _ => 0, 30⟩, ⟨cb, cellsN .u32 8 (dg W32 y), 30⟩, ⟨ca, cellsN .u32 8 (dg W32 x), 30⟩])
      (fun τ => 7 - τ.1) (0, (q * dg W32 m 0 + dg W32 S 0) / 4294967296) ⟨by simp, p4, p3⟩ (by (repeat (first | exact Sub.nil | apply Sub.cons rfl))) (fun _ h => by simpa only [fillN_zero] using h) ?_
    clear p1 p2 p3 p4 q2
    rintro ⟨k, c⟩ ⟨hk7, hc32, hk⟩
    simp only at hk7 hc32 hk ⊢
    by_cases hkl : k < 7
    · have hmk := dlt m (k + 1)
      have hSk := dlt S (k + 1)
      have hf : fillN (dg W32 S) (dg W32 (S2 / 4294967296)) k (k + 1) = dg W32 S (k + 1) := fillN_at (by omega)
      rw [← hS2] at hk
      obtain ⟨p1, p2, p3, p4⟩ := mul_step hq32 hc32 hk
      rw [hS2] at p2 p3
      have p2' : (c + (q * dg W32 m (k + 1) + dg W32 S (k + 1))) % 4294967296 = dg W32 (S2 / 4294967296) k := by rw [p2]; unfold dg; rw [hR]
      rw [← hf] at p1 hSk
      have q1 : q * dg W32 m (k + 1) + fillN (dg W32 S) (dg W32 (S2 / 4294967296)) k (k + 1) < 18446744073709551616 := by omega
      have q2 : q * dg W32 m (k + 1) < 18446744073709551616 := by omega
      repeat' (first | (apply Wl.predI; exact rfl; exact rfl; exact rfl; (omega)) | (apply Wl.loadME; exact rfl; exact rfl; exact hM; (apply Off.of; simp; omega); (omega)) | (apply Wl.indexA; exact rfl; exact rfl; exact rfl; (omega)) | (apply Wl.loadN; exact rfl; exact rfl; (repeat (first | exact List.Mem.head _ | apply List.Mem.tail)); (omega)) | (apply Wl.storeN; exact rfl; exact rfl; (repeat (first | apply HSet.here | apply HSet.there)); (omega)) | (apply Wl.addNU; exact rfl; exact rfl; exact rfl; (first | assumption | omega)) | (apply Wl.mulNU; exact rfl; exact rfl; exact rfl; (first | assumption | omega)) | (apply Wl.shr32; exact rfl; exact rfl; exact rfl) | (apply Wl.convN32 (k := .u64); exact rfl; exact rfl) | (apply Wl.move; exact rfl; exact rfl) | (apply Wl.assign; exact rfl; exact rfl) | (apply Wl.nilCheck; exact rfl; exact rfl) | (apply Wl.fieldAddr0; exact rfl; exact rfl) | (apply Wl.lss; exact rfl; exact rfl; exact rfl) | (apply Wl.addI; exact rfl; exact rfl; exact rfl; (constructor <;> omega)) | (apply Wl.convU64; exact rfl; exact rfl; (constructor <;> omega)) | (apply Wl.nil) | (apply Wl.nilQ) | (apply St.seq) | (apply St.block) | (apply St.region) | (apply St.draw; exact mixed; (kernel_rfl); exact (fun _ h => Hp.drew h)) | (apply St.skip) | (apply Gt.next) | (apply Gt.inNormal) | (apply Wl.splitP; exact rfl; exact rfl; all_goals (intros; try (exfalso; omega))) | (apply Wl.splitB; exact rfl; exact rfl; all_goals intros) | (apply St.condP; exact rfl; all_goals (intros; try (exfalso; omega))) | (apply St.condB; exact rfl; all_goals intros))
      rw [hf, p2']
      apply Gt.round (k + 1, (c + (q * dg W32 m (k + 1) + dg W32 S (k + 1))) / 4294967296)
      rotate_left
      · simp only; omega
      · (repeat (first | exact Sub.nil | apply Sub.cons rfl))
      · exact fun _ h => by rw [fillN_step] at h; exact h
      · exact ⟨by simp only; omega, p4, p3⟩
    · have hke : k = 7 := by omega
      subst hke
      have hc32' : c < 4294967296 := hc32
      have f8 : fillN (dg W32 S) (dg W32 (S2 / 4294967296)) 7 8 = dg W32 S 8 := fillN_at (by omega)
      have f9 : fillN (dg W32 S) (dg W32 (S2 / 4294967296)) 7 9 = dg W32 S 9 := fillN_at (by omega)
      have h8 := dlt S 8
      have h9 := dlt S 9
      have h8' := h8
      have h9' := h9
      rw [← f8] at h8'
      rw [← f9] at h9'
      repeat' (first | (apply Wl.indexA (j := 7); exact rfl; exact rfl; exact rfl; (decide)) | (apply Wl.indexA (j := 8); exact rfl; exact rfl; exact rfl; (decide)) | (apply Wl.indexA (j := 9); exact rfl; exact rfl; exact rfl; (decide)) | (apply Wl.loadN; exact rfl; exact rfl; (repeat (first | exact List.Mem.head _ | apply List.Mem.tail)); (omega)) | (apply Wl.storeN; exact rfl; exact rfl; (repeat (first | apply HSet.here | apply HSet.there)); (omega)) | (apply Wl.addNU; exact rfl; exact rfl; exact rfl; (first | assumption | omega)) | (apply Wl.shr32; exact rfl; exact rfl; exact rfl) | (apply Wl.convN32 (k := .u64); exact rfl; exact rfl) | (apply Wl.addN32; exact rfl; exact rfl; exact rfl) | (apply Wl.move; exact rfl; exact rfl) | (apply Wl.assign; exact rfl; exact rfl) | (apply Wl.lss; exact rfl; exact rfl; exact rfl) | (apply Wl.addI; exact rfl; exact rfl; exact rfl; (constructor <;> omega)) | (apply Wl.convU64; exact rfl; exact rfl; (constructor <;> omega)) | (apply Wl.nil) | (apply St.seq) | (apply St.region) | (apply St.condF; exact rfl; (first | with_reducible rfl | with_reducible assumption | decide)) | (apply St.exit) | (apply Gt.next) | (apply Gt.thenExit) | (apply Gt.inNormal) | (apply Gt.inExit) | (apply Wl.splitP; exact rfl; exact rfl; all_goals (intros; try (exfalso; omega))) | (apply Wl.splitB; exact rfl; exact rfl; all_goals intros) | (apply St.condP; exact rfl; all_goals (intros; try (exfalso; omega))) | (apply St.condB; exact rfl; all_goals intros))
      have hR8 : hi W32 (S2 / 4294967296) 8 < 2 := by rw [hi8_eq]; exact Nat.div_lt_of_lt_mul (by omega)
      have hs := hi_eq W32 S 8
      rw [hS9] at hs
      have hs : hi W32 S 8 = 4294967296 * dg W32 S 9 + dg W32 S 8 := hs
      have hk' : hi W32 S2 8 = c + dg W32 S 8 + 4294967296 * dg W32 S 9 := by
        rw [hk, hs, hi8_lt hm, Nat.mul_zero]
        omega
      have hR7 : dg W32 (S2 / 4294967296) 7 = (c + dg W32 S 8) % 4294967296 := by
        show hi W32 (S2 / 4294967296) 7 % 4294967296 = _
        rw [hR, hk']; omega
      have hR8' : hi W32 (S2 / 4294967296) 8 = (c + dg W32 S 8) / 4294967296 + dg W32 S 9 := by
        rw [hR, hi_succ W32 S2 8, hk']
        show (c + dg W32 S 8 + 4294967296 * dg W32 S 9) / 4294967296 = _
        omega
      have hR8d : dg W32 (S2 / 4294967296) 8 = (dg W32 S 9 + (c + dg W32 S 8) / 4294967296 % 4294967296) % 4294967296 := by
        show hi W32 (S2 / 4294967296) 8 % 4294967296 = _
        rw [hR8'] at hR8 ⊢
        omega
      have ec : cellsN .u32 10 (updN (updN (fillN (dg W32 S) (dg W32 (S2 / 4294967296)) 7) 7 ((c + dg W32 S 8) % 4294967296)) 8 ((dg W32 S 9 + (c + dg W32 S 8) / 4294967296 % 4294967296) % 4294967296)) = cellsN .u32 10 (t9 (S2 / 4294967296) (dg W32 S 9)) := by
        refine cellsN_congr fun j hj => ?_
        unfold updN t9
        by_cases e8 : j = 8
        · subst e8; simp [hR8d]
        · by_cases e7 : j = 7
          · subst e7; simp [hR7]
          · rw [if_neg e8, if_neg e7]
            by_cases e9 : j < 9
            · rw [if_pos e9]; exact fillN_lo (by omega)
            · have : j = 9 := by omega
              subst this
              rw [if_neg e9]; exact f9
      rw [f8, f9]
      apply Gt.round (i + 1, S2 / 4294967296, dg W32 S 9)
      rotate_left
      · simp only; omega
      · (repeat (first | exact Sub.nil | apply Sub.cons rfl))
      · exact fun _ h => by rw [ec] at h; exact h
      · exact ⟨by simp only; omega, ms2, ms3⟩
  · have : i = 8 := by omega
    subst this
    have e8 : cellsN .u32 8 (t9 T u) = cellsN .u32 8 (dg W32 (T % W256)) := by rw [d8_mod]; exact cellsN_congr fun j hj => t9_lo (by omega)
    have hT8 : hi W32 T 8 < 2 := by rw [hi8_eq]; exact Nat.div_lt_of_lt_mul (by omega)
    have e9 : t9 T u 8 = T / W256 := by rw [t9_lo (by decide), ← hi8_eq]; exact Nat.mod_eq_of_lt (Nat.lt_of_lt_of_le hT8 (by decide))
    have hfin : T % m = x * y * rinv m % m := unW hodd (by
      rw [two56, Nat.mod_eq_of_lt hx] at hTm
      exact hTm)
    repeat' (first | (apply Wl.lss; exact rfl; exact rfl; exact rfl) | (apply Wl.nil) | (apply St.seq) | (apply St.region) | (apply St.condF; exact rfl; (first | with_reducible rfl | with_reducible assumption | decide)) | (apply St.exit) | (apply Gt.next) | (apply Gt.thenExit) | (apply Gt.inExit) | (apply Wl.splitP; exact rfl; exact rfl; all_goals (intros; try (exfalso; omega))) | (apply Wl.splitB; exact rfl; exact rfl; all_goals intros) | (apply St.condP; exact rfl; all_goals (intros; try (exfalso; omega))) | (apply St.condB; exact rfl; all_goals intros))
    refine St.tree (Hp w [_]) mixed (fun _ h => ⟨Hp.drew h, hpHead (Hp.drew h) (by simp; omega)⟩) ?_
    refine Mt.pure 0 (by decide +kernel) (by exact rfl) (by exact rfl) (by decide +kernel) (by decide +kernel) ?_
    repeat' (first | (apply Wl.move; exact rfl; exact rfl) | (apply Wl.nilM) | (apply Wl.splitP; exact rfl; exact rfl; all_goals (intros; try (exfalso; omega))) | (apply Wl.splitB; exact rfl; exact rfl; all_goals intros) | (apply St.condP; exact rfl; all_goals (intros; try (exfalso; omega))) | (apply St.condB; exact rfl; all_goals intros))
    apply Mt.back
    refine Mt.pure 1 (by decide +kernel) (by exact rfl) (by exact rfl) (by decide +kernel) (by decide +kernel) ?_
    repeat' (first | (apply Wl.sliceArrF (h' := 8); exact rfl; exact rfl; exact rfl; (decide); (decide)) | (apply Wl.nilM) | (apply Wl.splitP; exact rfl; exact rfl; all_goals (intros; try (exfalso; omega))) | (apply Wl.splitB; exact rfl; exact rfl; all_goals intros) | (apply St.condP; exact rfl; all_goals (intros; try (exfalso; omega))) | (apply St.condB; exact rfl; all_goals intros))
    apply Mt.back
    refine Mt.pure 2 (by decide +kernel) (by exact rfl) (by exact rfl) (by decide +kernel) (by decide +kernel) ?_
    repeat' (first | (apply Wl.sliceToArr; exact rfl; exact rfl; (decide)) | (apply Wl.nilM) | (apply Wl.splitP; exact rfl; exact rfl; all_goals (intros; try (exfalso; omega))) | (apply Wl.splitB; exact rfl; exact rfl; all_goals intros) | (apply St.condP; exact rfl; all_goals (intros; try (exfalso; omega))) | (apply St.condB; exact rfl; all_goals intros))
    apply Mt.back
    refine Mt.pure 3 (by decide +kernel) (by exact rfl) (by exact rfl) (by decide +kernel) (by decide +kernel) ?_
    repeat' (first | (apply Wl.loadT; exact rfl; exact rfl; (repeat (first | exact List.Mem.head _ | apply List.Mem.tail)); (decide)) | (apply Wl.nilM) | (apply Wl.splitP; exact rfl; exact rfl; all_goals (intros; try (exfalso; omega))) | (apply Wl.splitB; exact rfl; exact rfl; all_goals intros) | (apply St.condP; exact rfl; all_goals (intros; try (exfalso; omega))) | (apply St.condB; exact rfl; all_goals intros))
    apply Mt.back
    refine Mt.pure 4 (by decide +kernel) (by exact rfl) (by exact rfl) (by decide +kernel) (by decide +kernel) ?_
    repeat' (first | (apply Wl.indexA (j := 8); exact rfl; exact rfl; exact rfl; (decide)) | (apply Wl.nilM) | (apply Wl.splitP; exact rfl; exact rfl; all_goals (intros; try (exfalso; omega))) | (apply Wl.splitB; exact rfl; exact rfl; all_goals intros) | (apply St.condP; exact rfl; all_goals (intros; try (exfalso; omega))) | (apply St.condB; exact rfl; all_goals intros))
    apply Mt.back
    refine Mt.pure 5 (by decide +kernel) (by exact rfl) (by exact rfl) (by decide +kernel) (by decide +kernel) ?_
    repeat' (first | (apply Wl.loadN; exact rfl; exact rfl; (repeat (first | exact List.Mem.head _ | apply List.Mem.tail)); (omega)) | (apply Wl.nilM) | (apply Wl.splitP; exact rfl; exact rfl; all_goals (intros; try (exfalso; omega))) | (apply Wl.splitB; exact rfl; exact rfl; all_goals intros) | (apply St.condP; exact rfl; all_goals (intros; try (exfalso; omega))) | (apply St.condB; exact rfl; all_goals intros))
    apply Mt.back
    rw [e8, e9]
    refine Mt.eff1 (i := 6) (by decide +kernel) (by exact rfl) ?_
    apply Wl.callQ
    exact rfl
    (repeat (first | exact Evs.nil | apply Evs.cons rfl))
    · intro wq hq
      refine (modFit b m (T % W256) (T / W256) wq (hM.hp hq (by apply Off.of; simp; omega)) hm (Nat.mod_lt _ (by decide)) (by rw [← hi8_eq]; omega) (by rw [Nat.mod_add_div]; exact hT)).mono ?_
      rintro e wr ⟨rfl, hr⟩
      exact ⟨rfl, hq.keep hr⟩
    rw [Nat.mod_add_div, hfin]
    repeat' (first | (apply Wl.nil) | (apply Wl.splitP; exact rfl; exact rfl; all_goals (intros; try (exfalso; omega))) | (apply Wl.splitB; exact rfl; exact rfl; all_goals intros) | (apply St.condP; exact rfl; all_goals (intros; try (exfalso; omega))) | (apply St.condB; exact rfl; all_goals intros))
    refine Mt.backE (fun _ h => hpHead h (by simp; omega)) ?_
    refine Mt.eff1 (i := 7) (by decide +kernel) (by exact rfl) ?_
    repeat' (first | (apply Wl.storeW; exact rfl; exact rfl; (repeat (first | apply HSet.here | apply HSet.there)); exact rfl; (first | exact cellsN_len _ _ _ | exact rfl)) | (apply Wl.nil) | (apply Wl.splitP; exact rfl; exact rfl; all_goals (intros; try (exfalso; omega))) | (apply Wl.splitB; exact rfl; exact rfl; all_goals intros) | (apply St.condP; exact rfl; all_goals (intros; try (exfalso; omega))) | (apply St.condB; exact rfl; all_goals intros))
    refine Mt.backE (fun _ h => hpHead h (by simp; omega)) ?_
    refine Mt.toGt (by decide +kernel) ?_
    repeat' (first | (apply Gt.outN; exact rfl; infer_instance; exact rfl; (repeat (first | exact List.Mem.head _ | apply List.Mem.tail)); exact rfl; intro w' hp) | (apply St.ret) | (apply Gt.next) | (apply Wl.splitP; exact rfl; exact rfl; all_goals (intros; try (exfalso; omega))) | (apply Wl.splitB; exact rfl; exact rfl; all_goals intros) | (apply St.condP; exact rfl; all_goals (intros; try (exfalso; omega))) | (apply St.condB; exact rfl; all_goals intros))
    exact ⟨rfl, hp.drop (by simp; omega)⟩
end Go.Proofs.YtfaobdakpbpkbaaDoor
end
section
/-
  mont.Mod: low, In, Out, One, Reduce, Modulus, Mul, Pow, Inv. Conditions: the receiver is a modulus that New made.
-/
namespace Go.Proofs.YtfaobdakpbpkbaaDoor
open Go.RowKit Go.Pt
structure ModV (w : World) (b m : Nat) : Prop where
  neg : ∃ neg : Nat, w.cell? ⟨b, 8, none⟩ = some (.int .u32 neg) ∧ (m * neg + 1) % 4294967296 = 0
  mod : ArrAt w b 0 .u32 8 (dg W32 m)
  one : ArrAt w b 9 .u32 8 (dg W32 (W256 % m))
  two : ArrAt w b 17 .u32 8 (dg W32 (W256 * W256 % m))
  lt : m < W256
  odd : m % 2 = 1
  gt : 1 < m
theorem ModV.upd {S : Nat → Prop} {w w' : World} {b m : Nat} (h : ModV w b m) (u : Upd S w w') (hs : ¬ S b) : ModV w' b m := by
  obtain ⟨⟨neg, h1, h2⟩, h3, h4, h5, h6, h7, h8⟩ := h
  exact ⟨⟨neg, u.cell h1 hs, h2⟩, h3.upd u hs, h4.upd u hs, h5.upd u hs, h6, h7, h8⟩
theorem ModV.hp {w w' : World} {H : List Blk} {b m : Nat} (h : ModV w b m) (u : Hp w H w') (hs : Off H b) : ModV w' b m := h.upd u.upd fun y => y hs
theorem ModV.blk {w : World} {b m : Nat} (h : ModV w b m) : b < w.heap.size := h.mod.lt (by decide)
theorem modTimes' {b m x y : Nat} {w : World} (h : ModV w b m) (hx : x < W256) (hy : y < m) :
    Calls Tryd.prog 27 #[mp b, numV x, numV y] w fun e w' => e = .returned (numV (x * y * rinv m % m)) ∧ Hp w [] w' := by
  obtain ⟨⟨neg, h1, h2⟩, h3, _, _, h6, h7, _⟩ := h
  exact modTimes b m neg x y w h3 h1 h2 h6 h7 hx hy
theorem z0 : cellsN .u32 8 (fun _ => 0) = cellsN .u32 8 (dg W32 0) := cellsN_congr fun j _ => by unfold dg hi; simp
set_option maxHeartbeats 1000000 in
theorem modLow (b m a : Nat) (w : World) (hM : ArrAt w b 0 .u32 8 (dg W32 m)) (hm : m < W256) (h1 : 1 < m) (ha : a < W256) :
    Calls Tryd.prog 61 #[mp b, numV a] w fun e w' => e = .returned (numV (a % m)) ∧ Hp w [] w' := by
  have hb := hM.lt (by decide)
  refine enter (args := [_, _]) (Γ := [(0, _), (1, _)]) Tryd.func61 Tryd.ntmps61 rfl (of_decide_eq_true rfl) (.cons rfl (.cons rfl .nil)) ?_
  repeat' (first | (apply Wl.loadM; exact rfl; exact rfl; exact hM; (apply Off.of; simp; omega); exact rfl) | (apply Wl.loadW; exact rfl; exact rfl; (repeat (first | exact List.Mem.head _ | apply List.Mem.tail)); exact rfl) | (apply Wl.boxN; exact rfl; exact rfl; intro c hc ho) | (apply Wl.allocN; exact rfl; (first | exact z8 | exact z16 | exact z17 | exact z33 | exact z10); intro c hc ho) | (apply Wl.move; exact rfl; exact rfl) | (apply Wl.nilCheck; exact rfl; exact rfl) | (apply Wl.fieldAddr0; exact rfl; exact rfl) | (apply Wl.nil) | (apply St.seq) | (apply St.region) | (apply St.draw; exact mixed; (kernel_rfl); exact (fun _ h => Hp.drew h)) | (apply Gt.next) | (apply Wl.splitP; exact rfl; exact rfl; all_goals (intros; try (exfalso; omega))) | (apply Wl.splitB; exact rfl; exact rfl; all_goals intros) | (apply St.condP; exact rfl; all_goals (intros; try (exfalso; omega))) | (apply St.condB; exact rfl; all_goals intros))
  apply Wl.callQQ
  exact rfl
  (repeat (first | exact Evs.nil | apply Evs.cons rfl))
  · intro wq hq
    refine (limbCompare a m ha hm wq).mono ?_
    rintro e wr ⟨rfl, hr⟩
    exact ⟨rfl, hq.keep hr⟩
  by_cases hlt : a < m
  · have e : cmpN a m = -1 := if_pos hlt
    rw [e]
    repeat' (first | (apply Gt.outN; exact rfl; infer_instance; exact rfl; (repeat (first | exact List.Mem.head _ | apply List.Mem.tail)); exact rfl; intro w' hp) | (apply Wl.loadW; exact rfl; exact rfl; (repeat (first | exact List.Mem.head _ | apply List.Mem.tail)); exact rfl) | (apply Wl.storeW; exact rfl; exact rfl; (repeat (first | apply HSet.here | apply HSet.there)); exact rfl; (first | exact cellsN_len _ _ _ | exact rfl)) | (apply Wl.lss; exact rfl; exact rfl; exact rfl) | (apply Wl.nil) | (apply Wl.nilQ) | (apply St.seq) | (apply St.region) | (apply St.condT; exact rfl; (first | with_reducible rfl | with_reducible assumption | decide)) | (apply St.ret) | (apply Gt.next) | (apply Gt.thenRet) | (apply Wl.splitP; exact rfl; exact rfl; all_goals (intros; try (exfalso; omega))) | (apply Wl.splitB; exact rfl; exact rfl; all_goals intros) | (apply St.condP; exact rfl; all_goals (intros; try (exfalso; omega))) | (apply St.condB; exact rfl; all_goals intros))
    refine ⟨?_, hp.drop (by simp; omega)⟩
    rw [Nat.mod_eq_of_lt hlt]
  have e : ¬ cmpN a m < 0 := by unfold cmpN; rw [if_neg hlt]; split <;> decide
  repeat' (first | (apply Wl.allocN; exact rfl; (first | exact z8 | exact z16 | exact z17 | exact z33 | exact z10); intro c hc ho) | (apply Wl.assign; exact rfl; exact rfl) | (apply Wl.lss; exact rfl; exact rfl; exact rfl) | (apply Wl.nil) | (apply Wl.nilQ) | (apply St.seq) | (apply St.block) | (apply St.region) | (apply St.skip) | (apply Gt.next) | (apply Wl.splitP; exact rfl; exact rfl; all_goals (intros; try (exfalso; omega))) | (apply Wl.splitB; exact rfl; exact rfl; all_goals intros) | (apply St.condP; exact rfl; all_goals (intros; try (exfalso; omega))) | (apply St.condB; exact rfl; all_goals intros))
  rename_i ca hca hoa cr hcr hor _ _
  generalize c = cx at *
  have e256 : a / 2 ^ 256 % m = 0 := by
    rw [Nat.div_eq_of_lt (Nat.lt_of_lt_of_eq ha (by decide)), Nat.zero_mod]
  refine St.loop (σ := Nat) (fun n => n ≤ 256)
    (fun n => [(0, mp b), (3, mp ca), (4, mp cr), (5, mp cx), (6, .int .i64 ((n : Int) - 1))])
    (fun n => Hp w [⟨cx, cellsN .u32 8 (dg W32 (a / 2 ^ n % m)), 30⟩, ⟨cr, cellsN .u32 8 fun _ => 0, 30⟩, ⟨ca, cellsN .u32 8 (dg W32 a), 30⟩])
    (fun n => n) 256 (Nat.le_refl _) (by (repeat (first | exact Sub.nil | apply Sub.cons rfl))) (fun _ h => by
      show Hp w [⟨cx, cellsN .u32 8 (dg W32 (a / 2 ^ 256 % m)), _⟩, _, _] _
      rw [e256, ← z0]; exact h) ?_
  intro n hn
  cases n with
  | zero =>
    rw [Nat.pow_zero, Nat.div_one]
    repeat' (first | (apply Gt.outN; exact rfl; infer_instance; exact rfl; (repeat (first | exact List.Mem.head _ | apply List.Mem.tail)); exact rfl; intro w' hp) | (apply Wl.loadW; exact rfl; exact rfl; (repeat (first | exact List.Mem.head _ | apply List.Mem.tail)); exact rfl) | (apply Wl.storeW; exact rfl; exact rfl; (repeat (first | apply HSet.here | apply HSet.there)); exact rfl; (first | exact cellsN_len _ _ _ | exact rfl)) | (apply Wl.move; exact rfl; exact rfl) | (apply Wl.geq; exact rfl; exact rfl; exact rfl) | (apply Wl.nil) | (apply St.seq) | (apply St.region) | (apply St.condF; exact rfl; (first | with_reducible rfl | with_reducible assumption | decide)) | (apply St.ret) | (apply St.exit) | (apply Gt.next) | (apply Gt.thenExit) | (apply Gt.inExit) | (apply Wl.splitP; exact rfl; exact rfl; all_goals (intros; try (exfalso; omega))) | (apply Wl.splitB; exact rfl; exact rfl; all_goals intros) | (apply St.condP; exact rfl; all_goals (intros; try (exfalso; omega))) | (apply St.condB; exact rfl; all_goals intros))
    exact ⟨rfl, hp.drop (by simp; omega)⟩
  | succ i =>
    have ei : (((i + 1 : Nat) : Int) - 1) = (i : Int) := by omega
    rw [ei]
    have hr := Nat.mod_lt (a / 2 ^ (i + 1)) (show 0 < m by omega)
    have hh := horner a m i
    generalize hre : a / 2 ^ (i + 1) % m = r at *
    repeat' (first | (apply Wl.loadW; exact rfl; exact rfl; (repeat (first | exact List.Mem.head _ | apply List.Mem.tail)); exact rfl) | (apply Wl.move; exact rfl; exact rfl) | (apply Wl.geq; exact rfl; exact rfl; exact rfl) | (apply Wl.nil) | (apply St.seq) | (apply St.block) | (apply St.region) | (apply St.skip) | (apply Gt.next) | (apply Wl.splitP; exact rfl; exact rfl; all_goals (intros; try (exfalso; omega))) | (apply Wl.splitB; exact rfl; exact rfl; all_goals intros) | (apply St.condP; exact rfl; all_goals (intros; try (exfalso; omega))) | (apply St.condB; exact rfl; all_goals intros))
    apply Wl.callQ
    exact rfl
    (repeat (first | exact Evs.nil | apply Evs.cons rfl))
    · intro wq hq
      refine (modAdd b m r r wq (hM.hp hq (by apply Off.of; simp; omega)) hm hr hr).mono ?_
      rintro e wr ⟨rfl, hr⟩
      exact ⟨rfl, hq.keep hr⟩
    repeat' (first | (apply Wl.loadW; exact rfl; exact rfl; (repeat (first | exact List.Mem.head _ | apply List.Mem.tail)); exact rfl) | (apply Wl.storeW; exact rfl; exact rfl; (repeat (first | apply HSet.here | apply HSet.there)); exact rfl; (first | exact cellsN_len _ _ _ | exact rfl)) | (apply Wl.move; exact rfl; exact rfl) | (apply Wl.nil) | (apply St.seq) | (apply St.region) | (apply Gt.next) | (apply Wl.splitP; exact rfl; exact rfl; all_goals (intros; try (exfalso; omega))) | (apply Wl.splitB; exact rfl; exact rfl; all_goals intros) | (apply St.condP; exact rfl; all_goals (intros; try (exfalso; omega))) | (apply St.condB; exact rfl; all_goals intros))
    apply Wl.callQ
    exact rfl
    (repeat (first | exact Evs.nil | apply Evs.cons rfl))
    · intro wq hq
      refine (limbBit a i (by omega) wq).mono ?_
      rintro e wr ⟨rfl, hr⟩
      exact ⟨rfl, hq.keep hr⟩
    have hb2 := Nat.mod_lt (a / 2 ^ i) (show 0 < 2 by decide)
    by_cases hbit : a / 2 ^ i % 2 = 1
    · rw [hbit]
      repeat' (first | (apply Wl.loadW; exact rfl; exact rfl; (repeat (first | exact List.Mem.head _ | apply List.Mem.tail)); exact rfl) | (apply Wl.buildN; exact rfl; (repeat (first | exact Parts.nil | apply Parts.cons rfl)); (repeat (first | apply Fills.nil | (apply Fills.one; exact rfl; exact rfl; (repeat (first | apply LSet.z | apply LSet.s))) | (apply Fills.agg; exact rfl; exact rfl; (repeat (first | apply LPut.s | apply LPut.z | apply LOver.nil | apply LOver.cons))))); (first | exact one8 | exact zero8 | exact two8)) | (apply Wl.move; exact rfl; exact rfl) | (apply Wl.eql; exact rfl; exact rfl; exact rfl) | (apply Wl.nil) | (apply St.region) | (apply St.condT; exact rfl; (first | with_reducible rfl | with_reducible assumption | decide)) | (apply Gt.next) | (apply Wl.splitP; exact rfl; exact rfl; all_goals (intros; try (exfalso; omega))) | (apply Wl.splitB; exact rfl; exact rfl; all_goals intros) | (apply St.condP; exact rfl; all_goals (intros; try (exfalso; omega))) | (apply St.condB; exact rfl; all_goals intros))
      apply Wl.callQ
      exact rfl
      (repeat (first | exact Evs.nil | apply Evs.cons rfl))
      · intro wq hq
        refine (modAdd b m ((r + r) % m) 1 wq (hM.hp hq (by apply Off.of; simp; omega)) hm (Nat.mod_lt _ (by omega)) h1).mono ?_
        rintro e wr ⟨rfl, hr⟩
        exact ⟨rfl, hq.keep hr⟩
      have e2 : ((r + r) % m + 1) % m = a / 2 ^ i % m := by rw [← hh, hbit, Nat.mod_add_mod, Nat.two_mul]
      rw [e2]
      repeat' (first | (apply Wl.storeW; exact rfl; exact rfl; (repeat (first | apply HSet.here | apply HSet.there)); exact rfl; (first | exact cellsN_len _ _ _ | exact rfl)) | (apply Wl.move; exact rfl; exact rfl) | (apply Wl.assign; exact rfl; exact rfl) | (apply Wl.subI; exact rfl; exact rfl; exact rfl; (constructor <;> omega)) | (apply Wl.nil) | (apply St.region) | (apply Gt.next) | (apply Gt.inNormal) | (apply Wl.splitP; exact rfl; exact rfl; all_goals (intros; try (exfalso; omega))) | (apply Wl.splitB; exact rfl; exact rfl; all_goals intros) | (apply St.condP; exact rfl; all_goals (intros; try (exfalso; omega))) | (apply St.condB; exact rfl; all_goals intros))
      apply Gt.round i
      rotate_left
      · simp
      · (repeat (first | exact Sub.nil | apply Sub.cons rfl))
      · exact fun _ h => h
      · omega
    · have hbit0 : a / 2 ^ i % 2 = 0 := by omega
      have e2 : (r + r) % m = a / 2 ^ i % m := by rw [← hh, hbit0, Nat.add_zero, Nat.two_mul]
      rw [hbit0, e2]
      repeat' (first | (apply Wl.move; exact rfl; exact rfl) | (apply Wl.assign; exact rfl; exact rfl) | (apply Wl.eql; exact rfl; exact rfl; exact rfl) | (apply Wl.subI; exact rfl; exact rfl; exact rfl; (constructor <;> omega)) | (apply Wl.nil) | (apply St.region) | (apply St.condF; exact rfl; (first | with_reducible rfl | with_reducible assumption | decide)) | (apply St.skip) | (apply Gt.next) | (apply Gt.inNormal) | (apply Wl.splitP; exact rfl; exact rfl; all_goals (intros; try (exfalso; omega))) | (apply Wl.splitB; exact rfl; exact rfl; all_goals intros) | (apply St.condP; exact rfl; all_goals (intros; try (exfalso; omega))) | (apply St.condB; exact rfl; all_goals intros))
      apply Gt.round i
      rotate_left
      · simp
      · (repeat (first | exact Sub.nil | apply Sub.cons rfl))
      · exact fun _ h => h
      · omega
end Go.Proofs.YtfaobdakpbpkbaaDoor
end
section
/-
  mont.Mod: In, Out, One, Reduce, Modulus, Mul, Pow, Inv. Conditions: the receiver is a modulus that New made.
-/
namespace Go.Proofs.YtfaobdakpbpkbaaDoor
open Go.RowKit Go.Pt
theorem in_eq {m a : Nat} (ho : m % 2 = 1) : (a % m) * (W256 * W256 % m) * rinv m % m = a * W256 % m := by
  have e : (a % m) * (W256 * W256 % m) * rinv m % m = a * W256 * W256 * rinv m % m := by
    rw [Nat.mul_assoc a]
    simp only [Nat.mul_mod, Nat.mod_mod]
  rw [e]; exact inW ho
set_option maxHeartbeats 1000000 in
theorem modIn (b m a : Nat) (w : World) (h : ModV w b m) (ha : a < W256) :
    Calls Tryd.prog 25 #[mp b, numV a] w fun e w' => e = .returned (numV (a * W256 % m)) ∧ Hp w [] w' := by
  have hb := h.blk
  refine enter (args := [_, _]) (Γ := [(0, _), (1, _)]) Tryd.func25 Tryd.ntmps25 rfl (of_decide_eq_true rfl) (.cons rfl (.cons rfl .nil)) ?_
  repeat' (first | (apply Wl.boxN; exact rfl; exact rfl; intro c hc ho) | (apply Wl.allocN; exact rfl; (first | exact z8 | exact z16 | exact z17 | exact z33 | exact z10); intro c hc ho) | (apply Wl.move; exact rfl; exact rfl) | (apply Wl.eqlPN; exact rfl; exact rfl; exact rfl) | (apply Wl.nil) | (apply St.seq) | (apply St.region) | (apply St.condF; exact rfl; (first | with_reducible rfl | with_reducible assumption | decide)) | (apply St.skip) | (apply Gt.next) | (apply Wl.splitP; exact rfl; exact rfl; all_goals (intros; try (exfalso; omega))) | (apply Wl.splitB; exact rfl; exact rfl; all_goals intros) | (apply St.condP; exact rfl; all_goals (intros; try (exfalso; omega))) | (apply St.condB; exact rfl; all_goals intros))
  refine St.tree (Hp w [_]) mixed (fun _ h => ⟨Hp.drew h, hpPop (Hp.drew h) (by simp only; omega)⟩) ?_
  have h2 := h.two
  refine Mt.pure 0 (by decide +kernel) (by exact rfl) (by exact rfl) (by decide +kernel) (by decide +kernel) ?_
  repeat' (first | (apply Wl.move; exact rfl; exact rfl) | (apply Wl.nilM) | (apply Wl.splitP; exact rfl; exact rfl; all_goals (intros; try (exfalso; omega))) | (apply Wl.splitB; exact rfl; exact rfl; all_goals intros) | (apply St.condP; exact rfl; all_goals (intros; try (exfalso; omega))) | (apply St.condB; exact rfl; all_goals intros))
  apply Mt.back
  refine Mt.pure 1 (by decide +kernel) (by exact rfl) (by exact rfl) (by decide +kernel) (by decide +kernel) ?_
  repeat' (first | (apply Wl.move; exact rfl; exact rfl) | (apply Wl.nilM) | (apply Wl.splitP; exact rfl; exact rfl; all_goals (intros; try (exfalso; omega))) | (apply Wl.splitB; exact rfl; exact rfl; all_goals intros) | (apply St.condP; exact rfl; all_goals (intros; try (exfalso; omega))) | (apply St.condB; exact rfl; all_goals intros))
  apply Mt.back
  refine Mt.pure 2 (by decide +kernel) (by exact rfl) (by exact rfl) (by decide +kernel) (by decide +kernel) ?_
  repeat' (first | (apply Wl.loadW; exact rfl; exact rfl; (repeat (first | exact List.Mem.head _ | apply List.Mem.tail)); exact rfl) | (apply Wl.nilM) | (apply Wl.splitP; exact rfl; exact rfl; all_goals (intros; try (exfalso; omega))) | (apply Wl.splitB; exact rfl; exact rfl; all_goals intros) | (apply St.condP; exact rfl; all_goals (intros; try (exfalso; omega))) | (apply St.condB; exact rfl; all_goals intros))
  apply Mt.back
  refine Mt.pure 4 (by decide +kernel) (by exact rfl) (by exact rfl) (by decide +kernel) (by decide +kernel) ?_
  repeat' (first | (apply Wl.move; exact rfl; exact rfl) | (apply Wl.nilM) | (apply Wl.splitP; exact rfl; exact rfl; all_goals (intros; try (exfalso; omega))) | (apply Wl.splitB; exact rfl; exact rfl; all_goals intros) | (apply St.condP; exact rfl; all_goals (intros; try (exfalso; omega))) | (apply St.condB; exact rfl; all_goals intros))
  apply Mt.back
  refine Mt.pure 5 (by decide +kernel) (by exact rfl) (by exact rfl) (by decide +kernel) (by decide +kernel) ?_
  repeat' (first | (apply Wl.nilCheck; exact rfl; exact rfl) | (apply Wl.nilM) | (apply Wl.splitP; exact rfl; exact rfl; all_goals (intros; try (exfalso; omega))) | (apply Wl.splitB; exact rfl; exact rfl; all_goals intros) | (apply St.condP; exact rfl; all_goals (intros; try (exfalso; omega))) | (apply St.condB; exact rfl; all_goals intros))
  apply Mt.back
  refine Mt.pure 6 (by decide +kernel) (by exact rfl) (by exact rfl) (by decide +kernel) (by decide +kernel) ?_
  repeat' (first | (apply Wl.fieldAddrZ; exact rfl; exact rfl) | (apply Wl.nilM) | (apply Wl.splitP; exact rfl; exact rfl; all_goals (intros; try (exfalso; omega))) | (apply Wl.splitB; exact rfl; exact rfl; all_goals intros) | (apply St.condP; exact rfl; all_goals (intros; try (exfalso; omega))) | (apply St.condB; exact rfl; all_goals intros))
  apply Mt.back
  refine Mt.pure 7 (by decide +kernel) (by exact rfl) (by exact rfl) (by decide +kernel) (by decide +kernel) ?_
  repeat' (first | (apply Wl.loadM; exact rfl; exact rfl; exact h2; (apply Off.of; simp; omega); exact rfl) | (apply Wl.nilM) | (apply Wl.splitP; exact rfl; exact rfl; all_goals (intros; try (exfalso; omega))) | (apply Wl.splitB; exact rfl; exact rfl; all_goals intros) | (apply St.condP; exact rfl; all_goals (intros; try (exfalso; omega))) | (apply St.condB; exact rfl; all_goals intros))
  apply Mt.back
  refine Mt.eff1 (i := 3) (by decide +kernel) (by exact rfl) ?_
  apply Wl.callQ
  exact rfl
  (repeat (first | exact Evs.nil | apply Evs.cons rfl))
  · intro wq hq
    refine (modLow b m a wq (h.mod.hp hq (by apply Off.of; simp; omega)) h.lt h.gt ha).mono ?_
    rintro e wr ⟨rfl, hr⟩
    exact ⟨rfl, hq.keep hr⟩
  repeat' (first | (apply Wl.nil) | (apply Wl.splitP; exact rfl; exact rfl; all_goals (intros; try (exfalso; omega))) | (apply Wl.splitB; exact rfl; exact rfl; all_goals intros) | (apply St.condP; exact rfl; all_goals (intros; try (exfalso; omega))) | (apply St.condB; exact rfl; all_goals intros))
  refine Mt.backE (fun _ h => by first | exact h | exact hpPop h (by simp only; omega)) ?_
  refine Mt.eff1 (i := 8) (by decide +kernel) (by exact rfl) ?_
  have hm0 : 0 < m := by have := h.gt; omega
  apply Wl.callQ
  exact rfl
  (repeat (first | exact Evs.nil | apply Evs.cons rfl))
  · intro wq hq
    refine (modTimes' (h.hp hq (by apply Off.of; simp; omega)) (Nat.lt_trans (Nat.mod_lt a hm0) h.lt) (Nat.mod_lt (W256 * W256) hm0)).mono ?_
    rintro e wr ⟨rfl, hr⟩
    exact ⟨rfl, hq.keep hr⟩
  rw [in_eq h.odd]
  repeat' (first | (apply Wl.nil) | (apply Wl.splitP; exact rfl; exact rfl; all_goals (intros; try (exfalso; omega))) | (apply Wl.splitB; exact rfl; exact rfl; all_goals intros) | (apply St.condP; exact rfl; all_goals (intros; try (exfalso; omega))) | (apply St.condB; exact rfl; all_goals intros))
  refine Mt.backE (fun _ h => by first | exact h | exact hpPop h (by simp only; omega)) ?_
  refine Mt.eff1 (i := 9) (by decide +kernel) (by exact rfl) ?_
  repeat' (first | (apply Wl.storeW; exact rfl; exact rfl; (repeat (first | apply HSet.here | apply HSet.there)); exact rfl; (first | exact cellsN_len _ _ _ | exact rfl)) | (apply Wl.nil) | (apply Wl.splitP; exact rfl; exact rfl; all_goals (intros; try (exfalso; omega))) | (apply Wl.splitB; exact rfl; exact rfl; all_goals intros) | (apply St.condP; exact rfl; all_goals (intros; try (exfalso; omega))) | (apply St.condB; exact rfl; all_goals intros))
  refine Mt.backE (fun _ h => by first | exact h | exact hpPop h (by simp only; omega)) ?_
  refine Mt.toGt (by decide +kernel) ?_
  repeat' (first | (apply Gt.outN; exact rfl; infer_instance; exact rfl; (repeat (first | exact List.Mem.head _ | apply List.Mem.tail)); exact rfl; intro w' hp) | (apply St.ret) | (apply Gt.next) | (apply Wl.splitP; exact rfl; exact rfl; all_goals (intros; try (exfalso; omega))) | (apply Wl.splitB; exact rfl; exact rfl; all_goals intros) | (apply St.condP; exact rfl; all_goals (intros; try (exfalso; omega))) | (apply St.condB; exact rfl; all_goals intros))
  exact ⟨rfl, hp.drop (by simp; omega)⟩
set_option maxHeartbeats 1000000 in
theorem modOut (b m a : Nat) (w : World) (h : ModV w b m) (ha : a < W256) :
    Calls Tryd.prog 26 #[mp b, numV a] w fun e w' => e = .returned (numV (a * rinv m % m)) ∧ Hp w [] w' := by
  have hb := h.blk
  refine enter (args := [_, _]) (Γ := [(0, _), (1, _)]) Tryd.func26 Tryd.ntmps26 rfl (of_decide_eq_true rfl) (.cons rfl (.cons rfl .nil)) ?_
  repeat' (first | (apply Wl.loadW; exact rfl; exact rfl; (repeat (first | exact List.Mem.head _ | apply List.Mem.tail)); exact rfl) | (apply Wl.boxN; exact rfl; exact rfl; intro c hc ho) | (apply Wl.buildN; exact rfl; (repeat (first | exact Parts.nil | apply Parts.cons rfl)); (repeat (first | apply Fills.nil | (apply Fills.one; exact rfl; exact rfl; (repeat (first | apply LSet.z | apply LSet.s))) | (apply Fills.agg; exact rfl; exact rfl; (repeat (first | apply LPut.s | apply LPut.z | apply LOver.nil | apply LOver.cons))))); (first | exact one8 | exact zero8 | exact two8)) | (apply Wl.allocN; exact rfl; (first | exact z8 | exact z16 | exact z17 | exact z33 | exact z10); intro c hc ho) | (apply Wl.move; exact rfl; exact rfl) | (apply Wl.nil) | (apply St.seq) | (apply St.region) | (apply Gt.next) | (apply Wl.splitP; exact rfl; exact rfl; all_goals (intros; try (exfalso; omega))) | (apply Wl.splitB; exact rfl; exact rfl; all_goals intros) | (apply St.condP; exact rfl; all_goals (intros; try (exfalso; omega))) | (apply St.condB; exact rfl; all_goals intros))
  apply Wl.callQ
  exact rfl
  (repeat (first | exact Evs.nil | apply Evs.cons rfl))
  · intro wq hq
    refine (modTimes' (h.hp hq (by apply Off.of; simp; omega)) ha h.gt).mono ?_
    rintro e wr ⟨rfl, hr⟩
    exact ⟨rfl, hq.keep hr⟩
  rw [Nat.mul_one]
  repeat' (first | (apply Gt.outN; exact rfl; infer_instance; exact rfl; (repeat (first | exact List.Mem.head _ | apply List.Mem.tail)); exact rfl; intro w' hp) | (apply Wl.storeW; exact rfl; exact rfl; (repeat (first | apply HSet.here | apply HSet.there)); exact rfl; (first | exact cellsN_len _ _ _ | exact rfl)) | (apply Wl.nil) | (apply St.ret) | (apply Gt.next) | (apply Wl.splitP; exact rfl; exact rfl; all_goals (intros; try (exfalso; omega))) | (apply Wl.splitB; exact rfl; exact rfl; all_goals intros) | (apply St.condP; exact rfl; all_goals (intros; try (exfalso; omega))) | (apply St.condB; exact rfl; all_goals intros))
  exact ⟨rfl, hp.drop (by simp; omega)⟩
set_option maxHeartbeats 1000000 in
theorem modOne (b m : Nat) (w : World) (h : ModV w b m) :
    Calls Tryd.prog 65 #[mp b] w fun e w' => e = .returned (numV (W256 % m)) ∧ Hp w [] w' := by
  have hb := h.blk
  refine enter (args := [_]) (Γ := [(0, _)]) Tryd.func65 Tryd.ntmps65 rfl (of_decide_eq_true rfl) (.cons rfl .nil) ?_
  have h1 := h.one
  repeat' (first | (apply Wl.loadM; exact rfl; exact rfl; exact h1; (apply Off.of; simp; omega); exact rfl) | (apply Gt.outN; exact rfl; infer_instance; exact rfl; (repeat (first | exact List.Mem.head _ | apply List.Mem.tail)); exact rfl; intro w' hp) | (apply Wl.storeW; exact rfl; exact rfl; (repeat (first | apply HSet.here | apply HSet.there)); exact rfl; (first | exact cellsN_len _ _ _ | exact rfl)) | (apply Wl.allocN; exact rfl; (first | exact z8 | exact z16 | exact z17 | exact z33 | exact z10); intro c hc ho) | (apply Wl.move; exact rfl; exact rfl) | (apply Wl.nilCheck; exact rfl; exact rfl) | (apply Wl.fieldAddrZ; exact rfl; exact rfl) | (apply Wl.eqlPN; exact rfl; exact rfl; exact rfl) | (apply Wl.nil) | (apply St.seq) | (apply St.region) | (apply St.condF; exact rfl; (first | with_reducible rfl | with_reducible assumption | decide)) | (apply St.ret) | (apply St.skip) | (apply Gt.next) | (apply Wl.splitP; exact rfl; exact rfl; all_goals (intros; try (exfalso; omega))) | (apply Wl.splitB; exact rfl; exact rfl; all_goals intros) | (apply St.condP; exact rfl; all_goals (intros; try (exfalso; omega))) | (apply St.condB; exact rfl; all_goals intros))
  exact ⟨rfl, hp.drop (by simp; omega)⟩
set_option maxHeartbeats 1000000 in
theorem modModulus (b m : Nat) (w : World) (h : ModV w b m) :
    Calls Tryd.prog 59 #[mp b] w fun e w' => e = .returned (numV m) ∧ Hp w [] w' := by
  have hb := h.blk
  refine enter (args := [_]) (Γ := [(0, _)]) Tryd.func59 Tryd.ntmps59 rfl (of_decide_eq_true rfl) (.cons rfl .nil) ?_
  have h1 := h.mod
  repeat' (first | (apply Wl.loadM; exact rfl; exact rfl; exact h1; (apply Off.of; simp; omega); exact rfl) | (apply Gt.outN; exact rfl; infer_instance; exact rfl; (repeat (first | exact List.Mem.head _ | apply List.Mem.tail)); exact rfl; intro w' hp) | (apply Wl.storeW; exact rfl; exact rfl; (repeat (first | apply HSet.here | apply HSet.there)); exact rfl; (first | exact cellsN_len _ _ _ | exact rfl)) | (apply Wl.allocN; exact rfl; (first | exact z8 | exact z16 | exact z17 | exact z33 | exact z10); intro c hc ho) | (apply Wl.move; exact rfl; exact rfl) | (apply Wl.nilCheck; exact rfl; exact rfl) | (apply Wl.fieldAddr0; exact rfl; exact rfl) | (apply Wl.eqlPN; exact rfl; exact rfl; exact rfl) | (apply Wl.nil) | (apply St.seq) | (apply St.region) | (apply St.condF; exact rfl; (first | with_reducible rfl | with_reducible assumption | decide)) | (apply St.ret) | (apply St.skip) | (apply Gt.next) | (apply Wl.splitP; exact rfl; exact rfl; all_goals (intros; try (exfalso; omega))) | (apply Wl.splitB; exact rfl; exact rfl; all_goals intros) | (apply St.condP; exact rfl; all_goals (intros; try (exfalso; omega))) | (apply St.condB; exact rfl; all_goals intros))
  exact ⟨rfl, hp.drop (by simp; omega)⟩
set_option maxHeartbeats 1000000 in
theorem modReduce (b m a : Nat) (w : World) (h : ModV w b m) (ha : a < W256) :
    Calls Tryd.prog 31 #[mp b, numV a] w fun e w' => e = .returned (numV (a % m)) ∧ Hp w [] w' := by
  have hb := h.blk
  refine enter (args := [_, _]) (Γ := [(0, _), (1, _)]) Tryd.func31 Tryd.ntmps31 rfl (of_decide_eq_true rfl) (.cons rfl (.cons rfl .nil)) ?_
  repeat' (first | (apply Wl.loadW; exact rfl; exact rfl; (repeat (first | exact List.Mem.head _ | apply List.Mem.tail)); exact rfl) | (apply Wl.boxN; exact rfl; exact rfl; intro c hc ho) | (apply Wl.allocN; exact rfl; (first | exact z8 | exact z16 | exact z17 | exact z33 | exact z10); intro c hc ho) | (apply Wl.move; exact rfl; exact rfl) | (apply Wl.eqlPN; exact rfl; exact rfl; exact rfl) | (apply Wl.nil) | (apply St.seq) | (apply St.region) | (apply St.condF; exact rfl; (first | with_reducible rfl | with_reducible assumption | decide)) | (apply St.skip) | (apply Gt.next) | (apply Wl.splitP; exact rfl; exact rfl; all_goals (intros; try (exfalso; omega))) | (apply Wl.splitB; exact rfl; exact rfl; all_goals intros) | (apply St.condP; exact rfl; all_goals (intros; try (exfalso; omega))) | (apply St.condB; exact rfl; all_goals intros))
  apply Wl.callQ
  exact rfl
  (repeat (first | exact Evs.nil | apply Evs.cons rfl))
  · intro wq hq
    refine (modLow b m a wq (h.mod.hp hq (by apply Off.of; simp; omega)) h.lt h.gt ha).mono ?_
    rintro e wr ⟨rfl, hr⟩
    exact ⟨rfl, hq.keep hr⟩
  repeat' (first | (apply Gt.outN; exact rfl; infer_instance; exact rfl; (repeat (first | exact List.Mem.head _ | apply List.Mem.tail)); exact rfl; intro w' hp) | (apply Wl.storeW; exact rfl; exact rfl; (repeat (first | apply HSet.here | apply HSet.there)); exact rfl; (first | exact cellsN_len _ _ _ | exact rfl)) | (apply Wl.nil) | (apply St.ret) | (apply Gt.next) | (apply Wl.splitP; exact rfl; exact rfl; all_goals (intros; try (exfalso; omega))) | (apply Wl.splitB; exact rfl; exact rfl; all_goals intros) | (apply St.condP; exact rfl; all_goals (intros; try (exfalso; omega))) | (apply St.condB; exact rfl; all_goals intros))
  exact ⟨rfl, hp.drop (by simp; omega)⟩
theorem mul_eq {m a c : Nat} (ho : m % 2 = 1) : (a * W256 % m) * (c * W256 % m) * rinv m % m * rinv m % m = a * c % m := by
  have e : (a * W256 % m) * (c * W256 % m) * rinv m % m * rinv m % m = a * c * W256 * rinv m * (W256 * rinv m) % m := by
    rw [Nat.mod_mul_mod]
    have : a * c * W256 * rinv m * (W256 * rinv m) = (a * W256) * (c * W256) * rinv m * rinv m := by
      simp only [Nat.mul_assoc, Nat.mul_left_comm, Nat.mul_comm]
    rw [this]
    simp only [Nat.mul_mod, Nat.mod_mod]
  rw [e, ← Nat.mul_assoc]
  rw [show a * c * W256 * rinv m * W256 * rinv m = (a * c * W256 * rinv m) * W256 * rinv m from rfl, inW ho, inW ho]
set_option maxHeartbeats 4000000 in
theorem modMul (b m a a2 : Nat) (w : World) (h : ModV w b m) (ha : a < W256) (ha2 : a2 < W256) :
    Calls Tryd.prog 85 #[mp b, numV a, numV a2] w fun e w' => e = .returned (numV (a * a2 % m)) ∧ Hp w [] w' := by
  have hb := h.blk
  refine enter (args := [_, _, _]) (Γ := [(0, _), (1, _), (2, _)]) Tryd.func85 Tryd.ntmps85 rfl (of_decide_eq_true rfl) (.cons rfl (.cons rfl (.cons rfl .nil))) ?_
  have hm0 : 0 < m := by have := h.gt; omega
  have hlt := h.lt
  repeat' (first | (apply Wl.boxN; exact rfl; exact rfl; intro c hc ho) | (apply Wl.allocN; exact rfl; (first | exact z8 | exact z16 | exact z17 | exact z33 | exact z10); intro c hc ho) | (apply Wl.nil) | (apply St.seq) | (apply St.region) | (apply Gt.next) | (apply Wl.splitP; exact rfl; exact rfl; all_goals (intros; try (exfalso; omega))) | (apply Wl.splitB; exact rfl; exact rfl; all_goals intros) | (apply St.condP; exact rfl; all_goals (intros; try (exfalso; omega))) | (apply St.condB; exact rfl; all_goals intros))
  refine St.tree (Hp w [_, _]) mixed (fun _ h => ⟨Hp.drew h, hpPop (Hp.drew h) (by simp only; omega)⟩) ?_
  refine Mt.pure 0 (by decide +kernel) (by exact rfl) (by exact rfl) (by decide +kernel) (by decide +kernel) ?_
  repeat' (first | (apply Wl.move; exact rfl; exact rfl) | (apply Wl.nilM) | (apply Wl.splitP; exact rfl; exact rfl; all_goals (intros; try (exfalso; omega))) | (apply Wl.splitB; exact rfl; exact rfl; all_goals intros) | (apply St.condP; exact rfl; all_goals (intros; try (exfalso; omega))) | (apply St.condB; exact rfl; all_goals intros))
  apply Mt.back
  refine Mt.pure 1 (by decide +kernel) (by exact rfl) (by exact rfl) (by decide +kernel) (by decide +kernel) ?_
  repeat' (first | (apply Wl.move; exact rfl; exact rfl) | (apply Wl.nilM) | (apply Wl.splitP; exact rfl; exact rfl; all_goals (intros; try (exfalso; omega))) | (apply Wl.splitB; exact rfl; exact rfl; all_goals intros) | (apply St.condP; exact rfl; all_goals (intros; try (exfalso; omega))) | (apply St.condB; exact rfl; all_goals intros))
  apply Mt.back
  refine Mt.pure 2 (by decide +kernel) (by exact rfl) (by exact rfl) (by decide +kernel) (by decide +kernel) ?_
  repeat' (first | (apply Wl.move; exact rfl; exact rfl) | (apply Wl.nilM) | (apply Wl.splitP; exact rfl; exact rfl; all_goals (intros; try (exfalso; omega))) | (apply Wl.splitB; exact rfl; exact rfl; all_goals intros) | (apply St.condP; exact rfl; all_goals (intros; try (exfalso; omega))) | (apply St.condB; exact rfl; all_goals intros))
  apply Mt.back
  refine Mt.pure 3 (by decide +kernel) (by exact rfl) (by exact rfl) (by decide +kernel) (by decide +kernel) ?_
  repeat' (first | (apply Wl.loadW; exact rfl; exact rfl; (repeat (first | exact List.Mem.head _ | apply List.Mem.tail)); exact rfl) | (apply Wl.nilM) | (apply Wl.splitP; exact rfl; exact rfl; all_goals (intros; try (exfalso; omega))) | (apply Wl.splitB; exact rfl; exact rfl; all_goals intros) | (apply St.condP; exact rfl; all_goals (intros; try (exfalso; omega))) | (apply St.condB; exact rfl; all_goals intros))
  apply Mt.back
  refine Mt.pure 5 (by decide +kernel) (by exact rfl) (by exact rfl) (by decide +kernel) (by decide +kernel) ?_
  repeat' (first | (apply Wl.move; exact rfl; exact rfl) | (apply Wl.nilM) | (apply Wl.splitP; exact rfl; exact rfl; all_goals (intros; try (exfalso; omega))) | (apply Wl.splitB; exact rfl; exact rfl; all_goals intros) | (apply St.condP; exact rfl; all_goals (intros; try (exfalso; omega))) | (apply St.condB; exact rfl; all_goals intros))
  apply Mt.back
  refine Mt.pure 6 (by decide +kernel) (by exact rfl) (by exact rfl) (by decide +kernel) (by decide +kernel) ?_
  repeat' (first | (apply Wl.loadW; exact rfl; exact rfl; (repeat (first | exact List.Mem.head _ | apply List.Mem.tail)); exact rfl) | (apply Wl.nilM) | (apply Wl.splitP; exact rfl; exact rfl; all_goals (intros; try (exfalso; omega))) | (apply Wl.splitB; exact rfl; exact rfl; all_goals intros) | (apply St.condP; exact rfl; all_goals (intros; try (exfalso; omega))) | (apply St.condB; exact rfl; all_goals intros))
  apply Mt.back
  refine Mt.eff1 (i := 4) (by decide +kernel) (by exact rfl) ?_
  apply Wl.callQ
  exact rfl
  (repeat (first | exact Evs.nil | apply Evs.cons rfl))
  · intro wq hq
    refine (modIn b m a wq (h.hp hq (by apply Off.of; simp; omega)) ha).mono ?_
    rintro e wr ⟨rfl, hr⟩
    exact ⟨rfl, hq.keep hr⟩
  repeat' (first | (apply Wl.nil) | (apply Wl.splitP; exact rfl; exact rfl; all_goals (intros; try (exfalso; omega))) | (apply Wl.splitB; exact rfl; exact rfl; all_goals intros) | (apply St.condP; exact rfl; all_goals (intros; try (exfalso; omega))) | (apply St.condB; exact rfl; all_goals intros))
  refine Mt.backE (fun _ h => by first | exact h | exact hpPop h (by simp only; omega)) ?_
  refine Mt.eff1 (i := 7) (by decide +kernel) (by exact rfl) ?_
  apply Wl.callQ
  exact rfl
  (repeat (first | exact Evs.nil | apply Evs.cons rfl))
  · intro wq hq
    refine (modIn b m a2 wq (h.hp hq (by apply Off.of; simp; omega)) ha2).mono ?_
    rintro e wr ⟨rfl, hr⟩
    exact ⟨rfl, hq.keep hr⟩
  repeat' (first | (apply Wl.nil) | (apply Wl.splitP; exact rfl; exact rfl; all_goals (intros; try (exfalso; omega))) | (apply Wl.splitB; exact rfl; exact rfl; all_goals intros) | (apply St.condP; exact rfl; all_goals (intros; try (exfalso; omega))) | (apply St.condB; exact rfl; all_goals intros))
  refine Mt.backE (fun _ h => by first | exact h | exact hpPop h (by simp only; omega)) ?_
  refine Mt.eff1 (i := 8) (by decide +kernel) (by exact rfl) ?_
  apply Wl.callQ
  exact rfl
  (repeat (first | exact Evs.nil | apply Evs.cons rfl))
  · intro wq hq
    refine (modTimes' (h.hp hq (by apply Off.of; simp; omega)) (Nat.lt_trans (Nat.mod_lt _ hm0) hlt) (Nat.mod_lt _ hm0)).mono ?_
    rintro e wr ⟨rfl, hr⟩
    exact ⟨rfl, hq.keep hr⟩
  repeat' (first | (apply Wl.nil) | (apply Wl.splitP; exact rfl; exact rfl; all_goals (intros; try (exfalso; omega))) | (apply Wl.splitB; exact rfl; exact rfl; all_goals intros) | (apply St.condP; exact rfl; all_goals (intros; try (exfalso; omega))) | (apply St.condB; exact rfl; all_goals intros))
  refine Mt.backE (fun _ h => by first | exact h | exact hpPop h (by simp only; omega)) ?_
  refine Mt.eff1 (i := 9) (by decide +kernel) (by exact rfl) ?_
  apply Wl.callQ
  exact rfl
  (repeat (first | exact Evs.nil | apply Evs.cons rfl))
  · intro wq hq
    refine (modOut b m _ wq (h.hp hq (by apply Off.of; simp; omega)) (Nat.lt_trans (Nat.mod_lt _ hm0) hlt)).mono ?_
    rintro e wr ⟨rfl, hr⟩
    exact ⟨rfl, hq.keep hr⟩
  rw [mul_eq h.odd]
  repeat' (first | (apply Wl.nil) | (apply Wl.splitP; exact rfl; exact rfl; all_goals (intros; try (exfalso; omega))) | (apply Wl.splitB; exact rfl; exact rfl; all_goals intros) | (apply St.condP; exact rfl; all_goals (intros; try (exfalso; omega))) | (apply St.condB; exact rfl; all_goals intros))
  refine Mt.backE (fun _ h => by first | exact h | exact hpPop h (by simp only; omega)) ?_
  refine Mt.eff1 (i := 10) (by decide +kernel) (by exact rfl) ?_
  repeat' (first | (apply Wl.storeW; exact rfl; exact rfl; (repeat (first | apply HSet.here | apply HSet.there)); exact rfl; (first | exact cellsN_len _ _ _ | exact rfl)) | (apply Wl.nil) | (apply Wl.splitP; exact rfl; exact rfl; all_goals (intros; try (exfalso; omega))) | (apply Wl.splitB; exact rfl; exact rfl; all_goals intros) | (apply St.condP; exact rfl; all_goals (intros; try (exfalso; omega))) | (apply St.condB; exact rfl; all_goals intros))
  refine Mt.backE (fun _ h => by first | exact h | exact hpPop h (by simp only; omega)) ?_
  refine Mt.toGt (by decide +kernel) ?_
  repeat' (first | (apply Gt.outN; exact rfl; infer_instance; exact rfl; (repeat (first | exact List.Mem.head _ | apply List.Mem.tail)); exact rfl; intro w' hp) | (apply St.ret) | (apply Gt.next) | (apply Wl.splitP; exact rfl; exact rfl; all_goals (intros; try (exfalso; omega))) | (apply Wl.splitB; exact rfl; exact rfl; all_goals intros) | (apply St.condP; exact rfl; all_goals (intros; try (exfalso; omega))) | (apply St.condB; exact rfl; all_goals intros))
  exact ⟨rfl, hp.drop (by simp; omega)⟩
/-- a to the k-th, in -/
def pw (m a k : Nat) : Nat := (a * rinv m) ^ k * W256 % m
theorem pw_zero (m a : Nat) : pw m a 0 = W256 % m := by simp [pw]
theorem pw_dbl {m a k : Nat} (ho : m % 2 = 1) : pw m a k * pw m a k * rinv m % m = pw m a (2 * k) := by
  unfold pw
  have e : (a * rinv m) ^ k * W256 % m * ((a * rinv m) ^ k * W256 % m) * rinv m % m = (a * rinv m) ^ (2 * k) * W256 * W256 * rinv m % m := by
    have : (a * rinv m) ^ (2 * k) * W256 * W256 * rinv m = ((a * rinv m) ^ k * W256) * ((a * rinv m) ^ k * W256) * rinv m := by
      rw [Nat.two_mul, Nat.pow_add]
      simp only [Nat.mul_assoc, Nat.mul_left_comm, Nat.mul_comm]
    rw [this]
    simp only [Nat.mul_mod, Nat.mod_mod]
  rw [e]; exact inW ho
theorem pw_one {m a k : Nat} : pw m a k * a * rinv m % m = pw m a (k + 1) := by
  unfold pw
  have : (a * rinv m) ^ (k + 1) * W256 = (a * rinv m) ^ k * W256 * a * rinv m := by
    rw [Nat.pow_succ]
    simp only [Nat.mul_assoc, Nat.mul_left_comm, Nat.mul_comm]
  rw [this]
  simp only [Nat.mul_mod, Nat.mod_mod]
set_option maxHeartbeats 1000000 in
theorem modPow (b m a n : Nat) (w : World) (h : ModV w b m) (ha : a < m) (hn : n < W256) :
    Calls Tryd.prog 60 #[mp b, numV a, numV n] w fun e w' => e = .returned (numV (pw m a n)) ∧ Hp w [] w' := by
  have hb := h.blk
  refine enter (args := [_, _, _]) (Γ := [(0, _), (1, _), (2, _)]) Tryd.func60 Tryd.ntmps60 rfl (of_decide_eq_true rfl) (.cons rfl (.cons rfl (.cons rfl .nil))) ?_
  have hm0 : 0 < m := by have := h.gt; omega
  have hlt := h.lt
  repeat' (first | (apply Wl.boxN; exact rfl; exact rfl; intro c hc ho) | (apply Wl.allocN; exact rfl; (first | exact z8 | exact z16 | exact z17 | exact z33 | exact z10); intro c hc ho) | (apply Wl.move; exact rfl; exact rfl) | (apply Wl.nil) | (apply St.seq) | (apply St.region) | (apply Gt.next) | (apply Wl.splitP; exact rfl; exact rfl; all_goals (intros; try (exfalso; omega))) | (apply Wl.splitB; exact rfl; exact rfl; all_goals intros) | (apply St.condP; exact rfl; all_goals (intros; try (exfalso; omega))) | (apply St.condB; exact rfl; all_goals intros))
  apply Wl.callQ
  exact rfl
  (repeat (first | exact Evs.nil | apply Evs.cons rfl))
  · intro wq hq
    refine (modOne b m wq (h.hp hq (by apply Off.of; simp; omega))).mono ?_
    rintro e wr ⟨rfl, hr⟩
    exact ⟨rfl, hq.keep hr⟩
  repeat' (first | (apply Wl.storeW; exact rfl; exact rfl; (repeat (first | apply HSet.here | apply HSet.there)); exact rfl; (first | exact cellsN_len _ _ _ | exact rfl)) | (apply Wl.allocN; exact rfl; (first | exact z8 | exact z16 | exact z17 | exact z33 | exact z10); intro c hc ho) | (apply Wl.assign; exact rfl; exact rfl) | (apply Wl.nil) | (apply St.seq) | (apply St.block) | (apply St.region) | (apply Gt.next) | (apply Wl.splitP; exact rfl; exact rfl; all_goals (intros; try (exfalso; omega))) | (apply Wl.splitB; exact rfl; exact rfl; all_goals intros) | (apply St.condP; exact rfl; all_goals (intros; try (exfalso; omega))) | (apply St.condB; exact rfl; all_goals intros))
  rename_i ca hca hoa cb hcb hob cr hcr hor
  generalize c = cx at *
  have e256 : n / 2 ^ 256 = 0 := Nat.div_eq_of_lt (Nat.lt_of_lt_of_eq hn (by decide))
  refine St.loop (σ := Nat) (fun k => k ≤ 256)
    (fun k => [(0, mp b), (4, mp ca), (5, mp cb), (6, mp cr), (7, mp cx), (8, .int .i64 ((k : Int) - 1))])
    (fun k => Hp w [⟨cx, cellsN .u32 8 (dg W32 (pw m a (n / 2 ^ k))), 30⟩, ⟨cr, cellsN .u32 8 fun _ => 0, 30⟩, ⟨cb, cellsN .u32 8 (dg W32 n), 30⟩, ⟨ca, cellsN .u32 8 (dg W32 a), 30⟩])
    (fun k => k) 256 (Nat.le_refl _) (by (repeat (first | exact Sub.nil | apply Sub.cons rfl))) (fun _ h => by
      show Hp w [⟨cx, cellsN .u32 8 (dg W32 (pw m a (n / 2 ^ 256))), _⟩, _, _, _] _
      rw [e256, pw_zero]; exact h) ?_
  intro k hk
  cases k with
  | zero =>
    rw [Nat.pow_zero, Nat.div_one]
    repeat' (first | (apply Gt.outN; exact rfl; infer_instance; exact rfl; (repeat (first | exact List.Mem.head _ | apply List.Mem.tail)); exact rfl; intro w' hp) | (apply Wl.loadW; exact rfl; exact rfl; (repeat (first | exact List.Mem.head _ | apply List.Mem.tail)); exact rfl) | (apply Wl.storeW; exact rfl; exact rfl; (repeat (first | apply HSet.here | apply HSet.there)); exact rfl; (first | exact cellsN_len _ _ _ | exact rfl)) | (apply Wl.move; exact rfl; exact rfl) | (apply Wl.geq; exact rfl; exact rfl; exact rfl) | (apply Wl.nil) | (apply St.seq) | (apply St.region) | (apply St.condF; exact rfl; (first | with_reducible rfl | with_reducible assumption | decide)) | (apply St.ret) | (apply St.exit) | (apply Gt.next) | (apply Gt.thenExit) | (apply Gt.inExit) | (apply Wl.splitP; exact rfl; exact rfl; all_goals (intros; try (exfalso; omega))) | (apply Wl.splitB; exact rfl; exact rfl; all_goals intros) | (apply St.condP; exact rfl; all_goals (intros; try (exfalso; omega))) | (apply St.condB; exact rfl; all_goals intros))
    exact ⟨rfl, hp.drop (by simp; omega)⟩
  | succ i =>
    have ei : (((i + 1 : Nat) : Int) - 1) = (i : Int) := by omega
    rw [ei]
    have hr (k : Nat) : pw m a k < m := Nat.mod_lt _ hm0
    have hst := bit_step n i
    generalize hre : n / 2 ^ (i + 1) = q at *
    repeat' (first | (apply Wl.loadW; exact rfl; exact rfl; (repeat (first | exact List.Mem.head _ | apply List.Mem.tail)); exact rfl) | (apply Wl.move; exact rfl; exact rfl) | (apply Wl.geq; exact rfl; exact rfl; exact rfl) | (apply Wl.nil) | (apply St.seq) | (apply St.block) | (apply St.region) | (apply St.skip) | (apply Gt.next) | (apply Wl.splitP; exact rfl; exact rfl; all_goals (intros; try (exfalso; omega))) | (apply Wl.splitB; exact rfl; exact rfl; all_goals intros) | (apply St.condP; exact rfl; all_goals (intros; try (exfalso; omega))) | (apply St.condB; exact rfl; all_goals intros))
    apply Wl.callQ
    exact rfl
    (repeat (first | exact Evs.nil | apply Evs.cons rfl))
    · intro wq hq
      refine (modTimes' (h.hp hq (by apply Off.of; simp; omega)) (Nat.lt_trans (hr q) hlt) (hr q)).mono ?_
      rintro e wr ⟨rfl, hr⟩
      exact ⟨rfl, hq.keep hr⟩
    rw [pw_dbl h.odd]
    repeat' (first | (apply Wl.loadW; exact rfl; exact rfl; (repeat (first | exact List.Mem.head _ | apply List.Mem.tail)); exact rfl) | (apply Wl.storeW; exact rfl; exact rfl; (repeat (first | apply HSet.here | apply HSet.there)); exact rfl; (first | exact cellsN_len _ _ _ | exact rfl)) | (apply Wl.move; exact rfl; exact rfl) | (apply Wl.nil) | (apply St.seq) | (apply St.region) | (apply Gt.next) | (apply Wl.splitP; exact rfl; exact rfl; all_goals (intros; try (exfalso; omega))) | (apply Wl.splitB; exact rfl; exact rfl; all_goals intros) | (apply St.condP; exact rfl; all_goals (intros; try (exfalso; omega))) | (apply St.condB; exact rfl; all_goals intros))
    apply Wl.callQ
    exact rfl
    (repeat (first | exact Evs.nil | apply Evs.cons rfl))
    · intro wq hq
      refine (limbBit n i (by omega) wq).mono ?_
      rintro e wr ⟨rfl, hr⟩
      exact ⟨rfl, hq.keep hr⟩
    have hb2 := Nat.mod_lt (n / 2 ^ i) (show 0 < 2 by decide)
    by_cases hbit : n / 2 ^ i % 2 = 1
    · rw [hbit] at hst
      rw [hbit]
      repeat' (first | (apply Wl.loadW; exact rfl; exact rfl; (repeat (first | exact List.Mem.head _ | apply List.Mem.tail)); exact rfl) | (apply Wl.move; exact rfl; exact rfl) | (apply Wl.eql; exact rfl; exact rfl; exact rfl) | (apply Wl.nil) | (apply St.region) | (apply St.condT; exact rfl; (first | with_reducible rfl | with_reducible assumption | decide)) | (apply Gt.next) | (apply Wl.splitP; exact rfl; exact rfl; all_goals (intros; try (exfalso; omega))) | (apply Wl.splitB; exact rfl; exact rfl; all_goals intros) | (apply St.condP; exact rfl; all_goals (intros; try (exfalso; omega))) | (apply St.condB; exact rfl; all_goals intros))
      apply Wl.callQ
      exact rfl
      (repeat (first | exact Evs.nil | apply Evs.cons rfl))
      · intro wq hq
        refine (modTimes' (h.hp hq (by apply Off.of; simp; omega)) (Nat.lt_trans (hr (2 * q)) hlt) ha).mono ?_
        rintro e wr ⟨rfl, hr⟩
        exact ⟨rfl, hq.keep hr⟩
      rw [pw_one, ← hst]
      repeat' (first | (apply Wl.storeW; exact rfl; exact rfl; (repeat (first | apply HSet.here | apply HSet.there)); exact rfl; (first | exact cellsN_len _ _ _ | exact rfl)) | (apply Wl.move; exact rfl; exact rfl) | (apply Wl.assign; exact rfl; exact rfl) | (apply Wl.subI; exact rfl; exact rfl; exact rfl; (constructor <;> omega)) | (apply Wl.nil) | (apply St.region) | (apply Gt.next) | (apply Gt.inNormal) | (apply Wl.splitP; exact rfl; exact rfl; all_goals (intros; try (exfalso; omega))) | (apply Wl.splitB; exact rfl; exact rfl; all_goals intros) | (apply St.condP; exact rfl; all_goals (intros; try (exfalso; omega))) | (apply St.condB; exact rfl; all_goals intros))
      apply Gt.round i
      rotate_left
      · simp
      · (repeat (first | exact Sub.nil | apply Sub.cons rfl))
      · exact fun _ h => h
      · omega
    · have hbit0 : n / 2 ^ i % 2 = 0 := by omega
      rw [hbit0, Nat.add_zero] at hst
      rw [hbit0, ← hst]
      repeat' (first | (apply Wl.move; exact rfl; exact rfl) | (apply Wl.assign; exact rfl; exact rfl) | (apply Wl.eql; exact rfl; exact rfl; exact rfl) | (apply Wl.subI; exact rfl; exact rfl; exact rfl; (constructor <;> omega)) | (apply Wl.nil) | (apply St.region) | (apply St.condF; exact rfl; (first | with_reducible rfl | with_reducible assumption | decide)) | (apply St.skip) | (apply Gt.next) | (apply Gt.inNormal) | (apply Wl.splitP; exact rfl; exact rfl; all_goals (intros; try (exfalso; omega))) | (apply Wl.splitB; exact rfl; exact rfl; all_goals intros) | (apply St.condP; exact rfl; all_goals (intros; try (exfalso; omega))) | (apply St.condB; exact rfl; all_goals intros))
      apply Gt.round i
      rotate_left
      · simp
      · (repeat (first | exact Sub.nil | apply Sub.cons rfl))
      · exact fun _ h => h
      · omega
end Go.Proofs.YtfaobdakpbpkbaaDoor
end
section
/-
  mont.New. Conditions: none.
-/
namespace Go.Pt
theorem LOver.app {l xs r : List Value} (h : l.length = xs.length) : LOver (l ++ r) xs (xs ++ r) := by
  induction xs generalizing l with
  | nil => cases l with
    | nil => exact .nil
    | cons _ _ => simp at h
  | cons x s ih => cases l with
    | nil => simp at h
    | cons y t => exact .cons (ih (by simpa using h))
theorem LPut.app {p l xs r : List Value} {n : Nat} (hn : p.length = n) (h : l.length = xs.length) : LPut (p ++ (l ++ r)) n xs (p ++ (xs ++ r)) := by
  subst hn
  induction p with
  | nil => exact .z (LOver.app h)
  | cons x s ih => exact .s ih
theorem LSet.app {p r : List Value} {x v : Value} {n : Nat} (hn : p.length = n) : LSet (p ++ x :: r) n v (p ++ v :: r) := by
  subst hn
  induction p with
  | nil => exact .z
  | cons y s ih => exact .s ih
end Go.Pt
namespace Go.Proofs.YtfaobdakpbpkbaaDoor
open Go.RowKit Go.Pt
/-- the cells of a modulus -/
def modC (m neg : Nat) (f g : Nat → Nat) : List Value := cellsN .u32 8 (dg W32 m) ++ (.int .u32 neg :: (cellsN .u32 8 f ++ cellsN .u32 8 g))
theorem modC_neg (m n n' : Nat) (f g : Nat → Nat) : LSet (modC m n f g) 8 (.int .u32 n') (modC m n' f g) := LSet.app (cellsN_len _ _ _)
theorem modC_one (m n : Nat) (f g f' : Nat → Nat) : LPut (modC m n f g) 9 (cellsN .u32 8 f') (modC m n f' g) := by
  have := LPut.app (p := cellsN .u32 8 (dg W32 m) ++ [.int .u32 n]) (l := cellsN .u32 8 f) (xs := cellsN .u32 8 f') (r := cellsN .u32 8 g) (n := 9) (by simp [cellsN_len]) (by simp [cellsN_len])
  simpa [modC] using this
theorem modC_two (m n : Nat) (f g g' : Nat → Nat) : LPut (modC m n f g) 17 (cellsN .u32 8 g') (modC m n f g') := by
  have := LPut.app (p := cellsN .u32 8 (dg W32 m) ++ (.int .u32 n :: cellsN .u32 8 f)) (l := cellsN .u32 8 g) (xs := cellsN .u32 8 g') (r := []) (n := 17) (by simp [cellsN_len]) (by simp [cellsN_len])
  simpa [modC] using this
theorem modC_zero : [Value.int .u32 0, .int .u32 0, .int .u32 0, .int .u32 0, .int .u32 0, .int .u32 0, .int .u32 0, .int .u32 0] ++ ([Value.int .u32 0, .int .u32 0, .int .u32 0, .int .u32 0, .int .u32 0, .int .u32 0, .int .u32 0, .int .u32 0, .int .u32 0] ++ [Value.int .u32 0, .int .u32 0, .int .u32 0, .int .u32 0, .int .u32 0, .int .u32 0, .int .u32 0, .int .u32 0]) = [Value.int .u32 0, .int .u32 0, .int .u32 0, .int .u32 0, .int .u32 0, .int .u32 0, .int .u32 0, .int .u32 0, .int .u32 0, .int .u32 0, .int .u32 0, .int .u32 0, .int .u32 0, .int .u32 0, .int .u32 0, .int .u32 0, .int .u32 0, .int .u32 0, .int .u32 0, .int .u32 0, .int .u32 0, .int .u32 0, .int .u32 0, .int .u32 0, .int .u32 0] := rfl
theorem modC_put (m : Nat) : LPut [Value.int .u32 0, .int .u32 0, .int .u32 0, .int .u32 0, .int .u32 0, .int .u32 0, .int .u32 0, .int .u32 0, .int .u32 0, .int .u32 0, .int .u32 0, .int .u32 0, .int .u32 0, .int .u32 0, .int .u32 0, .int .u32 0, .int .u32 0, .int .u32 0, .int .u32 0, .int .u32 0, .int .u32 0, .int .u32 0, .int .u32 0, .int .u32 0, .int .u32 0] 0 (cellsN .u32 8 (dg W32 m)) (modC m 0 (dg W32 0) (dg W32 0)) := by
  have h := LPut.app (p := []) (l := [Value.int .u32 0, .int .u32 0, .int .u32 0, .int .u32 0, .int .u32 0, .int .u32 0, .int .u32 0, .int .u32 0]) (xs := cellsN .u32 8 (dg W32 m)) (r := Value.int .u32 0 :: ([Value.int .u32 0, .int .u32 0, .int .u32 0, .int .u32 0, .int .u32 0, .int .u32 0, .int .u32 0, .int .u32 0] ++ [Value.int .u32 0, .int .u32 0, .int .u32 0, .int .u32 0, .int .u32 0, .int .u32 0, .int .u32 0, .int .u32 0])) (n := 0) rfl (by rw [cellsN_len]; rfl)
  unfold modC
  rw [zero8] at h
  rw [← zero8] at h ⊢
  exact h
theorem modC_get {m n : Nat} {f g : Nat → Nat} {j : Nat} (h : j < 8) : (modC m n f g)[j]? = some (.int .u32 (dg W32 m j)) ∧ (modC m n f g)[8]? = some (.int .u32 n) ∧ (modC m n f g)[9 + j]? = some (.int .u32 (f j)) ∧ (modC m n f g)[17 + j]? = some (.int .u32 (g j)) := by
  unfold modC
  refine ⟨?_, ?_, ?_, ?_⟩
  · rw [List.getElem?_append_left (by rw [cellsN_len]; exact h)]; exact cellsN_get h
  · rw [List.getElem?_append_right (by rw [cellsN_len]; decide), cellsN_len]; rfl
  · rw [List.getElem?_append_right (by rw [cellsN_len]; omega), cellsN_len, show 9 + j - 8 = j + 1 by omega, List.getElem?_cons_succ, List.getElem?_append_left (by rw [cellsN_len]; exact h)]; exact cellsN_get h
  · rw [List.getElem?_append_right (by rw [cellsN_len]; omega), cellsN_len, show 17 + j - 8 = (8 + j) + 1 by omega, List.getElem?_cons_succ, List.getElem?_append_right (by rw [cellsN_len]; omega), cellsN_len, show 8 + j - 8 = j by omega]; exact cellsN_get h
theorem sq_pow {n k : Nat} (h : n + n = k) : 2 ^ n * 2 ^ n = 2 ^ k := by subst h; rw [← Nat.pow_add]
def pw2 (m i : Nat) : Nat := 2 ^ i % m
theorem pw2_dbl (m n k : Nat) (h : n + n = k) : pw2 m k = 2 ^ n * 2 ^ n % m := by rw [sq_pow h, pw2]
def D2 (k : Nat) : Nat := 2 ^ 2 ^ k
theorem D2_succ (k : Nat) : D2 (k + 1) = D2 k * D2 k := by unfold D2; rw [Nat.pow_succ, Nat.mul_two, Nat.pow_add]
theorem D2_dvd {k : Nat} (h : k < 5) : D2 k * D2 k ∣ 4294967296 := by
  have : k = 0 ∨ k = 1 ∨ k = 2 ∨ k = 3 ∨ k = 4 := by omega
  rcases this with rfl | rfl | rfl | rfl | rfl <;> decide
theorem dg0_mod (m : Nat) : dg W32 m 0 = m % 4294967296 := by unfold dg; rw [hi_zero]
def NewPost (m : Nat) (w : World) (e : Ending) (w' : World) : Prop :=
  (m % 2 = 1 ∧ m ≠ 1 ∧ ∃ b, e = .returned (.tuple #[mp b, .int .i64 0]) ∧ w.heap.size ≤ b ∧ ModV w' b m ∧ Hp w [] w') ∨ (¬ (m % 2 = 1 ∧ m ≠ 1) ∧ e = .returned (.tuple #[.pointer none, .int .i64 1]) ∧ Hp w [] w')
set_option maxHeartbeats 2000000 in
theorem modNew (m : Nat) (hm : m < W256) (w : World) : Calls Tryd.prog 21 #[numV m] w (NewPost m w) := by
  refine enter (args := [_]) (Γ := [(0, _)]) Tryd.func21 Tryd.ntmps21 rfl (of_decide_eq_true rfl) (.cons rfl .nil) ?_
  have hd0 : dg W32 m 0 % 2 = m % 2 := by rw [dg0_mod]; omega
  have h0l := dlt m 0
  by_cases hodd : m % 2 = 1
  · by_cases h1 : m = 1
    · repeat' (first | (apply Wl.indexA (j := 0); exact rfl; exact rfl; exact rfl; (decide)) | (apply Wl.eqlA (b := decide (m = 1)); exact rfl; exact rfl; exact rfl; kernel_rfl; kernel_rfl; kernel_rfl; kernel_rfl; exact cell32 _ (dlt _); exact cell32 _ (dlt _); exact d8_inj hm (by decide)) | (apply Wl.loadN; exact rfl; exact rfl; (repeat (first | exact List.Mem.head _ | apply List.Mem.tail)); (omega)) | (apply Wl.loadW; exact rfl; exact rfl; (repeat (first | exact List.Mem.head _ | apply List.Mem.tail)); exact rfl) | (apply Wl.boxN; exact rfl; exact rfl; intro c hc ho) | (apply Wl.buildN; exact rfl; (repeat (first | exact Parts.nil | apply Parts.cons rfl)); (repeat (first | apply Fills.nil | (apply Fills.one; exact rfl; exact rfl; (repeat (first | apply LSet.z | apply LSet.s))) | (apply Fills.agg; exact rfl; exact rfl; (repeat (first | apply LPut.s | apply LPut.z | apply LOver.nil | apply LOver.cons))))); (first | exact one8 | exact zero8 | exact two8 | exact one16)) | (apply Wl.and1; exact rfl; exact rfl; exact rfl; exact rfl; (first | exact wrap2_u32 | exact wrap2_u64 | exact wrap2_i64)) | (apply Wl.move; exact rfl; exact rfl) | (apply Wl.assign; exact rfl; exact rfl) | (apply Wl.on; exact rfl; exact rfl; (first | with_reducible rfl | with_reducible assumption | decide)) | (apply Wl.pickF; exact rfl; exact rfl; (first | with_reducible rfl | with_reducible assumption | decide); exact rfl) | (apply Wl.eql; exact rfl; exact rfl; exact rfl) | (apply Wl.nil) | (apply St.seq) | (apply St.region) | (apply St.ret) | (apply Gt.next) | (apply Gt.thenRet) | (apply Gt.out2; exact rfl; exact rfl; exact rfl; intro w' hp) | (apply Wl.splitP; exact rfl; exact rfl; all_goals (intros; try (exfalso; omega))) | (apply Wl.splitB; exact rfl; exact rfl; all_goals intros) | (apply St.condP; exact rfl; all_goals (intros; try (exfalso; omega))) | (apply St.condB; exact rfl; all_goals intros))
      exact .inr ⟨fun h => h.2 h1, rfl, hp.drop (by simp; omega)⟩
    · repeat' (first | (apply Wl.indexA (j := 0); exact rfl; exact rfl; exact rfl; (decide)) | (apply Wl.eqlA (b := decide (m = 1)); exact rfl; exact rfl; exact rfl; kernel_rfl; kernel_rfl; kernel_rfl; kernel_rfl; exact cell32 _ (dlt _); exact cell32 _ (dlt _); exact d8_inj hm (by decide)) | (apply Wl.buildS; exact rfl; (repeat (first | exact Parts.nil | apply Parts.cons rfl)); exact Fills.agg rfl (by rw [cellsN_len]; rfl) (modC_put m) .nil) | (apply Wl.loadN; exact rfl; exact rfl; (repeat (first | exact List.Mem.head _ | apply List.Mem.tail)); (omega)) | (apply Wl.loadW; exact rfl; exact rfl; (repeat (first | exact List.Mem.head _ | apply List.Mem.tail)); exact rfl) | (apply Wl.boxN; exact rfl; exact rfl; intro c hc ho) | (apply Wl.buildN; exact rfl; (repeat (first | exact Parts.nil | apply Parts.cons rfl)); (repeat (first | apply Fills.nil | (apply Fills.one; exact rfl; exact rfl; (repeat (first | apply LSet.z | apply LSet.s))) | (apply Fills.agg; exact rfl; exact rfl; (repeat (first | apply LPut.s | apply LPut.z | apply LOver.nil | apply LOver.cons))))); (first | exact one8 | exact zero8 | exact two8 | exact one16)) | (apply Wl.and1; exact rfl; exact rfl; exact rfl; exact rfl; (first | exact wrap2_u32 | exact wrap2_u64 | exact wrap2_i64)) | (apply Wl.move; exact rfl; exact rfl) | (apply Wl.assign; exact rfl; exact rfl) | (apply Wl.on; exact rfl; exact rfl; (first | with_reducible rfl | with_reducible assumption | decide)) | (apply Wl.pickF; exact rfl; exact rfl; (first | with_reducible rfl | with_reducible assumption | decide); exact rfl) | (apply Wl.eql; exact rfl; exact rfl; exact rfl) | (apply Wl.boxA; exact rfl; exact rfl; intro c hc ho) | (apply Wl.nil) | (apply St.seq) | (apply St.block) | (apply St.region) | (apply St.skip) | (apply Gt.next) | (apply Wl.splitP; exact rfl; exact rfl; all_goals (intros; try (exfalso; omega))) | (apply Wl.splitB; exact rfl; exact rfl; all_goals intros) | (apply St.condP; exact rfl; all_goals (intros; try (exfalso; omega))) | (apply St.condB; exact rfl; all_goals intros))
      rename_i ca hca hoa _ _ _ _
      generalize c = cm at *
      refine St.loop (σ := Nat × Nat) (fun τ => τ.1 ≤ 5 ∧ τ.2 < 4294967296 ∧ ((D2 τ.1 : Nat) : Int) ∣ (dg W32 m 0 : Int) * τ.2 - 1)
        (fun τ => [(1, mp ca), (3, .int .i64 0), (4, mp cm), (5, .int .u32 τ.2), (20, .int .i64 τ.1)])
        (fun τ => Hp w [⟨cm, modC m 0 (dg W32 0) (dg W32 0), 99⟩, ⟨ca, cellsN .u32 8 (dg W32 m), 30⟩])
        (fun τ => 5 - τ.1) (0, 1) ⟨by simp, by simp, ⟨((dg W32 m 0 / 2 : Nat) : Int), by show (dg W32 m 0 : Int) * ((1 : Nat) : Int) - 1 = ((2 : Nat) : Int) * _; omega⟩⟩ (by (repeat (first | exact Sub.nil | apply Sub.cons rfl))) (fun _ h => h) ?_
      rintro ⟨k, x⟩ ⟨hk5, hx32, hk⟩
      simp only at hk5 hx32 hk ⊢
      by_cases hkl : k < 5
      · have hr := inv_round (D2_dvd hkl) hk
        rw [← D2_succ] at hr
        repeat' (first | (apply Wl.indexA (j := 0); exact rfl; exact rfl; exact rfl; (decide)) | (apply Wl.loadN; exact rfl; exact rfl; (repeat (first | exact List.Mem.head _ | apply List.Mem.tail)); (omega)) | (apply Wl.subN32 (m := 2); exact rfl; exact rfl; exact rfl; (omega)) | (apply Wl.mulN32; exact rfl; exact rfl; exact rfl) | (apply Wl.move; exact rfl; exact rfl) | (apply Wl.assign; exact rfl; exact rfl) | (apply Wl.lss; exact rfl; exact rfl; exact rfl) | (apply Wl.addI; exact rfl; exact rfl; exact rfl; (constructor <;> omega)) | (apply Wl.nil) | (apply St.seq) | (apply St.block) | (apply St.region) | (apply St.skip) | (apply Gt.next) | (apply Gt.inNormal) | (apply Wl.splitP; exact rfl; exact rfl; all_goals (intros; try (exfalso; omega))) | (apply Wl.splitB; exact rfl; exact rfl; all_goals intros) | (apply St.condP; exact rfl; all_goals (intros; try (exfalso; omega))) | (apply St.condB; exact rfl; all_goals intros))
        apply Gt.round (k + 1, x * ((2 + 4294967296 - dg W32 m 0 * x % 4294967296) % 4294967296) % 4294967296)
        rotate_left
        · simp only; omega
        · (repeat (first | exact Sub.nil | apply Sub.cons rfl))
        · exact fun _ h => h
        · exact ⟨by simp only; omega, Nat.mod_lt _ (by decide), hr⟩
      have hke : k = 5 := by omega
      subst hke
      have hneg := neg_ok (show ((4294967296 : Nat) : Int) ∣ (dg W32 m 0 : Int) * x - 1 from hk)
      have hneg' : (m * ((4294967296 - x % 4294967296) % 4294967296) + 1) % 4294967296 = 0 := by
        rw [dg0_mod] at hneg
        rw [Nat.add_mod, Nat.mod_mul_mod, ← Nat.add_mod] at hneg
        exact hneg
      generalize hne : (4294967296 - x % 4294967296) % 4294967296 = neg at *
      repeat' (first | (apply Wl.store; exact rfl; exact rfl; exact rfl; (repeat (first | apply HSet.here | apply HSet.there)); exact modC_neg _ _ _ _ _) | (apply Wl.storeW; exact rfl; exact rfl; (repeat (first | apply HSet.here | apply HSet.there)); exact rfl; (first | exact cellsN_len _ _ _ | exact rfl)) | (apply Wl.buildN; exact rfl; (repeat (first | exact Parts.nil | apply Parts.cons rfl)); (repeat (first | apply Fills.nil | (apply Fills.one; exact rfl; exact rfl; (repeat (first | apply LSet.z | apply LSet.s))) | (apply Fills.agg; exact rfl; exact rfl; (repeat (first | apply LPut.s | apply LPut.z | apply LOver.nil | apply LOver.cons))))); (first | exact one8 | exact zero8 | exact two8 | exact one16)) | (apply Wl.allocN; exact rfl; (first | exact z8 | exact z16 | exact z17 | exact z33 | exact z10); intro c hc ho) | (apply Wl.negN32; exact rfl; exact rfl) | (apply Wl.move; exact rfl; exact rfl) | (apply Wl.nilCheck; exact rfl; exact rfl) | (apply Wl.fieldAddrZ; exact rfl; exact rfl) | (apply Wl.lss; exact rfl; exact rfl; exact rfl) | (apply Wl.nil) | (apply St.seq) | (apply St.block) | (apply St.region) | (apply St.condF; exact rfl; (first | with_reducible rfl | with_reducible assumption | decide)) | (apply St.exit) | (apply Gt.next) | (apply Gt.thenExit) | (apply Gt.inExit) | (apply Wl.splitP; exact rfl; exact rfl; all_goals (intros; try (exfalso; omega))) | (apply Wl.splitB; exact rfl; exact rfl; all_goals intros) | (apply St.condP; exact rfl; all_goals (intros; try (exfalso; omega))) | (apply St.condB; exact rfl; all_goals intros))
      rw [hne]
      generalize c = cx at *
      have hcx : w.heap.size ≤ cx := hc
      have hm1 : 1 < m := by omega
      refine St.loop (σ := Nat × (Nat → Nat)) (fun τ => τ.1 ≤ 512 ∧ (256 < τ.1 → τ.2 = dg W32 (W256 % m)))
        (fun τ => [(3, .int .i64 0), (4, mp cm), (6, mp cx), (36, .int .i64 τ.1)])
        (fun τ => Hp w [⟨cx, cellsN .u32 8 (dg W32 (pw2 m τ.1)), 30⟩, ⟨cm, modC m neg τ.2 (dg W32 0), 99⟩, ⟨ca, cellsN .u32 8 (dg W32 m), 30⟩])
        (fun τ => 512 - τ.1) (0, dg W32 0) ⟨by simp, fun h => by simp at h⟩ (by (repeat (first | exact Sub.nil | apply Sub.cons rfl))) (fun _ h => by
          show Hp w [⟨cx, cellsN .u32 8 (dg W32 (pw2 m 0)), _⟩, _, _] _
          rw [pw2, Nat.pow_zero, Nat.mod_eq_of_lt hm1]
          exact h) ?_
      rintro ⟨i, f⟩ ⟨hi5, hf⟩
      simp only at hi5 hf ⊢
      have hmod {wq : World} {H : List Blk} {f g : Nat → Nat} (hq : Hp w H wq) (hmem : (⟨cm, modC m neg f g, 99⟩ : Blk) ∈ H) : ArrAt wq cm 0 .u32 8 (dg W32 m) := fun j hj => by
        rw [Nat.zero_add]
        exact hq.cell hmem (modC_get hj).1
      have hr : pw2 m i < m := Nat.mod_lt _ (by omega)
      have e2 : (pw2 m i + pw2 m i) % m = pw2 m (i + 1) := by rw [pw2, pw2, Nat.pow_succ, Nat.mul_two, ← Nat.add_mod]
      by_cases hil : i < 512
      · by_cases h256 : i = 256
        · subst h256
          repeat' (first | (apply Wl.storeA; exact rfl; exact rfl; exact cellsN_len _ _ _; exact cellsN_one _ _ _; (repeat (first | apply HSet.here | apply HSet.there)); exact modC_one _ _ _ _ _) | (apply Wl.loadW; exact rfl; exact rfl; (repeat (first | exact List.Mem.head _ | apply List.Mem.tail)); exact rfl) | (apply Wl.move; exact rfl; exact rfl) | (apply Wl.assign; exact rfl; exact rfl) | (apply Wl.nilCheck; exact rfl; exact rfl) | (apply Wl.fieldAddrZ; exact rfl; exact rfl) | (apply Wl.eql; exact rfl; exact rfl; exact rfl) | (apply Wl.lss; exact rfl; exact rfl; exact rfl) | (apply Wl.nil) | (apply St.seq) | (apply St.block) | (apply St.region) | (apply St.condT; exact rfl; (first | with_reducible rfl | with_reducible assumption | decide)) | (apply St.skip) | (apply Gt.next) | (apply Wl.splitP; exact rfl; exact rfl; all_goals (intros; try (exfalso; omega))) | (apply Wl.splitB; exact rfl; exact rfl; all_goals intros) | (apply St.condP; exact rfl; all_goals (intros; try (exfalso; omega))) | (apply St.condB; exact rfl; all_goals intros))
          apply Wl.callQ
          exact rfl
          (repeat (first | exact Evs.nil | apply Evs.cons rfl))
          · intro wq hq
            refine (modAdd cm m (pw2 m 256) (pw2 m 256) wq (hmod hq (.tail _ (.head _))) hm hr hr).mono ?_
            rintro e wr ⟨rfl, hr⟩
            exact ⟨rfl, hq.keep hr⟩
          rw [e2]
          repeat' (first | (apply Wl.storeW; exact rfl; exact rfl; (repeat (first | apply HSet.here | apply HSet.there)); exact rfl; (first | exact cellsN_len _ _ _ | exact rfl)) | (apply Wl.move; exact rfl; exact rfl) | (apply Wl.addI; exact rfl; exact rfl; exact rfl; (constructor <;> omega)) | (apply Wl.nil) | (apply St.region) | (apply Gt.next) | (apply Gt.inNormal) | (apply Wl.splitP; exact rfl; exact rfl; all_goals (intros; try (exfalso; omega))) | (apply Wl.splitB; exact rfl; exact rfl; all_goals intros) | (apply St.condP; exact rfl; all_goals (intros; try (exfalso; omega))) | (apply St.condB; exact rfl; all_goals intros))
          apply Gt.round (256 + 1, dg W32 (pw2 m 256))
          rotate_left
          · simp
          · (repeat (first | exact Sub.nil | apply Sub.cons rfl))
          · exact fun _ h => h
          · exact ⟨by simp, fun _ => by rw [pw2, show W256 = 2 ^ 256 by decide]⟩
        · repeat' (first | (apply Wl.loadW; exact rfl; exact rfl; (repeat (first | exact List.Mem.head _ | apply List.Mem.tail)); exact rfl) | (apply Wl.move; exact rfl; exact rfl) | (apply Wl.assign; exact rfl; exact rfl) | (apply Wl.eql; exact rfl; exact rfl; exact rfl) | (apply Wl.lss; exact rfl; exact rfl; exact rfl) | (apply Wl.nil) | (apply St.seq) | (apply St.block) | (apply St.region) | (apply St.skip) | (apply Gt.next) | (apply Wl.splitP; exact rfl; exact rfl; all_goals (intros; try (exfalso; omega))) | (apply Wl.splitB; exact rfl; exact rfl; all_goals intros) | (apply St.condP; exact rfl; all_goals (intros; try (exfalso; omega))) | (apply St.condB; exact rfl; all_goals intros))
          apply Wl.callQ
          exact rfl
          (repeat (first | exact Evs.nil | apply Evs.cons rfl))
          · intro wq hq
            refine (modAdd cm m (pw2 m i) (pw2 m i) wq (hmod hq (.tail _ (.head _))) hm hr hr).mono ?_
            rintro e wr ⟨rfl, hr⟩
            exact ⟨rfl, hq.keep hr⟩
          rw [e2]
          repeat' (first | (apply Wl.storeW; exact rfl; exact rfl; (repeat (first | apply HSet.here | apply HSet.there)); exact rfl; (first | exact cellsN_len _ _ _ | exact rfl)) | (apply Wl.move; exact rfl; exact rfl) | (apply Wl.addI; exact rfl; exact rfl; exact rfl; (constructor <;> omega)) | (apply Wl.nil) | (apply St.region) | (apply Gt.next) | (apply Gt.inNormal) | (apply Wl.splitP; exact rfl; exact rfl; all_goals (intros; try (exfalso; omega))) | (apply Wl.splitB; exact rfl; exact rfl; all_goals intros) | (apply St.condP; exact rfl; all_goals (intros; try (exfalso; omega))) | (apply St.condB; exact rfl; all_goals intros))
          apply Gt.round (i + 1, f)
          rotate_left
          · simp only; omega
          · (repeat (first | exact Sub.nil | apply Sub.cons rfl))
          · exact fun _ h => h
          · exact ⟨by simp only; omega, fun h => hf (by simp only at h; omega)⟩
      · have hie : i = 512 := by omega
        subst hie
        have hff := hf (by decide)
        subst hff
        have e512 : pw2 m 512 = W256 * W256 % m := by rw [show W256 = 2 ^ 256 by decide]; exact pw2_dbl m 256 512 rfl
        rw [e512]
        repeat' (first | (apply Wl.storeA; exact rfl; exact rfl; exact cellsN_len _ _ _; exact cellsN_one _ _ _; (repeat (first | apply HSet.here | apply HSet.there)); exact modC_two _ _ _ _ _) | (apply Wl.loadW; exact rfl; exact rfl; (repeat (first | exact List.Mem.head _ | apply List.Mem.tail)); exact rfl) | (apply Wl.move; exact rfl; exact rfl) | (apply Wl.assign; exact rfl; exact rfl) | (apply Wl.nilCheck; exact rfl; exact rfl) | (apply Wl.fieldAddrZ; exact rfl; exact rfl) | (apply Wl.lss; exact rfl; exact rfl; exact rfl) | (apply Wl.nil) | (apply St.seq) | (apply St.region) | (apply St.condF; exact rfl; (first | with_reducible rfl | with_reducible assumption | decide)) | (apply St.ret) | (apply St.exit) | (apply Gt.next) | (apply Gt.thenExit) | (apply Gt.inExit) | (apply Gt.out2; exact rfl; exact rfl; exact rfl; intro w' hp) | (apply Wl.splitP; exact rfl; exact rfl; all_goals (intros; try (exfalso; omega))) | (apply Wl.splitB; exact rfl; exact rfl; all_goals intros) | (apply St.condP; exact rfl; all_goals (intros; try (exfalso; omega))) | (apply St.condB; exact rfl; all_goals intros))
        refine .inl ⟨hodd, h1, cm, rfl, by assumption, ?_, hp.drop (by simp; omega)⟩
        have hg {j : Nat} (hj : j < 8) := modC_get (m := m) (n := neg) (f := dg W32 (W256 % m)) (g := dg W32 (W256 * W256 % m)) hj
        exact ⟨⟨neg, hp.cell (.tail _ (.head _)) (hg (j := 0) (by decide)).2.1, hneg'⟩, hmod hp (.tail _ (.head _)), fun j hj => hp.cell (.tail _ (.head _)) (hg hj).2.2.1, fun j hj => hp.cell (.tail _ (.head _)) (hg hj).2.2.2, hm, hodd, hm1⟩
  · repeat' (first | (apply Wl.indexA (j := 0); exact rfl; exact rfl; exact rfl; (decide)) | (apply Wl.loadN; exact rfl; exact rfl; (repeat (first | exact List.Mem.head _ | apply List.Mem.tail)); (omega)) | (apply Wl.boxN; exact rfl; exact rfl; intro c hc ho) | (apply Wl.and1; exact rfl; exact rfl; exact rfl; exact rfl; (first | exact wrap2_u32 | exact wrap2_u64 | exact wrap2_i64)) | (apply Wl.move; exact rfl; exact rfl) | (apply Wl.assign; exact rfl; exact rfl) | (apply Wl.off; exact rfl; exact rfl; exact rfl; (first | with_reducible rfl | (show _ = false; with_reducible assumption) | (show _ = true; with_reducible assumption) | decide)) | (apply Wl.pickT; exact rfl; exact rfl; (first | with_reducible rfl | with_reducible assumption | decide); exact rfl) | (apply Wl.eql; exact rfl; exact rfl; exact rfl) | (apply Wl.nil) | (apply St.seq) | (apply St.region) | (apply St.condT; exact rfl; (first | with_reducible rfl | with_reducible assumption | decide)) | (apply St.ret) | (apply Gt.next) | (apply Gt.thenRet) | (apply Gt.out2; exact rfl; exact rfl; exact rfl; intro w' hp) | (apply Wl.splitP; exact rfl; exact rfl; all_goals (intros; try (exfalso; omega))) | (apply Wl.splitB; exact rfl; exact rfl; all_goals intros) | (apply St.condP; exact rfl; all_goals (intros; try (exfalso; omega))) | (apply St.condB; exact rfl; all_goals intros))
    exact .inr ⟨fun h => hodd h.1, rfl, hp.drop (by simp; omega)⟩
end Go.Proofs.YtfaobdakpbpkbaaDoor
end
section
/-
  Plain arithmetic of digits of 16 bits: the reference's sums, differences, products, halves.
-/
namespace Go.Proofs.YtfaobdakpbpkbaaDoor
abbrev D16 : Nat := 65536
theorem dlt16 (n i : Nat) : dg D16 n i < 65536 := dg_lt (by decide) n i
theorem W256_eq16 : W256 = D16 ^ 16 := by decide
theorem hi_pair (n q : Nat) : hi D16 n (2 * q) = hi W32 n q := by
  unfold hi
  rw [Nat.pow_mul, show D16 ^ 2 = W32 by decide]
theorem dg_lo (n q : Nat) : dg D16 n (2 * q) = dg W32 n q % 65536 := by
  unfold dg
  rw [hi_pair]
  show hi W32 n q % 65536 = hi W32 n q % 4294967296 % 65536
  omega
theorem dg_hi (n q : Nat) : dg D16 n (2 * q + 1) = dg W32 n q / 65536 := by
  unfold dg
  rw [hi_succ, hi_pair]
  show hi W32 n q / 65536 % 65536 = hi W32 n q % 4294967296 / 65536
  omega
theorem of_step (n i : Nat) : dg W32 n (i / 2) / 2 ^ (16 * (i % 2)) % 65536 = dg D16 n i := by
  rcases Nat.mod_two_eq_zero_or_one i with h | h
  · have e : i = 2 * (i / 2) := by omega
    rw [h, Nat.mul_zero, Nat.pow_zero, Nat.div_one]
    conv => rhs; rw [e]
    rw [dg_lo]
  · have e : i = 2 * (i / 2) + 1 := by omega
    rw [h]
    conv => rhs; rw [e]
    rw [dg_hi]
    have := dg_lt (B := W32) (by decide) n (i / 2)
    show dg W32 n (i / 2) / 65536 % 65536 = _
    have h' : dg W32 n (i / 2) < 4294967296 := this
    omega
/-- the words, when i digits have been laid -/
def wf (n i : Nat) : Nat → Nat := fun j => if j < i / 2 then dg W32 n j else if j = i / 2 ∧ i % 2 = 1 then dg W32 n j % 65536 else 0
theorem wf_zero (n : Nat) : wf n 0 = fun _ => 0 := by funext j; simp [wf]
theorem wf_step (n i j : Nat) : (if j = i / 2 then (wf n i (i / 2) + dg D16 n i * 2 ^ (16 * (i % 2)) % 4294967296) % 4294967296 else wf n i j) = wf n (i + 1) j := by
  have hd : dg W32 n (i / 2) < 4294967296 := dg_lt (B := W32) (by decide) n (i / 2)
  unfold wf
  rcases Nat.mod_two_eq_zero_or_one i with h | h
  · have e : i = 2 * (i / 2) := by omega
    have e1 : (i + 1) / 2 = i / 2 := by omega
    have e2 : (i + 1) % 2 = 1 := by omega
    have ed : dg D16 n i = dg W32 n (i / 2) % 65536 := (congrArg (dg D16 n) e).trans (dg_lo _ _)
    rw [e1, e2, h, ed]
    by_cases hj : j = i / 2
    · subst hj; simp; omega
    · by_cases hl : j < i / 2
      · simp [hj, hl]
      · simp [hj, hl]
  · have e : i = 2 * (i / 2) + 1 := by omega
    have e1 : (i + 1) / 2 = i / 2 + 1 := by omega
    have e2 : (i + 1) % 2 = 0 := by omega
    have ed : dg D16 n i = dg W32 n (i / 2) / 65536 := (congrArg (dg D16 n) e).trans (dg_hi _ _)
    rw [e1, e2, h, ed]
    by_cases hj : j = i / 2
    · subst hj; simp; omega
    · by_cases hl : j < i / 2
      · have : j < i / 2 + 1 := by omega
        simp [hj, hl, this]
      · have : ¬ j < i / 2 + 1 := by omega
        simp [hj, hl, this]
theorem wf_end (n j : Nat) (h : j < 8) : wf n 16 j = dg W32 n j := by unfold wf; rw [if_pos (by omega)]
theorem add16 {a b c i : Nat} (h : hi D16 (a + b) i = hi D16 a i + hi D16 b i + c) :
    (dg D16 a i + dg D16 b i + c) % 65536 = dg D16 (a + b) i ∧ hi D16 (a + b) (i + 1) = hi D16 a (i + 1) + hi D16 b (i + 1) + (dg D16 a i + dg D16 b i + c) / 65536 := by
  rw [hi_succ, hi_succ, hi_succ]
  unfold dg D16 at *
  generalize hi 65536 (a + b) i = S at *
  generalize hi 65536 a i = X at *
  generalize hi 65536 b i = Y at *
  omega
theorem twice16 {a b c i : Nat} (h : hi D16 (2 * a + b) i = 2 * hi D16 a i + c) :
    (2 * dg D16 a i + c) % 65536 = dg D16 (2 * a + b) i ∧ hi D16 (2 * a + b) (i + 1) = 2 * hi D16 a (i + 1) + (2 * dg D16 a i + c) / 65536 := by
  rw [hi_succ, hi_succ]
  unfold dg D16 at *
  generalize hi 65536 (2 * a + b) i = S at *
  generalize hi 65536 a i = X at *
  omega
theorem take16 {T b c i : Nat} (hc : c ≤ 1) (h : hi D16 (T - b) i + hi D16 b i + c = hi D16 T i) :
    dg D16 b i + c ≤ dg D16 T i + 65536 ∧ (dg D16 T i + 65536 - dg D16 b i - c) % 65536 = dg D16 (T - b) i ∧ (dg D16 T i + 65536 - dg D16 b i - c) / 65536 ≤ 1 ∧
    hi D16 (T - b) (i + 1) + hi D16 b (i + 1) + (1 - (dg D16 T i + 65536 - dg D16 b i - c) / 65536) = hi D16 T (i + 1) := by
  rw [hi_succ, hi_succ, hi_succ]
  unfold dg D16 at *
  generalize hi 65536 (T - b) i = S at *
  generalize hi 65536 T i = X at *
  generalize hi 65536 b i = Y at *
  omega
theorem mul16 {t x y c i : Nat} (hx : x < D16) (hc : c < D16) (h : hi D16 (t + x * y) i = hi D16 t i + x * hi D16 y i + c) :
    c + (dg D16 t i + x * dg D16 y i) < 18446744073709551616 ∧ (c + (dg D16 t i + x * dg D16 y i)) % 65536 = dg D16 (t + x * y) i ∧
    hi D16 (t + x * y) (i + 1) = hi D16 t (i + 1) + x * hi D16 y (i + 1) + (c + (dg D16 t i + x * dg D16 y i)) / 65536 ∧ (c + (dg D16 t i + x * dg D16 y i)) / 65536 < D16 := by
  have e := hi_eq D16 y i
  have e2 : x * hi D16 y i = D16 * (x * hi D16 y (i + 1)) + x * dg D16 y i := by
    rw [e, Nat.mul_add, ← Nat.mul_assoc, Nat.mul_comm x D16, Nat.mul_assoc]
  have hd := dlt16 y i
  have hb : x * dg D16 y i ≤ 65535 * 65535 := Nat.mul_le_mul (Nat.le_of_lt_succ hx) (Nat.le_of_lt_succ hd)
  have ht := dlt16 t i
  rw [e2] at h
  have et := hi_eq D16 t i
  have es := hi_eq D16 (t + x * y) i
  have hs := dlt16 (t + x * y) i
  rw [show D16 = 65536 from rfl] at *
  generalize dg 65536 (t + x * y) i = ds at *
  generalize hi 65536 (t + x * y) i = S at *
  generalize hi 65536 (t + x * y) (i + 1) = S' at *
  generalize dg 65536 t i = dt at *
  generalize hi 65536 t i = T at *
  generalize hi 65536 t (i + 1) = T' at *
  generalize x * dg 65536 y i = q at *
  generalize x * hi 65536 y (i + 1) = p at *
  omega
theorem hi_hi (B n i j : Nat) : hi B (hi B n i) j = hi B n (i + j) := by unfold hi; rw [Nat.div_div_eq_div_mul, ← Nat.pow_add]
theorem dg_hi' (B n i j : Nat) : dg B (hi B n i) j = dg B n (i + j) := by unfold dg; rw [hi_hi]
/-- the i-th row of a product -/
theorem row_hi (a b i : Nat) : hi D16 ((a % D16 ^ (i + 1)) * b) i = hi D16 ((a % D16 ^ i) * b) i + dg D16 a i * b := by
  unfold hi
  rw [mod_succ, Nat.add_mul, Nat.mul_assoc, Nat.add_mul_div_left _ _ (Nat.pow_pos (by decide))]
theorem row_lo (a b : Nat) {i j : Nat} (h : j < i) : dg D16 ((a % D16 ^ (i + 1)) * b) j = dg D16 ((a % D16 ^ i) * b) j := by
  unfold dg hi
  rw [mod_succ, Nat.add_mul, Nat.mul_assoc]
  have e0 : D16 ^ i = D16 ^ j * (D16 * D16 ^ (i - j - 1)) := by
    rw [← Nat.pow_succ', ← Nat.pow_add]
    congr 1
    omega
  have e : D16 ^ i * (dg D16 a i * b) = D16 ^ j * (D16 * (D16 ^ (i - j - 1) * (dg D16 a i * b))) := by
    rw [e0]
    simp only [Nat.mul_assoc]
  rw [e, Nat.add_mul_div_left _ _ (Nat.pow_pos (by decide)), Nat.add_mul_mod_self_left]
theorem half16 (t i : Nat) : dg D16 t i / 2 + dg D16 t (i + 1) % 2 * 32768 = dg D16 (t / 2) i := by
  have e : hi D16 (t / 2) i = hi D16 t i / 2 := by
    unfold hi
    rw [Nat.div_div_eq_div_mul, Nat.div_div_eq_div_mul, Nat.mul_comm]
  unfold dg
  rw [e, hi_succ]
  show hi D16 t i % 65536 / 2 + hi D16 t i / 65536 % 65536 % 2 * 32768 = hi D16 t i / 2 % 65536
  generalize hi D16 t i = X
  omega
end Go.Proofs.YtfaobdakpbpkbaaDoor
end
