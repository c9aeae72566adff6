/-
  Arrays of bytes and small structs compared whole. Conditions: the values are of their types.
-/
import Derived.Test.YthdojhldiinkcaaLight
import Derived.Test.YthdojhldiinkcaaTree
import Derived.DeepKeys
namespace Go.Pt
theorem run_neq_agg {P : Program} (w : World) {t : TypeId} {xs ys : Array Value} {la lb : List Lit} (hk : P.keyTypeAt 8 t = true) (fx : (Value.agg xs).formed P t = true) (fy : (Value.agg ys).formed P t = true) (hx : P.keyLits 8 t xs.toList = some la) (hy : P.keyLits 8 t ys.toList = some lb) :
    ∃ r : Bool, (binOp .eql t (.agg xs) (.agg ys)).run P w = .ok (.bool r) w ∧ (binOp .neq t (.agg xs) (.agg ys)).run P w = .ok (.bool (!r)) w ∧ (r = true ↔ la = lb) := by
  obtain ⟨r, hr, hiff⟩ := run_equalIn_deep 9992 8 t hk w 8 8 (.agg xs) (.agg ys) la lb fx fy hx hy
  refine ⟨r, ?_, ?_, hiff⟩ <;>
  · have : (Op.equal t (.agg xs) (.agg ys)).run P w = .ok r w := hr
    simp [binOp, this]
theorem mapM_some {α β : Type} {f : α → Option β} {g : α → β} {l : List α} (h : ∀ x ∈ l, f x = some (g x)) : l.mapM f = some (l.map g) := by
  induction l with
  | nil => rfl
  | cons x r ih => rw [List.mapM_cons, h x (by simp), ih fun y hy => h y (by simp [hy])]; rfl
theorem flat1 {α β : Type} (h : α → β) (l : List α) : (l.map fun i => [h i]).flatten = l.map h := by
  induction l with
  | nil => rfl
  | cons x r ih => simp [ih]
theorem klInt {P : Program} {d t : Nat} {q : IntKind} {n : Int} (ht : P.underlying t = some (.int q)) (hn : q.min ≤ n ∧ n ≤ q.max) : P.keyLits (d + 1) t [.int q n] = some [.int q n] := by
  simp [Program.keyLits, ht, Lit.wf, hn.1, hn.2]
open Go.RowKit in
theorem klBytes {P : Program} {d t n e : Nat} (ht : P.underlying t = some (.array n e)) (he : P.underlying e = some (.int .u8)) (hs : P.cellsOf t = n) (hse : P.cellsOf e = 1) (l : List UInt8) (hl : l.length = n) :
    P.keyLits (d + 2) t (byteCells l) = some (l.map fun x => Lit.int .u8 (x.toNat : Int)) := by
  show P.keyLits ((d + 1) + 1) t _ = _
  unfold Program.keyLits
  simp only [ht]
  rw [if_pos (by rw [byteCells_length, hs, hl]), mapM_some (g := fun i => [Lit.int .u8 ((l[i]!).toNat : Int)]) ?_]
  · simp only [Option.map_some, flat1, Option.some.injEq]
    apply List.ext_getElem
    · simp [hl]
    · intro i h1 h2
      simp at h1 h2
      simp [h2]
  · intro i hi
    have hi' : i < l.length := by rw [hl]; simpa using hi
    rw [hse, Nat.mul_one]
    have e1 : ((byteCells l).drop i).take 1 = [.int .u8 ((l[i]!).toNat : Int)] := by
      have h2 : i < (byteCells l).length := by rw [byteCells_length]; exact hi'
      rw [List.drop_eq_getElem_cons h2]
      simp [byteCells, hi']
    rw [e1]
    refine klInt he ?_
    have := (l[i]!).toNat_lt
    generalize l[i]! = c at *
    simp only [IntKind.min, IntKind.max, IntKind.signed, IntKind.bits]
    constructor
    · simp
    · simp; omega
theorem klStruct {P : Program} {d t : Nat} {fs : Array Field} {cs : List Value} {ps : List (Nat × Nat)} (hu : P.underlying t = some (.struct fs)) (hn : fs.all (·.name != "_") = true) (hp : fs.toList.map (fun f => (f.type, f.offset)) = ps) (hl : cs.length = P.cellsOf t) :
    P.keyLits (d + 1) t cs = (ps.mapM fun p => P.keyLits d p.1 ((cs.drop p.2).take (P.cellsOf p.1))).map List.flatten := by
  simp only [Program.keyLits, hu]
  rw [if_pos ⟨hl, hn⟩]
  subst hp
  rw [List.mapM_map]
  rfl
end Go.Pt
namespace Go.Proofs.Ythdojhldiinkcaa
open Go.RowKit Go.Pt
section
variable {md : Md} {N : Nat} {ops : Array Oper} {rest : List Oper} {Γ : Env} {C : World → Prop} {Q : Exit → Act → World → Prop} {d : Nat} {ty : TypeId} {pos : String} {af : Array Edge} {x y : Operand} {u : TypeId}
theorem lit_bytes_inj {p q : List UInt8} (h : p.map (fun x => Lit.int .u8 (x.toNat : Int)) = q.map (fun x => Lit.int .u8 (x.toNat : Int))) : p = q := by
  induction p generalizing q with
  | nil => cases q with
    | nil => rfl
    | cons _ _ => simp at h
  | cons x r ih => cases q with
    | nil => simp at h
    | cons y s =>
      simp only [List.map_cons, List.cons.injEq, Lit.int.injEq, true_and] at h
      rw [ih h.2, show x = y from UInt8.toNat_inj.1 (by omega)]
theorem run_dig (w : World) (p q : List UInt8) (hp : p.length = 32) (hq : q.length = 32) :
    (binOp .eql 94 (.agg (byteCells p).toArray) (.agg (byteCells q).toArray)).run Try.prog w = .ok (.bool (decide (p = q))) w ∧ (binOp .neq 94 (.agg (byteCells p).toArray) (.agg (byteCells q).toArray)).run Try.prog w = .ok (.bool (decide (p ≠ q))) w := by
  have h32 : Try.prog.cellsOf 94 = 32 := by kernel_rfl
  have h1 : Try.prog.cellsOf 5 = 1 := by kernel_rfl
  have hu : Try.prog.underlying 94 = some (.array 32 5) := by kernel_rfl
  have he : Try.prog.underlying 5 = some (.int .u8) := by kernel_rfl
  have form (p : List UInt8) (hp : p.length = 32) : (Value.agg (byteCells p).toArray).formed Try.prog 94 = true := by
    simp [Value.formed, hu, h32, byteCells_length, hp]
  obtain ⟨r, h1, h2, hiff⟩ := run_neq_agg (P := Try.prog) w (t := 94) (by kernel_rfl) (form p hp) (form q hq) (klBytes hu he h32 h1 p hp) (klBytes hu he h32 h1 q hq)
  have : r = decide (p = q) := by
    rw [Bool.eq_iff_iff, hiff, decide_eq_true_eq]
    exact ⟨lit_bytes_inj, fun e => by rw [e]⟩
  rw [h1, h2, this]
  exact ⟨rfl, by simp⟩
theorem run_grant (w : World) (p q : Gr) (hp : GrV p) (hq : GrV q) : (binOp .neq 99 (.agg (grCells p).toArray) (.agg (grCells q).toArray)).run Try.prog w = .ok (.bool (decide (¬ (p.start = q.start ∧ p.size = q.size ∧ p.rights = q.rights)))) w := by
  have hfs : ∃ fs, Try.prog.underlying 99 = some (.struct fs) ∧ fs.all (·.name != "_") = true ∧ fs.toList.map (fun f => (f.type, f.offset)) = [(22, 0), (22, 1), (3, 2)] := ⟨Try.prog.fieldsOf 99, by kernel_rfl, by kernel_rfl, by kernel_rfl⟩
  obtain ⟨fs, hu, hn, hps⟩ := hfs
  have h3 : Try.prog.cellsOf 99 = 3 := by kernel_rfl
  have c1 : Try.prog.cellsOf 22 = 1 := by kernel_rfl
  have c2 : Try.prog.cellsOf 3 = 1 := by kernel_rfl
  have u1 : Try.prog.underlying 22 = some (.int .u32) := by kernel_rfl
  have u2 : Try.prog.underlying 3 = some (.int .i64) := by kernel_rfl
  have form (p : Gr) : (Value.agg (grCells p).toArray).formed Try.prog 99 = true := by
    simp [Value.formed, hu, h3, grCells]
  have lits (p : Gr) (hp : GrV p) : Try.prog.keyLits 8 99 (grCells p).toArray.toList = some [Lit.int .u32 p.start, .int .u32 p.size, .int .i64 p.rights] := by
    obtain ⟨a1, a2, a3⟩ := hp
    unfold I64 at a3
    rw [klStruct hu hn hps (by rw [h3]; rfl)]
    simp only [List.mapM_cons, List.mapM_nil, c1, c2, grCells, List.drop_zero, List.take_succ_cons, List.take_zero, List.drop_succ_cons]
    rw [klInt u1 (by simp only [IntKind.min, IntKind.max, IntKind.signed, IntKind.bits]; constructor <;> simp <;> omega), klInt u1 (by simp only [IntKind.min, IntKind.max, IntKind.signed, IntKind.bits]; constructor <;> simp <;> omega), klInt u2 (by simp only [IntKind.min, IntKind.max, IntKind.signed, IntKind.bits]; constructor <;> simp <;> omega)]
    rfl
  obtain ⟨r, _, h2, hiff⟩ := run_neq_agg (P := Try.prog) w (t := 99) (by kernel_rfl) (form p) (form q) (lits p hp) (lits q hq)
  have : r = decide (p.start = q.start ∧ p.size = q.size ∧ p.rights = q.rights) := by
    rw [Bool.eq_iff_iff, hiff, decide_eq_true_eq]
    simp only [List.cons.injEq, Lit.int.injEq, true_and, and_true]
    omega
  rw [h2, this, decide_not]
theorem guard_agg {op : BinOp} {t : TypeId} {P : Program} (hg : P.eqGuardType P.depth t = false) (x y : Operand) (a b : Array Value) (w : World) : (eqGuard op t x y (.agg a) (.agg b)).run P w = .ok () w := by
  cases op <;> simp [eqGuard, hg]
theorem Wl.neqDig {p q : List UInt8} (hd : Nat.blt d N = true) (hx : ev Γ x = some (.agg (byteCells p).toArray)) (hy : ev Γ y = some (.agg (byteCells q).toArray)) (hp : p.length = 32) (hq : q.length = 32) (h : Wl rest Try.prog md ops N ((d, .bool (decide (p ≠ q))) :: Γ) C Q) :
    Wl (⟨some d, .binOp .neq 94 x y u, ty, pos, af, none⟩ :: rest) Try.prog md ops N Γ C Q :=
  Wl.val hd (fun a w ha _ => by simp only [execOp, ha.ev hx, ha.ev hy, pure_bind, Sem.run_bind, guard_agg (P := Try.prog) (t := 94) (by kernel_rfl), Result.andThen_ok, (run_dig w p q hp hq).2]; rfl) h
theorem Wl.neqGrant {p q : Gr} (hd : Nat.blt d N = true) (hx : ev Γ x = some (.agg (grCells p).toArray)) (hy : ev Γ y = some (.agg (grCells q).toArray)) (hp : GrV p) (hq : GrV q)
    (h : Wl rest Try.prog md ops N ((d, .bool (decide (¬ (p.start = q.start ∧ p.size = q.size ∧ p.rights = q.rights)))) :: Γ) C Q) : Wl (⟨some d, .binOp .neq 99 x y u, ty, pos, af, none⟩ :: rest) Try.prog md ops N Γ C Q :=
  Wl.val hd (fun a w ha _ => by simp only [execOp, ha.ev hx, ha.ev hy, pure_bind, Sem.run_bind, guard_agg (P := Try.prog) (t := 99) (by kernel_rfl), Result.andThen_ok, run_grant w p q hp hq]; rfl) h
end
end Go.Proofs.Ythdojhldiinkcaa
