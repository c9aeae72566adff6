/-
  Arithmetic whose results stay casts of naturals; arrays of integers as functions of the index; arrays and structs compared whole. Conditions: the values are of their types.
-/
import Derived.Test.YtfaobdakpbpkbaaRul
import Derived.Test.YtfaobdakpbpkbaaAuto
import Derived.Laws.ResultCell
import Derived.Test.YtfaobdakpbpkbaaNat
import Derived.DeepKeys
import Derived.Laws.BitsLemmas
import Derived.Laws.Bits64
namespace Go.Pt
open Go.RowKit

/-! ### arrays of integers -/
/-- the cells of n integers of the kind k, f's values -/
def cellsN (k : IntKind) (n : Nat) (f : Nat → Nat) : List Value := (List.range n).map fun j => Value.int k (f j)
/-- f, but x at i -/
def updN (f : Nat → Nat) (i x : Nat) : Nat → Nat := fun j => if j = i then x else f j
theorem cellsN_len (k : IntKind) (n : Nat) (f : Nat → Nat) : (cellsN k n f).length = n := by simp [cellsN]
theorem cellsN_get {k : IntKind} {n i : Nat} {f : Nat → Nat} (h : i < n) : (cellsN k n f)[i]? = some (.int k (f i)) := by simp [cellsN, h]
theorem cellsN_one (k : IntKind) (n : Nat) (f : Nat → Nat) : (cellsN k n f).all Value.oneCell' = true := by simp [cellsN, Value.oneCell']
theorem cellsN_congr {k : IntKind} {n : Nat} {f g : Nat → Nat} (h : ∀ j, j < n → f j = g j) : cellsN k n f = cellsN k n g := by
  unfold cellsN
  apply List.map_congr_left
  intro j hj
  rw [h j (List.mem_range.1 hj)]
theorem lset_set {l : List Value} {i : Nat} {v : Value} (h : i < l.length) : LSet l i v (l.set i v) := by
  induction l generalizing i with
  | nil => simp at h
  | cons x r ih =>
    cases i with
    | zero => exact .z
    | succ i => exact .s (ih (by simpa using h))
theorem cellsN_set {k : IntKind} {n i x : Nat} {f : Nat → Nat} (h : i < n) : LSet (cellsN k n f) i (.int k x) (cellsN k n (updN f i x)) := by
  have e : cellsN k n (updN f i x) = (cellsN k n f).set i (.int k x) := by
    apply List.ext_getElem
    · simp [cellsN]
    · intro j h1 h2
      rw [List.getElem_set]
      simp only [cellsN, List.getElem_map, List.getElem_range, updN]
      by_cases e : i = j
      · subst e; simp
      · rw [if_neg e, if_neg (fun h => e h.symm)]
  rw [e]
  exact lset_set (by rw [cellsN_len]; exact h)
/-- g's values up to i, f's behind -/
def fillN (f g : Nat → Nat) (i : Nat) : Nat → Nat := fun j => if j < i then g j else f j
theorem fillN_zero (f g : Nat → Nat) : fillN f g 0 = f := by funext j; simp [fillN]
theorem fillN_step (f g : Nat → Nat) (i : Nat) : updN (fillN f g i) i (g i) = fillN f g (i + 1) := by
  funext j
  unfold updN fillN
  by_cases e : j = i
  · subst e; simp
  · rw [if_neg e]
    by_cases h : j < i
    · rw [if_pos h, if_pos (by omega)]
    · rw [if_neg h, if_neg (by omega)]
theorem fillN_end (k : IntKind) (n : Nat) (f g : Nat → Nat) : cellsN k n (fillN f g n) = cellsN k n g := cellsN_congr fun j hj => by unfold fillN; rw [if_pos hj]
theorem fillN_at {f g : Nat → Nat} {i j : Nat} (h : i ≤ j) : fillN f g i j = f j := if_neg (by omega)
theorem fillN_lo {f g : Nat → Nat} {i j : Nat} (h : j < i) : fillN f g i j = g j := if_pos h
theorem z8 : (Value.agg #[.int .u32 0, .int .u32 0, .int .u32 0, .int .u32 0, .int .u32 0, .int .u32 0, .int .u32 0, .int .u32 0]).cells.toList = cellsN .u32 8 fun _ => 0 := rfl
theorem z10 : (Value.agg #[.int .u32 0, .int .u32 0, .int .u32 0, .int .u32 0, .int .u32 0, .int .u32 0, .int .u32 0, .int .u32 0, .int .u32 0, .int .u32 0]).cells.toList = cellsN .u32 10 fun _ => 0 := rfl
theorem z16 : (Value.agg #[.int .u64 0, .int .u64 0, .int .u64 0, .int .u64 0, .int .u64 0, .int .u64 0, .int .u64 0, .int .u64 0, .int .u64 0, .int .u64 0, .int .u64 0, .int .u64 0, .int .u64 0, .int .u64 0, .int .u64 0, .int .u64 0]).cells.toList = cellsN .u64 16 fun _ => 0 := rfl
theorem z17 : (Value.agg #[.int .u64 0, .int .u64 0, .int .u64 0, .int .u64 0, .int .u64 0, .int .u64 0, .int .u64 0, .int .u64 0, .int .u64 0, .int .u64 0, .int .u64 0, .int .u64 0, .int .u64 0, .int .u64 0, .int .u64 0, .int .u64 0, .int .u64 0]).cells.toList = cellsN .u64 17 fun _ => 0 := rfl
theorem z33 : (Value.agg #[.int .u64 0, .int .u64 0, .int .u64 0, .int .u64 0, .int .u64 0, .int .u64 0, .int .u64 0, .int .u64 0, .int .u64 0, .int .u64 0, .int .u64 0, .int .u64 0, .int .u64 0, .int .u64 0, .int .u64 0, .int .u64 0, .int .u64 0, .int .u64 0, .int .u64 0, .int .u64 0, .int .u64 0, .int .u64 0, .int .u64 0, .int .u64 0, .int .u64 0, .int .u64 0, .int .u64 0, .int .u64 0, .int .u64 0, .int .u64 0, .int .u64 0, .int .u64 0, .int .u64 0]).cells.toList = cellsN .u64 33 fun _ => 0 := rfl
theorem one8 : [Value.int .u32 1, .int .u32 0, .int .u32 0, .int .u32 0, .int .u32 0, .int .u32 0, .int .u32 0, .int .u32 0] = cellsN .u32 8 (Go.Proofs.Ytfaobdakpbpkbaa.dg Go.Proofs.Ytfaobdakpbpkbaa.W32 1) := rfl
theorem two8 : [Value.int .u32 2, .int .u32 0, .int .u32 0, .int .u32 0, .int .u32 0, .int .u32 0, .int .u32 0, .int .u32 0] = cellsN .u32 8 (Go.Proofs.Ytfaobdakpbpkbaa.dg Go.Proofs.Ytfaobdakpbpkbaa.W32 2) := rfl
theorem zero8 : [Value.int .u32 0, .int .u32 0, .int .u32 0, .int .u32 0, .int .u32 0, .int .u32 0, .int .u32 0, .int .u32 0] = cellsN .u32 8 (Go.Proofs.Ytfaobdakpbpkbaa.dg Go.Proofs.Ytfaobdakpbpkbaa.W32 0) := rfl
theorem one16 : [Value.int .u64 1, .int .u64 0, .int .u64 0, .int .u64 0, .int .u64 0, .int .u64 0, .int .u64 0, .int .u64 0, .int .u64 0, .int .u64 0, .int .u64 0, .int .u64 0, .int .u64 0, .int .u64 0, .int .u64 0, .int .u64 0] = cellsN .u64 16 (Go.Proofs.Ytfaobdakpbpkbaa.dg 65536 1) := rfl
/-! ### whole comparison -/
theorem run_neq_agg {P : Program} (w : World) {t : TypeId} {xs ys : Array Value} {la lb : List Lit} (hk : P.keyTypeAt 8 t = true) (fx : (Value.agg xs).formed P t = true) (fy : (Value.agg ys).formed P t = true) (hx : P.keyLits 8 t xs.toList = some la) (hy : P.keyLits 8 t ys.toList = some lb) :
    ∃ r : Bool, (binOp .eql t (.agg xs) (.agg ys)).run P w = .ok (.bool r) w ∧ (binOp .neq t (.agg xs) (.agg ys)).run P w = .ok (.bool (!r)) w ∧ (r = true ↔ la = lb) := by
  obtain ⟨r, hr, hiff⟩ := run_equalIn_deep 9992 8 t hk w 8 8 (.agg xs) (.agg ys) la lb fx fy hx hy
  refine ⟨r, ?_, ?_, hiff⟩ <;>
  · have : (Op.equal t (.agg xs) (.agg ys)).run P w = .ok r w := hr
    simp [binOp, this]
theorem mapM_some {α β : Type} {f : α → Option β} {g : α → β} {l : List α} (h : ∀ x ∈ l, f x = some (g x)) : l.mapM f = some (l.map g) := by
  induction l with
  | nil => rfl
  | cons x r ih => rw [List.mapM_cons, h x (by simp), ih fun y hy => h y (by simp [hy])]; rfl
theorem flat1 {α β : Type} (h : α → β) (l : List α) : (l.map fun i => [h i]).flatten = l.map h := by
  induction l with
  | nil => rfl
  | cons x r ih => simp [ih]
theorem klInt {P : Program} {d t : Nat} {q : IntKind} {n : Int} (ht : P.underlying t = some (.int q)) (hn : q.min ≤ n ∧ n ≤ q.max) : P.keyLits (d + 1) t [.int q n] = some [.int q n] := by
  simp [Program.keyLits, ht, Lit.wf, hn.1, hn.2]
theorem klInts {P : Program} {d t n e : Nat} {q : IntKind} (ht : P.underlying t = some (.array n e)) (he : P.underlying e = some (.int q)) (hs : P.cellsOf t = n) (hse : P.cellsOf e = 1) (f : Nat → Nat) (hf : ∀ j, j < n → q.min ≤ (f j : Int) ∧ (f j : Int) ≤ q.max) :
    P.keyLits (d + 2) t (cellsN q n f) = some ((List.range n).map fun j => Lit.int q (f j)) := by
  show P.keyLits ((d + 1) + 1) t _ = _
  unfold Program.keyLits
  simp only [ht]
  rw [if_pos (by rw [cellsN_len, hs]), mapM_some (g := fun i => [Lit.int q (f i)]) ?_]
  · simp only [Option.map_some, flat1]
  · intro i hi
    have hi' : i < n := by simpa using hi
    rw [hse, Nat.mul_one]
    have e1 : ((cellsN q n f).drop i).take 1 = [.int q (f i)] := by
      have h2 : i < (cellsN q n f).length := by rw [cellsN_len]; exact hi'
      rw [List.drop_eq_getElem_cons h2]
      simp [cellsN]
    rw [e1]
    exact klInt he (hf i hi')
theorem guard_agg {op : BinOp} {t : TypeId} {P : Program} (hg : P.eqGuardType P.depth t = false) (x y : Operand) (a b : Array Value) (w : World) : (eqGuard op t x y (.agg a) (.agg b)).run P w = .ok () w := by
  cases op <;> simp [eqGuard, hg]
theorem run_ints {P : Program} (w : World) {t e n : Nat} {q : IntKind} (ht : P.underlying t = some (.array n e)) (he : P.underlying e = some (.int q)) (hs : P.cellsOf t = n) (hse : P.cellsOf e = 1) (hk : P.keyTypeAt 8 t = true) (f g : Nat → Nat)
    (hf : ∀ j, j < n → q.min ≤ (f j : Int) ∧ (f j : Int) ≤ q.max) (hg : ∀ j, j < n → q.min ≤ (g j : Int) ∧ (g j : Int) ≤ q.max) :
    ∃ r : Bool, (binOp .eql t (.agg (cellsN q n f).toArray) (.agg (cellsN q n g).toArray)).run P w = .ok (.bool r) w ∧ (binOp .neq t (.agg (cellsN q n f).toArray) (.agg (cellsN q n g).toArray)).run P w = .ok (.bool (!r)) w ∧ (r = true ↔ ∀ j, j < n → f j = g j) := by
  have form (f : Nat → Nat) : (Value.agg (cellsN q n f).toArray).formed P t = true := by
    simp [Value.formed, ht, hs, cellsN_len]
  obtain ⟨r, h1, h2, hiff⟩ := run_neq_agg (P := P) w (t := t) hk (form f) (form g) (klInts ht he hs hse f hf) (klInts ht he hs hse g hg)
  refine ⟨r, h1, h2, hiff.trans ⟨fun h j hj => ?_, fun h => ?_⟩⟩
  · have := congrArg (fun l => l[j]?) h
    simp [hj] at this
    exact Int.ofNat_inj.1 this
  · apply List.map_congr_left
    intro j hj
    rw [h j (List.mem_range.1 hj)]

section
variable {P : Program} {md : Md} {N : Nat} {ops : Array Oper} {rest : List Oper} {Γ : Env} {C : World → Prop} {Q : Exit → Act → World → Prop} {d : Nat} {ty : TypeId} {pos : String} {af : Array Edge} {t u : TypeId} {x y : Operand}
section
variable {m n : Nat}
theorem Wl.addNU (hd : Nat.blt d N = true) (hx : ev Γ x = some (.int .u64 (m : Int))) (hy : ev Γ y = some (.int .u64 (n : Int))) (hb : m + n < 18446744073709551616) (h : Wl rest P md ops N ((d, .int .u64 ((m + n : Nat) : Int)) :: Γ) C Q) : Wl (⟨some d, .binOp .add t x y u, ty, pos, af, none⟩ :: rest) P md ops N Γ C Q :=
  Wl.addU hd hx hy (by omega) (by rw [← Int.natCast_add]; exact h)
theorem Wl.mulNU (hd : Nat.blt d N = true) (hx : ev Γ x = some (.int .u64 (m : Int))) (hy : ev Γ y = some (.int .u64 (n : Int))) (hb : m * n < 18446744073709551616) (h : Wl rest P md ops N ((d, .int .u64 ((m * n : Nat) : Int)) :: Γ) C Q) : Wl (⟨some d, .binOp .mul t x y u, ty, pos, af, none⟩ :: rest) P md ops N Γ C Q :=
  Wl.mul hd hx hy (by rw [← Int.natCast_mul, IntWalk.u64_in _ (by omega)]; exact h)
theorem Wl.mulNI (hd : Nat.blt d N = true) (hx : ev Γ x = some (.int .i64 (m : Int))) (hy : ev Γ y = some (.int .i64 (n : Int))) (hb : m * n < 9223372036854775808) (h : Wl rest P md ops N ((d, .int .i64 ((m * n : Nat) : Int)) :: Γ) C Q) : Wl (⟨some d, .binOp .mul t x y u, ty, pos, af, none⟩ :: rest) P md ops N Γ C Q :=
  Wl.mul hd hx hy (by rw [← Int.natCast_mul, IntWalk.i64_in _ (by omega)]; exact h)
theorem Wl.addNI (hd : Nat.blt d N = true) (hx : ev Γ x = some (.int .i64 (m : Int))) (hy : ev Γ y = some (.int .i64 (n : Int))) (hb : m + n < 9223372036854775808) (h : Wl rest P md ops N ((d, .int .i64 ((m + n : Nat) : Int)) :: Γ) C Q) : Wl (⟨some d, .binOp .add t x y u, ty, pos, af, none⟩ :: rest) P md ops N Γ C Q :=
  Wl.addI hd hx hy (by omega) (by rw [← Int.natCast_add]; exact h)
theorem Wl.shlV {k' : IntKind} (hd : Nat.blt d N = true) (hx : ev Γ x = some (.int .u32 (m : Int))) (hy : ev Γ y = some (.int k' (n : Int))) (hn : n ≤ 32) (h : Wl rest P md ops N ((d, .int .u32 ((m * 2 ^ n % 4294967296 : Nat) : Int)) :: Γ) C Q) : Wl (⟨some d, .binOp .shl t x y u, ty, pos, af, none⟩ :: rest) P md ops N Γ C Q :=
  Wl.shl hd hx hy (by omega) (by
    rw [Int.toNat_natCast, show min n IntKind.u32.bits = n from Nat.min_eq_left hn, IntKind.wrap_u32]
    have e : (m : Int) * 2 ^ n % 4294967296 = ((m * 2 ^ n % 4294967296 : Nat) : Int) := by simp
    rw [e]; exact h)
theorem Wl.mulN32 (hd : Nat.blt d N = true) (hx : ev Γ x = some (.int .u32 (m : Int))) (hy : ev Γ y = some (.int .u32 (n : Int))) (h : Wl rest P md ops N ((d, .int .u32 ((m * n % 4294967296 : Nat) : Int)) :: Γ) C Q) : Wl (⟨some d, .binOp .mul t x y u, ty, pos, af, none⟩ :: rest) P md ops N Γ C Q :=
  Wl.mul hd hx hy (by rw [← Int.natCast_mul, IntKind.wrap_u32]; exact h)
theorem Wl.addN32 (hd : Nat.blt d N = true) (hx : ev Γ x = some (.int .u32 (m : Int))) (hy : ev Γ y = some (.int .u32 (n : Int))) (h : Wl rest P md ops N ((d, .int .u32 ((((m + n) % 4294967296 : Nat)) : Int)) :: Γ) C Q) : Wl (⟨some d, .binOp .add t x y u, ty, pos, af, none⟩ :: rest) P md ops N Γ C Q :=
  Wl.add hd hx hy (by rw [← Int.natCast_add, IntKind.wrap_u32]; exact h)
theorem Wl.subN32 (hd : Nat.blt d N = true) (hx : ev Γ x = some (.int .u32 (m : Int))) (hy : ev Γ y = some (.int .u32 (n : Int))) (hn : n ≤ 4294967296) (h : Wl rest P md ops N ((d, .int .u32 (((m + 4294967296 - n) % 4294967296 : Nat) : Int)) :: Γ) C Q) : Wl (⟨some d, .binOp .sub t x y u, ty, pos, af, none⟩ :: rest) P md ops N Γ C Q :=
  Wl.sub' hd hx hy (by rw [IntKind.wrap_u32, show ((m : Int) - n) % 4294967296 = (((m + 4294967296 - n) % 4294967296 : Nat) : Int) by omega]; exact h)
theorem Wl.subNU (hd : Nat.blt d N = true) (hx : ev Γ x = some (.int .u64 (m : Int))) (hy : ev Γ y = some (.int .u64 (n : Int))) (hn : n ≤ 18446744073709551616) (h : Wl rest P md ops N ((d, .int .u64 (((m + 18446744073709551616 - n) % 18446744073709551616 : Nat) : Int)) :: Γ) C Q) : Wl (⟨some d, .binOp .sub t x y u, ty, pos, af, none⟩ :: rest) P md ops N Γ C Q :=
  Wl.sub' hd hx hy (by rw [IntKind.wrap_u64, show ((m : Int) - n) % 18446744073709551616 = (((m + 18446744073709551616 - n) % 18446744073709551616 : Nat) : Int) by omega]; exact h)
theorem Wl.negN32 (hd : Nat.blt d N = true) (hx : ev Γ x = some (.int .u32 (m : Int))) (h : Wl rest P md ops N ((d, .int .u32 (((4294967296 - m % 4294967296) % 4294967296 : Nat) : Int)) :: Γ) C Q) : Wl (⟨some d, .unOp .neg t x, ty, pos, af, none⟩ :: rest) P md ops N Γ C Q :=
  Wl.neg hd hx (by rw [IntKind.wrap_u32, show ((0 : Int) - m) % 4294967296 = (((4294967296 - m % 4294967296) % 4294967296 : Nat) : Int) by omega]; exact h)
theorem Wl.convN32 {s t : TypeId} {k : IntKind} [hs : TyD P s (.int k)] [ht : TyD P t (.int .u32)] (hd : Nat.blt d N = true) (hx : ev Γ x = some (.int k (m : Int))) (h : Wl rest P md ops N ((d, .int .u32 ((m % 4294967296 : Nat) : Int)) :: Γ) C Q) : Wl (⟨some d, .convert s t x, ty, pos, af, none⟩ :: rest) P md ops N Γ C Q :=
  Wl.convI hd hx (by rw [IntKind.wrap_u32]; exact h)
theorem Wl.convNU {s t : TypeId} {k : IntKind} [hs : TyD P s (.int k)] [ht : TyD P t (.int .u64)] (hd : Nat.blt d N = true) (hx : ev Γ x = some (.int k (m : Int))) (hb : m < 18446744073709551616) (h : Wl rest P md ops N ((d, .int .u64 (m : Int)) :: Γ) C Q) : Wl (⟨some d, .convert s t x, ty, pos, af, none⟩ :: rest) P md ops N Γ C Q :=
  Wl.convU64 hd hx (by omega) h
theorem Wl.shr32 {k : IntKind} (hd : Nat.blt d N = true) (hx : ev Γ x = some (.int .u64 (m : Int))) (hy : ev Γ y = some (.int k 32)) (h : Wl rest P md ops N ((d, .int .u64 ((m / 4294967296 : Nat) : Int)) :: Γ) C Q) : Wl (⟨some d, .binOp .shr t x y u, ty, pos, af, none⟩ :: rest) P md ops N Γ C Q :=
  Wl.shr hd hx hy (by decide) (by
    rw [show (2 : Int) ^ min (Int.toNat 32) IntKind.u64.bits = 4294967296 from rfl, Int.fdiv_eq_ediv_of_nonneg _ (by decide)]; exact h)
theorem Wl.shr63 {k : IntKind} (hd : Nat.blt d N = true) (hx : ev Γ x = some (.int .u64 (m : Int))) (hy : ev Γ y = some (.int k 63)) (h : Wl rest P md ops N ((d, .int .u64 ((m / 9223372036854775808 : Nat) : Int)) :: Γ) C Q) : Wl (⟨some d, .binOp .shr t x y u, ty, pos, af, none⟩ :: rest) P md ops N Γ C Q :=
  Wl.shr hd hx hy (by decide) (by
    rw [show (2 : Int) ^ min (Int.toNat 63) IntKind.u64.bits = 9223372036854775808 from rfl, Int.fdiv_eq_ediv_of_nonneg _ (by decide)]; exact h)
/-- shifted by a number that is no constant -/
theorem Wl.shrV {k k' : IntKind} (hd : Nat.blt d N = true) (hx : ev Γ x = some (.int k (m : Int))) (hy : ev Γ y = some (.int k' (n : Int))) (hn : n ≤ k.bits) (h : Wl rest P md ops N ((d, .int k ((m / 2 ^ n : Nat) : Int)) :: Γ) C Q) : Wl (⟨some d, .binOp .shr t x y u, ty, pos, af, none⟩ :: rest) P md ops N Γ C Q :=
  Wl.shr hd hx hy (by omega) (by
    rw [Int.toNat_natCast, Nat.min_eq_left hn, Int.fdiv_eq_ediv_of_nonneg _ (Int.le_of_lt (Int.pow_pos (by decide)))]
    have e : (m : Int) / 2 ^ n = ((m / 2 ^ n : Nat) : Int) := by simp
    rw [e]; exact h)
theorem bits_and1 (k : IntKind) (hk : 1 ≤ k.bits) (hw : ∀ n : Int, 0 ≤ n → n < 2 → k.wrap n = n) (m : Nat) : bits .and k (m : Int) 1 = ((m % 2 : Nat) : Int) := by
  unfold bits
  simp only
  have e : ((BitVec.ofInt k.bits (m : Int)) &&& (BitVec.ofInt k.bits 1)).toNat = m % 2 := by
    rw [show (1 : Int) = ((1 : Nat) : Int) from rfl, BitVec.ofInt_natCast, BitVec.ofInt_natCast, BitVec.toNat_and, BitVec.toNat_ofNat, BitVec.toNat_ofNat]
    have h2 : 1 % 2 ^ k.bits = 1 := Nat.mod_eq_of_lt (Nat.one_lt_two_pow (by omega))
    rw [h2, Nat.and_one_is_mod]
    have e2 : 2 ^ k.bits = 2 * 2 ^ (k.bits - 1) := by rw [← Nat.pow_succ']; congr 1; omega
    rw [e2, Nat.mod_mul_right_mod]
  rw [e, hw _ (by omega) (by omega)]
theorem Wl.and1 {k : IntKind} (hd : Nat.blt d N = true) (hx : ev Γ x = some (.int k (m : Int))) (hy : ev Γ y = some (.int k 1)) (hk : Nat.ble 1 k.bits = true) (hw : ∀ n : Int, 0 ≤ n → n < 2 → k.wrap n = n) (h : Wl rest P md ops N ((d, .int k ((m % 2 : Nat) : Int)) :: Γ) C Q) : Wl (⟨some d, .binOp .and t x y u, ty, pos, af, none⟩ :: rest) P md ops N Γ C Q :=
  Wl.and hd hx hy (by rw [bits_and1 k (Nat.le_of_ble_eq_true hk) hw]; exact h)
theorem wrap2_u32 : ∀ n : Int, 0 ≤ n → n < 2 → IntKind.u32.wrap n = n := fun n h1 h2 => by rw [IntKind.wrap_u32]; omega
theorem wrap2_u64 : ∀ n : Int, 0 ≤ n → n < 2 → IntKind.u64.wrap n = n := fun n h1 h2 => by rw [IntKind.wrap_u64]; omega
theorem wrap2_i64 : ∀ n : Int, 0 ≤ n → n < 2 → IntKind.i64.wrap n = n := fun n h1 h2 => by rw [IntKind.wrap_i64]; omega
theorem Wl.quoN {k : IntKind} (hd : Nat.blt d N = true) (hx : ev Γ x = some (.int k (m : Int))) (hy : ev Γ y = some (.int k (n : Int))) (hn : n ≠ 0) (hw : k.wrap ((m / n : Nat) : Int) = ((m / n : Nat) : Int)) (h : Wl rest P md ops N ((d, .int k ((m / n : Nat) : Int)) :: Γ) C Q) : Wl (⟨some d, .binOp .quo t x y u, ty, pos, af, none⟩ :: rest) P md ops N Γ C Q :=
  Wl.quo hd hx hy (by omega) (by rw [Int.tdiv_eq_ediv_of_nonneg (by omega), ← Int.natCast_ediv, hw]; exact h)
theorem Wl.remN {k : IntKind} (hd : Nat.blt d N = true) (hx : ev Γ x = some (.int k (m : Int))) (hy : ev Γ y = some (.int k (n : Int))) (hn : n ≠ 0) (h : Wl rest P md ops N ((d, .int k ((m % n : Nat) : Int)) :: Γ) C Q) : Wl (⟨some d, .binOp .rem t x y u, ty, pos, af, none⟩ :: rest) P md ops N Γ C Q :=
  Wl.rem hd hx hy (by omega) (by rw [Int.tmod_eq_emod_of_nonneg (by omega), ← Int.natCast_emod]; exact h)
end
/-- an element of an array behind its address -/
theorem Wl.indexA {e by_ n : TypeId} [ht : TyD P t (.array n e)] [TyS P e 1 by_] {i : Operand} {b : Nat} {k : IntKind} {j : Nat} (hd : Nat.blt d N = true) (hx : ev Γ x = some (.pointer (some ⟨b, 0, none⟩))) (hi : ev Γ i = some (.int k (j : Int)))
    (hj : j < n) (h : Wl rest P md ops N ((d, .pointer (some ⟨b, j, none⟩)) :: Γ) C Q) : Wl (⟨some d, .indexAddr t x i, ty, pos, af, none⟩ :: rest) P md ops N Γ C Q :=
  Wl.indexArr hd hx hi ⟨by omega, by omega⟩ (by rw [Int.toNat_natCast, Nat.mul_one, Nat.zero_add]; exact h)
theorem Wl.indexAo {e by_ n : TypeId} [ht : TyD P t (.array n e)] [TyS P e 1 by_] {i : Operand} {b o : Nat} {k : IntKind} {j : Nat} (hd : Nat.blt d N = true) (hx : ev Γ x = some (.pointer (some ⟨b, o, none⟩))) (hi : ev Γ i = some (.int k (j : Int)))
    (hj : j < n) (h : Wl rest P md ops N ((d, .pointer (some ⟨b, o + j, none⟩)) :: Γ) C Q) : Wl (⟨some d, .indexAddr t x i, ty, pos, af, none⟩ :: rest) P md ops N Γ C Q :=
  Wl.indexArr hd hx hi ⟨by omega, by omega⟩ (by rw [Int.toNat_natCast, Nat.mul_one]; exact h)
theorem Wl.loadN {w0 : World} {H : List Blk} {bt : TypeId} [TyC P t] {c j n : Nat} {k : IntKind} {f : Nat → Nat} (hd : Nat.blt d N = true) (hx : ev Γ x = some (.pointer (some ⟨c, j, none⟩))) (hm : (⟨c, cellsN k n f, bt⟩ : Blk) ∈ H) (hj : j < n)
    (h : Wl rest P md ops N ((d, .int k (f j)) :: Γ) (Hp w0 H) Q) : Wl (⟨some d, .load t x, ty, pos, af, none⟩ :: rest) P md ops N Γ (Hp w0 H) Q := Wl.loadH hd hx hm (cellsN_get hj) h
theorem Wl.storeN {w0 : World} {H H' : List Blk} {bt by_ : TypeId} [TyS P t 1 by_] {c j n v : Nat} {k : IntKind} {f : Nat → Nat} (hx : ev Γ x = some (.pointer (some ⟨c, j, none⟩))) (hy : ev Γ y = some (.int k (v : Int))) (hs : HSet c (cellsN k n f) (cellsN k n (updN f j v)) bt H H') (hj : j < n)
    (h : Wl rest P .seq ops N Γ (Hp w0 H') Q) : Wl (⟨none, .store t x y, ty, pos, af, none⟩ :: rest) P .seq ops N Γ (Hp w0 H) Q := Wl.store hx hy rfl hs (cellsN_set hj) h
/-- arrays of integers compared whole -/
theorem Wl.eqlA {e n : Nat} {q : IntKind} {f g : Nat → Nat} [ht : TyD P t (.array n e)] [he : TyD P e (.int q)] (hd : Nat.blt d N = true) (hx : ev Γ x = some (.agg (cellsN q n f).toArray)) (hy : ev Γ y = some (.agg (cellsN q n g).toArray)) (hs : P.cellsOf t = n) (hse : P.cellsOf e = 1) (hk : P.keyTypeAt 8 t = true) (hg0 : P.eqGuardType P.depth t = false)
    (hf : ∀ j, j < n → q.min ≤ (f j : Int) ∧ (f j : Int) ≤ q.max) (hg : ∀ j, j < n → q.min ≤ (g j : Int) ∧ (g j : Int) ≤ q.max) (b : Bool) (hb : b = true ↔ ∀ j, j < n → f j = g j) (h : Wl rest P md ops N ((d, .bool b) :: Γ) C Q) : Wl (⟨some d, .binOp .eql t x y u, ty, pos, af, none⟩ :: rest) P md ops N Γ C Q :=
  Wl.val hd (fun a w ha _ => by
    obtain ⟨r, h1, _, h3⟩ := run_ints (P := P) w ht.out he.out hs hse hk f g hf hg
    have : r = b := by rw [Bool.eq_iff_iff, h3, hb]
    subst this
    simp only [execOp, ha.ev hx, ha.ev hy, pure_bind, Sem.run_bind, guard_agg (P := P) hg0, Result.andThen_ok, h1]; rfl) h
theorem Wl.neqA {e n : Nat} {q : IntKind} {f g : Nat → Nat} [ht : TyD P t (.array n e)] [he : TyD P e (.int q)] (hd : Nat.blt d N = true) (hx : ev Γ x = some (.agg (cellsN q n f).toArray)) (hy : ev Γ y = some (.agg (cellsN q n g).toArray)) (hs : P.cellsOf t = n) (hse : P.cellsOf e = 1) (hk : P.keyTypeAt 8 t = true) (hg0 : P.eqGuardType P.depth t = false)
    (hf : ∀ j, j < n → q.min ≤ (f j : Int) ∧ (f j : Int) ≤ q.max) (hg : ∀ j, j < n → q.min ≤ (g j : Int) ∧ (g j : Int) ≤ q.max) (b : Bool) (hb : b = true ↔ ∀ j, j < n → f j = g j) (h : Wl rest P md ops N ((d, .bool (!b)) :: Γ) C Q) : Wl (⟨some d, .binOp .neq t x y u, ty, pos, af, none⟩ :: rest) P md ops N Γ C Q :=
  Wl.val hd (fun a w ha _ => by
    obtain ⟨r, _, h1, h3⟩ := run_ints (P := P) w ht.out he.out hs hse hk f g hf hg
    have : r = b := by rw [Bool.eq_iff_iff, h3, hb]
    subst this
    simp only [execOp, ha.ev hx, ha.ev hy, pure_bind, Sem.run_bind, guard_agg (P := P) hg0, Result.andThen_ok, h1]; rfl) h
end
attribute [irreducible] cellsN
/-! ### whole cells -/
theorem LOver.whole {l xs : List Value} (h : l.length = xs.length) : LOver l xs xs := by
  induction xs generalizing l with
  | nil => cases l with
    | nil => exact .nil
    | cons _ _ => simp at h
  | cons x r ih => cases l with
    | nil => simp at h
    | cons y s => exact .cons (ih (by simpa using h))
theorem LSub.whole {l : List Value} {n : Nat} (h : l.length = n) : LSub l 0 n l := by
  induction l generalizing n with
  | nil => subst h; exact .z
  | cons x r ih => subst h; exact .t (ih rfl)
section
variable {P : Program} {md : Md} {N : Nat} {ops : Array Oper} {rest : List Oper} {Γ : Env} {Q : Exit → Act → World → Prop} {d : Nat} {ty : TypeId} {pos : String} {af : Array Edge} {t : TypeId} {x y : Operand}
theorem Wl.storeW {w0 : World} {H H' : List Blk} {n m bt : TypeId} [ht : TyA P t n] {c : Nat} {k : IntKind} {f : Nat → Nat} {cs : List Value} (hx : ev Γ x = some (.pointer (some ⟨c, 0, none⟩))) (hy : ev Γ y = some (.agg (cellsN k m f).toArray)) (hs : HSet c cs (cellsN k m f) bt H H') (hn : Nat.beq m n = true) (hl : cs.length = m)
    (h : Wl rest P .seq ops N Γ (Hp w0 H') Q) : Wl (⟨none, .store t x y, ty, pos, af, none⟩ :: rest) P .seq ops N Γ (Hp w0 H) Q :=
  Wl.storeA hx hy ((cellsN_len k m f).trans (Nat.eq_of_beq_eq_true hn)) (cellsN_one k m f) hs (.z (LOver.whole (by rw [hl, cellsN_len]))) h
theorem Wl.boxN {w0 : World} {H : List Blk} {k : IntKind} {n : Nat} {f : Nat → Nat} (hd : Nat.blt d N = true) (hx : ev Γ x = some (.agg (cellsN k n f).toArray))
    (h : ∀ c, w0.heap.size ≤ c → Off H c → Wl rest P .seq ops N ((d, .pointer (some ⟨c, 0, none⟩)) :: Γ) (Hp w0 (⟨c, cellsN k n f, t⟩ :: H)) Q) : Wl (⟨some d, .box t x, ty, pos, af, none⟩ :: rest) P .seq ops N Γ (Hp w0 H) Q := Wl.boxA hd hx h
theorem Wl.allocN {w0 : World} {H : List Blk} {k : IntKind} {n : Nat} {f : Nat → Nat} {z : Value} [TyZ P t z] (hd : Nat.blt d N = true) (hz : z.cells.toList = cellsN k n f)
    (h : ∀ c, w0.heap.size ≤ c → Off H c → Wl rest P .seq ops N ((d, .pointer (some ⟨c, 0, none⟩)) :: Γ) (Hp w0 (⟨c, cellsN k n f, t⟩ :: H)) Q) : Wl (⟨some d, .alloc t, ty, pos, af, none⟩ :: rest) P .seq ops N Γ (Hp w0 H) Q := Wl.alloc hd fun c hc ho => by rw [hz]; exact h c hc ho
theorem Wl.buildN {n e sz by_ m : TypeId} {parts : Array (Nat × Operand)} {ps : List (Nat × Value)} {z cs : List Value} {k : IntKind} {f : Nat → Nat} [TyD P t (.array n e)] [TyS P e sz by_] [TyZ P t (.agg z.toArray)] (hd : Nat.blt d N = true) (hp : Parts Γ parts.toList ps) (hF : Fills (fun i => some (i * sz, sz)) z ps cs) (he : cs = cellsN k m f)
    {C : World → Prop} (h : Wl rest P md ops N ((d, .agg (cellsN k m f).toArray) :: Γ) C Q) : Wl (⟨some d, .build t parts, ty, pos, af, none⟩ :: rest) P md ops N Γ C Q := Wl.buildA hd hp hF (by rw [he]; exact h)
theorem Wl.loadW {w0 : World} {H : List Blk} {n m bt : TypeId} [TyA P t n] {c : Nat} {k : IntKind} {f : Nat → Nat} (hd : Nat.blt d N = true) (hx : ev Γ x = some (.pointer (some ⟨c, 0, none⟩))) (hm : (⟨c, cellsN k m f, bt⟩ : Blk) ∈ H) (hn : Nat.beq m n = true)
    (h : Wl rest P md ops N ((d, .agg (cellsN k m f).toArray) :: Γ) (Hp w0 H) Q) : Wl (⟨some d, .load t x, ty, pos, af, none⟩ :: rest) P md ops N Γ (Hp w0 H) Q :=
  Wl.loadAH hd hx hm (LSub.whole ((cellsN_len k m f).trans (Nat.eq_of_beq_eq_true hn))) h
end
theorem Gt.outCT {P : Program} {N : Nat} {Γ : Env} {w0 : World} {H : List Blk} {fn : Func} {R : Ending → World → Prop} {t u ty n c i bt : Nat} {v : Value} {cs xs : List Value} (hr : fn.results = #[.cell t ty, .tmp u]) (hT : TyA P ty n) (ht : look Γ t = some (.pointer (some ⟨c, i, none⟩))) (hu : look Γ u = some v) (hm : (⟨c, cs, bt⟩ : Blk) ∈ H) (hi' : LSub cs i n xs)
    (h : ∀ w, Hp w0 H w → R (.returned (.tuple #[.agg xs.toArray, v])) w) : Gt N .ret Γ (Hp w0 H) (bodyPost P fn R) := Gt.intro fun a w ha hw => by
  have hi := hi'.out.1
  have hn := hi'.out.2
  refine ⟨ha.defers, _, ?_, h w hw⟩
  have hl := run_loadA (P := P) (t := ty) (w := w) (a := ⟨c, i, none⟩) hn (fun j v hj => by
    rw [addLit]
    refine hw.cell hm ?_
    subst hi
    rw [List.getElem?_take] at hj
    split at hj
    · simpa [List.getElem?_drop] using hj
    · cases hj)
  rw [results_cell_tmp hr]
  simp [ha.get _ _ ht, ha.get _ _ hu, asAddr, hl]
theorem Gt.outC' {P : Program} {N : Nat} {Γ : Env} {w0 : World} {H : List Blk} {fn : Func} {R : Ending → World → Prop} {t ty n c i bt : Nat} {cs xs : List Value} (hr : fn.results = #[.cell t ty]) (hT : TyA P ty n) (ht : look Γ t = some (.pointer (some ⟨c, i, none⟩))) (hm : (⟨c, cs, bt⟩ : Blk) ∈ H) (hi' : LSub cs i n xs)
    (h : ∀ w, Hp w0 H w → R (.returned (.agg xs.toArray)) w) : Gt N .ret Γ (Hp w0 H) (bodyPost P fn R) := Gt.outC hr ht hm hi' h
end Go.Pt
