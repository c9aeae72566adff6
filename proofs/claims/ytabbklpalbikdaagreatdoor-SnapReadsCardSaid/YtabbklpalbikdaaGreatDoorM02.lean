/-
 38 texts,one behind the other;each says what it proves. Conditions: as each text says.
-/
import Derived.Test.YtabbklpalbikdaaGreatDoorM01
import Derived.Laws.ResultCell
import Derived.DeepKeys
import Derived.Laws.BitsLemmas
import Derived.Laws.Bits64
import Derived.Laws.StructEq
import Derived.Conc.LoneCalls
import Derived.Conc.LoneSelect
import Derived.Laws.IdiomCopy
set_option maxHeartbeats 32000000
set_option linter.unusedVariables false
set_option linter.unusedSimpArgs false
section
namespace Go.Pt
open Go.RowKit
def cellsN (k : IntKind) (n : Nat) (f : Nat → Nat) : List Value := (List.range n).map fun j => Value.int k (f j)
def updN (f : Nat → Nat) (i x : Nat) : Nat → Nat := fun j => if j = i then x else f j
theorem cellsN_len (k : IntKind) (n : Nat) (f : Nat → Nat) : (cellsN k n f).length = n := by simp [cellsN]
theorem cellsN_get {k : IntKind} {n i : Nat} {f : Nat → Nat} (h : i < n) : (cellsN k n f)[i]? = some (.int k (f i)) := by simp [cellsN,h]
theorem cellsN_one (k : IntKind) (n : Nat) (f : Nat → Nat) : (cellsN k n f).all Value.oneCell' = true := by simp [cellsN,Value.oneCell']
theorem cellsN_congr {k : IntKind} {n : Nat} {f g : Nat → Nat} (h : ∀ j,j < n → f j = g j) : cellsN k n f = cellsN k n g := by
 unfold cellsN
 apply List.map_congr_left
 intro j hj
 rw [h j (List.mem_range.1 hj)]
theorem lset_set {l : List Value} {i : Nat} {v : Value} (h : i < l.length) : LSet l i v (l.set i v) := by
 induction l generalizing i with
 | nil => simp at h
 | cons x r ih =>
  cases i with
  | zero => exact .z
  | succ i => exact .s (ih qz)
theorem cellsN_set {k : IntKind} {n i x : Nat} {f : Nat → Nat} (h : i < n) : LSet (cellsN k n f) i (.int k x) (cellsN k n (updN f i x)) := by
 have e : cellsN k n (updN f i x) = (cellsN k n f).set i (.int k x) := by
  apply List.ext_getElem
  ·simp [cellsN]
  ·intro j h1 h2
   rw [List.getElem_set]
   simp only [cellsN,List.getElem_map,List.getElem_range,updN]
   by_cases e : i = j
   ·subst e;simp
   ·rw [if_neg e,if_neg (fun h => e h.symm)]
 rw [e]
 exact lset_set (by rw [cellsN_len];exact h)
def fillN (f g : Nat → Nat) (i : Nat) : Nat → Nat := fun j => if j < i then g j else f j
theorem fillN_zero (f g : Nat → Nat) : fillN f g 0 = f := by funext j;simp [fillN]
theorem fillN_step (f g : Nat → Nat) (i : Nat) : updN (fillN f g i) i (g i) = fillN f g (i + 1) := by
 funext j
 unfold updN fillN
 by_cases e : j = i
 ·subst e;simp
 ·rw [if_neg e]
  by_cases h : j < i
  ·rw [if_pos h,if_pos kc]
  ·rw [if_neg h,if_neg kc]
theorem fillN_end (k : IntKind) (n : Nat) (f g : Nat → Nat) : cellsN k n (fillN f g n) = cellsN k n g := cellsN_congr fun j hj => by unfold fillN;rw [if_pos hj]
theorem fillN_at {f g : Nat → Nat} {i j : Nat} (h : i ≤ j) : fillN f g i j = f j := if_neg kc
theorem z8 : (Value.agg #[.int .u32 0,.int .u32 0,.int .u32 0,.int .u32 0,.int .u32 0,.int .u32 0,.int .u32 0,.int .u32 0]).cells.toList = cellsN .u32 8 fun _ => 0 := rfl
theorem run_neq_agg {P : Program} (w : World) {t : TypeId} {xs ys : Array Value} {la lb : List Lit} (hk : P.keyTypeAt 8 t = true) (fx : (Value.agg xs).formed P t = true) (fy : (Value.agg ys).formed P t = true) (hx : P.keyLits 8 t xs.toList = some la) (hy : P.keyLits 8 t ys.toList = some lb) :
  ∃ r : Bool,(binOp .eql t (.agg xs) (.agg ys)).run P w = .ok (.bool r) w ∧ (binOp .neq t (.agg xs) (.agg ys)).run P w = .ok (.bool (!r)) w ∧ (r = true ↔ la = lb) := by
 obtain ⟨r,hr,hiff⟩ := run_equalIn_deep 9992 8 t hk w 8 8 (.agg xs) (.agg ys) la lb fx fy hx hy
 refine ⟨r,?_,?_,hiff⟩ <;>
 ·have : (Op.equal t (.agg xs) (.agg ys)).run P w = .ok r w := hr
  simp [binOp,this]
theorem mapM_some {α β : Type} {f : α → Option β} {g : α → β} {l : List α} (h : ∀ x ∈ l,f x = some (g x)) : l.mapM f = some (l.map g) := by
 induction l with
 | nil => rfl
 | cons x r ih => rw [List.mapM_cons,h x zd,ih fun y hy => h y (by simp [hy])];rfl
theorem flat1 {α β : Type} (h : α → β) (l : List α) : (l.map fun i => [h i]).flatten = l.map h := by
 induction l with
 | nil => rfl
 | cons x r ih => simp [ih]
theorem klInt {P : Program} {d t : Nat} {q : IntKind} {n : Int} (ht : P.underlying t = some (.int q)) (hn : q.min ≤ n ∧ n ≤ q.max) : P.keyLits (d + 1) t [.int q n] = some [.int q n] := by
 simp [Program.keyLits,ht,Lit.wf,hn.1,hn.2]
theorem klInts {P : Program} {d t n e : Nat} {q : IntKind} (ht : P.underlying t = some (.array n e)) (he : P.underlying e = some (.int q)) (hs : P.cellsOf t = n) (hse : P.cellsOf e = 1) (f : Nat → Nat) (hf : ∀ j,j < n → q.min ≤ (f j : Int) ∧ (f j : Int) ≤ q.max) :
  P.keyLits (d + 2) t (cellsN q n f) = some ((List.range n).map fun j => Lit.int q (f j)) := by
 show P.keyLits ((d + 1) + 1) t _ = _
 unfold Program.keyLits
 simp only [ht]
 rw [if_pos (by rw [cellsN_len,hs]),mapM_some (g := fun i => [Lit.int q (f i)]) ?_]
 ·simp only [Option.map_some,flat1]
 ·intro i hi
  have hi' : i < n := by simpa using hi
  rw [hse,Nat.mul_one]
  have e1 : ((cellsN q n f).drop i).take 1 = [.int q (f i)] := by
   have h2 : i < (cellsN q n f).length := by rw [cellsN_len];exact hi'
   rw [List.drop_eq_getElem_cons h2]
   simp [cellsN]
  rw [e1]
  exact klInt he (hf i hi')
theorem guard_agg {op : BinOp} {t : TypeId} {P : Program} (hg : P.eqGuardType P.depth t = false) (x y : Operand) (a b : Array Value) (w : World) : (eqGuard op t x y (.agg a) (.agg b)).run P w = .ok () w := by
 cases op <;> simp [eqGuard,hg]
section
variable {P : Program} {md : Md} {N : Nat} {ops : Array Oper} {rest : List Oper} {Γ : Env} {C : World → Prop} {Q : Exit → Act → World → Prop} {d : Nat} {ty : TypeId} {pos : String} {af : Array Edge} {t u : TypeId} {x y : Operand}
section
variable {m n : Nat}
theorem Wl.addNU (hd : Nat.blt d N = true) (hx : ev Γ x = some (.int .u64 (m : Int))) (hy : ev Γ y = some (.int .u64 (n : Int))) (hb : m + n < 18446744073709551616) (h : Wl rest P md ops N ((d,.int .u64 ((m + n : Nat) : Int)) :: Γ) C Q) : Wl (⟨some d,.binOp .add t x y u,ty,pos,af,none⟩ :: rest) P md ops N Γ C Q :=
 Wl.addU hd hx hy kc (by rw [← Int.natCast_add];exact h)
theorem Wl.mulNU (hd : Nat.blt d N = true) (hx : ev Γ x = some (.int .u64 (m : Int))) (hy : ev Γ y = some (.int .u64 (n : Int))) (hb : m * n < 18446744073709551616) (h : Wl rest P md ops N ((d,.int .u64 ((m * n : Nat) : Int)) :: Γ) C Q) : Wl (⟨some d,.binOp .mul t x y u,ty,pos,af,none⟩ :: rest) P md ops N Γ C Q :=
 Wl.mul hd hx hy (by rw [← Int.natCast_mul,IntWalk.u64_in _ kc];exact h)
theorem Wl.mulNI (hd : Nat.blt d N = true) (hx : ev Γ x = some (.int .i64 (m : Int))) (hy : ev Γ y = some (.int .i64 (n : Int))) (hb : m * n < 9223372036854775808) (h : Wl rest P md ops N ((d,.int .i64 ((m * n : Nat) : Int)) :: Γ) C Q) : Wl (⟨some d,.binOp .mul t x y u,ty,pos,af,none⟩ :: rest) P md ops N Γ C Q :=
 Wl.mul hd hx hy (by rw [← Int.natCast_mul,IntWalk.i64_in _ kc];exact h)
theorem Wl.addNI (hd : Nat.blt d N = true) (hx : ev Γ x = some (.int .i64 (m : Int))) (hy : ev Γ y = some (.int .i64 (n : Int))) (hb : m + n < 9223372036854775808) (h : Wl rest P md ops N ((d,.int .i64 ((m + n : Nat) : Int)) :: Γ) C Q) : Wl (⟨some d,.binOp .add t x y u,ty,pos,af,none⟩ :: rest) P md ops N Γ C Q :=
 Wl.addI hd hx hy kc (by rw [← Int.natCast_add];exact h)
theorem Wl.shlV {k' : IntKind} (hd : Nat.blt d N = true) (hx : ev Γ x = some (.int .u32 (m : Int))) (hy : ev Γ y = some (.int k' (n : Int))) (hn : n ≤ 32) (h : Wl rest P md ops N ((d,.int .u32 ((m * 2 ^ n % 4294967296 : Nat) : Int)) :: Γ) C Q) : Wl (⟨some d,.binOp .shl t x y u,ty,pos,af,none⟩ :: rest) P md ops N Γ C Q :=
 Wl.shl hd hx hy kc (by
  rw [Int.toNat_natCast,show min n IntKind.u32.bits = n from Nat.min_eq_left hn,IntKind.wrap_u32]
  have e : (m : Int) * 2 ^ n % 4294967296 = ((m * 2 ^ n % 4294967296 : Nat) : Int) := by simp
  rw [e];exact h)
theorem Wl.addN32 (hd : Nat.blt d N = true) (hx : ev Γ x = some (.int .u32 (m : Int))) (hy : ev Γ y = some (.int .u32 (n : Int))) (h : Wl rest P md ops N ((d,.int .u32 ((((m + n) % 4294967296 : Nat)) : Int)) :: Γ) C Q) : Wl (⟨some d,.binOp .add t x y u,ty,pos,af,none⟩ :: rest) P md ops N Γ C Q :=
 Wl.add hd hx hy (by rw [← Int.natCast_add,IntKind.wrap_u32];exact h)
theorem Wl.convNU {s t : TypeId} {k : IntKind} [hs : TyD P s (.int k)] [ht : TyD P t (.int .u64)] (hd : Nat.blt d N = true) (hx : ev Γ x = some (.int k (m : Int))) (hb : m < 18446744073709551616) (h : Wl rest P md ops N ((d,.int .u64 (m : Int)) :: Γ) C Q) : Wl (⟨some d,.convert s t x,ty,pos,af,none⟩ :: rest) P md ops N Γ C Q :=
 Wl.convU64 hd hx kc h
theorem Wl.shrV {k k' : IntKind} (hd : Nat.blt d N = true) (hx : ev Γ x = some (.int k (m : Int))) (hy : ev Γ y = some (.int k' (n : Int))) (hn : n ≤ k.bits) (h : Wl rest P md ops N ((d,.int k ((m / 2 ^ n : Nat) : Int)) :: Γ) C Q) : Wl (⟨some d,.binOp .shr t x y u,ty,pos,af,none⟩ :: rest) P md ops N Γ C Q :=
 Wl.shr hd hx hy kc (by
  rw [Int.toNat_natCast,Nat.min_eq_left hn,Int.fdiv_eq_ediv_of_nonneg _ (Int.le_of_lt (Int.pow_pos ku))]
  have e : (m : Int) / 2 ^ n = ((m / 2 ^ n : Nat) : Int) := by simp
  rw [e];exact h)
theorem Wl.quoN {k : IntKind} (hd : Nat.blt d N = true) (hx : ev Γ x = some (.int k (m : Int))) (hy : ev Γ y = some (.int k (n : Int))) (hn : n ≠ 0) (hw : k.wrap ((m / n : Nat) : Int) = ((m / n : Nat) : Int)) (h : Wl rest P md ops N ((d,.int k ((m / n : Nat) : Int)) :: Γ) C Q) : Wl (⟨some d,.binOp .quo t x y u,ty,pos,af,none⟩ :: rest) P md ops N Γ C Q :=
 Wl.quo hd hx hy kc (by rw [Int.tdiv_eq_ediv_of_nonneg kc,← Int.natCast_ediv,hw];exact h)
theorem Wl.remN {k : IntKind} (hd : Nat.blt d N = true) (hx : ev Γ x = some (.int k (m : Int))) (hy : ev Γ y = some (.int k (n : Int))) (hn : n ≠ 0) (h : Wl rest P md ops N ((d,.int k ((m % n : Nat) : Int)) :: Γ) C Q) : Wl (⟨some d,.binOp .rem t x y u,ty,pos,af,none⟩ :: rest) P md ops N Γ C Q :=
 Wl.rem hd hx hy kc (by rw [Int.tmod_eq_emod_of_nonneg kc,← Int.natCast_emod];exact h)
end
theorem Wl.indexA {e by_ n : TypeId} [ht : TyD P t (.array n e)] [TyS P e 1 by_] {i : Operand} {b : Nat} {k : IntKind} {j : Nat} (hd : Nat.blt d N = true) (hx : ev Γ x = some (.pointer (some ⟨b,0,none⟩))) (hi : ev Γ i = some (.int k (j : Int)))
  (hj : j < n) (h : Wl rest P md ops N ((d,.pointer (some ⟨b,j,none⟩)) :: Γ) C Q) : Wl (⟨some d,.indexAddr t x i,ty,pos,af,none⟩ :: rest) P md ops N Γ C Q :=
 Wl.indexArr hd hx hi ⟨by omega,by omega⟩ (by rw [Int.toNat_natCast,Nat.mul_one,Nat.zero_add];exact h)
theorem Wl.indexAo {e by_ n : TypeId} [ht : TyD P t (.array n e)] [TyS P e 1 by_] {i : Operand} {b o : Nat} {k : IntKind} {j : Nat} (hd : Nat.blt d N = true) (hx : ev Γ x = some (.pointer (some ⟨b,o,none⟩))) (hi : ev Γ i = some (.int k (j : Int)))
  (hj : j < n) (h : Wl rest P md ops N ((d,.pointer (some ⟨b,o + j,none⟩)) :: Γ) C Q) : Wl (⟨some d,.indexAddr t x i,ty,pos,af,none⟩ :: rest) P md ops N Γ C Q :=
 Wl.indexArr hd hx hi ⟨by omega,by omega⟩ (by rw [Int.toNat_natCast,Nat.mul_one];exact h)
theorem Wl.loadN {w0 : World} {H : List Blk} {bt : TypeId} [TyC P t] {c j n : Nat} {k : IntKind} {f : Nat → Nat} (hd : Nat.blt d N = true) (hx : ev Γ x = some (.pointer (some ⟨c,j,none⟩))) (hm : (⟨c,cellsN k n f,bt⟩ : Blk) ∈ H) (hj : j < n)
  (h : Wl rest P md ops N ((d,.int k (f j)) :: Γ) (Hp w0 H) Q) : Wl (⟨some d,.load t x,ty,pos,af,none⟩ :: rest) P md ops N Γ (Hp w0 H) Q := Wl.loadH hd hx hm (cellsN_get hj) h
theorem Wl.storeN {w0 : World} {H H' : List Blk} {bt by_ : TypeId} [TyS P t 1 by_] {c j n v : Nat} {k : IntKind} {f : Nat → Nat} (hx : ev Γ x = some (.pointer (some ⟨c,j,none⟩))) (hy : ev Γ y = some (.int k (v : Int))) (hs : HSet c (cellsN k n f) (cellsN k n (updN f j v)) bt H H') (hj : j < n)
  (h : Wl rest P .seq ops N Γ (Hp w0 H') Q) : Wl (⟨none,.store t x y,ty,pos,af,none⟩ :: rest) P .seq ops N Γ (Hp w0 H) Q := Wl.store hx hy rfl hs (cellsN_set hj) h
end
attribute [irreducible] cellsN
theorem LOver.whole {l xs : List Value} (h : l.length = xs.length) : LOver l xs xs := by
 induction xs generalizing l with
 | nil => cases l with
  | nil => exact .nil
  | cons _ _ => simp at h
 | cons x r ih => cases l with
  | nil => simp at h
  | cons y s => exact .cons (ih qz)
theorem LSub.whole {l : List Value} {n : Nat} (h : l.length = n) : LSub l 0 n l := by
 induction l generalizing n with
 | nil => subst h;exact .z
 | cons x r ih => subst h;exact .t (ih rfl)
section
variable {P : Program} {md : Md} {N : Nat} {ops : Array Oper} {rest : List Oper} {Γ : Env} {Q : Exit → Act → World → Prop} {d : Nat} {ty : TypeId} {pos : String} {af : Array Edge} {t : TypeId} {x y : Operand}
theorem Wl.storeW {w0 : World} {H H' : List Blk} {n m bt : TypeId} [ht : TyA P t n] {c : Nat} {k : IntKind} {f : Nat → Nat} {cs : List Value} (hx : ev Γ x = some (.pointer (some ⟨c,0,none⟩))) (hy : ev Γ y = some (.agg (cellsN k m f).toArray)) (hs : HSet c cs (cellsN k m f) bt H H') (hn : Nat.beq m n = true) (hl : cs.length = m)
  (h : Wl rest P .seq ops N Γ (Hp w0 H') Q) : Wl (⟨none,.store t x y,ty,pos,af,none⟩ :: rest) P .seq ops N Γ (Hp w0 H) Q :=
 Wl.storeA hx hy ((cellsN_len k m f).trans (Nat.eq_of_beq_eq_true hn)) (cellsN_one k m f) hs (.z (LOver.whole (by rw [hl,cellsN_len]))) h
theorem Wl.allocN {w0 : World} {H : List Blk} {k : IntKind} {n : Nat} {f : Nat → Nat} {z : Value} [TyZ P t z] (hd : Nat.blt d N = true) (hz : z.cells.toList = cellsN k n f)
  (h : ∀ c,w0.heap.size ≤ c → Off H c → Wl rest P .seq ops N ((d,.pointer (some ⟨c,0,none⟩)) :: Γ) (Hp w0 (⟨c,cellsN k n f,t⟩ :: H)) Q) : Wl (⟨some d,.alloc t,ty,pos,af,none⟩ :: rest) P .seq ops N Γ (Hp w0 H) Q := Wl.alloc hd fun c hc ho => by rw [hz];exact h c hc ho
theorem Wl.buildN {n e sz by_ m : TypeId} {parts : Array (Nat × Operand)} {ps : List (Nat × Value)} {z cs : List Value} {k : IntKind} {f : Nat → Nat} [TyD P t (.array n e)] [TyS P e sz by_] [TyZ P t (.agg z.toArray)] (hd : Nat.blt d N = true) (hp : Parts Γ parts.toList ps) (hF : Fills (fun i => some (i * sz,sz)) z ps cs) (he : cs = cellsN k m f)
  {C : World → Prop} (h : Wl rest P md ops N ((d,.agg (cellsN k m f).toArray) :: Γ) C Q) : Wl (⟨some d,.build t parts,ty,pos,af,none⟩ :: rest) P md ops N Γ C Q := Wl.buildA hd hp hF (by rw [he];exact h)
theorem Wl.loadW {w0 : World} {H : List Blk} {n m bt : TypeId} [TyA P t n] {c : Nat} {k : IntKind} {f : Nat → Nat} (hd : Nat.blt d N = true) (hx : ev Γ x = some (.pointer (some ⟨c,0,none⟩))) (hm : (⟨c,cellsN k m f,bt⟩ : Blk) ∈ H) (hn : Nat.beq m n = true)
  (h : Wl rest P md ops N ((d,.agg (cellsN k m f).toArray) :: Γ) (Hp w0 H) Q) : Wl (⟨some d,.load t x,ty,pos,af,none⟩ :: rest) P md ops N Γ (Hp w0 H) Q :=
 Wl.loadAH hd hx hm (LSub.whole ((cellsN_len k m f).trans (Nat.eq_of_beq_eq_true hn))) h
end
theorem Gt.outCT {P : Program} {N : Nat} {Γ : Env} {w0 : World} {H : List Blk} {fn : Func} {R : Ending → World → Prop} {t u ty n c i bt : Nat} {v : Value} {cs xs : List Value} (hr : fn.results = #[.cell t ty,.tmp u]) (hT : TyA P ty n) (ht : look Γ t = some (.pointer (some ⟨c,i,none⟩))) (hu : look Γ u = some v) (hm : (⟨c,cs,bt⟩ : Blk) ∈ H) (hi' : LSub cs i n xs)
  (h : ∀ w,Hp w0 H w → R (.returned (.tuple #[.agg xs.toArray,v])) w) : Gt N .ret Γ (Hp w0 H) (bodyPost P fn R) := Gt.intro fun a w ha hw => by
 have hi := hi'.out.1
 have hn := hi'.out.2
 refine ⟨ha.defers,_,?_,h w hw⟩
 have hl := run_loadA (P := P) (t := ty) (w := w) (a := ⟨c,i,none⟩) hn (fun j v hj => by
  rw [addLit]
  refine hw.cell hm ?_
  subst hi
  rw [List.getElem?_take] at hj
  split at hj
  ·simpa [List.getElem?_drop] using hj
  ·cases hj)
 rw [results_cell_tmp hr]
 simp [ha.get _ _ ht,ha.get _ _ hu,asAddr,hl]
theorem Gt.outC' {P : Program} {N : Nat} {Γ : Env} {w0 : World} {H : List Blk} {fn : Func} {R : Ending → World → Prop} {t ty n c i bt : Nat} {cs xs : List Value} (hr : fn.results = #[.cell t ty]) (hT : TyA P ty n) (ht : look Γ t = some (.pointer (some ⟨c,i,none⟩))) (hm : (⟨c,cs,bt⟩ : Blk) ∈ H) (hi' : LSub cs i n xs)
  (h : ∀ w,Hp w0 H w → R (.returned (.agg xs.toArray)) w) : Gt N .ret Γ (Hp w0 H) (bodyPost P fn R) := Gt.outC hr ht hm hi' h
end Go.Pt
end
section
namespace Go.Pt
open Go.RowKit
theorem LSet.app {xs r r' : List Value} {i : Nat} {v : Value} (h : LSet r i v r') : LSet (xs ++ r) (xs.length + i) v (xs ++ r') := by
 induction xs with
 | nil => simpa using h
 | cons x s ih => rw [List.length_cons,show s.length + 1 + i = (s.length + i) + 1 by omega];exact .s ih
end Go.Pt
namespace Go.Proofs.YtabbklpalbikdaaGreatDoor
open Go.RowKit Go.Pt
def HH (w : World) (h c : Nat) (vM : Value) (xs : List Value) (pc : Int) : Prop := xs.length = 32 ∧ w.heap[h]? = some (.cells (xs ++ [.int .u32 pc,.pointer (some ⟨c,0,none⟩),vM]).toArray 133 (0,0))
theorem HH.lt {w : World} {h c : Nat} {vM : Value} {xs : List Value} {pc : Int} (k : HH w h c vM xs pc) : h < w.heap.size := lt_of_block k.2
theorem HH.upd {w w' : World} {h c : Nat} {vM : Value} {xs : List Value} {pc : Int} {S : Nat → Prop} (k : HH w h c vM xs pc) (u : Upd S w w') (hs : ¬ S h) : HH w' h c vM xs pc := ⟨k.1,u.heap k.2 hs⟩
end Go.Proofs.YtabbklpalbikdaaGreatDoor
end
section
namespace Go.Pt
open Go.RowKit
end Go.Pt
namespace Go.Proofs.YtabbklpalbikdaaGreatDoor
open Go.RowKit Go.Pt
def xz : List Value := [.int .u32 0,.int .u32 0,.int .u32 0,.int .u32 0,.int .u32 0,.int .u32 0,.int .u32 0,.int .u32 0,.int .u32 0,.int .u32 0,.int .u32 0,.int .u32 0,.int .u32 0,.int .u32 0,.int .u32 0,.int .u32 0,.int .u32 0,.int .u32 0,.int .u32 0,.int .u32 0,.int .u32 0,.int .u32 0,.int .u32 0,.int .u32 0,.int .u32 0,.int .u32 0,.int .u32 0,.int .u32 0,.int .u32 0,.int .u32 0,.int .u32 0,.int .u32 0]
def fz (n : Int) : List Value := .int .i64 3 :: .int .u32 0 :: .int .u32 0 :: .int .u32 0 :: .int .u32 0 :: .int .u32 0 :: .int .u32 0 :: .int .u32 0 :: .int .u32 0 :: [.int .u8 0,.int .u8 0,.int .u8 0,.int .u8 0,.int .u8 0,.int .u8 0,.int .u8 0,.int .u8 0,.int .u8 0,.int .u8 0,.int .u8 0,.int .u8 0,.int .u8 0,.int .u8 0,.int .u8 0,.int .u8 0,
 .int .u32 0,.int .u32 0,.int .u32 0,.int .u32 0,.int .u32 0,.int .u32 0,.int .u32 0,.int .u32 0,.int .u32 0,.int .u32 0,.int .u32 0,.int .u32 0,.int .u32 0,.int .u32 0,.int .u32 0,.int .u32 0,.int .u64 n,.int .u64 n]
end Go.Proofs.YtabbklpalbikdaaGreatDoor
end
section
namespace Go.Pt
open Go.RowKit
section
variable {P : Program} {md : Md} {N : Nat} {ops : Array Oper} {rest : List Oper} {Γ : Env} {C : World → Prop} {Q : Exit → Act → World → Prop} {d : Nat} {ty : TypeId} {pos : String} {af : Array Edge} {t u : TypeId} {x y : Operand}
theorem Wl.fieldV {s i off ft : Nat} [hf : Fld P s i off ft] [TyC P ft] {cs : List Value} {v : Value} (hd : Nat.blt d N = true) (hx : ev Γ x = some (.agg cs.toArray)) (hv : cs[off]? = some v) (h : Wl rest P md ops N ((d,v) :: Γ) C Q) :
  Wl (⟨some d,.field s x i,ty,pos,af,none⟩ :: rest) P md ops N Γ C Q :=
 Wl.val hd (fun a w ha _ => by
  have h := hf.out
  unfold fieldB at h
  split at h <;> try cases h
  rename_i fs hfs
  cases e : fs[i]? with
  | none => rw [e] at h;cases h
  | some f =>
   rw [e] at h;simp at h
   obtain ⟨h1,h2,h3⟩ := h
   subst h1 h2
   have hv' : cs.toArray[f.offset]? = some v := by simpa using hv
   simp [execOp,ha.ev hx,Instr.field,run_underlying hfs,e,part,run_aggC (P := P) (t := f.type),asAgg,hv]) h
end
end Go.Pt
namespace Go.Proofs.YtabbklpalbikdaaGreatDoor
open Go.RowKit Go.Pt
theorem hnew (a : Option Addr) (w : World) : Calls Tryz.prog 90 #[.pointer a] w fun e w' => ∃ h cf,e = .returned (.pointer (some ⟨h,0,none⟩)) ∧ Hp w [⟨h,xz ++ [Value.int .u32 0,Value.pointer (some ⟨cf,0,none⟩),Value.pointer a],133⟩,⟨cf,fz 0,145⟩] w' ∧ w.heap.size ≤ h ∧ w.heap.size ≤ cf ∧ h ≠ cf := by
 refine enter (args := [_]) (Γ := [(0,_)]) Tryz.func90 Tryz.ntmps90 rfl odq (.cons rfl .nil) ?_
 repeat' first | (apply Gt.inl1;exact rfl;exact rfl) | (apply Wl.inline;exact rfl;exact kd;exact rfl;exact rfl) | refine Wl.move rfl rfl ?_ | refine Wl.assign rfl rfl ?_ | (apply Wl.buildS;exact rfl;exact kj;exact ka) | (apply Wl.boxA;exact rfl;exact rfl;intro c hc ho) | apply Wl.nil | apply St.seq | apply St.region | apply St.ret | apply Gt.next | (apply Gt.out1;exact rfl;exact rfl;intro w' hp) | (apply Wl.splitP;exact rfl;exact rfl;all_goals (intros;try (exfalso;omega))) | (apply Wl.splitB;exact rfl;exact rfl;all_goals intros) | (apply St.condP;exact rfl;all_goals (intros;try (exfalso;omega))) | (apply St.condB;exact rfl;all_goals intros)
 rename_i cf hcf hof
 exact ⟨_,_,rfl,hp,hc,hcf,fun e => ho.1 e.symm⟩
def tabL : List Int := [0,1,28,2,29,14,24,3,30,22,20,15,25,17,4,8,31,27,13,23,21,19,16,7,26,12,18,6,11,5,10,9]
def tabOk (w : World) : Prop := ∀ i : Nat,i < 32 → ∃ z : Int,tabL[i]? = some z ∧ (0 ≤ z ∧ z ≤ 31) ∧ w.cell? ⟨0,i,none⟩ = some (.int .u8 z)
theorem tabOk.upd {w w' : World} {S : Nat → Prop} (h : tabOk w) (u : Upd S w w') (hs : ¬ S 0) : tabOk w' := fun i hi => by
 obtain ⟨z,h1,h2,h3⟩ := h i hi
 exact ⟨z,h1,h2,u.cell h3 hs⟩
theorem tabOk.lt {w : World} (h : tabOk w) : 0 < w.heap.size := by
 obtain ⟨z,_,_,h3⟩ := h 0 ku
 exact cell_old h3
def EntX (w : World) (a : Option Addr) (n : Nat) (en : Nat → Int × Int × Int) : Prop := ∀ i : Nat,i < n → ∃ b o,a = some ⟨b,o,none⟩ ∧ w.cell? ⟨b,o + i * 3,none⟩ = some (.int .i64 (en i).1) ∧ w.cell? ⟨b,o + i * 3 + 1,none⟩ = some (.int .i64 (en i).2.1) ∧ w.cell? ⟨b,o + i * 3 + 2,none⟩ = some (.int .u32 (en i).2.2)
end Go.Proofs.YtabbklpalbikdaaGreatDoor
end
section
namespace Go.Pt
open Go.RowKit
theorem LSet.left {xs r : List Value} {i : Nat} {v : Value} (h : i < xs.length) : LSet (xs ++ r) i v (xs.set i v ++ r) := by
 induction xs generalizing i with
 | nil => cases h
 | cons x s ih =>
  cases i with
  | zero => exact .z
  | succ i => exact .s (ih qz)
end Go.Pt
namespace Go.Proofs.YtabbklpalbikdaaGreatDoor
open Go.RowKit Go.Pt
def Rg (xs : List Value) : Prop := xs.length = 32 ∧ ∀ i : Nat,i < 32 → ∃ z : Int,xs[i]? = some (.int .u32 z) ∧ 0 ≤ z ∧ z < 4294967296
def memH (w : World) (cM : Nat) (f : Nat → Int) : Prop := w.heap[cM]? = some (.cells (memC f).toArray 156 (0,0))
end Go.Proofs.YtabbklpalbikdaaGreatDoor
end
section
namespace Go.Pt
open Go.RowKit
theorem flat_len {α : Type} {L : List (List α)} {k : Nat} (hk : ∀ x ∈ L,x.length = k) : L.flatten.length = L.length * k := by
 induction L with
 | nil => simp
 | cons x r ih =>
  rw [List.flatten_cons,List.length_append,ih fun y hy => hk y (.tail _ hy),hk x (.head _),List.length_cons,Nat.succ_mul]
  omega
theorem flat_get {α : Type} {L : List (List α)} {k : Nat} (hk : ∀ x ∈ L,x.length = k) {i q : Nat} {x : List α} (hi : L[i]? = some x) (hq : q < k) : L.flatten[i * k + q]? = x[q]? := by
 induction L generalizing i with
 | nil => cases hi
 | cons y r ih =>
  have hy := hk y (.head _)
  rw [List.flatten_cons]
  cases i with
  | zero =>
   cases hi
   rw [Nat.zero_mul,Nat.zero_add,List.getElem?_append_left kc]
  | succ i =>
   rw [List.getElem?_append_right (by rw [Nat.succ_mul];omega),show (i + 1) * k + q - y.length = i * k + q by rw [Nat.succ_mul,hy];omega]
   exact ih (fun z hz => hk z (.tail _ hz)) j1
theorem flat_lt {α : Type} {L : List (List α)} {i k q n : Nat} (hi : i < L.length) (hq : q < k) (hn : L.length = n) : i * k + q < n * k := by
 subst hn
 have := Nat.mul_le_mul_right k (show i + 1 ≤ L.length by omega)
 rw [Nat.succ_mul] at this
 omega
theorem LSet.flat {L : List (List Value)} {J x : List Value} {k : Nat} {v : Value} (hk : ∀ x ∈ L,x.length = k) {i q : Nat} (hi : L[i]? = some x) (hq : q < k) : LSet (L.flatten ++ J) (i * k + q) v ((L.set i (x.set q v)).flatten ++ J) := by
 induction L generalizing i with
 | nil => cases hi
 | cons y r ih =>
  have hy := hk y (.head _)
  cases i with
  | zero =>
   cases hi
   rw [Nat.zero_mul,Nat.zero_add,List.set_cons_zero,List.flatten_cons,List.flatten_cons,List.append_assoc,List.append_assoc]
   exact LSet.left kc
  | succ i =>
   rw [List.set_cons_succ,List.flatten_cons,List.flatten_cons,List.append_assoc,List.append_assoc,show (i + 1) * k + q = y.length + (i * k + q) by rw [Nat.succ_mul,hy];omega]
   exact LSet.app (ih (fun z hz => hk z (.tail _ hz)) j1)
theorem LSub.whole' {xs : List Value} {n : Nat} (h : xs.length = n) : LSub xs 0 n xs := by
 subst h
 induction xs with
 | nil => exact .z
 | cons x xs ih => exact .t ih
section
variable {P : Program} {N : Nat} {Γ : Env} {C : World → Prop} {Q : Exit → Act → World → Prop} {i k : Nat} {l : Array Oper} {b : Bool} {x : Operand} {p q r y : Code}
theorem St.seqK (hk : Nat.beq i k = false) (h : St (.region i l b) P N Γ C (Exit.then (y.wp P Q) Q)) : St (.seq (.region i l b) y) P N Γ C Q := St.seq h
theorem St.seqKS (hk : Nat.beq i k = false) (h : St (.seq (.region i l b) p) P N Γ C (Exit.then (y.wp P Q) Q)) : St (.seq (.seq (.region i l b) p) y) P N Γ C Q := St.seq h
theorem St.seqC (h : St (.cond x p q) P N Γ C (Exit.then (y.wp P Q) Q)) : St (.seq (.cond x p q) y) P N Γ C Q := St.seq h
end
theorem blk_ne {w : World} {b c t t' : Nat} {cs cs' : Array Value} (h1 : w.heap[b]? = some (.cells cs t (0,0))) (h2 : w.heap[c]? = some (.cells cs' t' (0,0))) (ht : t ≠ t' := by decide) : b ≠ c := by
 intro e
 subst e
 rw [h1] at h2
 cases h2
 exact ht rfl
end Go.Pt
end
section
namespace Go.Pt
open Go.RowKit
def waits (o : Oper) (j : Nat) : Bool := o.after.toList.any fun e => Nat.beq e.on j && Region.binds .any e
def chainB (l : List Oper) (m : Nat) : Bool :=
 Nat.blt m l.length &&
 ((List.range m).all fun i => (List.range (m + 1)).any fun j => Nat.blt i j && (match l[j]? with | some o => waits o i | none => false)) &&
 ((List.range l.length).all fun i => Nat.ble i m || (match l[i]? with | some o => waits o (i - 1) | none => false)) &&
 ((List.range l.length).all fun i => match l[i]? with | some o => o.after.toList.all (fun e => !(Region.binds .any e) || Nat.blt e.on i) | none => true)
theorem waits_out {o : Oper} {j : Nat} (h : waits o j = true) : ∃ e ∈ o.after.toList,e.on = j ∧ Region.binds .any e = true := by
 obtain ⟨e,h1,h2⟩ := List.any_eq_true.1 h
 rw [Bool.and_eq_true] at h2
 exact ⟨e,h1,Nat.eq_of_beq_eq_true h2.1,h2.2⟩
structure Chain (l : List Oper) (m : Nat) : Prop where
 lt : m < l.length
 pre : ∀ i,i < m → ∃ (j : Nat) (o : Oper),i < j ∧ j ≤ m ∧ l[j]? = some o ∧ ∃ e ∈ o.after.toList,e.on = i ∧ Region.binds .any e = true
 next : ∀ (i : Nat) (o : Oper),m < i → l[i]? = some o → ∃ e ∈ o.after.toList,e.on = i - 1 ∧ Region.binds .any e = true
 back : ∀ (i : Nat) (o : Oper),l[i]? = some o → ∀ e ∈ o.after.toList,Region.binds .any e = true → e.on < i
theorem chainB_out {l : List Oper} {m : Nat} (h : chainB l m = true) : Chain l m := by
 unfold chainB at h
 simp only [Bool.and_eq_true] at h
 obtain ⟨⟨⟨h0,h1⟩,h2⟩,h3⟩ := h
 refine ⟨Nat.le_of_ble_eq_true h0,fun i hi => ?_,fun i o hi ho => ?_,fun i o ho e he hb => ?_⟩
 ·have := List.all_eq_true.1 h1 i (List.mem_range.2 hi)
  obtain ⟨j,hj,hj2⟩ := List.any_eq_true.1 this
  rw [Bool.and_eq_true] at hj2
  have hjm := List.mem_range.1 hj
  cases ho : l[j]? with
  | none => rw [ho] at hj2;cases hj2.2
  | some o =>
   rw [ho] at hj2
   exact ⟨j,o,Nat.le_of_ble_eq_true hj2.1,by omega,ho,waits_out hj2.2⟩
 ·have hil := (List.getElem?_eq_some_iff.1 ho).1
  have := List.all_eq_true.1 h2 i (List.mem_range.2 hil)
  rw [ho,Bool.or_eq_true] at this
  rcases this with h | h
  ·have := Nat.le_of_ble_eq_true h;omega
  ·exact waits_out h
 ·have hil := (List.getElem?_eq_some_iff.1 ho).1
  have := List.all_eq_true.1 h3 i (List.mem_range.2 hil)
  rw [ho] at this
  have := List.all_eq_true.1 this e he
  rw [hb,Bool.not_true,Bool.false_or] at this
  exact Nat.le_of_ble_eq_true this
theorem getD_tf {x : Array Bool} {i : Nat} (h : i < x.size) : x.getD i true = x.getD i false := by
 simp [Array.getD_eq_getD_getElem?,h]
theorem ready_iff {l : List Oper} {listed : Array Bool} {i : Nat} {o : Oper} (ho : l[i]? = some o) : i ∈ Region.ready .any l.toArray listed ↔ listed.getD i true = false ∧ ∀ e ∈ o.after.toList,Region.binds .any e = true → listed.getD e.on false = true := by
 have hil := (List.getElem?_eq_some_iff.1 ho).1
 have hoa : l.toArray[i]? = some o := by simpa using ho
 unfold Region.ready
 rw [List.mem_filter]
 simp only [List.size_toArray,List.mem_range,hoa,Option.map_some,Option.getD_some,Bool.and_eq_true,Bool.not_eq_true',Array.all_eq_true',Bool.or_eq_true]
 constructor
 ·rintro ⟨_,h1,h2⟩
  exact ⟨h1,fun e he hb => (h2 e (by simpa using he)).elim (fun y => by rw [hb] at y;cases y) id⟩
 ·rintro ⟨h1,h2⟩
  refine ⟨hil,h1,fun e he => ?_⟩
  cases hb : Region.binds .any e with
  | false => exact .inl rfl
  | true => exact .inr (h2 e (by simpa using he) hb)
theorem ready_lt {l : List Oper} {listed : Array Bool} {i : Nat} (h : i ∈ Region.ready .any l.toArray listed) : i < l.length := by
 unfold Region.ready at h
 rw [List.mem_filter] at h
 simpa using h.1
theorem tail_run {P : Program} {l : List Oper} {m : Nat} {Q : Exit → Act → World → Prop} (hch : Chain l m) : ∀ (rest : List Oper) (k : Nat),l.drop k = rest → m ≤ k → ∀ n (listed : Array Bool) a w,listed.size = l.length → (∀ j,j < k → j < l.length → listed.getD j true = true) →
  (∀ j,k ≤ j → j < l.length → listed.getD j true = false) → n = l.length - k → wpList P l.toArray Q rest a w → wpAny P .any l.toArray Q n listed a w := by
 intro rest
 induction rest with
 | nil =>
  intro k hk hmk n listed a w hsz h1 h2 hn h
  have hl : l.length ≤ k := by simpa using hk
  have hr : Region.ready .any l.toArray listed = [] := by
   rw [List.eq_nil_iff_forall_not_mem]
   intro i hi
   have hil := ready_lt hi
   have := ((ready_iff (List.getElem?_eq_getElem hil)).1 hi).1
   rw [h1 i kc hil] at this
   cases this
  have hn0 : n = 0 := by omega
  subst hn0
  exact ⟨hr,h⟩
 | cons o rest ih =>
  intro k hk hmk n listed a w hsz h1 h2 hn h
  have hkl : k < l.length := by
   rcases Nat.lt_or_ge k l.length with h | h
   ·exact h
   ·rw [List.drop_eq_nil_of_le h] at hk;cases hk
  have ho : l[k]? = some o := by
   have := List.getElem?_drop (xs := l) (i := k) (j := 0)
   rw [hk] at this
   simpa using this.symm
  have hrk : k ∈ Region.ready .any l.toArray listed := (ready_iff ho).2 ⟨h2 k (Nat.le_refl _) hkl,fun e he hb => by
   have hek := hch.back k o ho e he hb
   rw [← getD_tf kc]
   exact h1 e.on hek kc⟩
  have hn' : n = (l.length - (k + 1)) + 1 := by omega
  subst hn'
  refine ⟨fun hr => (by rw [hr] at hrk;cases hrk),fun i hi => ?_⟩
  have hil := ready_lt hi
  have hio := (ready_iff (List.getElem?_eq_getElem hil)).1 hi
  have hik : i = k := by
   rcases Nat.lt_trichotomy i k with h | h | h
   ·rw [h1 i h hil] at hio;cases hio.1
   ·exact h
   ·obtain ⟨e,he,he1,he2⟩ := hch.next i _ kc (List.getElem?_eq_getElem hil)
    have := hio.2 e he he2
    rw [← getD_tf kc,he1,h2 (i - 1) kc kc] at this
    cases this
  subst hik
  have hoa : l.toArray[i]? = some o := by simpa using ho
  have hK : ∀ a' w',wpList P l.toArray Q rest a' w' → wpAny P .any l.toArray Q (l.length - (i + 1)) (listed.setIfInBounds i true) a' w' := fun a' w' h' => by
   refine ih (i + 1) ?_ kc _ _ a' w' (by simp [hsz]) (fun j hj hjl => ?_) (fun j hj hjl => ?_) rfl h'
   ·rw [← List.drop_drop,hk];rfl
   ·by_cases e : i = j
    ·subst e;simp [Array.getD_eq_getD_getElem?,hsz,hil]
    ·rw [getD_set e];exact h1 j kc hjl
   ·rw [getD_set kc];exact h2 j kc hjl
  unfold wpOp
  simp only [hoa]
  simp only [wpList] at h
  split
  ·rename_i hw
   rw [if_pos hw] at h
   exact h.imp (fun h => Oper.wp_mono hK h) id
  ·rename_i hw
   rw [if_neg hw] at h
   exact hK _ _ h
end Go.Pt
end
section
namespace Go.Pt
open Go.RowKit
inductive Kn
 | v (x : Value)
 | b (t : TypeId) (cs : List Value)
def DepX (l : List Oper) (ks : List Kn) (K : Env → Prop) : List Edge → Env → Prop
 | [],Γ => K Γ
 | e :: es,Γ => if Region.binds .any e then (match ks[e.on]? with
  | some (.v x) => DepX l ks K es ((dstAt l e.on,x) :: Γ)
  | _ => DepX l ks K es Γ) else DepX l ks K es Γ
def PostX (N d : Nat) (x : Value) (D : World → Prop) : Exit → Act → World → Prop := fun e a w => e = .normal ∧ Fr N a [(d,x)] ∧ D w
def PostB (N d : Nat) (t : TypeId) (cs : List Value) (w0 : World) (H : List Blk) : Exit → Act → World → Prop := fun e a w => e = .normal ∧ ∃ c,w0.heap.size ≤ c ∧ Off H c ∧ Fr N a [(d,.pointer (some ⟨c,0,none⟩))] ∧ Hp w0 (⟨c,cs,t⟩ :: H) w
def NewX (w0 : World) (X : List Blk) : Prop := ∀ y ∈ X,w0.heap.size ≤ y.b
inductive OpsX (P : Program) (l : List Oper) (N : Nat) (Γ : Env) (w0 : World) (H : List Blk) (all : List Kn) : List Oper → List Kn → Prop
 | nil : OpsX P l N Γ w0 H all [] []
 | v {o : Oper} {rest : List Oper} {x : Value} {tl : List Kn} (h : ∀ X,NewX w0 X → DepX l all (fun Γ' => Wl [o] P .seq l.toArray N Γ' (Hp w0 (H ++ X)) (PostX N (dstO o) x (Hp w0 (H ++ X)))) o.after.toList Γ) (hs : OpsX P l N Γ w0 H all rest tl) : OpsX P l N Γ w0 H all (o :: rest) (.v x :: tl)
 | b {d t : Nat} {ty : TypeId} {pos : String} {af : Array Edge} {rest : List Oper} {z : Value} {tl : List Kn} [hz : TyZ P t z] (hd : Nat.blt d N = true) (hs : OpsX P l N Γ w0 H all rest tl) : OpsX P l N Γ w0 H all (⟨some d,.alloc t,ty,pos,af,none⟩ :: rest) (.b t z.cells.toList :: tl)
def keepX (sel : List Nat) (tail : List Oper) (i : Nat) : Bool := (sel.any (Nat.beq i)) || tail.any fun o => o.after.toList.any fun e => Nat.beq e.on i && (match e.ground with | .data => true | _ => false)
def EndX (kp : Nat → Bool) (w0 : World) (H : List Blk) (K : Env → List Blk → Prop) : List Oper → List Kn → Nat → Env → List Blk → Prop
 | [],_,_,Γ,B => K Γ B
 | _ :: _,[],_,Γ,B => K Γ B
 | o :: os,.v x :: ks,i,Γ,B => EndX kp w0 H K os ks (i + 1) (bif kp i then (dstO o,x) :: Γ else Γ) B
 | o :: os,.b t cs :: ks,i,Γ,B => ∀ c,w0.heap.size ≤ c → Off (B ++ H) c → EndX kp w0 H K os ks (i + 1) ((dstO o,.pointer (some ⟨c,0,none⟩)) :: Γ) (⟨c,cs,t⟩ :: B)
theorem apart_append {H X : List Blk} (h : Apart H) (hx : ∀ x ∈ X,Off H x.b) (hX : Apart X) : Apart (H ++ X) := by
 induction H with
 | nil => exact hX
 | cons y r ih => exact ⟨Off.of fun x hm => by
   rcases List.mem_append.1 hm with hm | hm
   ·exact h.1.at hm
   ·exact fun e => (hx x hm).1 e.symm,ih h.2 fun x hm => (hx x hm).2⟩
theorem off_append {H X : List Blk} {c : Nat} (h : Off H c) (hX : Off X c) : Off (H ++ X) c := Off.of fun x hm => (List.mem_append.1 hm).elim (fun h1 => h.at h1) fun h1 => hX.at h1
theorem off_left {H X : List Blk} {c : Nat} (h : Off (H ++ X) c) : Off H c := Off.of fun _ hm => h.at (List.mem_append_left _ hm)
theorem off_right {H X : List Blk} {c : Nat} (h : Off (H ++ X) c) : Off X c := Off.of fun _ hm => h.at (List.mem_append_right _ hm)
theorem hp_left {w0 w : World} {H X : List Blk} (h : Hp w0 (H ++ X) w) (hX : NewX w0 X) : Hp w0 H w := by
 refine ⟨h.upd.mono fun k hk hn ho => hn (off_append ho (Off.of fun x hm e => by have := hX x hm;omega)),Own.of fun x hm => h.own.at (List.mem_append_left _ hm),?_⟩
 have := h.apart
 clear h
 induction H with
 | nil => trivial
 | cons y r ih => exact ⟨off_left this.1,ih this.2⟩
theorem OpsX.out {P : Program} {l : List Oper} {N : Nat} {Γ : Env} {w0 : World} {H : List Blk} {all : List Kn} {l' : List Oper} {tl : List Kn} (h : OpsX P l N Γ w0 H all l' tl) {i : Nat} {o : Oper} (hi : l'[i]? = some o) :
  (∃ x,tl[i]? = some (.v x) ∧ ∀ X,NewX w0 X → DepX l all (fun Γ' => Wl [o] P .seq l.toArray N Γ' (Hp w0 (H ++ X)) (PostX N (dstO o) x (Hp w0 (H ++ X)))) o.after.toList Γ) ∨
  (∃ t cs,tl[i]? = some (.b t cs) ∧ ∀ X,Wl [o] P .seq l.toArray N Γ (Hp w0 (H ++ X)) (PostB N (dstO o) t cs w0 (H ++ X))) := by
 induction h generalizing i with
 | nil => simp at hi
 | @v o' rest x tl h hs ih =>
  cases i with
  | zero => simp only [List.getElem?_cons_zero,Option.some.injEq] at hi;subst hi;exact .inl ⟨x,rfl,h⟩
  | succ i => simpa using ih (i := i) j1
 | @b d t ty pos af rest z tl hz hd hs ih =>
  cases i with
  | zero =>
   simp only [List.getElem?_cons_zero,Option.some.injEq] at hi
   subst hi
   refine .inr ⟨t,z.cells.toList,rfl,fun X => ?_⟩
   apply Wl.alloc hd
   intro c hc ho
   apply Wl.nil
   exact Gt.intro fun a w ha hw => ⟨rfl,c,hc,ho,ha.sub (.cons (by simp [look,dstO]) .nil),hw⟩
  | succ i => simpa using ih (i := i) j1
theorem OpsX.len {P : Program} {l : List Oper} {N : Nat} {Γ : Env} {w0 : World} {H : List Blk} {all : List Kn} {l' : List Oper} {tl : List Kn} (h : OpsX P l N Γ w0 H all l' tl) : tl.length = l'.length := by
 induction h with
 | nil => rfl
 | v _ _ ih => simp [ih]
 | b _ _ ih => simp [ih]
theorem DepX.run {l : List Oper} {ks : List Kn} {K : Env → Prop} {N : Nat} {a : Act} {es : List Edge} {Γ : Env} (h : DepX l ks K es Γ) (ha : Fr N a Γ)
  (hes : ∀ e ∈ es,Region.binds .any e = true → ∀ x,ks[e.on]? = some (.v x) → a.tmps[dstAt l e.on]? = some x) : ∃ Γ',Fr N a Γ' ∧ K Γ' := by
 induction es generalizing Γ with
 | nil => exact ⟨Γ,ha,h⟩
 | cons e es ih =>
  unfold DepX at h
  split at h
  ·rename_i hb
   split at h
   ·rename_i x hx
    exact ih h (ha.cons (hes e zd hb x hx)) fun e he => hes e (by simp [he])
   ·exact ih h ha fun e he => hes e (by simp [he])
  ·exact ih h ha fun e he => hes e (by simp [he])
structure InvX (l : List Oper) (m N : Nat) (Γ : Env) (w0 : World) (H : List Blk) (ks : List Kn) (f : Nat → Nat) (listed : Array Bool) (a : Act) (w : World) : Prop where
 fr : Fr N a Γ
 hp : Hp w0 H w
 val : ∀ i o x,i < m → l[i]? = some o → ks[i]? = some (.v x) → listed.getD i true = true → a.tmps[dstO o]? = some x
 ptr : ∀ i o t cs,i < m → l[i]? = some o → ks[i]? = some (.b t cs) → listed.getD i true = true → a.tmps[dstO o]? = some (.pointer (some ⟨f i,0,none⟩)) ∧ w0.heap.size ≤ f i ∧ Off H (f i) ∧ w.heap[f i]? = some (.cells cs.toArray t (0,0))
 inj : ∀ i j t cs t' cs',i < j → j < m → ks[i]? = some (.b t cs) → ks[j]? = some (.b t' cs') → listed.getD i true = true → listed.getD j true = true → f i ≠ f j
def blkX (f : Nat → Nat) (listed : Array Bool) (ks : List Kn) (i : Nat) : Option Blk := match ks[i]? with
 | some (.b t cs) => if listed.getD i true then some ⟨f i,cs,t⟩ else none
 | _ => none
theorem blkX_some {f : Nat → Nat} {listed : Array Bool} {ks : List Kn} {i : Nat} {x : Blk} (h : blkX f listed ks i = some x) : ∃ t cs,ks[i]? = some (.b t cs) ∧ listed.getD i true = true ∧ x = ⟨f i,cs,t⟩ := by
 unfold blkX at h
 split at h
 ·rename_i t cs hk
  split at h
  ·rename_i hl;cases h;exact ⟨t,cs,hk,hl,rfl⟩
  ·cases h
 ·cases h
theorem apart_map {g : Nat → Option Blk} (n : Nat) (h : ∀ i j x y,i < j → j < n → g i = some x → g j = some y → x.b ≠ y.b) : Apart ((List.range n).reverse.filterMap g) := by
 induction n with
 | zero => trivial
 | succ n ih =>
  rw [List.range_succ,List.reverse_append,List.reverse_singleton,List.singleton_append,List.filterMap_cons]
  have ih := ih fun i j x y hij hj => h i j x y hij kc
  cases hg : g n with
  | none => exact ih
  | some x =>
   refine ⟨Off.of fun y hy => ?_,ih⟩
   obtain ⟨i,hi,hgi⟩ := List.mem_filterMap.1 hy
   exact h i n y x j1 kc hgi hg
def blksX (f : Nat → Nat) (listed : Array Bool) (ks : List Kn) (m : Nat) : List Blk := (List.range m).reverse.filterMap (blkX f listed ks)
theorem InvX.full {l : List Oper} {m N : Nat} {Γ : Env} {w0 : World} {H : List Blk} {ks : List Kn} {f : Nat → Nat} {listed : Array Bool} {a : Act} {w : World} (hml : m ≤ l.length) (h : InvX l m N Γ w0 H ks f listed a w) :
  NewX w0 (blksX f listed ks m) ∧ Hp w0 (H ++ blksX f listed ks m) w := by
 have key : ∀ x ∈ blksX f listed ks m,w0.heap.size ≤ x.b ∧ Off H x.b ∧ w.heap[x.b]? = some (.cells x.cs.toArray x.t (0,0)) := fun x hx => by
  obtain ⟨i,hi,hgi⟩ := List.mem_filterMap.1 hx
  obtain ⟨t,cs,hk,hl,rfl⟩ := blkX_some hgi
  have him : i < m := by simpa using hi
  obtain ⟨_,h2,h3,h4⟩ := h.ptr i _ t cs him (List.getElem?_eq_getElem kc) hk hl
  exact ⟨h2,h3,h4⟩
 refine ⟨fun x hx => (key x hx).1,⟨h.hp.upd.mono fun k hk hn ho => hn (off_left ho),Own.of fun x hx => ?_,apart_append h.hp.apart (fun x hx => (key x hx).2.1) (apart_map m fun i j x y hij hj hx hy => ?_)⟩⟩
 ·rcases List.mem_append.1 hx with hx | hx
  ·exact h.hp.own.at hx
  ·exact (key x hx).2.2
 ·obtain ⟨t,cs,hk,hl,rfl⟩ := blkX_some hx
  obtain ⟨t',cs',hk',hl',rfl⟩ := blkX_some hy
  exact h.inj i j t cs t' cs' hij hj hk hk' hl hl'
theorem mem_blksX {f : Nat → Nat} {listed : Array Bool} {ks : List Kn} {m i : Nat} {t : TypeId} {cs : List Value} (hi : i < m) (hk : ks[i]? = some (.b t cs)) (hl : listed.getD i true = true) : (⟨f i,cs,t⟩ : Blk) ∈ blksX f listed ks m :=
 List.mem_filterMap.2 ⟨i,by simpa using hi,by unfold blkX;rw [hk];simp only;rw [if_pos hl]⟩
def bagXB (l : List Oper) (N : Nat) (Γ : Env) : Nat → List Oper → Bool
 | _,[] => true
 | i,o :: rest => (match o.dst with | some d => Nat.blt d N && !(Γ.any fun p => Nat.beq p.1 d) && rest.all fun o' => !(Nat.beq (dstO o') d) | none => false) && o.after.toList.all (fun e => !(Region.binds .any e) || Nat.blt e.on i) && bagXB l N Γ (i + 1) rest
theorem bagXB_out {l : List Oper} {N : Nat} {Γ : Env} {k : Nat} {l' : List Oper} (h : bagXB l N Γ k l' = true) {i : Nat} {o : Oper} (hi : l'[i]? = some o) :
  o.dst = some (dstO o) ∧ dstO o < N ∧ (∀ t v,look Γ t = some v → t ≠ dstO o) ∧ (∀ e ∈ o.after.toList,Region.binds .any e = true → e.on < k + i) ∧ ∀ j o',i < j → l'[j]? = some o' → dstO o' ≠ dstO o := by
 induction l' generalizing k i with
 | nil => simp at hi
 | cons x rest ih =>
  simp only [bagXB,Bool.and_eq_true] at h
  obtain ⟨⟨h1,h2⟩,h3⟩ := h
  cases i with
  | zero =>
   simp only [List.getElem?_cons_zero,Option.some.injEq] at hi
   subst hi
   cases hd : x.dst with
   | none => rw [hd] at h1;cases h1
   | some d =>
    rw [hd] at h1
    simp only [Bool.and_eq_true,Bool.not_eq_true',List.all_eq_true] at h1
    obtain ⟨⟨h1,h4⟩,h5⟩ := h1
    have hx : dstO x = d := by simp [dstO,hd]
    rw [hx]
    refine ⟨rfl,Nat.le_of_ble_eq_true h1,fun t v ht e => ?_,fun e he hb => ?_,fun j o' hj ho' e => ?_⟩
    ·rw [← e,look_any ht] at h4;cases h4
    ·have := List.all_eq_true.1 h2 e he
     rw [hb,Bool.not_true,Bool.false_or] at this
     exact Nat.le_of_ble_eq_true this
    ·cases j with
     | zero => omega
     | succ j =>
      have := h5 o' (List.mem_of_getElem? (by simpa using ho'))
      rw [e] at this
      simp at this
  | succ i =>
   have := ih h3 (i := i) j1
   refine ⟨this.1,this.2.1,this.2.2.1,fun e he hb => by have := this.2.2.2.1 e he hb;omega,fun j o' hj ho' => ?_⟩
   cases j with
   | zero => omega
   | succ j => exact this.2.2.2.2 j o' kc (by simpa using ho')
theorem InvX.step {P : Program} {l : List Oper} {m N : Nat} {Γ : Env} {w0 : World} {H : List Blk} {ks : List Kn} {f : Nat → Nat} {Q : Exit → Act → World → Prop} {listed : Array Bool} {a : Act} {w : World} (hml : m ≤ l.length) (hc : bagXB l N Γ 0 (l.take m) = true)
  (hops : OpsX P l N Γ w0 H ks (l.take m) ks) (hi : InvX l m N Γ w0 H ks f listed a w) {i : Nat} (him : i < m) (hr : i ∈ Region.ready .any l.toArray listed) {K : Act → World → Prop}
  (hK : ∀ f' a' w',InvX l m N Γ w0 H ks f' (listed.setIfInBounds i true) a' w' → K a' w') : wpOp P l.toArray Q i K a w := by
 have hlt := ready_lt hr
 have hol : l[i]? = some l[i] := List.getElem?_eq_getElem hlt
 have hedges := ((ready_iff hol).1 hr).2
 have hunl := ((ready_iff hol).1 hr).1
 have ho : (l.take m)[i]? = some l[i] := by rw [List.getElem?_take_of_lt him];exact hol
 generalize l[i] = o at ho hol hedges
 have hoa : l.toArray[i]? = some o := by simpa using hol
 obtain ⟨hd,hdN,hΓ,hed,hlater⟩ := bagXB_out hc ho
 have hdst : ∀ j oj,j < m → l[j]? = some oj → i ≠ j → dstO oj ≠ dstO o := fun j oj hj hjo e => by
  have hjo' : (l.take m)[j]? = some oj := by rw [List.getElem?_take_of_lt hj];exact hjo
  rcases Nat.lt_or_gt_of_ne e with e | e
  ·exact hlater j oj e hjo'
  ·exact fun e' => (bagXB_out hc hjo').2.2.2.2 i o e ho e'.symm
 obtain ⟨hnew,hfull⟩ := hi.full hml
 have hdep : ∀ e ∈ o.after.toList,Region.binds .any e = true → ∀ x,ks[e.on]? = some (.v x) → a.tmps[dstAt l e.on]? = some x := fun e he hb x hx => by
  have h1 := hedges e (by simpa using he) hb
  have h2 := hed e he hb
  have h3 : l[e.on]? = some l[e.on] := List.getElem?_eq_getElem kc
  have := hi.val e.on _ x kc h3 hx (by
   simp only [Array.getD_eq_getD_getElem?] at h1 ⊢
   cases hx : listed[e.on]? with
   | none => rfl
   | some b => rw [hx] at h1;exact h1)
  unfold dstAt
  rw [h3]
  exact this
 have fin : ∀ (Post : Exit → Act → World → Prop),wpList P l.toArray Post [o] a w → (∀ e a' w',Post e a' w' → e = .normal) → (∀ a' w',Post .normal a' w' → (∃ v,a'.tmps = (a.put o.dst v).tmps) → K a' w') → wpOp P l.toArray Q i K a w := fun Post hwl hn key => by
  unfold wpOp
  simp only [hoa]
  simp only [wpList] at hwl
  split
  ·rename_i hw
   rw [if_pos hw] at hwl
   rcases hwl with h | ⟨_,x,y,h⟩
   ·have h1 := wp_only (fun _ _ _ h => hn _ _ _ h) (wp_tmps h)
    refine .inl ?_
    have h2 := Oper.wp_mono (fun a' w' hh => key a' w' hh.1 hh.2) h1
    unfold Oper.wp at *
    generalize (execOp a.eval o).run P w = r at *
    cases r with
    | ok n w' =>
     cases n <;> simp only [Oper.upon] at h2 ⊢
     case value u => exact h2
     case skip => exact h2
     case defer d => exact h2
     case enter f args => exact Calls.mono h2 (fun e w'' he => by cases e <;> first | exact he | exact he.elim | (obtain ⟨_,_,hf⟩ := he;exact hf.elim))
     case row row args => exact h2
    | halt x w' => cases x <;> simp only [Oper.upon] at h2
   ·cases hn _ _ _ h
  ·rename_i hw
   rw [if_neg hw] at hwl
   exact key _ _ hwl ⟨undef,rfl⟩
 have keepT : ∀ {a' : Act} {u : Value},a'.tmps = (a.put o.dst u).tmps → ∀ t,t ≠ dstO o → a'.tmps[t]? = a.tmps[t]? := fun {a' u} hu t ht => by
  rw [hd] at hu
  rw [hu]
  simp [Act.put,Array.getElem?_setIfInBounds_ne (Ne.symm ht)]
 rcases hops.out ho with ⟨x,hx,hW⟩ | ⟨t,cs,hx,hW⟩
 ·obtain ⟨Γ',hf',hW⟩ := (hW _ hnew).run hi.fr hdep
  refine fin _ (hW.elim a w hf' hfull) (fun _ _ _ h => h.1) ?_
  rintro a' w' ⟨_,hfr,hp'⟩ ⟨u,hu⟩
  have hne := keepT hu
  refine hK f a' w' ⟨⟨hfr.defers,hfr.size,fun t v ht => by rw [hne t (hΓ t v ht)];exact hi.fr.get t v ht⟩,hp_left hp' hnew,fun j oj y hj hjo hy hl => ?_,fun j oj t cs hj hjo hy hl => ?_,fun j k t cs t' cs' hjk hk hkj hkk hl hl' => ?_⟩
  ·by_cases e : i = j
   ·subst e
    rw [hol] at hjo
    cases hjo
    rw [hx] at hy
    cases hy
    exact hfr.get _ _ (by simp [look])
   ·rw [getD_set e] at hl
    rw [hne _ (hdst j oj hj hjo e)]
    exact hi.val j oj y hj hjo hy hl
  ·have e : i ≠ j := fun e => by subst e;rw [hx] at hy;cases hy
   rw [getD_set e] at hl
   obtain ⟨h1,h2,h3,_⟩ := hi.ptr j oj t cs hj hjo hy hl
   exact ⟨by rw [hne _ (hdst j oj hj hjo e)];exact h1,h2,h3,hp'.own.at (List.mem_append_right _ (mem_blksX hj hy hl))⟩
  ·have e : i ≠ j := fun e => by subst e;rw [hx] at hkj;cases hkj
   have e' : i ≠ k := fun e => by subst e;rw [hx] at hkk;cases hkk
   rw [getD_set e] at hl
   rw [getD_set e'] at hl'
   exact hi.inj j k t cs t' cs' hjk hk hkj hkk hl hl'
 ·refine fin _ ((hW _).elim a w hi.fr hfull) (fun _ _ _ h => h.1) ?_
  rintro a' w' ⟨_,c,hc0,hco,hfr,hp'⟩ ⟨u,hu⟩
  have hne := keepT hu
  have hnew' : NewX w0 (⟨c,cs,t⟩ :: blksX f listed ks m) := fun y hy => by
   rcases List.mem_cons.1 hy with rfl | hy
   ·exact hc0
   ·exact hnew y hy
  have hH : Hp w0 H w' := by
   have h1 : Hp w0 (H ++ (⟨c,cs,t⟩ :: blksX f listed ks m)) w' := by
    refine ⟨hp'.upd.mono fun k hk hn ho => hn ?_,Own.of fun x hx => hp'.own.at ?_,apart_append hi.hp.apart (fun x hx => ?_) ⟨off_right hco,?_⟩⟩
    ·have h1 := off_left ho
     have h2 := off_right ho
     exact ⟨h2.1,off_append h1 h2.2⟩
    ·rcases List.mem_append.1 hx with hx | hx
     ·exact .tail _ (List.mem_append_left _ hx)
     ·rcases List.mem_cons.1 hx with rfl | hx
      ·exact .head _
      ·exact .tail _ (List.mem_append_right _ hx)
    ·rcases List.mem_cons.1 hx with rfl | hx
     ·exact off_left hco
     ·have := hfull.apart
      have key : ∀ (H X : List Blk),Apart (H ++ X) → ∀ x ∈ X,Off H x.b := by
       intro H
       induction H with
       | nil => intros;trivial
       | cons y r ih => exact fun X h x hx => ⟨h.1.at (List.mem_append_right _ hx) |>.symm,ih X h.2 x hx⟩
      exact key H _ this x hx
    ·have := hfull.apart
     have key : ∀ (H X : List Blk),Apart (H ++ X) → Apart X := by
      intro H
      induction H with
      | nil => exact fun _ h => h
      | cons y r ih => exact fun X h => ih X h.2
     exact key H _ this
   exact hp_left h1 hnew'
  have hfi : ∀ j,i ≠ j → (if j = i then c else f j) = f j := fun j e => if_neg (fun e' => e e'.symm)
  have hoff : ∀ j t' cs',j < m → ks[j]? = some (.b t' cs') → listed.getD j true = true → f j ≠ c := fun j t' cs' hj hk hl => (off_right hco).at (mem_blksX hj hk hl)
  refine hK (fun k => if k = i then c else f k) a' w' ⟨⟨hfr.defers,hfr.size,fun t v ht => by rw [hne t (hΓ t v ht)];exact hi.fr.get t v ht⟩,hH,fun j oj y hj hjo hy hl => ?_,fun j oj t' cs' hj hjo hy hl => ?_,fun j k t1 cs1 t2 cs2 hjk hk hkj hkk hl hl' => ?_⟩
  ·have e : i ≠ j := fun e => by subst e;rw [hx] at hy;cases hy
   rw [getD_set e] at hl
   rw [hne _ (hdst j oj hj hjo e)]
   exact hi.val j oj y hj hjo hy hl
  ·by_cases e : i = j
   ·subst e
    rw [hol] at hjo
    cases hjo
    rw [hx] at hy
    cases hy
    simp only [if_true]
    exact ⟨hfr.get _ _ (by simp [look]),hc0,off_left hco,hp'.own.1⟩
   ·rw [getD_set e] at hl
    obtain ⟨h1,h2,h3,_⟩ := hi.ptr j oj t' cs' hj hjo hy hl
    rw [hfi j e]
    exact ⟨by rw [hne _ (hdst j oj hj hjo e)];exact h1,h2,h3,hp'.own.at (.tail _ (List.mem_append_right _ (mem_blksX hj hy hl)))⟩
  ·by_cases e : i = j
   ·subst e
    have e' : i ≠ k := by omega
    rw [getD_set e'] at hl'
    rw [hfi k e']
    simp only [if_true]
    exact fun h => hoff k _ _ hk hkk hl' h.symm
   ·by_cases e' : i = k
    ·subst e'
     rw [getD_set e] at hl
     rw [hfi j e]
     simp only [if_true]
     exact hoff j _ _ kc hkj hl
    ·rw [getD_set e] at hl
     rw [getD_set e'] at hl'
     rw [hfi j e,hfi k e']
     exact hi.inj j k _ _ _ _ hjk hk hkj hkk hl hl'
def chainX (l : List Oper) (m : Nat) : Bool := (Nat.beq m l.length && l.all (fun o => o.dst.isSome) && (List.range l.length).all (fun i => match l[i]? with | some o => o.after.toList.all (fun e => !(Region.binds .any e) || Nat.blt e.on i) | none => true)) || chainB l m
theorem countF (n : Nat) : ∀ (x : Array Bool) (k : Nat),k ≤ x.size → (∀ j,j < k → x.getD j true = true) → (∀ j,k ≤ j → j < x.size → x.getD j true = false) → x.toList.count false = x.size - k := by
 intro x k hk h1 h2
 obtain ⟨l⟩ := x
 simp only [List.size_toArray] at hk h2 ⊢
 have e : l = List.replicate k true ++ List.replicate (l.length - k) false := by
  apply List.ext_getElem
  ·simp;omega
  ·intro i hi1 hi2
   rw [List.getElem_append]
   split
   ·rename_i h
    have := h1 i qz
    simpa [Array.getD_eq_getD_getElem?,hi1] using this
   ·rename_i h
    have := h2 i qz hi1
    simpa [Array.getD_eq_getD_getElem?,hi1] using this
 rw [e]
 simp [List.count_append,List.count_replicate]
theorem bagX_run {P : Program} {l : List Oper} {m N : Nat} {Γ : Env} {w0 : World} {H : List Blk} {ks : List Kn} {Q : Exit → Act → World → Prop} (hch : chainX l m = true) (hc : bagXB l N Γ 0 (l.take m) = true)
  (hops : OpsX P l N Γ w0 H ks (l.take m) ks) (hend : ∀ f listed a w,(∀ j,j < m → listed.getD j true = true) → InvX l m N Γ w0 H ks f listed a w → wpList P l.toArray Q (l.drop m) a w) :
  ∀ n (listed : Array Bool) f a w,listed.size = l.length → listed.toList.count false = n → InvX l m N Γ w0 H ks f listed a w →
   (∀ j o,l[j]? = some o → listed.getD j true = true → ∀ e ∈ o.after.toList,Region.binds .any e = true → listed.getD e.on false = true) → (∀ j,m ≤ j → j < l.length → listed.getD j true = false) → wpAny P .any l.toArray Q n listed a w := by
 have hback : m ≤ l.length ∧ (∀ (i : Nat) (o : Oper),l[i]? = some o → ∀ e ∈ o.after.toList,Region.binds .any e = true → e.on < i) ∧ (m < l.length → Chain l m) := by
  unfold chainX at hch
  rw [Bool.or_eq_true] at hch
  rcases hch with h | h
  ·rw [Bool.and_eq_true] at h
   rw [Bool.and_eq_true] at h
   have := Nat.eq_of_beq_eq_true h.1.1
   refine ⟨by omega,fun i o ho e he hb => ?_,fun hl => by omega⟩
   have hil := (List.getElem?_eq_some_iff.1 ho).1
   have := List.all_eq_true.1 h.2 i (List.mem_range.2 hil)
   rw [ho] at this
   have := List.all_eq_true.1 this e he
   rw [hb,Bool.not_true,Bool.false_or] at this
   exact Nat.le_of_ble_eq_true this
  ·have := chainB_out h
   exact ⟨Nat.le_of_lt this.lt,this.back,fun _ => this⟩
 obtain ⟨hml,hbk,hch⟩ := hback
 intro n
 induction n with
 | zero =>
  intro listed f a w hsz hn hi hdown hun
  have hcn : ∀ j,j < l.length → listed.getD j true = true := fun j hj => by
   have h2 : false ∉ listed.toList := List.count_eq_zero.1 hn
   cases e : listed.getD j true with
   | true => rfl
   | false =>
    rw [Array.getD_eq_getD_getElem?,Array.getElem?_eq_getElem kc] at e
    have h3 : listed[j]'(by omega) ∈ listed.toList := by simp
    have e' : listed[j]'(by omega) = false := e
    rw [e'] at h3
    exact (h2 h3).elim
  have hmeq : m = l.length := by
   rcases Nat.lt_or_ge m l.length with h | h
   ·have h1 := hun m (Nat.le_refl _) h
    rw [hcn m h] at h1
    cases h1
   ·omega
  have hall : ∀ j,j < m → listed.getD j true = true := fun j hj => hcn j kc
  have hr : Region.ready .any l.toArray listed = [] := by
   rw [List.eq_nil_iff_forall_not_mem]
   intro i hi'
   have hil := ready_lt hi'
   have := ((ready_iff (List.getElem?_eq_getElem hil)).1 hi').1
   rw [hcn i hil] at this
   cases this
  refine ⟨hr,?_⟩
  have := hend f listed a w hall hi
  rw [hmeq,List.drop_length] at this
  exact this
 | succ n ih =>
  intro listed f a w hsz hn hi hdown hun
  have hcount : ∀ i,i < l.length → listed.getD i true = false → (listed.setIfInBounds i true).toList.count false = n := fun i hil h => by
   have hm' : i < listed.size := by omega
   have h3 : listed[i] = false := by
    rw [Array.getD_eq_getD_getElem?,Array.getElem?_eq_getElem hm'] at h
    exact h
   rw [Array.toList_setIfInBounds,List.count_set (by simpa using hm')]
   simp [h3,hn]
  by_cases hall : ∀ j,j < m → listed.getD j true = true
  ·have hlt : m < l.length := by
    have := countF 0 listed m kc hall (fun j h1 h2 => hun j h1 kc)
    omega
   have hch := hch hlt
   refine tail_run hch (l.drop m) m rfl (Nat.le_refl _) (n + 1) listed a w hsz (fun j hj _ => hall j hj) hun ?_ (hend f listed a w hall hi)
   have h := countF 0 listed m kc hall (fun j h1 h2 => hun j h1 kc)
   rw [hn,hsz] at h
   exact h
  ·have hex : ∃ j,j < m ∧ listed.getD j true = false ∧ ∀ i,i < j → listed.getD i true = true := by
    have key : ∀ k,k ≤ m → (∀ j,j < k → listed.getD j true = true) ∨ ∃ j,j < m ∧ listed.getD j true = false ∧ ∀ i,i < j → listed.getD i true = true := by
     intro k
     induction k with
     | zero => exact fun _ => .inl fun j hj => by omega
     | succ k ihk =>
      intro hk
      rcases ihk kc with h | h
      ·cases hl : listed.getD k true
       ·exact .inr ⟨k,by omega,hl,h⟩
       ·refine .inl fun j hj => ?_
        rcases Nat.lt_succ_iff_lt_or_eq.1 hj with hj | hj
        ·exact h j hj
        ·subst hj;exact hl
      ·exact .inr h
    exact (key m (Nat.le_refl _)).elim (fun h => (hall h).elim) id
   refine ⟨fun hr => ?_,fun i hr => ?_⟩
   ·obtain ⟨j,hjm,hj,hbefore⟩ := hex
    have ho : l[j]? = some l[j] := List.getElem?_eq_getElem kc
    have : j ∈ Region.ready .any l.toArray listed := (ready_iff ho).2 ⟨hj,fun e he hb => by
     have := hbk j _ ho e he hb
     rw [← getD_tf kc]
     exact hbefore e.on this⟩
    rw [hr] at this
    cases this
   ·have hil := ready_lt hr
    have hio := (ready_iff (List.getElem?_eq_getElem hil)).1 hr
    have him : i < m := by
     rcases Nat.lt_or_ge i m with h | h
     ·exact h
     ·exfalso
      have hch := hch kc
      rcases Nat.lt_or_eq_of_le h with h | h
      ·obtain ⟨e,he,he1,he2⟩ := hch.next i _ h (List.getElem?_eq_getElem hil)
       have := hio.2 e he he2
       rw [← getD_tf kc,he1,hun (i - 1) kc kc] at this
       cases this
      ·subst h
       refine hall ?_
       have key : ∀ d j,j < m → m - j ≤ d → listed.getD j true = true := by
        intro d
        induction d with
        | zero => intro j h1 h2;omega
        | succ d ihd =>
         intro j hj hd
         obtain ⟨x,o,h1,h2,ho,e,he,he1,he2⟩ := hch.pre j hj
         rcases Nat.lt_or_eq_of_le h2 with h2 | h2
         ·have := hdown x o ho (ihd x h2 kc) e he he2
          rw [← getD_tf kc,he1] at this
          exact this
         ·subst h2
          have hox := List.getElem?_eq_getElem hil
          rw [ho] at hox
          cases hox
          have := hio.2 e he he2
          rw [← getD_tf kc,he1] at this
          exact this
       exact fun j hj => key m j hj kc
    refine hi.step hml hc hops him hr fun f' a' w' hi' => ih _ f' a' w' (by simp [hsz]) (hcount i hil hio.1) hi' (fun j o ho hl e he hb => ?_) (fun j hj hjl => ?_)
    ·have hjl := (List.getElem?_eq_some_iff.1 ho).1
     have hej := hbk j o ho e he hb
     have hlist : listed.getD e.on false = true := by
      by_cases e' : i = j
      ·subst e'
       have hox := List.getElem?_eq_getElem hil
       rw [ho] at hox
       cases hox
       exact hio.2 e he hb
      ·rw [getD_set e'] at hl
       exact hdown j o ho hl e he hb
     rw [← getD_tf zi]
     by_cases e' : i = e.on
     ·rw [e'];simp [Array.getD_eq_getD_getElem?,hsz];try omega
     ·rw [getD_set e',getD_tf kc];exact hlist
    ·rw [getD_set kc];exact hun j hj hjl
theorem EndX.run {kp : Nat → Bool} {w0 : World} {H : List Blk} {K : Env → List Blk → Prop} {l : List Oper} {m N : Nat} {Γ0 : Env} {ks : List Kn} {f : Nat → Nat} {listed : Array Bool} {a : Act} {w : World} (hml : m ≤ l.length) (hi : InvX l m N Γ0 w0 H ks f listed a w) (hall : ∀ j,j < m → listed.getD j true = true) :
  ∀ (l' : List Oper) (ks' : List Kn) (i : Nat) (Γ : Env) (B : List Blk),l' = (l.take m).drop i → ks' = ks.drop i → i ≤ m → ks.length = m → Fr N a Γ → B = blksX f listed ks i → EndX kp w0 H K l' ks' i Γ B →
   ∃ Γ',Fr N a Γ' ∧ K Γ' (blksX f listed ks m) := by
 intro l'
 induction l' with
 | nil =>
  intro ks' i Γ B hl hk him hkl hf hB h
  have h1 : (l.take m).length ≤ i := by simpa using hl.symm
  rw [List.length_take] at h1
  have : i = m := by omega
  subst this
  subst hB
  cases ks' <;> exact ⟨Γ,hf,h⟩
 | cons o os ih =>
  intro ks' i Γ B hl hk him hkl hf hB h
  have hlt : i < m := by
   rcases Nat.lt_or_ge i m with h' | h'
   ·exact h'
   ·rw [List.drop_eq_nil_of_le qs] at hl;cases hl
  have hol : l[i]? = some o := by
   have := List.getElem?_drop (xs := l.take m) (i := i) (j := 0)
   rw [← hl,List.getElem?_take_of_lt kc] at this
   simpa using this.symm
  have hos : os = (l.take m).drop (i + 1) := by rw [← List.drop_drop,← hl];rfl
  have hki : ks[i]? = some (ks[i]'(by omega)) := List.getElem?_eq_getElem kc
  rw [List.drop_eq_getElem_cons kc] at hk
  have bstep : blksX f listed ks (i + 1) = (match blkX f listed ks i with | some x => x :: blksX f listed ks i | none => blksX f listed ks i) := by
   unfold blksX
   rw [List.range_succ,List.reverse_append,List.reverse_singleton,List.singleton_append,List.filterMap_cons]
   cases blkX f listed ks i <;> rfl
  generalize ks[i]'(by omega) = k at hk hki
  subst hk
  cases k with
  | v x =>
   have hv := hi.val i o x hlt hol hki (hall i hlt)
   refine ih (ks.drop (i + 1)) (i + 1) _ B hos rfl kc hkl ?_ ?_ h
   ·cases kp i
    ·exact hf
    ·exact hf.cons hv
   ·rw [bstep,hB]
    unfold blkX
    rw [hki]
  | b t cs =>
   obtain ⟨h1,h2,h3,h4⟩ := hi.ptr i o t cs hlt hol hki (hall i hlt)
   have hoff : Off B (f i) := by
    rw [hB]
    refine Off.of fun x hx => ?_
    obtain ⟨j,hj,hg⟩ := List.mem_filterMap.1 hx
    obtain ⟨t',cs',hk',hl',rfl⟩ := blkX_some hg
    exact hi.inj j i _ _ _ _ (by simpa using hj) hlt hk' hki hl' (hall i hlt)
   refine ih (ks.drop (i + 1)) (i + 1) _ (⟨f i,cs,t⟩ :: B) hos rfl kc hkl (hf.cons h1) ?_ (h (f i) h2 (off_append hoff h3))
   rw [bstep,hB]
   unfold blkX
   rw [hki]
   simp only [hall i hlt,if_true]
theorem hp_swap {w0 w : World} {H X : List Blk} (h : Hp w0 (H ++ X) w) : Hp w0 (X ++ H) w := by
 refine ⟨h.upd.mono fun k hk hn ho => hn (off_append (off_right ho) (off_left ho)),Own.of fun x hx => h.own.at (List.mem_append.2 (List.mem_append.1 hx).symm),?_⟩
 have key : ∀ (H X : List Blk),Apart (H ++ X) → Apart X ∧ Apart H ∧ ∀ x ∈ H,Off X x.b := by
  intro H
  induction H with
  | nil => exact fun X h => ⟨h,trivial,fun _ h => nomatch h⟩
  | cons y r ih =>
    intro X h
    obtain ⟨h1,h2,h3⟩ := ih X h.2
    refine ⟨h1,⟨off_left h.1,h2⟩,fun x hx => ?_⟩
    rcases List.mem_cons.1 hx with rfl | hx
    ·exact off_right h.1
    ·exact h3 x hx
 obtain ⟨h1,h2,h3⟩ := key H X h.apart
 exact apart_append h1 h3 h2
section
variable {P : Program} {N : Nat} {Γ : Env} {C : World → Prop} {Q : Exit → Act → World → Prop}
theorem St.bagX {i : Nat} {l : List Oper} {w0 : World} {H : List Blk} {ks : List Kn} (m : Nat) (sel : List Nat) (hm : P.follows .mixedOrders = true) (hch : chainX l m = true) (hc : bagXB l N Γ 0 (l.take m) = true)
  (hops : OpsX P l N Γ w0 H ks (l.take m) ks)
  (hend : EndX (keepX sel (l.drop m)) w0 H (fun Γ' B => Wl (l.drop m) P .seq l.toArray N Γ' (Hp w0 (B ++ H)) Q) (l.take m) ks 0 Γ []) : St (.region i l.toArray true) P N Γ (Hp w0 H) Q := St.intro fun a w ha hw => by
 have hml : m ≤ l.length := by
  have := hops.len
  unfold chainX at hch
  rw [Bool.or_eq_true] at hch
  rcases hch with h | h
  ·rw [Bool.and_eq_true,Bool.and_eq_true] at h
   have := Nat.eq_of_beq_eq_true h.1.1
   omega
  ·exact Nat.le_of_lt (chainB_out h).lt
 refine wp_region_any hm ?_
 have := bagX_run (Q := Q) hch hc hops (fun f listed a w hall hi => by
  obtain ⟨Γ',hf,hK⟩ := EndX.run hml hi hall _ _ 0 Γ [] rfl rfl (Nat.zero_le _) (by rw [hops.len,List.length_take];omega) hi.fr (by simp [blksX]) hend
  exact hK.elim a w hf (hp_swap (hi.full hml).2)) l.length (Array.replicate l.length false) (fun _ => 0) a w.drew zd (by simp [List.count_replicate])
  ⟨ha,hw.drew,fun i o x hi ho _ hl => by
   have h1 := (List.getElem?_eq_some_iff.1 ho).1
   simp [Array.getD_eq_getD_getElem?,h1] at hl,fun i o t cs hi ho _ hl => by
   have h1 := (List.getElem?_eq_some_iff.1 ho).1
   simp [Array.getD_eq_getD_getElem?,h1] at hl,fun i j t cs t' cs' _ hj _ _ _ hl => by
   have h1 : j < l.length := by omega
   simp [Array.getD_eq_getD_getElem?,h1] at hl⟩ (fun j o ho hl => by
   have h1 := (List.getElem?_eq_some_iff.1 ho).1
   simp [Array.getD_eq_getD_getElem?,h1] at hl) (fun j _ hjl => by simp [Array.getD_eq_getD_getElem?,hjl])
 simpa using this
inductive CleanX (l : List Oper) : Env → Env → Prop
 | nil : CleanX l [] []
 | skip {t : Nat} {v : Value} {r r' : Env} (h : (l.any fun o => match o.dst with | some d => Nat.beq d t | none => false) = true) (hs : CleanX l r r') : CleanX l ((t,v) :: r) r'
 | keep {t : Nat} {v : Value} {r r' : Env} (h : (l.any fun o => match o.dst with | some d => Nat.beq d t | none => false) = false) (hs : CleanX l r r') : CleanX l ((t,v) :: r) ((t,v) :: r')
theorem CleanX.look {l : List Oper} {Γ' : Env} (h : CleanX l Γ Γ') {t : Nat} {v : Value} (hl : look Γ' t = some v) : (l.any fun o => match o.dst with | some d => Nat.beq d t | none => false) = false ∧ look Γ t = some v := by
 induction h with
 | nil => cases hl
 | @skip d u r r' h hs ih =>
  obtain ⟨h1,h2⟩ := ih hl
  refine ⟨h1,?_⟩
  simp only [Pt.look]
  have : t ≠ d := fun e => by subst e;rw [h] at h1;cases h1
  rw [beqFalse this]
  exact h2
 | @keep d u r r' h hs ih =>
  simp only [Pt.look] at hl ⊢
  by_cases e : t = d
  ·subst e
   simp at hl
   subst hl
   exact ⟨h,by simp⟩
  ·rw [beqFalse e] at hl ⊢
   exact ih hl
theorem St.bagXc {Γ' : Env} {i : Nat} {l : List Oper} {w0 : World} {H : List Blk} {ks : List Kn} (m : Nat) (sel : List Nat) (hm : P.follows .mixedOrders = true) (hch : chainX l m = true) (hcl : CleanX l Γ Γ') (hc : bagXB l N Γ' 0 (l.take m) = true)
  (hops : OpsX P l N Γ' w0 H ks (l.take m) ks)
  (hend : EndX (keepX sel (l.drop m)) w0 H (fun Γ' B => Wl (l.drop m) P .seq l.toArray N Γ' (Hp w0 (B ++ H)) Q) (l.take m) ks 0 Γ' []) : St (.region i l.toArray true) P N Γ (Hp w0 H) Q := St.intro fun a w ha hw =>
 (St.bagX m sel hm hch hc hops hend).elim a w ⟨ha.defers,ha.size,fun t v ht => ha.get t v (hcl.look ht).2⟩ hw
theorem Gt.endX {d : Nat} {x : Value} (hv : look Γ d = some x) : Gt N .normal Γ C (PostX N d x C) := Gt.intro fun a w ha hw => ⟨rfl,ha.sub (.cons hv .nil),hw⟩
theorem EndX.nil' {kp : Nat → Bool} {w0 : World} {H : List Blk} {K : Env → List Blk → Prop} {ks : List Kn} {i : Nat} {B : List Blk} (h : K Γ B) : EndX kp w0 H K [] ks i Γ B := by
 cases ks <;> exact h
theorem EndX.on {kp : Nat → Bool} {w0 : World} {H : List Blk} {K : Env → List Blk → Prop} {ks : List Kn} {i d : Nat} {op : Op} {ty : TypeId} {pos : String} {af : Array Edge} {g : Option (Nat × Bool)} {os : List Oper} {x : Value} {B : List Blk} (hk : kp i = true) (h : EndX kp w0 H K os ks (i + 1) ((d,x) :: Γ) B) : EndX kp w0 H K (⟨some d,op,ty,pos,af,g⟩ :: os) (.v x :: ks) i Γ B := by
 unfold EndX;rw [hk];exact h
theorem EndX.off {kp : Nat → Bool} {w0 : World} {H : List Blk} {K : Env → List Blk → Prop} {ks : List Kn} {i : Nat} {o : Oper} {os : List Oper} {x : Value} {B : List Blk} (hk : kp i = false) (h : EndX kp w0 H K os ks (i + 1) Γ B) : EndX kp w0 H K (o :: os) (.v x :: ks) i Γ B := by
 unfold EndX;rw [hk];exact h
inductive CatB : List Blk → List Blk → List Blk → Prop
 | nil {H : List Blk} : CatB [] H H
 | cons {x : Blk} {B H R : List Blk} (h : CatB B H R) : CatB (x :: B) H (x :: R)
theorem CatB.out {B H R : List Blk} (h : CatB B H R) : R = B ++ H := by
 induction h with
 | nil => rfl
 | cons _ ih => rw [ih];rfl
theorem Wl.catX {ops : Array Oper} {w0 : World} {l : List Oper} {B H R : List Blk} {dd : Nat} {x : Value} (e : CatB B H R) (h : Wl l P .seq ops N Γ (Hp w0 R) (PostX N dd x (Hp w0 R))) : Wl l P .seq ops N Γ (Hp w0 (B ++ H)) (PostX N dd x (Hp w0 (B ++ H))) := by
 rw [e.out] at h;exact h
theorem Wl.catE {ops : Array Oper} {w0 : World} {l : List Oper} {B H R : List Blk} (e : CatB B H R) (h : Wl l P .seq ops N Γ (Hp w0 R) Q) : Wl l P .seq ops N Γ (Hp w0 (B ++ H)) Q := by
 rw [e.out] at h;exact h
theorem NewX.off {w0 : World} {X : List Blk} {b : Nat} (h : NewX w0 X) (hb : b < w0.heap.size) : Off X b := Off.of fun x hx e => by have := h x hx;omega
end
attribute [irreducible] EndX
end Go.Pt
end
section
namespace Go.Proofs.YtabbklpalbikdaaGreatDoor
open Go.RowKit Go.Pt
def inM (a n : Int) : Prop := 2147483648 ≤ a ∧ a + n ≤ 2147483648 + 65536
def U32 (x : Int) : Prop := 0 ≤ x ∧ x ≤ 4294967295
instance (x : Int) : Decidable (U32 x) := by unfold U32;infer_instance
def leB : Nat → Nat → List UInt8
 | 0,_ => []
 | n + 1,x => UInt8.ofNat (x % 256) :: leB n (x / 256)
theorem leB_length (n x : Nat) : (leB n x).length = n := by
 induction n generalizing x with
 | zero => rfl
 | succ n ih => simp [leB,ih]
theorem leN_leB (n x : Nat) : leN (leB n x) = x % 256 ^ n := by
 induction n generalizing x with
 | zero => simp [leB,leN,Nat.mod_one]
 | succ n ih =>
  simp only [leB,leN,ih]
  have : (UInt8.ofNat (x % 256)).toNat = x % 256 := by simp
  rw [this,Nat.pow_succ,Nat.mul_comm (256 ^ n) 256,Nat.mod_mul]
def Bo (w : World) (base : Nat) (v : Value) (l : List UInt8) : Prop := w.ownsRow base 5 1 v l.length (byteCells l)
theorem Bo.nil (w : World) (base : Nat) : Bo w base (.slice none 0 0) [] := World.ownsRow_nil w base 5 1
theorem Bo.bs {w : World} {base : Nat} {v : Value} {l : List UInt8} (h : Bo w base v l) : Bs w v l := Sv.ofOwn h
theorem Bo.shape {w : World} {base : Nat} {v : Value} {l : List UInt8} (h : Bo w base v l) : ∃ a cap,v = .slice a l.length cap ∧ l.length ≤ cap ∧ cap ≤ maxLen := h.bs.shape
theorem Bo.base {w : World} {base : Nat} {v : Value} {l : List UInt8} (h : Bo w base v l) {k : Nat} (hk : v.ownBlock = some k) : base ≤ k := (h.lt k hk).1
theorem Bo.upd {S : Nat → Prop} {w w' : World} {base : Nat} {v : Value} {l : List UInt8} (h : Bo w base v l) (u : Upd S w w') (hs : ∀ k,v.ownBlock = some k → ¬ S k) : Bo w' base v l := ownsRow_upd h u hs
theorem Bo.of {w : World} {base : Nat} {v : Value} {l m : List UInt8} {n : Nat} {cs : List Value} (h : w.ownsRow base 5 1 v n (byteCells l ++ cs)) (hn : n = l.length + m.length) (hc : cs = byteCells m) : Bo w base v (l ++ m) := by
 unfold Bo
 subst hc
 rw [List.length_append,← hn]
 simpa [byteCells] using h
theorem byteCells_all (l : List UInt8) : (byteCells l).all Value.oneCell' = true := by
 rw [List.all_eq_true]
 intro x hx
 simp only [byteCells,List.mem_map] at hx
 obtain ⟨c,_,rfl⟩ := hx
 rfl
theorem u8_cell (x : Int) : (Value.int .u8 (IntKind.u8.wrap x)) = .int .u8 ((UInt8.ofNat (x % 256).toNat).toNat : Int) := by
 congr 1
 rw [IntKind.wrap_u8]
 simp
 omega
theorem wrap8 (x : Int) : IntKind.u8.wrap x = ((UInt8.ofNat (x % 256).toNat).toNat : Int) := by
 rw [IntKind.wrap_u8];simp;omega
def Is (k : IntKind) (w : World) (v : Value) (l : List Int) : Prop := Sv w 1 l.length v (l.map (Value.int k))
theorem Is.upd {k : IntKind} {S : Nat → Prop} {w w' : World} {v : Value} {l : List Int} (h : Is k w v l) (u : Upd S w w') (hs : ∀ b,v.ownBlock = some b → b < w.heap.size → l ≠ [] → ¬ S b) : Is k w' v l :=
 Sv.upd h u fun b h1 h2 h3 => hs b h1 h2 (by simpa using h3)
theorem Is.shape {k : IntKind} {w : World} {v : Value} {l : List Int} (h : Is k w v l) : ∃ a cap,v = .slice a l.length cap ∧ l.length ≤ cap ∧ cap ≤ maxLen := by
 obtain ⟨_,a,cap,h1,h2,h3,_,_⟩ := h;exact ⟨a,cap,h1,h2,h3⟩
theorem Is.cells {k : IntKind} {w : World} {a : Option Addr} {n cap : Nat} {l : List Int} (h : Is k w (.slice a n cap) l) (hne : l ≠ []) :
  ∃ b off,a = some ⟨b,off,none⟩ ∧ ∀ i (hi : i < l.length),w.cell? ⟨b,off + i,none⟩ = some (.int k l[i]) := by
 obtain ⟨_,a',cap',h1,_,_,_,h3⟩ := h
 cases h1
 obtain ⟨b,off,rfl,hc⟩ := h3 (by simpa using hne)
 refine ⟨b,off,rfl,fun i hi => ?_⟩
 have := hc i j1
 simpa using this
end Go.Proofs.YtabbklpalbikdaaGreatDoor
end
section
namespace Go.Pt
open Go.RowKit
def MapB (P : Program) (k e : TypeId) (w : World) (b n : Nat) : Prop := ∃ D : DataW Unit,w.ownsMap P k (plainElem P e) b n D
theorem MapB.upd {P : Program} {k e : TypeId} {w w' : World} {b n : Nat} {S : Nat → Prop} (h : MapB P k e w b n) (u : Upd S w w') (hs : ¬ S b) : MapB P k e w' b n := by
 obtain ⟨D,es,clock,hb,r⟩ := h
 exact ⟨D,es,clock,u.heap hb hs,r⟩
theorem MapB.lt {P : Program} {k e : TypeId} {w : World} {b n : Nat} (h : MapB P k e w b n) : b < w.heap.size := by
 obtain ⟨D,h1⟩ := h
 exact h1.lt
section
variable {P : Program} {N : Nat} {ops : Array Oper} {rest : List Oper} {Γ : Env} {Q : Exit → Act → World → Prop} {d : Nat} {ty mt k e : TypeId} {pos : String} {af : Array Edge} {w0 : World} {H : List Blk}
theorem Wl.makeMapB (hd : Nat.blt d N = true)
  (h : ∀ b w1,w0.heap.size ≤ b → MapB P k e w1 b 0 → Upd (fun j => ¬ Off H j) w0 w1 → Off H b → Wl rest P .seq ops N ((d,.map (some b)) :: Γ) (Hp w1 H) Q) :
  Wl (⟨some d,.makeMap mt none,ty,pos,af,none⟩ :: rest) P .seq ops N Γ (Hp w0 H) Q :=
 Wl.eff fun a w ha hw => by
  have u : Upd (fun _ => False) w (w.alloc (.map #[] 0)) := Upd.alloc _ _ _
  refine ⟨.map (some w.heap.size),w.alloc (.map #[] 0),.inl ?_,(h w.heap.size _ hw.upd.size ⟨_,World.ownsMap_made w P k _⟩ (hw.upd.trans (Upd.alloc _ _ _)) (Off.lt hw.own)).elim _ _ (ha.put hd _) ⟨Upd.refl _ _,hw.own.upd u fun _ _ h => h,hw.apart⟩⟩
  simp [execOp,run_makeMap,Option.map]
theorem Wl.storeMB {m x y : Operand} {b n : Nat} {t v : Int} [ht : TyD P mt (.map k e)] [hk : TyD P k (.int .i64)] [he : TyD P e (.int .u8)]
  (hm : ev Γ m = some (.map (some b))) (hx : ev Γ x = some (.int .i64 t)) (hy : ev Γ y = some (.int .u8 v)) (hlt : I64 t) (hvt : (Lit.int .u8 v).wf = true) (hn : n < maxLen) (hown : MapB P k e w0 b n) (ho : Off H b)
  (h : ∀ w1,MapB P k e w1 b (n + 1) → Upd (fun j => j = b ∨ ¬ Off H j) w0 w1 → Wl rest P .seq ops N Γ (Hp w1 H) Q) :
  Wl (⟨none,.mapUpdate mt m x y,ty,pos,af,none⟩ :: rest) P .seq ops N Γ (Hp w0 H) Q :=
 Wl.eff fun a w ha hw => by
  obtain ⟨D,h1⟩ := hown.upd hw.upd fun y => y ho
  obtain ⟨w',hr,h3,hg⟩ := h1.update (Maps.int_keyed hk.out) ht.out hn (keyOf64 hlt) (plainElem_int he.out hvt)
  have u : Upd (fun j => j = b) w w' := Upd.grown hg fun k hk => by cases hk;rfl
  refine ⟨undef,w',.inr ⟨?_,rfl⟩,(h w' ⟨_,h3⟩ ((hw.upd.mono fun _ _ y => .inr y).trans (u.mono fun _ _ y => .inl y))).elim _ _ (ha.put0 _) ⟨Upd.refl _ _,hw.own.upd u fun y hy e => ?_,hw.apart⟩⟩
  ·simp [execOp,ha.ev hm,ha.ev hx,ha.ev hy,hr]
  ·exact ho.at hy e
end
end Go.Pt
namespace Go.Proofs.YtabbklpalbikdaaGreatDoor
open Go.RowKit Go.Pt
def RM (w : World) (c b n : Nat) : Prop := w.heap[c]? = some (.cells #[.map (some b)] 178 (0,0)) ∧ MapB Tryz.prog 3 5 w b n
theorem RM.upd {w w' : World} {c b n : Nat} {S : Nat → Prop} (h : RM w c b n) (u : Upd S w w') (h1 : ¬ S c) (h2 : ¬ S b) : RM w' c b n := ⟨u.heap h.1 h1,h.2.upd u h2⟩
theorem RM.lt {w : World} {c b n : Nat} (h : RM w c b n) : c < w.heap.size ∧ b < w.heap.size := ⟨lt_of_block h.1,h.2.lt⟩
theorem ramNew (w : World) : Calls Tryz.prog 50 #[] w fun e w' => ∃ c b,e = .returned (.pointer (some ⟨c,0,none⟩)) ∧ RM w' c b 0 ∧ w.heap.size ≤ b ∧ b < c ∧ Upd (fun k => w.heap.size ≤ k) w w' := by
 refine enter (args := []) (Γ := []) Tryz.func50 Tryz.ntmps50 rfl odq .nil ?_
 repeat' first | refine Wl.assign rfl rfl ?_ | apply Wl.nil | apply St.seq | apply St.region | apply Gt.next
 apply Wl.makeMapB (k := 3) (e := 5)
 ·exact rfl
 intro b w1 hb hM hu _
 have s1 := hu.size
 have hbl := hM.lt
 repeat' first | refine Wl.assign rfl rfl ?_ | (apply Wl.buildS;exact rfl;exact kj;exact ka) | (apply Wl.boxA;exact rfl;exact rfl;intro c hc ho) | apply Wl.nil | apply St.ret | apply Gt.next | (apply Gt.out1;exact rfl;exact rfl;intro w' hp)
 refine ⟨_,_,rfl,⟨hp.own.at (.head _),hM.upd hp.upd fun y => y ⟨by simp only;omega,trivial⟩⟩,hb,by omega,hu.comp hp.upd fun k hk hs => ?_⟩
 rcases hs with y | y
 ·exact (y trivial).elim
 ·exact Classical.byContradiction fun hn => y ⟨fun e => by simp only at e;omega,trivial⟩
theorem refHas (a n : Int) (w : World) (ha : -1000000 ≤ a ∧ a ≤ 4294967296000) (hn : 0 ≤ n ∧ n ≤ 8) : Calls Tryz.prog 105 #[.int .i64 a,.int .i64 n] w fun e w' => (∃ z : Bool,e = .returned (.bool z)) ∧ Hp w [] w' := by
 refine enter (args := [_,_]) (Γ := [(0,_),(1,_)]) Tryz.func105 Tryz.ntmps105 rfl odq (.cons rfl (.cons rfl .nil)) ?_
 repeat' first | refine Wl.move rfl rfl ?_ | refine Wl.assign rfl rfl ?_ | (apply Wl.on;exact rfl;exact rfl;exact k5) | (apply Wl.off;exact rfl;exact rfl;exact rfl;exact kh) | (apply Wl.pickT;exact rfl;exact rfl;exact k5;exact rfl) | (apply Wl.pickF;exact rfl;exact rfl;exact k5;exact rfl) | refine Wl.leq rfl rfl rfl ?_ | refine Wl.geq rfl rfl rfl ?_ | (refine Wl.addI rfl rfl rfl ?_ ?_;constructor <;> omega) | apply Wl.nil | apply St.seq | apply St.region | apply St.ret | apply Gt.next | (apply Gt.out1;exact rfl;exact rfl;intro w' hp) | (apply Wl.splitP;exact rfl;exact rfl;all_goals (intros;try (exfalso;omega)))
 all_goals exact ⟨⟨_,rfl⟩,hp⟩
theorem ramPut (c b n : Nat) (at_ : Int) (v : Value) (l : List UInt8) (w : World) (hR : RM w c b n) (hn : n < 1000000) (hl : l.length ≤ 8) (hat : -1000000 ≤ at_ ∧ at_ ≤ 4294967296000) (hv : Bs w v l) (hvo : ∀ k,v.ownBlock = some k → k ≠ b) :
  Calls Tryz.prog 54 #[.pointer (some ⟨c,0,none⟩),.int .i64 at_,v] w fun e w' => (∃ z : Bool,e = .returned (.bool z)) ∧ RM w' c b (n + 8) ∧ Upd (fun k => k = b) w w' := by
 have hlt := hR.lt
 obtain ⟨va,vc,rfl,_,hm⟩ := hv.shape
 unfold maxLen at hm
 have c0 : w.cell? ⟨c,0,none⟩ = some (.map (some b)) := cell_of hR.1 rfl
 have hcb : c ≠ b := by
  intro e
  obtain ⟨h1,D,es,clock,h2,_⟩ := hR
  rw [e] at h1
  rw [h1] at h2
  cases h2
 refine enter (args := [_,_,_]) (Γ := [(0,_),(1,_),(2,_)]) Tryz.func54 Tryz.ntmps54 rfl odq (.cons rfl (.cons rfl (.cons rfl .nil))) ?_
 repeat' first | refine Wl.move rfl rfl ?_ | refine Wl.assign rfl rfl ?_ | refine Wl.len rfl rfl ?_ | apply Wl.nil | apply St.seq | apply St.region | apply Gt.next
 apply Wl.callC
 ·exact rfl
 ·exact kd
 intro wq hq
 refine (refHas _ _ wq hat kc).mono ?_
 rintro e wr ⟨⟨z,rfl⟩,hr⟩
 refine ⟨_,_,rfl,hq.keep hr,?_⟩
 clear hr hq wr wq
 cases z
 ·repeat' first | refine Wl.assign rfl rfl ?_ | refine Wl.not rfl rfl ?_ | apply Wl.nil | apply St.seq | apply St.region | (apply St.condT;exact rfl;exact k5) | apply St.ret | apply Gt.next | apply Gt.thenRet | (apply Gt.out1;exact rfl;exact rfl;intro w' hp)
  exact ⟨⟨_,rfl⟩,⟨hp.upd.heap hR.1 fun y => y trivial,by obtain ⟨D,hD⟩ := hR.2.upd hp.upd fun y => y trivial;exact ⟨D,hD.mono kc⟩⟩,hp.upd.mono fun _ _ y => (y trivial).elim⟩
 repeat' first | refine Wl.assign rfl rfl ?_ | refine Wl.not rfl rfl ?_ | apply Wl.nil | apply St.seq | apply St.block | apply St.region | (apply St.condF;exact rfl;exact k5) | apply St.skip | apply Gt.next
 refine St.loop (σ := Nat × World) (fun τ => τ.1 ≤ l.length ∧ RM τ.2 c b (n + τ.1) ∧ Upd (fun k => k = b) w τ.2)
  (fun τ => [(0,.pointer (some ⟨c,0,none⟩)),(1,.int .i64 at_),(2,.slice va l.length vc),(7,.int .i64 (τ.1 : Int))]) (fun τ => Hp τ.2 []) (fun τ => l.length - τ.1) (0,w) ⟨Nat.zero_le _,hR,Upd.refl _ _⟩ kq (fun _ h => h) ?_
 rintro ⟨i,w0⟩ ⟨hi,hR0,hu0⟩
 simp only at hi hR0 hu0 ⊢
 have c0' : w0.cell? ⟨c,0,none⟩ = some (.map (some b)) := cell_of hR0.1 rfl
 by_cases hlt2 : i < l.length
 ·have hd : decide ((i : Int) < (l.length : Int)) = true := decide_eq_true kc
  obtain ⟨vb,vo,rfl,hcells⟩ := hv.cells (fun e => by rw [e] at hlt2;simp at hlt2)
  have hb : w0.cell? ⟨vb,vo + (i : Int).toNat,none⟩ = some (.int .u8 (l[i].toNat : Int)) := by
   rw [Int.toNat_natCast]
   exact hu0.cell (hcells i hlt2) fun e => hvo vb rfl e
  have l1 := hR0.lt
  have l2 := World.block_lt_of_cell? w0 _ hb
  simp only at l2
  repeat' first | (apply St.bagX (i := 6) 11 [];exact mixed;(decide +kernel);kernel_rfl) | (apply Wl.loadO;exact rfl;exact rfl;(first | exact c0' | exact hb);(repeat (first | exact trivial | exact hX.off zy))) | apply OpsX.nil | (apply OpsX.v;(intro X hX;change Wl [_] _ _ _ _ _ _ _;apply Wl.catX;exact kd)) | (apply Gt.endX;exact rfl) | (apply EndX.on;exact rfl) | (apply EndX.off;exact rfl) | (apply EndX.nil';apply Wl.catE;exact kd) | refine Wl.move rfl rfl ?_ | refine Wl.nilCheck rfl rfl ?_ | refine Wl.fieldAddr0 rfl rfl ?_ | refine Wl.lss rfl rfl rfl ?_ | (refine Wl.addI rfl rfl rfl ?_ ?_;constructor <;> omega) | refine Wl.len rfl rfl ?_ | (refine Wl.indexAddr1 rfl rfl rfl ?_ ?_;constructor <;> omega) | apply Wl.nil | apply St.seq | apply St.block | apply St.region | (apply St.condT;exact rfl;exact k5) | apply St.skip | apply Gt.next
  apply Wl.storeMB (k := 3) (e := 5) (b := b) (n := n + i)
  ·exact rfl
  ·exact rfl
  ·exact rfl
  ·unfold I64;omega
  ·have := l[i].toNat_lt
   simp [Lit.wf,IntKind.min,IntKind.max,IntKind.signed,IntKind.bits]
   omega
  ·unfold maxLen;omega
  ·exact hR0.2
  ·exact trivial
  intro w1 hM hu1
  repeat' first | refine Wl.move rfl rfl ?_ | refine Wl.assign rfl rfl ?_ | (refine Wl.addI rfl rfl rfl ?_ ?_;constructor <;> omega) | apply Wl.nil | apply St.region | apply Gt.next | apply Gt.inNormal
  apply Gt.round (i + 1,w1)
  rotate_left
  ·simp only;omega
  ·exact kd
  ·exact fun _ h => h
  ·refine ⟨hlt2,⟨hu1.heap hR0.1 fun y => y.elim hcb fun y => y trivial,hM⟩,hu0.trans (hu1.mono fun k _ y => y.elim id fun y => (y trivial).elim)⟩
 ·obtain rfl : i = l.length := by omega
  have hd : decide ((l.length : Int) < (l.length : Int)) = false := decide_eq_false kc
  repeat' first | refine Wl.move rfl rfl ?_ | refine Wl.assign rfl rfl ?_ | refine Wl.lss rfl rfl rfl ?_ | refine Wl.len rfl rfl ?_ | apply Wl.nil | apply St.seq | apply St.region | (apply St.condF;exact rfl;exact k5) | apply St.ret | apply St.exit | apply Gt.next | apply Gt.thenExit | apply Gt.inExit | (apply Gt.out1;exact rfl;exact rfl;intro w' hp)
  exact ⟨⟨_,rfl⟩,⟨hp.upd.heap hR0.1 fun y => y trivial,by obtain ⟨D,hD⟩ := hR0.2.upd hp.upd fun y => y trivial;exact ⟨D,hD.mono kc⟩⟩,hu0.trans (hp.upd.mono fun _ _ y => (y trivial).elim)⟩
theorem ramStore (c b n : Nat) (at_ x : Int) (w : World) (hR : RM w c b n) (hn : n < 1000000) (hat : -1000000 ≤ at_ ∧ at_ ≤ 4294967296000) :
  Calls Tryz.prog 52 #[.pointer (some ⟨c,0,none⟩),.int .i64 at_,.int .i64 4,.int .i64 x] w fun e w' => (∃ z : Bool,e = .returned (.bool z)) ∧ RM w' c b (n + 8) ∧ Upd (fun k => k = b ∨ w.heap.size ≤ k) w w' := by
 have hlt := hR.lt
 refine enter (args := [_,_,_,_]) (Γ := [(0,_),(1,_),(2,_),(3,_)]) Tryz.func52 Tryz.ntmps52 rfl odq (.cons rfl (.cons rfl (.cons rfl (.cons rfl .nil)))) ?_
 repeat' first | refine Wl.move rfl rfl ?_ | refine Wl.assign rfl rfl ?_ | (apply Wl.on;exact rfl;exact rfl;exact k5) | (apply Wl.pickT;exact rfl;exact rfl;exact k5;exact rfl) | (apply Wl.neqIs;exact rfl;exact rfl;exact rfl;exact kx) | refine Wl.neq rfl rfl rfl ?_ | apply Wl.nil | apply St.seq | apply St.block | apply St.region | (apply St.condF;exact rfl;exact k5) | apply St.skip | apply Gt.next
 refine St.loop (σ := Nat × World × Value × List UInt8) (fun τ => τ.1 ≤ 4 ∧ Upd (fun k => w.heap.size ≤ k) w τ.2.1 ∧ Bo τ.2.1 w.heap.size τ.2.2.1 τ.2.2.2 ∧ τ.2.2.2.length = τ.1)
  (fun τ => [(0,.pointer (some ⟨c,0,none⟩)),(1,.int .i64 at_),(2,.int .i64 4),(3,.int .i64 x),(9,τ.2.2.1),(10,.int .i64 (τ.1 : Int))]) (fun τ => Hp τ.2.1 []) (fun τ => 4 - τ.1) (0,w,.slice none 0 0,[]) ⟨Nat.zero_le _,Upd.refl _ _,Bo.nil _ _,rfl⟩ kq (fun _ h => h) ?_
 rintro ⟨i,w0,v,l⟩ ⟨hi,hu0,hb0,hl0⟩
 simp only at hi hu0 hb0 hl0 ⊢
 have s0 := hu0.size
 by_cases hlt2 : i < 4
 ·have hd : decide ((i : Int) < 4) = true := decide_eq_true kc
  repeat' first | refine Wl.move rfl rfl ?_ | refine Wl.lss rfl rfl rfl ?_ | (refine Wl.mulI rfl rfl rfl ?_ ?_;constructor <;> omega) | (refine Wl.shr rfl rfl rfl ?_ ?_;omega) | refine Wl.convI rfl rfl ?_ | (apply Wl.lit;exact rfl;exact kj;exact rfl;exact rfl;exact ke;intro c hc ho) | apply Wl.nil | apply St.seq | apply St.block | apply St.region | (apply St.condT;exact rfl;exact k5) | apply St.skip | apply Gt.next
  apply Wl.appendT
  ·exact rfl
  ·exact rfl
  ·exact rfl
  ·assumption
  ·exact rfl
  ·exact hb0
  ·exact fun k hk => trivial
  ·exact rfl
  ·exact rfl
  ·decide
  ·unfold maxLen;omega
  ·omega
  ·exact s0
  intro v' w1 ho1 u1 _ hoff1
  repeat' first | refine Wl.move rfl rfl ?_ | refine Wl.assign rfl rfl ?_ | (refine Wl.addI rfl rfl rfl ?_ ?_;constructor <;> omega) | apply Wl.nil | apply St.region | apply Gt.next | apply Gt.inNormal
  apply Gt.round (i + 1,w1,v',l ++ [UInt8.ofNat ((x.fdiv (2 ^ min (Int.toNat (8 * (i : Int))) IntKind.i64.bits)) % 256).toNat])
  rotate_left
  ·simp only;omega
  ·exact kd
  ·exact fun _ h => h
  ·refine ⟨hlt2,hu0.comp u1 fun k hk hs => ?_,Bo.of (m := [UInt8.ofNat ((x.fdiv (2 ^ min (Int.toNat (8 * (i : Int))) IntKind.i64.bits)) % 256).toNat]) ho1 zd ?_,by simp [hl0]⟩
   ·rcases hs with y | y | y
    ·exact y
    ·exact (hb0.lt k y).1
    ·exact (y trivial).elim
   ·rw [u8_cell];rfl
 ·obtain rfl : i = 4 := by omega
  have hd : decide (((4 : Nat) : Int) < 4) = false := by decide
  repeat' first | refine Wl.move rfl rfl ?_ | refine Wl.lss rfl rfl rfl ?_ | apply Wl.nil | apply St.seq | apply St.region | (apply St.condF;exact rfl;exact k5) | apply St.exit | apply Gt.next | apply Gt.thenExit | apply Gt.inExit
  apply Wl.callC
  ·exact rfl
  ·exact kd
  intro wq hq
  have hbq : Bs wq v l := (hb0.upd hq.upd fun _ _ y => y trivial).bs
  have hRq : RM wq c b n := (hR.upd hu0 kc kc).upd hq.upd nt0 nt0
  refine (ramPut c b n at_ v l wq hRq hn kc hat hbq fun k hk e => by have := (hb0.lt k hk).1;omega).mono ?_
  rintro e w2 ⟨⟨z,rfl⟩,hR2,hu2⟩
  refine ⟨_,_,rfl,Hp.start w2,?_⟩
  have hq' := hq.upd
  have s1 := hq'.size
  have s2 := hu2.size
  clear hq
  repeat' first | refine Wl.assign rfl rfl ?_ | apply Wl.nil | apply St.ret | apply Gt.next | (apply Gt.out1;exact rfl;exact rfl;intro w' hp)
  refine ⟨⟨_,rfl⟩,hR2.upd hp.upd nt0 nt0,((hu0.mono fun k _ e => .inr e).trans ((hq'.mono fun _ _ y => (y trivial).elim).trans (hu2.mono fun _ _ e => .inl e))).trans (hp.upd.mono fun _ _ y => (y trivial).elim)⟩
theorem _root_.Go.Pt.Hp.newer {w0 w w' : World} {H : List Blk} (h : Hp w0 H w) (u : Upd (fun k => w.heap.size ≤ k) w w') : Hp w0 H w' :=
 h.step u (fun x hx hle => by have := h.own.lt hx;omega) (fun k hk hle => by have := h.upd.size;omega)
theorem _root_.Go.Pt.Hp.rb {w0 w : World} {H : List Blk} (h : Hp w0 H w) : Hp w H w := ⟨Upd.refl _ _,h.own,h.apart⟩
theorem _root_.Go.Pt.Hp.on {w w1 w2 : World} {H : List Blk} (h : Hp w1 H w2) (hu : Upd (fun k => w.heap.size ≤ k) w w1) (hH : ∀ x ∈ H,w.heap.size ≤ x.b) : Upd (fun k => w.heap.size ≤ k) w w2 :=
 hu.comp h.upd fun j _ hs => hs.elim id fun y => Classical.byContradiction fun hlt => y (Off.of fun x hx e => by have := hH x hx;omega)
theorem LSet.get {l : List Value} {i : Nat} {v : Value} (h : i < l.length) : LSet l i v (l.set i v) := LSet.of h
theorem xz_rg : Rg xz := by
 refine ⟨rfl,fun i hi => ⟨0,?_,by decide⟩⟩
 have e : xz = List.replicate 32 (Value.int .u32 0) := rfl
 rw [e,List.getElem?_replicate,if_pos hi]
end Go.Proofs.YtabbklpalbikdaaGreatDoor
end
section
namespace Go.Pt
open Go.RowKit
end Go.Pt
namespace Go.Proofs.YtabbklpalbikdaaGreatDoor
open Go.RowKit Go.Pt
theorem memC_one (f : Nat → Int) : (memC f).all Value.oneCell' = true := by
 rw [List.all_eq_true]
 intro v hv
 obtain ⟨i,hi,e⟩ := List.mem_iff_getElem.1 hv
 rw [memC_len] at hi
 have h := memC_get (f := f) hi
 rw [List.getElem?_eq_getElem (by rw [memC_len];exact hi),e] at h
 cases h
 rfl
theorem tyZ0 : TyZ Tryz.prog 156 (.agg Tryz.zeroCells156) := ⟨by kernel_rfl⟩
theorem zcellsA : Tryz.zeroCells156 = (memC fun _ => 0).toArray := by rw [← zcells]
instance tyZM : TyZ Tryz.prog 156 (.agg (memC fun _ => 0).toArray) := zcellsA ▸ tyZ0
theorem mcopy (c : Nat) (f : Nat → Int) (w : World) (hc : memH w c f) :
  Calls Tryz.prog 72 #[.pointer (some ⟨c,0,none⟩)] w fun e w' => ∃ d,e = .returned (.pointer (some ⟨d,0,none⟩)) ∧ w.heap.size ≤ d ∧ memH w' d f ∧ Upd (fun k => w.heap.size ≤ k) w w' := by
 unfold memH at hc
 refine enter (args := [_]) (Γ := [(0,_)]) Tryz.func72 Tryz.ntmps72 rfl odq (.cons rfl .nil) ?_
 repeat' first | (apply Wl.loadAF (xs := memC f);exact rfl;exact rfl;exact memC_len f;(intro wq hq q v hq';rw [addLit];exact hq.old (cell_of hc (by rw [Nat.zero_add];exact hq')) trivial)) | (apply Wl.storeA;exact rfl;exact rfl;exact memC_len f;exact memC_one f;exact kd;exact .z (LOver.whole ((memC_len _).trans (memC_len f).symm))) | refine Wl.move rfl rfl ?_ | refine Wl.assign rfl rfl ?_ | refine Wl.nilCheck rfl rfl ?_ | refine Wl.eqlPN rfl rfl rfl ?_ | (apply Wl.alloc;exact rfl;intro c hc ho) | apply Wl.nil | apply St.seq | apply St.region | (apply St.condF;exact rfl;exact k5) | apply St.ret | apply St.skip | apply Gt.next | (apply Gt.out1;exact rfl;exact rfl;intro w' hp)
 exact ⟨_,rfl,by assumption,hp.own.at (.head _),hp.on (Upd.refl _ _) zi⟩
theorem rgN {xs : List Value} (h : Rg xs) : ∃ g : Nat → Nat,xs = cellsN .u32 32 g ∧ ∀ j,j < 32 → IntKind.u32.min ≤ (g j : Int) ∧ (g j : Int) ≤ IntKind.u32.max := by
 refine ⟨fun i => match xs[i]? with | some (.int _ z) => z.toNat | _ => 0,?_,?_⟩
 ·apply List.ext_getElem?
  intro j
  by_cases hj : j < 32
  ·obtain ⟨z,hz,h0,h1⟩ := h.2 j hj
   rw [cellsN_get hj,hz]
   simp only [hz]
   congr 2
   omega
  ·rw [List.getElem?_eq_none (by rw [h.1];omega),List.getElem?_eq_none (by rw [cellsN_len];omega)]
 ·intro j hj
  obtain ⟨z,hz,h0,h1⟩ := h.2 j hj
  simp only [hz]
  have e1 : IntKind.u32.min = 0 := rfl
  have e2 : IntKind.u32.max = 4294967295 := rfl
  omega
theorem Rg.one {xs : List Value} (h : Rg xs) : xs.all Value.oneCell' = true := by
 rw [List.all_eq_true]
 intro v hv
 obtain ⟨i,hi,e⟩ := List.mem_iff_getElem.1 hv
 rw [h.1] at hi
 obtain ⟨z,hz,_⟩ := h.2 i hi
 rw [List.getElem?_eq_getElem (by rw [h.1];exact hi),e] at hz
 cases hz
 rfl
structure Sta where
 (s c p : Int)
 xs : List Value
def Sta.cells (x : Sta) : List Value := .int .i64 x.s :: .int .u32 x.c :: .int .u32 x.p :: x.xs
def StaOk (x : Sta) : Prop := Rg x.xs ∧ (0 ≤ x.c ∧ x.c < 4294967296) ∧ (0 ≤ x.p ∧ x.p < 4294967296)
theorem StaOk.one {x : Sta} (h : StaOk x) : x.cells.all Value.oneCell' = true := by
 have := h.1.one
 simp [Sta.cells,Value.oneCell'] at this ⊢
 exact this
theorem StaOk.len {x : Sta} (h : StaOk x) : x.cells.length = 35 := by simp [Sta.cells,h.1.1]
def stas (L : List Sta) : List (List Value) := L.map Sta.cells
def WardS (w : World) (wd sa : Nat) (L : List Sta) (t : Int) : Prop :=
 (∃ cap J,w.heap[wd]? = some (.cells #[.slice (some ⟨sa,0,none⟩) L.length cap,.int .i64 t] 210 (0,0)) ∧ w.heap[sa]? = some (.cells ((stas L).flatten ++ J).toArray 44 (0,0))) ∧ (∀ x ∈ L,StaOk x) ∧ 1 ≤ L.length ∧ L.length ≤ 4
theorem WardS.upd {w w' : World} {wd sa : Nat} {L : List Sta} {t : Int} {S : Nat → Prop} (k : WardS w wd sa L t) (u : Upd S w w') (h1 : ¬ S wd) (h2 : ¬ S sa) : WardS w' wd sa L t := by
 obtain ⟨⟨cap,J,a,b⟩,r⟩ := k
 exact ⟨⟨cap,J,u.heap a h1,u.heap b h2⟩,r⟩
theorem WardS.lt {w : World} {wd sa : Nat} {L : List Sta} {t : Int} (k : WardS w wd sa L t) : wd < w.heap.size ∧ sa < w.heap.size := by
 obtain ⟨⟨cap,J,a,b⟩,r⟩ := k
 exact ⟨lt_of_block a,lt_of_block b⟩
theorem WardS.ne {w : World} {wd sa : Nat} {L : List Sta} {t : Int} (k : WardS w wd sa L t) : wd ≠ sa := by
 obtain ⟨⟨cap,J,a,b⟩,r⟩ := k
 exact blk_ne a b
theorem stas_len {L : List Sta} (h : ∀ x ∈ L,StaOk x) : ∀ x ∈ stas L,x.length = 35 := by
 intro x hx
 obtain ⟨y,hy,rfl⟩ := List.mem_map.1 hx
 exact (h y hy).len
theorem stas_at {L : List Sta} {i : Nat} {x : Sta} (h : L[i]? = some x) : (stas L)[i]? = some x.cells := by
 unfold stas
 rw [List.getElem?_map,h];rfl
theorem WardS.at {w : World} {wd sa : Nat} {L : List Sta} {t : Int} (k : WardS w wd sa L t) {i : Nat} {x : Sta} (h : L[i]? = some x) {q : Nat} {v : Value} (hq : x.cells[q]? = some v) : w.cell? ⟨sa,0 + i * 35 + q,none⟩ = some v := by
 obtain ⟨⟨cap,J,a,b⟩,hl,r⟩ := k
 have hx := hl x (List.mem_of_getElem? h)
 have hql : q < 35 := by
  have := (List.getElem?_eq_some_iff.1 hq).1
  rw [hx.len] at this
  exact this
 have e := flat_get (stas_len hl) (stas_at h) hql
 refine cell_of b ?_
 rw [Nat.zero_add,List.getElem?_append_left (by rw [flat_len (stas_len hl)];exact flat_lt (by unfold stas;rw [List.length_map];exact (List.getElem?_eq_some_iff.1 h).1) hql rfl),e]
 exact hq
theorem wTurn (wd sa : Nat) (L : List Sta) (t : Int) (w : World) (hW : WardS w wd sa L t) :
  Calls Tryz.prog 58 #[.pointer (some ⟨wd,0,none⟩)] w fun e w' => e = .returned (.int .i64 (if t < 0 then -1 else t)) ∧ Hp w [] w' := by
 obtain ⟨⟨cap,J,a,b⟩,hl,h1,h4⟩ := hW
 have p1 : w.cell? ⟨wd,1,none⟩ = some (.int .i64 t) := cell_of a rfl
 refine enter (args := [_]) (Γ := [(0,_)]) Tryz.func58 Tryz.ntmps58 rfl odq (.cons rfl .nil) ?_
 by_cases ht : t < 0
 ·have hd : decide (t < 0) = true := decide_eq_true ht
  rw [if_pos ht]
  repeat' first | (apply Wl.loadO;exact rfl;exact rfl;exact zx;exact km) | refine Wl.move rfl rfl ?_ | refine Wl.assign rfl rfl ?_ | (apply Wl.on;exact rfl;exact rfl;exact k5) | refine Wl.nilCheck rfl rfl ?_ | (apply Wl.pickF;exact rfl;exact rfl;exact k5;exact rfl) | refine Wl.fieldAddrZ rfl rfl ?_ | refine Wl.eqlPN rfl rfl rfl ?_ | refine Wl.lss rfl rfl rfl ?_ | apply Wl.nil | apply St.seq | apply St.region | (apply St.condT;exact rfl;exact k5) | apply St.ret | apply Gt.next | apply Gt.thenRet | (apply Gt.out1;exact rfl;exact rfl;intro w' hp)
  exact ⟨rfl,hp⟩
 ·have hd : decide (t < 0) = false := decide_eq_false ht
  rw [if_neg ht]
  repeat' first | (apply Wl.loadO;exact rfl;exact rfl;exact zx;exact km) | refine Wl.move rfl rfl ?_ | refine Wl.assign rfl rfl ?_ | (apply Wl.on;exact rfl;exact rfl;exact k5) | refine Wl.nilCheck rfl rfl ?_ | (apply Wl.pickF;exact rfl;exact rfl;exact k5;exact rfl) | refine Wl.fieldAddrZ rfl rfl ?_ | refine Wl.eqlPN rfl rfl rfl ?_ | refine Wl.lss rfl rfl rfl ?_ | apply Wl.nil | apply St.seq | apply St.region | (apply St.condF;exact rfl;exact k5) | apply St.ret | apply St.skip | apply Gt.next | (apply Gt.out1;exact rfl;exact rfl;intro w' hp)
  exact ⟨rfl,hp⟩
theorem wCount (wd sa : Nat) (L : List Sta) (t : Int) (w : World) (hW : WardS w wd sa L t) :
  Calls Tryz.prog 73 #[.pointer (some ⟨wd,0,none⟩)] w fun e w' => e = .returned (.int .i64 L.length) ∧ Hp w [] w' := by
 obtain ⟨⟨cap,J,a,b⟩,hl,h1,h4⟩ := hW
 have p0 : w.cell? ⟨wd,0,none⟩ = some (.slice (some ⟨sa,0,none⟩) L.length cap) := cell_of a rfl
 refine enter (args := [_]) (Γ := [(0,_)]) Tryz.func73 Tryz.ntmps73 rfl odq (.cons rfl .nil) ?_
 repeat' first | (apply Wl.loadO;exact rfl;exact rfl;exact zx;exact km) | refine Wl.move rfl rfl ?_ | refine Wl.assign rfl rfl ?_ | refine Wl.nilCheck rfl rfl ?_ | refine Wl.fieldAddr0 rfl rfl ?_ | refine Wl.eqlPN rfl rfl rfl ?_ | refine Wl.len rfl rfl ?_ | apply Wl.nil | apply St.seq | apply St.region | (apply St.condF;exact rfl;exact k5) | apply St.ret | apply St.skip | apply Gt.next | (apply Gt.out1;exact rfl;exact rfl;intro w' hp)
 exact ⟨rfl,hp⟩
theorem wStatus (wd sa : Nat) (L : List Sta) (t : Int) (i : Nat) (x : Sta) (w : World) (hW : WardS w wd sa L t) (hi : L[i]? = some x) :
  Calls Tryz.prog 59 #[.pointer (some ⟨wd,0,none⟩),.int .i64 i] w fun e w' => e = .returned (.agg x.cells.toArray) ∧ Hp w [] w' := by
 have hil := (List.getElem?_eq_some_iff.1 hi).1
 have hat : ∀ (q : Nat) (v : Value),x.cells[q]? = some v → w.cell? ⟨sa,0 + (i : Int).toNat * 35 + q,none⟩ = some v := fun q v hq => by rw [Int.toNat_natCast];exact hW.at hi hq
 have hx : x.cells.length = 35 := stas_len hW.2.1 _ (List.mem_map.2 ⟨x,List.mem_of_getElem? hi,rfl⟩)
 obtain ⟨⟨cap,J,a,b⟩,hl,h1,h4⟩ := hW
 have hlw := lt_of_block b
 have p0 : w.cell? ⟨wd,0,none⟩ = some (.slice (some ⟨sa,0,none⟩) L.length cap) := cell_of a rfl
 have hlw2 := lt_of_block a
 have hone := (hl x (List.mem_of_getElem? hi)).one
 have hd0 : decide ((i : Int) < 0) = false := decide_eq_false kc
 have hd1 : decide ((i : Int) ≥ (L.length : Int)) = false := decide_eq_false kc
 refine enter (args := [_,_]) (Γ := [(0,_),(1,_)]) Tryz.func59 Tryz.ntmps59 rfl odq (.cons rfl (.cons rfl .nil)) ?_
 repeat' first | (apply Wl.storeA (xs := x.cells);exact rfl;exact rfl;exact hx;exact hone;exact kd;exact .z (LOver.whole (by rw [hx];exact rfl))) | (apply Gt.outC' (xs := x.cells);exact rfl;infer_instance;exact rfl;(exact .head _);exact LSub.whole' hx;intro w' hp) | (apply Wl.loadO;exact rfl;exact rfl;exact zx;exact km) | (apply Wl.loadAF (xs := x.cells);exact rfl;exact rfl;exact hx;(intro wq hq q v hq';rw [addLit];exact hq.old (hat q v hq') (by show Off _ sa;repeat (first | exact trivial | refine ⟨by first | omega | (simp only;omega),?_⟩)))) | refine Wl.move rfl rfl ?_ | (apply Wl.on;exact rfl;exact rfl;exact k5) | refine Wl.nilCheck rfl rfl ?_ | (apply Wl.pickF;exact rfl;exact rfl;exact k5;exact rfl) | refine Wl.fieldAddr0 rfl rfl ?_ | refine Wl.eqlPN rfl rfl rfl ?_ | refine Wl.lss rfl rfl rfl ?_ | refine Wl.geq rfl rfl rfl ?_ | refine Wl.len rfl rfl ?_ | (apply Wl.alloc;exact rfl;intro c hc ho) | (refine Wl.indexAddr rfl rfl rfl ?_ ?_;constructor <;> omega) | apply Wl.nil | apply St.seq | apply St.region | (apply St.condF;exact rfl;exact k5) | apply St.ret | apply St.skip | apply Gt.next
 exact ⟨rfl,hp.drop zi⟩
theorem _root_.Go.World.ownsRow.ge {w : World} {base e sz n : Nat} {v : Value} {xs : List Value} (h : w.ownsRow base e sz v n xs) : ∀ k,v.ownBlock = some k → base ≤ k ∧ k < w.heap.size := by
 intro k hk
 rcases h.2 with ⟨rfl,_⟩ | ⟨g,cap,cur,rfl,hb,hg,_⟩
 ·cases hk
 ·cases hk
  exact ⟨hb,(Array.getElem?_eq_some_iff.1 hg).1⟩
theorem _root_.Go.World.ownsRow.blk {w : World} {base e sz n : Nat} {v : Value} {xs : List Value} (h : w.ownsRow base e sz v n xs) (hn : 0 < n) : ∃ g cap J,v = .slice (some ⟨g,0,none⟩) n cap ∧ base ≤ g ∧ w.heap[g]? = some (.cells (xs ++ J).toArray e (0,0)) := by
 rcases h.2 with ⟨_,h0⟩ | ⟨g,cap,cur,rfl,hb,hg,_,_,_,ht⟩
 ·omega
 ·refine ⟨g,cap,cur.toList.drop (n * sz),rfl,hb,?_⟩
  rw [← ht,List.take_append_drop]
  exact hg
theorem _root_.Go.World.ownsRow.one {w : World} {base e sz n : Nat} {v : Value} {xs : List Value} (h : w.ownsRow base e sz v n xs) : v.oneCell' = true := by
 rcases h.2 with ⟨rfl,_⟩ | ⟨g,cap,cur,rfl,_⟩ <;> rfl
def WordF (w : World) (a : Option Addr) (n : Nat) (p : Nat → Int) : Prop := ∀ i : Nat,i < n → ∃ b o,a = some ⟨b,o,none⟩ ∧ w.cell? ⟨b,o + i,none⟩ = some (.int .u32 (p i)) ∧ 0 ≤ p i ∧ p i < 4294967296
def newL (p : Nat → Int) (n : Nat) : List Sta := (List.range n).map fun j => ⟨0,0,p j,xz⟩
theorem newL_succ (p : Nat → Int) (n : Nat) : (stas (newL p (n + 1))).flatten = (stas (newL p n)).flatten ++ (Sta.cells ⟨0,0,p n,xz⟩) := by simp [newL,stas,List.range_succ]
theorem newL_len (p : Nat → Int) (n : Nat) : (newL p n).length = n := by simp [newL]
theorem wNew (a : Option Addr) (n cap : Nat) (p : Nat → Int) (w : World) (hn : 1 ≤ n ∧ n ≤ 4) (hA : WordF w a n p) :
  Calls Tryz.prog 87 #[.slice a n cap] w fun e w' => ∃ wd sa,e = .returned (.tuple #[.pointer (some ⟨wd,0,none⟩),.int .i64 0]) ∧ WardS w' wd sa (newL p n) 0 ∧ w.heap.size ≤ wd ∧ w.heap.size ≤ sa ∧ Upd (fun k => w.heap.size ≤ k) w w' := by
 have hd1 : decide ((n : Int) < 1) = false := decide_eq_false kc
 have hd2 : decide ((n : Int) > 4) = false := decide_eq_false kc
 refine enter (args := [_]) (Γ := [(0,_)]) Tryz.func87 Tryz.ntmps87 rfl odq (.cons rfl .nil) ?_
 repeat' first | refine Wl.move rfl rfl ?_ | refine Wl.assign rfl rfl ?_ | (apply Wl.on;exact rfl;exact rfl;exact k5) | (apply Wl.pickF;exact rfl;exact rfl;exact k5;exact rfl) | refine Wl.lss rfl rfl rfl ?_ | refine Wl.gtr rfl rfl rfl ?_ | refine Wl.len rfl rfl ?_ | (apply Wl.buildS;exact rfl;exact kj;exact ka) | (apply Wl.boxA;exact rfl;exact rfl;intro c hc ho) | apply Wl.nil | apply St.seq | apply St.block | apply St.region | (apply St.condF;exact rfl;exact k5) | apply St.skip | apply Gt.next
 generalize c = wd at *
 have hwd : w.heap.size ≤ wd := by assumption
 refine St.loop (σ := Nat × World × Value) (fun τ => τ.1 ≤ n ∧ Upd (fun k => w.heap.size ≤ k) w τ.2.1 ∧ τ.2.1.ownsRow w.heap.size 44 35 τ.2.2 τ.1 (stas (newL p τ.1)).flatten ∧ ∀ k,τ.2.2.ownBlock = some k → Off [⟨wd,[τ.2.2,.int .i64 0],210⟩] k)
  (fun τ => [(4,.pointer (some ⟨wd,0,none⟩)),(17,.slice a n cap),(18,.int .i64 (n : Int)),(19,.int .i64 (τ.1 : Int))]) (fun τ => Hp τ.2.1 [⟨wd,[τ.2.2,.int .i64 0],210⟩]) (fun τ => n - τ.1) (0,w,.slice none 0 0) ⟨Nat.zero_le _,Upd.refl _ _,World.ownsRow_nil w _ _ _,fun k hk => by cases hk⟩ kq (fun _ h => h) ?_
 rintro ⟨i,w0,v⟩ ⟨hi,hu0,hv,hoff⟩
 simp only at hi hu0 hv hoff ⊢
 have s0 := hu0.size
 by_cases hlt : i < n
 ·have hd : decide ((i : Int) < (n : Int)) = true := decide_eq_true kc
  obtain ⟨b,o,rfl,hc,_⟩ := hA i hlt
  have hb : w0.cell? ⟨b,o + (i : Int).toNat,none⟩ = some (.int .u32 (p i)) := by
   rw [Int.toNat_natCast]
   exact hu0.cell hc fun e => by have := World.block_lt_of_cell? w _ hc;simp only at this e;omega
  have hbl : b < w.heap.size := World.block_lt_of_cell? w _ hc
  repeat' first | (apply Wl.loadO;exact rfl;exact rfl;exact zx;exact km) | refine Wl.move rfl rfl ?_ | refine Wl.assign rfl rfl ?_ | refine Wl.nilCheck rfl rfl ?_ | refine Wl.fieldAddr0 rfl rfl ?_ | (apply Wl.loadH;exact rfl;exact rfl;exact kd;exact rfl) | refine Wl.lss rfl rfl rfl ?_ | (apply Wl.buildS;exact rfl;exact kj;exact ka) | (apply Wl.lit;exact rfl;exact kj;exact rfl;exact rfl;exact ke;intro c hc ho) | (refine Wl.indexAddr1 rfl rfl rfl ?_ ?_;constructor <;> omega) | apply Wl.nil | apply St.seq | apply St.block | apply St.region | (apply St.condT;exact rfl;exact k5) | apply St.skip | apply Gt.next
  apply Wl.appendT (base := w.heap.size) (n := i) (m := 1) (sz := 35) (e := 44) (xs := (stas (newL p i)).flatten)
  ·exact rfl
  ·exact rfl
  ·exact rfl
  ·assumption
  ·exact rfl
  ·exact hv
  ·exact hoff
  ·exact rfl
  ·exact rfl
  ·decide
  ·unfold maxLen;omega
  ·omega
  ·exact s0
  intro v' w1 ho1 u1 _ hoff1
  have hov := ho1.one
  repeat' first | (apply Wl.store;exact rfl;exact rfl;exact hov;exact kd;exact ki) | refine Wl.move rfl rfl ?_ | refine Wl.nilCheck rfl rfl ?_ | refine Wl.fieldAddr0 rfl rfl ?_ | (refine Wl.addI rfl rfl rfl ?_ ?_;constructor <;> omega) | apply Wl.nil | apply St.region | apply Gt.next | apply Gt.inNormal
  apply Gt.round (i + 1,w1,v')
  rotate_left
  ·simp only;omega
  ·exact kd
  ·exact fun _ h => h
  ·refine ⟨hlt,hu0.comp u1 fun k hk hs => ?_,by rw [newL_succ];exact ho1,fun k hk => ?_⟩
   ·rcases hs with y | y | y
    ·exact y
    ·exact (hv.ge k y).1
    ·exact Classical.byContradiction fun hn => y ⟨fun e => hn qe,trivial⟩
   ·exact ⟨(hoff1 k hk).1.1,trivial⟩
 ·obtain rfl : i = n := by omega
  have hd : decide ((i : Int) < (i : Int)) = false := decide_eq_false kc
  obtain ⟨g,cp,J,rfl,hg1,hg2⟩ := hv.blk kc
  have hgo := hoff g rfl
  repeat' first | refine Wl.move rfl rfl ?_ | refine Wl.assign rfl rfl ?_ | refine Wl.lss rfl rfl rfl ?_ | apply Wl.nil | apply St.seq | apply St.region | (apply St.condF;exact rfl;exact k5) | apply St.ret | apply St.exit | apply Gt.next | apply Gt.thenExit | apply Gt.inExit | (apply Gt.out2;exact rfl;exact rfl;exact rfl;intro w' hp)
  refine ⟨wd,g,rfl,⟨⟨cp,J,by rw [newL_len];exact hp.own.at (.head _),hp.upd.heap hg2 fun y => y hgo⟩,fun x hx => ?_,by rw [newL_len];exact hn⟩,hwd,hg1,hp.on hu0 k6⟩
  obtain ⟨j,hj,rfl⟩ := List.mem_map.1 hx
  obtain ⟨b,o,_,_,h1,h2⟩ := hA j (List.mem_range.1 hj)
  exact ⟨xz_rg,⟨by show (0 : Int) ≤ 0;decide,by show (0 : Int) < 4294967296;decide⟩,h1,h2⟩
end Go.Proofs.YtabbklpalbikdaaGreatDoor
end
section
namespace Go.Pt
open Go.RowKit
def ChanB (w : World) (b cap : Nat) (l : List Value) : Prop := ∃ s r,w.heap[b]? = some (.chan cap l.toArray false s r false)
theorem ChanB.upd {S : Nat → Prop} {w w' : World} {b cap : Nat} {l : List Value} (h : ChanB w b cap l) (u : Upd S w w') (hs : ¬ S b) : ChanB w' b cap l := by
 obtain ⟨s,r,h⟩ := h
 exact ⟨s,r,u.heap h hs⟩
theorem ChanB.lt {w : World} {b cap : Nat} {l : List Value} (h : ChanB w b cap l) : b < w.heap.size := by
 obtain ⟨s,r,h⟩ := h
 exact (Array.getElem?_eq_some_iff.1 h).1
theorem runChan {P : Program} {w : World} {r room s rc : Nat} {buf : Array Value} {cl tm : Bool} (h : w.heap[r]? = some (.chan room buf cl s rc tm)) : (getObj r).run P w = .ok (.chan room buf cl s rc tm) w := by simp [getObj,Sem.run,h]
theorem Upd.setChan (w : World) (c cap : Nat) (buf : Array Value) (cl : Bool) (s r : Nat) (tm : Bool) : Upd (fun k => k = c) w (w.setChan c cap buf cl s r tm) :=
 ⟨rfl,rfl,rfl,by simp [World.setChan],fun k _ hs => by simp only [World.setChan];rw [Array.getElem?_setIfInBounds_ne (fun e => hs e.symm)]⟩
section
variable {P : Program} {md : Md} {N : Nat} {ops : Array Oper} {rest : List Oper} {Γ : Env} {C : World → Prop} {Q : Exit → Act → World → Prop} {d : Nat} {ty t e : TypeId} {pos : String} {af : Array Edge} {w0 : World} {H : List Blk}
theorem Wl.makeChan {x : Operand} {k : IntKind} {n sz : Nat} {dir : ChanDir} (ht : P.underlying t = some (.chan dir e)) (hi : (P.info? e).map (·.bytes) = some sz) (hn : (n : Int) ≤ 9223372036854775807) (hb : (sz : Int) * n ≤ 281474976710544) (hd : Nat.blt d N = true) (hx : ev Γ x = some (.int k n))
  (h : ∀ b w1,w0.heap.size ≤ b → ChanB w1 b n [] → Upd (fun j => ¬ Off H j) w0 w1 → Off H b → Wl rest P .seq ops N ((d,.chan (some b)) :: Γ) (Hp w1 H) Q) :
  Wl (⟨some d,.makeChan t x,ty,pos,af,none⟩ :: rest) P .seq ops N Γ (Hp w0 H) Q :=
 Wl.eff fun a w ha hw => by
  obtain ⟨i,hi1,hi2⟩ := Option.map_eq_some_iff.1 hi
  have u : Upd (fun _ => False) w (w.alloc (.chan n #[] false 0 0 false)) := Upd.alloc _ _ _
  have hc : ChanB (w.alloc (.chan n #[] false 0 0 false)) w.heap.size n [] := ⟨0,0,heap_alloc_new w _⟩
  refine ⟨.chan (some w.heap.size),w.alloc (.chan n #[] false 0 0 false),.inl ?_,(h w.heap.size _ hw.upd.size hc (hw.upd.trans (Upd.alloc _ _ _)) (Off.lt hw.own)).elim _ _ (ha.put hd _) ⟨Upd.refl _ _,hw.own.upd u fun _ _ h => h,hw.apart⟩⟩
  have hr := Go.Conc.run_makeChan (P := P) (w := w) ht hi1 k n hn (by rw [hi2];exact hb)
  simp [execOp,ha.ev hx,hr]
theorem Wl.lenChan {x : Operand} {b cap : Nat} {l : List Value} {dir : ChanDir} (ht : P.underlying t = some (.chan dir e)) (hd : Nat.blt d N = true) (hx : ev Γ x = some (.chan (some b))) (hc : ∀ w,C w → ChanB w b cap l) (h : Wl rest P md ops N ((d,.int .i64 (l.length : Int)) :: Γ) C Q) :
  Wl (⟨some d,.call { callee := .builtin .len,args := #[x],argTypes := #[t] },ty,pos,af,none⟩ :: rest) P md ops N Γ C Q :=
 Wl.val hd (fun a w ha hw => by
  obtain ⟨s,r,hb⟩ := hc w hw
  simp [execOp,resolve,invoke,builtin,Builtin.len_,ha.ev hx,run_underlying ht,goInt,runChan hb]) h
end
def wpN (P : Program) (c : Code) (Q : Exit → Act → World → Prop) (a : Act) (w : World) : Prop :=
 ∀ (b : Frame),b.kind = .normal → ∀ (k : List Item) (cs : List Frame),∃ e a' w',Q e a' w' ∧ Arrives P (lone (b.at a (.code c :: k)) cs w) b k cs e a' w'
def StN (c : Code) (P : Program) (N : Nat) (Γ : Env) (C : World → Prop) (Q : Exit → Act → World → Prop) : Prop := ∀ a w,Fr N a Γ → C w → wpN P c Q a w
def SmN (P : Program) (ops : Array Oper) (l : List Nat) (N : Nat) (Γ : Env) (C : World → Prop) (Q : Exit → Act → World → Prop) : Prop :=
 ∀ a w,Fr N a Γ → C w → ∀ (b : Frame),b.kind = .normal → ∀ (k : List Item) (cs : List Frame),∃ e a' w',Q e a' w' ∧ Arrives P (lone (b.at a (.inRegion ops l :: k)) cs w) b k cs e a' w'
section
variable {P : Program} {N : Nat} {Γ : Env} {C : World → Prop} {Q : Exit → Act → World → Prop}
theorem StN.of {c : Code} (h : St c P N Γ C Q) : StN c P N Γ C Q := fun a w ha hw b _ k cs => h.elim a w ha hw b k cs
theorem StN.seq {x y : Code} (h : StN x P N Γ C (Exit.then (wpN P y Q) Q)) : StN (.seq x y) P N Γ C Q := by
 intro a w ha hw b hb k cs
 obtain ⟨e,a₁,w₁,hq,harr⟩ := h a w ha hw b hb (.code y :: k) cs
 cases e with
 | normal =>
  obtain ⟨e₂,a₂,w₂,hq₂,harr₂⟩ := hq b hb k cs
  exact ⟨e₂,a₂,w₂,hq₂,.of_steps (.head step_seq harr) harr₂⟩
 | exit id => exact ⟨_,a₁,w₁,hq,.of_steps (.one step_seq) (.pass (x := .code y) rfl (fun _ _ => .inl zd) harr)⟩
 | goto l => exact ⟨_,a₁,w₁,hq,.of_steps (.one step_seq) (.pass (x := .code y) rfl (fun _ _ => .inl zd) harr)⟩
 | ret => exact ⟨_,a₁,w₁,hq,.of_steps (.one step_seq) (.pass (x := .code y) rfl (fun _ _ => .inl zd) harr)⟩
 | panic ch => exact ⟨_,a₁,w₁,hq,.of_steps (.one step_seq) (.pass (x := .code y) rfl (fun _ _ => .inl zd) harr)⟩
 | outgrown => exact ⟨_,a₁,w₁,hq,.of_steps (.one step_seq) (.pass (x := .code y) rfl (fun _ _ => .inl zd) harr)⟩
theorem GtN.next {y : Code} (h : StN y P N Γ C Q) : Gt N .normal Γ C (Exit.then (wpN P y Q) Q) := Gt.intro fun a w ha hw => h a w ha hw
theorem GtN.base {y : Code} {w0 : World} {H : List Blk} (h : ∀ w,Hp w0 H w → StN y P N Γ (Hp w H) Q) : StN y P N Γ (Hp w0 H) Q := fun a w ha hw => h w hw a w ha hw.rebase
theorem StN.block {i : Nat} {c : Code} (h : StN c P N Γ C (Exit.inBlock i Q)) : StN (.block i c) P N Γ C Q := by
 intro a w ha hw b hb k cs
 obtain ⟨e,a₁,w₁,hq,harr⟩ := h a w ha hw b hb (.inBlock i :: k) cs
 cases e with
 | normal => exact ⟨.normal,a₁,w₁,hq,.head step_block (Steps.trans harr (.one step_inBlock))⟩
 | exit id' =>
  by_cases hid : id' = i
  ·simp only [Exit.inBlock,hid,if_true] at hq
   exact ⟨.normal,a₁,w₁,hq,.head step_block (harr k (by simp [exitTo,hid]))⟩
  ·simp only [Exit.inBlock,hid,if_false] at hq
   refine ⟨.exit id',a₁,w₁,hq,fun k' hk => .head step_block (harr k' ?_)⟩
   have : (i == id') = false := by simp;exact fun h => hid h.symm
   simp [exitTo,this,hk]
 | goto l => exact ⟨_,a₁,w₁,hq,fun k' hk => .head step_block (harr k' (by simp [gotoIn,hk]))⟩
 | ret => exact ⟨_,a₁,w₁,hq,.of_steps (.one step_block) harr⟩
 | panic ch => exact ⟨_,a₁,w₁,hq,.of_steps (.one step_block) harr⟩
 | outgrown => exact ⟨_,a₁,w₁,hq,.of_steps (b := b) (k := k) (cs := cs) (e := .outgrown) (.one step_block) harr⟩
theorem StN.loop {σ : Type} (I : σ → Prop) (Γf : σ → Env) (Cf : σ → World → Prop) (μ : σ → Nat) {c : Code} (τ0 : σ) (h0 : I τ0) (hs : Sub Γ (Γf τ0)) (hc : ∀ w,C w → Cf τ0 w)
  (round : ∀ τ,I τ → StN c P N (Γf τ) (Cf τ) (Exit.then (fun a w => ∃ τ',I τ' ∧ μ τ' < μ τ ∧ Fr N a (Γf τ') ∧ Cf τ' w) Q)) : StN (.loop c) P N Γ C Q := by
 intro a w ha hw b hb k cs
 have key : ∀ n τ a w,μ τ = n → I τ → Fr N a (Γf τ) → Cf τ w →
   ∃ e a' w',Q e a' w' ∧ Arrives P (lone (b.at a (.code c :: .inLoop c :: k)) cs w) b k cs e a' w' := by
  intro n
  induction n using Nat.strongRecOn with
  | _ n ih =>
   intro τ a w hn hI hfr hC
   obtain ⟨e,a₁,w₁,hq,harr⟩ := round τ hI a w hfr hC b hb (.inLoop c :: k) cs
   cases e with
   | normal =>
    obtain ⟨τ',hI',hlt,hfr',hC'⟩ := hq
    obtain ⟨e₂,a₂,w₂,hq₂,harr₂⟩ := ih (μ τ') (hn ▸ hlt) τ' a₁ w₁ rfl hI' hfr' hC'
    exact ⟨e₂,a₂,w₂,hq₂,.of_steps (Steps.trans harr (.one step_inLoop)) harr₂⟩
   | exit id => exact ⟨_,a₁,w₁,hq,.pass (x := .inLoop c) rfl (fun _ _ => .inl zd) harr⟩
   | goto l => exact ⟨_,a₁,w₁,hq,.pass (x := .inLoop c) rfl (fun _ _ => .inl zd) harr⟩
   | ret => exact ⟨_,a₁,w₁,hq,.pass (x := .inLoop c) rfl (fun _ _ => .inl zd) harr⟩
   | panic ch => exact ⟨_,a₁,w₁,hq,.pass (x := .inLoop c) rfl (fun _ _ => .inl zd) harr⟩
   | outgrown => exact ⟨_,a₁,w₁,hq,.pass (x := .inLoop c) rfl (fun _ _ => .inl zd) harr⟩
 obtain ⟨e,a',w',hq,harr⟩ := key _ τ0 a w rfl h0 (ha.sub hs) (hc w hw)
 exact ⟨e,a',w',hq,.of_steps (.one step_loop) harr⟩
theorem StN.region {i : Nat} {l : List Oper} (h : SmN P l.toArray (List.range l.length) N Γ C Q) : StN (.region i l.toArray false) P N Γ C Q := by
 intro a w ha hw b hb k cs
 obtain ⟨e,a',w',q,r⟩ := h a w ha hw b hb k cs
 exact ⟨e,a',w',q,.of_steps (.one step_region) r⟩
theorem enterN {f : FuncId} {fn : Func} {c : Code} {args : List Value} {w : World} {R : Ending → World → Prop} (hf : P.funcs[f]? = some fn) (hn : fn.ntmps = N) (hb : fn.body = some c) (hN : args.length ≤ N) (hΓ : ArgEnv args Γ)
  (h : StN c P N Γ (Hp w []) (bodyPost P fn R)) : Calls P f args.toArray w R := by
 intro cs
 let b : Frame := { (default : Frame) with fn := f,kind := .normal }
 have henter : Frame.enter P f args.toArray .normal =
   b.at { tmps := args.toArray ++ Array.replicate (fn.ntmps - args.toArray.size) undef,defers := [] } [.code c] := by
  simp [Frame.enter,Frame.at,hf,hb,b]
 have hh := h _ w (Fr.start (N := N) hN hΓ.get) (Hp.start w) b rfl [] cs
 rw [← hn] at hh
 obtain ⟨e,a',w',hq,harr⟩ := hh
 rw [← henter] at harr
 cases e with
 | normal =>
  obtain ⟨hd,v,hr,hR⟩ := hq
  exact ⟨.returned v,w',_,hR,Steps.trans harr (.one step_end),rfl,rfl,hd,rfl,fn,hf,hr⟩
 | ret =>
  obtain ⟨hd,v,hr,hR⟩ := hq
  obtain ⟨todo,hs⟩ := harr
  exact ⟨.returned v,w',_,hR,hs,rfl,rfl,hd,rfl,fn,hf,hr⟩
 | panic chain =>
  obtain ⟨hd,hR⟩ := hq
  obtain ⟨todo,hs⟩ := harr
  exact ⟨.panicked chain,w',_,hR,hs,rfl,rfl,hd,fn,hf⟩
 | outgrown => exact ⟨.outgrown,w',b.at a' [],hq,harr.resolve_left (by simp [b]),rfl,trivial⟩
 | exit id => exact hq.elim
 | goto l => exact hq.elim
variable {ops : Array Oper} {rest : List Nat} {i : Nat} {o : Oper}
theorem SmN.nil (h : Gt N .normal Γ C Q) : SmN P ops [] N Γ C Q := fun a w ha hw b _ k cs => ⟨.normal,a,w,h.elim a w ha hw,.one step_region_end⟩
theorem SmN.of {kk : Nat} {r : List Oper} (hk : ∀ j,r[j]? = ops[kk + j]?) (h : Wl r P .seq ops N Γ C Q) : SmN P ops (List.range' kk r.length) N Γ C Q := fun a w ha hw b _ k cs => wp_ops _ a w (by rw [wpOps_eq_wpList r kk hk];exact h.elim a w ha hw) b k cs
theorem wanted_none {o : Oper} (hg : o.guard = none) (y : Nat → Option Bool) : Region.wanted o y = true := by simp [Region.wanted,hg]
theorem SmN.val {d : Nat} {v : Value} (ho : ops[i]? = some o) (hg : o.guard = none) (hdst : o.dst = some d) (hd : Nat.blt d N = true) (hr : ∀ a w,Fr N a Γ → C w → (execOp a.eval o).run P w = .ok (.value v) w)
  (h : SmN P ops rest N ((d,v) :: Γ) C Q) : SmN P ops (i :: rest) N Γ C Q := by
 intro a w ha hw b hb k cs
 obtain ⟨e,a',w',q,r⟩ := h (a.put (some d) v) w (ha.put hd v) hw b hb k cs
 refine ⟨e,a',w',q,.of_steps (.one (step_lone_go ?_)) r⟩
 have hg' := stepG_op (P := P) (b := b) (a := a) (k := k) (cs := cs) (w := w) (rest := rest) ho (wanted_none hg _)
 have hfin : (b.at a (.inRegion ops (i :: rest) :: k)).finish v = b.at (a.put (some d) v) (.inRegion ops rest :: k) := by rw [Frame.finish_at,ho,← hdst];rfl
 rw [hg',← hfin];simp [stepG.apply,hr a w ha hw]
end
section
variable {P : Program} {N : Nat} {Γ : Env} {Q : Exit → Act → World → Prop} {ops : Array Oper} {rest : List Nat} {i : Nat} {o : Oper} {w0 : World} {H : List Blk} {d c cap : Nat} {l : List Value} {v z : Value}
theorem SmN.send {ch x : Operand} (ho : ops[i]? = some o) (hg : o.guard = none) (hd : o.dst = none) (hop : o.op = .send ch x) (hc : ev Γ ch = some (.chan (some c))) (hx : ev Γ x = some v) (hC : ChanB w0 c cap l) (hl : l.length < cap) (hoff : Off H c)
  (h : ∀ w1,ChanB w1 c cap (l ++ [v]) → Upd (fun j => j = c ∨ ¬ Off H j) w0 w1 → SmN P ops rest N Γ (Hp w1 H) Q) : SmN P ops (i :: rest) N Γ (Hp w0 H) Q := by
 intro a w ha hw b hb k cs
 obtain ⟨s,r,hcw⟩ := hC.upd hw.upd fun y => y hoff
 have hr : (execOp a.eval o).run P w = .ok (.comm #[Go.Conc.scase c v (.tuple #[])] true .send) w := by
  obtain ⟨d',op',ty',pos',af',g'⟩ := o
  simp only at hop
  subst hop
  simp [execOp,ha.ev hc,ha.ev hx,Go.Conc.scase,Sem.run,pure]
 have hst := Go.Conc.stepG_comm (P := P) (b := b) (a := a) (k := k) (cs := cs) (w := w) (main := true) (rest := rest) ho (wanted_none hg _) (by rw [hb];decide) hr
 have hs2 := Go.Conc.step_lone_send_room hst hcw (by simpa using hl)
 have hfin : (b.at a (.inRegion ops (i :: rest) :: k)).finish undef = b.at (a.put none undef) (.inRegion ops rest :: k) := by rw [Frame.finish_at,ho,← hd];rfl
 rw [hfin] at hs2
 have hlt : c < w.heap.size := (Array.getElem?_eq_some_iff.1 hcw).1
 have hu := Upd.setChan w c cap (l.toArray.push v) false (s + 1) r false
 obtain ⟨e,a',w',q,rr⟩ := h _ ⟨s + 1,r,by rw [Go.Conc.heap_setChan _ _ _ _ _ _ _ _ hlt];simp⟩ ((hw.upd.mono fun _ _ y => .inr y).trans (hu.mono fun _ _ y => .inl y)) (a.put none undef) _ (ha.put0 _) ⟨Upd.refl _ _,hw.own.upd hu fun x hx e => hoff.at hx e,hw.apart⟩ b hb k cs
 exact ⟨e,a',w',q,.of_steps (.one hs2) rr⟩
theorem SmN.recv {ch : Operand} {t : TypeId} {zv : Value} (ho : ops[i]? = some o) (hg : o.guard = none) (hd : o.dst = some d) (hdN : Nat.blt d N = true) (hop : o.op = .recv t ch false) (hz : ∀ w,(execOp (fun _ => .chan (some c)) o).run P w = .ok (.comm #[Go.Conc.rcase c zv] true (.recv false)) w) (hc : ev Γ ch = some (.chan (some c))) (hC : ChanB w0 c cap (v :: l)) (hoff : Off H c)
  (h : ∀ w1,ChanB w1 c cap l → Upd (fun j => j = c ∨ ¬ Off H j) w0 w1 → SmN P ops rest N ((d,v) :: Γ) (Hp w1 H) Q) : SmN P ops (i :: rest) N Γ (Hp w0 H) Q := by
 intro a w ha hw b hb k cs
 obtain ⟨s,r,hcw⟩ := hC.upd hw.upd fun y => y hoff
 have hr : (execOp a.eval o).run P w = .ok (.comm #[Go.Conc.rcase c zv] true (.recv false)) w := by
  have := hz w
  obtain ⟨d',op',ty',pos',af',g'⟩ := o
  simp only at hop
  subst hop
  simp only [execOp,ha.ev hc] at this ⊢
  exact this
 have hst := Go.Conc.stepG_comm (P := P) (b := b) (a := a) (k := k) (cs := cs) (w := w) (main := true) (rest := rest) ho (wanted_none hg _) (by rw [hb];decide) hr
 have hs2 := Go.Conc.step_lone_recv_buf false hst hcw zd
 have hfin : (b.at a (.inRegion ops (i :: rest) :: k)).finish v = b.at (a.put (some d) v) (.inRegion ops rest :: k) := by rw [Frame.finish_at,ho,← hd];rfl
 have e1 : Go.Conc.got false ((v :: l).toArray.getD 0 undef) true = v := by simp [Go.Conc.got]
 rw [e1,hfin] at hs2
 have hlt : c < w.heap.size := (Array.getElem?_eq_some_iff.1 hcw).1
 have hu := Upd.setChan w c cap ((v :: l).toArray.extract 1 (v :: l).toArray.size) false s (r + 1) false
 obtain ⟨e,a',w',q,rr⟩ := h _ ⟨s,r + 1,by rw [Go.Conc.heap_setChan _ _ _ _ _ _ _ _ hlt];simp⟩ ((hw.upd.mono fun _ _ y => .inr y).trans (hu.mono fun _ _ y => .inl y)) (a.put (some d) v) _ (ha.put hdN _) ⟨Upd.refl _ _,hw.own.upd hu fun x hx e => hoff.at hx e,hw.apart⟩ b hb k cs
 exact ⟨e,a',w',q,.of_steps (.one hs2) rr⟩
theorem SmN.selSend {ch x : Operand} {t : TypeId} {zv : Value} (ho : ops[i]? = some o) (hg : o.guard = none) (hd : o.dst = some d) (hdN : Nat.blt d N = true) (hz : ∀ w a,Fr N a Γ → (execOp a.eval o).run P w = .ok (.comm #[Go.Conc.scase c v zv] false .select) w) (hC : ChanB w0 c cap l) (hoff : Off H c)
  (h1 : l.length < cap → ∀ w1,ChanB w1 c cap (l ++ [v]) → Upd (fun j => j = c ∨ ¬ Off H j) w0 w1 → SmN P ops rest N ((d,.tuple #[.int .i64 0,.bool false]) :: Γ) (Hp w1 H) Q)
  (h2 : cap ≤ l.length → SmN P ops rest N ((d,.tuple #[.int .i64 (-1),.bool false]) :: Γ) (Hp w0 H) Q) : SmN P ops (i :: rest) N Γ (Hp w0 H) Q := by
 intro a w ha hw b hb k cs
 obtain ⟨s,r,hcw⟩ := hC.upd hw.upd fun y => y hoff
 have hst := Go.Conc.stepG_comm (P := P) (b := b) (a := a) (k := k) (cs := cs) (w := w) (main := true) (rest := rest) ho (wanted_none hg _) (by rw [hb];decide) (hz w a ha)
 have hfin : ∀ v,(b.at a (.inRegion ops (i :: rest) :: k)).finish v = b.at (a.put (some d) v) (.inRegion ops rest :: k) := fun v => by rw [Frame.finish_at,ho,← hd];rfl
 have hlt : c < w.heap.size := (Array.getElem?_eq_some_iff.1 hcw).1
 by_cases hl : l.length < cap
 ·have hs2 := Go.Conc.step_lone_select_send_room hst hcw (by simpa using hl)
  rw [hfin] at hs2
  have hu := Upd.setChan w c cap (l.toArray.push v) false (s + 1) r false
  obtain ⟨e,a',w',q,rr⟩ := h1 hl _ ⟨s + 1,r,by rw [Go.Conc.heap_setChan _ _ _ _ _ _ _ _ hlt];simp⟩ ((hw.upd.mono fun _ _ y => .inr y).trans (hu.mono fun _ _ y => .inl y)) (a.put (some d) _) _ (ha.put hdN _) ⟨Upd.refl _ _,hw.own.upd hu fun x hx e => hoff.at hx e,hw.apart⟩ b hb k cs
  exact ⟨e,a',w',q,.of_steps (.one hs2) rr⟩
 ·have hs2 := Go.Conc.step_lone_select_send_full hst hcw zi
  rw [hfin] at hs2
  obtain ⟨e,a',w',q,rr⟩ := h2 kc (a.put (some d) _) _ (ha.put hdN _) hw b hb k cs
  exact ⟨e,a',w',q,.of_steps (.one hs2) rr⟩
end
end Go.Pt
end
section
namespace Go.Proofs.YtabbklpalbikdaaGreatDoor
open Go.RowKit Go.Pt
def chs (cs : List Nat) : List Value := cs.map fun c => .chan (some c)
def PostS (w : World) (pp pa : Nat) (cs : List Nat) (bx : Nat → List Value) : Prop :=
 (∃ cap J,w.heap[pp]? = some (.cells #[.slice (some ⟨pa,0,none⟩) cs.length cap] 255 (0,0)) ∧ w.heap[pa]? = some (.cells (chs cs ++ J).toArray 232 (0,0))) ∧ (∀ (i : Nat) (c : Nat),cs[i]? = some c → ChanB w c 4 (bx i)) ∧ (∀ (i j : Nat) (c : Nat),cs[i]? = some c → cs[j]? = some c → i = j) ∧ 1 ≤ cs.length ∧ cs.length ≤ 4
theorem PostS.upd {w w' : World} {pp pa : Nat} {cs : List Nat} {bx : Nat → List Value} {S : Nat → Prop} (k : PostS w pp pa cs bx) (u : Upd S w w') (h1 : ¬ S pp) (h2 : ¬ S pa) (h3 : ∀ c ∈ cs,¬ S c) : PostS w' pp pa cs bx := by
 obtain ⟨⟨cap,J,a,b⟩,hc,r⟩ := k
 exact ⟨⟨cap,J,u.heap a h1,u.heap b h2⟩,fun i c hi => (hc i c hi).upd u (h3 c (List.mem_of_getElem? hi)),r⟩
theorem PostS.lt {w : World} {pp pa : Nat} {cs : List Nat} {bx : Nat → List Value} (k : PostS w pp pa cs bx) : pp < w.heap.size ∧ pa < w.heap.size ∧ ∀ c ∈ cs,c < w.heap.size := by
 obtain ⟨⟨cap,J,a,b⟩,hc,r⟩ := k
 refine ⟨lt_of_block a,lt_of_block b,fun c hm => ?_⟩
 obtain ⟨i,hi⟩ := List.mem_iff_getElem?.1 hm
 exact (hc i c hi).lt
theorem chs_at {cs : List Nat} {J : List Value} {i c : Nat} (h : cs[i]? = some c) : (chs cs ++ J)[i]? = some (.chan (some c)) := by
 have hl := (List.getElem?_eq_some_iff.1 h).1
 rw [List.getElem?_append_left (by unfold chs;rw [List.length_map];exact hl)]
 unfold chs
 rw [List.getElem?_map,h];rfl
theorem pBox (pp pa : Nat) (cs : List Nat) (bx : Nat → List Value) (i c : Nat) (w : World) (hP : PostS w pp pa cs bx) (hi : cs[i]? = some c) :
  Calls Tryz.prog 126 #[.pointer (some ⟨pp,0,none⟩),.int .i64 i] w fun e w' => e = .returned (.chan (some c)) ∧ Hp w [] w' := by
 have hil := (List.getElem?_eq_some_iff.1 hi).1
 obtain ⟨⟨cap,J,a,b⟩,hc,r⟩ := hP
 have p0 : w.cell? ⟨pp,0,none⟩ = some (.slice (some ⟨pa,0,none⟩) cs.length cap) := cell_of a rfl
 have p1 : w.cell? ⟨pa,0 + (i : Int).toNat,none⟩ = some (.chan (some c)) := by
  rw [Int.toNat_natCast,Nat.zero_add]
  exact cell_of b (chs_at hi)
 have hd0 : decide ((i : Int) < 0) = false := decide_eq_false kc
 have hd1 : decide ((i : Int) ≥ (cs.length : Int)) = false := decide_eq_false kc
 refine enter (args := [_,_]) (Γ := [(0,_),(1,_)]) Tryz.func126 Tryz.ntmps126 rfl odq (.cons rfl (.cons rfl .nil)) ?_
 repeat' first | (apply Wl.loadO;exact rfl;exact rfl;exact zx;exact km) | refine Wl.move rfl rfl ?_ | refine Wl.assign rfl rfl ?_ | (apply Wl.on;exact rfl;exact rfl;exact k5) | refine Wl.nilCheck rfl rfl ?_ | (apply Wl.pickF;exact rfl;exact rfl;exact k5;exact rfl) | refine Wl.fieldAddr0 rfl rfl ?_ | refine Wl.eqlPN rfl rfl rfl ?_ | refine Wl.lss rfl rfl rfl ?_ | refine Wl.geq rfl rfl rfl ?_ | refine Wl.len rfl rfl ?_ | (refine Wl.indexAddr1 rfl rfl rfl ?_ ?_;constructor <;> omega) | apply Wl.nil | apply St.seq | apply St.region | (apply St.condF;exact rfl;exact k5) | apply St.ret | apply St.skip | apply Gt.next | (apply Gt.out1;exact rfl;exact rfl;intro w' hp)
 exact ⟨rfl,hp⟩
theorem chTy : Tryz.prog.underlying 232 = some (.chan .both 78) := by kernel_rfl
theorem pNew (n : Nat) (w : World) (hn : 1 ≤ n ∧ n ≤ 4) :
  Calls Tryz.prog 88 #[.int .i64 n] w fun e w' => ∃ pp pa cs,e = .returned (.tuple #[.pointer (some ⟨pp,0,none⟩),.int .i64 0]) ∧ PostS w' pp pa cs (fun _ => []) ∧ cs.length = n ∧ w.heap.size ≤ pp ∧ w.heap.size ≤ pa ∧ (∀ c ∈ cs,w.heap.size ≤ c) ∧ Upd (fun k => w.heap.size ≤ k) w w' := by
 have hd1 : decide ((n : Int) < 1) = false := decide_eq_false kc
 have hd2 : decide ((n : Int) > 4) = false := decide_eq_false kc
 refine enter (args := [_]) (Γ := [(0,_)]) Tryz.func88 Tryz.ntmps88 rfl odq (.cons rfl .nil) ?_
 repeat' first | refine Wl.move rfl rfl ?_ | refine Wl.assign rfl rfl ?_ | (apply Wl.on;exact rfl;exact rfl;exact k5) | (apply Wl.pickF;exact rfl;exact rfl;exact k5;exact rfl) | refine Wl.lss rfl rfl rfl ?_ | refine Wl.gtr rfl rfl rfl ?_ | (apply Wl.buildS;exact rfl;exact kj;exact ka) | (apply Wl.boxA;exact rfl;exact rfl;intro c hc ho) | apply Wl.nil | apply St.seq | apply St.block | apply St.region | (apply St.condF;exact rfl;exact k5) | apply St.skip | apply Gt.next
 generalize c = pp at *
 have hpp : w.heap.size ≤ pp := by assumption
 refine St.loop (σ := Nat × World × Value × List Nat) (fun τ => τ.1 ≤ n ∧ Upd (fun k => w.heap.size ≤ k) w τ.2.1 ∧ τ.2.1.ownsRow w.heap.size 232 1 τ.2.2.1 τ.1 (chs τ.2.2.2) ∧ (∀ k,τ.2.2.1.ownBlock = some k → k ≠ pp ∧ ∀ c ∈ τ.2.2.2,k ≠ c) ∧ τ.2.2.2.length = τ.1 ∧ (∀ c ∈ τ.2.2.2,w.heap.size ≤ c ∧ c ≠ pp ∧ ChanB τ.2.1 c 4 []) ∧ (∀ (i j c : Nat),τ.2.2.2[i]? = some c → τ.2.2.2[j]? = some c → i = j))
  (fun τ => [(4,.pointer (some ⟨pp,0,none⟩)),(13,.int .i64 (n : Int)),(14,.int .i64 (τ.1 : Int))]) (fun τ => Hp τ.2.1 [⟨pp,[τ.2.2.1],255⟩]) (fun τ => n - τ.1) (0,w,.slice none 0 0,[]) ⟨Nat.zero_le _,Upd.refl _ _,World.ownsRow_nil w _ _ _,(fun k hk => by cases hk),rfl,(fun c hc => by cases hc),(fun i j c hc => by cases hc)⟩ kq (fun _ h => h) ?_
 rintro ⟨i,w0,v,cs⟩ ⟨hi,hu0,hv,hoff,hcl,hch,hnd⟩
 simp only at hi hu0 hv hoff hcl hch hnd ⊢
 have s0 := hu0.size
 by_cases hlt : i < n
 ·have hd : decide ((i : Int) < (n : Int)) = true := decide_eq_true kc
  repeat' first | refine Wl.lss rfl rfl rfl ?_ | apply Wl.nil | apply St.seq | apply St.block | apply St.region | (apply St.condT;exact rfl;exact k5) | apply St.skip | apply Gt.next
  refine St.tree (fun _ => True) mixed (fun _ h' => ⟨Hp.drew h',trivial⟩) ?_
  refine Mt.pm 0 ?_
  refine Mt.pm 1 ?_
  refine Mt.pn 2 ?_
  refine Mt.pf 3 ?_
  refine Mt.eff2 (i := 4) (j := 5) kb kf kf ?_ ?_
  ·repeat' first | (apply Wl.loadH;exact rfl;exact rfl;exact kd;exact rfl) | apply Wl.nil
   refine Mt.backE (fun _ _ => trivial) ?_
   refine Mt.e1 5 ?_
   apply Wl.makeChan (n := 4) (sz := 24) chTy
   ·kernel_rfl
   ·decide
   ·decide
   ·exact rfl
   ·exact rfl
   intro cn w1 hcn hC1 u1 hoC
   have s1 := u1.size
   have lc := hC1.lt
   have lpp := hoC.1
   simp only at lpp
   apply Wl.nil
   refine Mt.backE (fun _ _ => trivial) ?_
   refine Mt.e1 6 ?_
   repeat' first | (apply Wl.lit;exact rfl;exact kj;exact rfl;exact rfl;exact ke;intro c hc ho) | apply Wl.nil
   generalize c = c6 at *
   have hc6 : w1.heap.size ≤ c6 := by assumption
   refine Mt.backE (fun _ _ => trivial) ?_
   have hv1 : w1.ownsRow w.heap.size 232 1 v i (chs cs) := ownsRow_upd hv u1 fun k hk y => y ⟨fun e => (hoff k hk).1 e.symm,trivial⟩
   refine Mt.e1 7 ?_
   apply Wl.appendT (base := w.heap.size) (n := i) (m := 1) (sz := 1) (e := 232) (xs := chs cs)
   ·exact rfl
   ·exact rfl
   ·exact rfl
   ·assumption
   ·exact rfl
   ·exact hv1
   ·exact fun k hk => ⟨fun e => (hoff k hk).1 e.symm,trivial⟩
   ·exact rfl
   ·exact rfl
   ·decide
   ·unfold maxLen;omega
   ·omega
   ·omega
   intro v' w2 ho2 u2 _ hoff2
   have hov := ho2.one
   have s2 := u2.size
   apply Wl.nil
   refine Mt.backE (fun _ _ => trivial) ?_
   refine Mt.pn 8 ?_
   refine Mt.pf 9 ?_
   refine Mt.e1 10 ?_
   repeat' first | (apply Wl.store;exact rfl;exact rfl;exact hov;exact kd;exact ki) | apply Wl.nil
   refine Mt.backE (fun _ _ => trivial) ?_
   refine Mt.toGt kb ?_
   repeat' first | refine Wl.move rfl rfl ?_ | (refine Wl.addI rfl rfl rfl ?_ ?_;constructor <;> omega) | apply Wl.nil | apply St.region | apply Gt.next | apply Gt.inNormal
   have hC2 : ChanB w2 cn 4 [] := hC1.upd u2 fun y => by
    rcases y with y | y
    ·have := hv.ge cn y
     omega
    ·exact y ⟨fun e => hoC.1 e,trivial⟩
   have hoo : ∀ c ∈ cs,ChanB w2 c 4 [] := fun c hc => ((hch c hc).2.2.upd u1 fun y => y ⟨fun e => (hch c hc).2.1 e.symm,trivial⟩).upd u2 fun y => by
    rcases y with y | y
    ·exact (hoff c y).2 c hc rfl
    ·exact y ⟨fun e => (hch c hc).2.1 e.symm,trivial⟩
   have hlt0 : ∀ c ∈ cs,c < w0.heap.size := fun c hc => (hch c hc).2.2.lt
   apply Gt.round (i + 1,w2,v',cs ++ [cn])
   rotate_left
   ·simp only;omega
   ·exact kd
   ·exact fun _ h => h
   ·refine ⟨hlt,(hu0.comp u1 fun k hk hs => hs.elim id fun y => Classical.byContradiction fun hn => y ⟨fun e => hn qe,trivial⟩).comp u2 fun k hk hs => ?_,by rw [show chs (cs ++ [cn]) = chs cs ++ [.chan (some cn)] by simp [chs]];exact ho2,fun k hk => ?_,by simp [hcl],fun c hc => ?_,fun j j' c h1 h2 => ?_⟩
    ·rcases hs with y | y | y
     ·exact y
     ·exact (hv.ge k y).1
     ·exact Classical.byContradiction fun hn => y ⟨fun e => hn qe,trivial⟩
    ·have hkk := hoff2 k hk
     refine ⟨fun e => hkk.1.1 e.symm,fun c hc e => ?_⟩
     subst e
     rcases List.mem_append.1 hc with hc | hc
     ·rcases hkk.2 with y | y
      ·exact (hoff k y).2 k hc rfl
      ·have := hlt0 k hc;omega
     ·rw [List.mem_singleton.1 hc] at hkk
      rcases hkk.2 with y | y
      ·have := hv.ge cn y;omega
      ·omega
    ·rcases List.mem_append.1 hc with hc | hc
     ·exact ⟨(hch c hc).1,(hch c hc).2.1,hoo c hc⟩
     ·rw [List.mem_singleton.1 hc]
      exact ⟨by omega,fun e => lpp e.symm,hC2⟩
    ·have key : ∀ (j : Nat) (c : Nat),(cs ++ [cn])[j]? = some c → (j < cs.length ∧ cs[j]? = some c ∧ c < w0.heap.size) ∨ (j = cs.length ∧ c = cn) := fun j c h => by
      by_cases hj : j < cs.length
      ·rw [List.getElem?_append_left hj] at h
       exact .inl ⟨hj,h,hlt0 c (List.mem_of_getElem? h)⟩
      ·rw [List.getElem?_append_right kc] at h
       have : j - cs.length = 0 := by
        rcases hz : j - cs.length with _ | z
        ·rfl
        ·rw [hz] at h;simp at h
       rw [this] at h
       simp at h
       exact .inr ⟨by omega,h.symm⟩
     rcases key j c h1 with ⟨a1,a2,a3⟩ | ⟨a1,a2⟩ <;> rcases key j' c h2 with ⟨b1,b2,b3⟩ | ⟨b1,b2⟩
     ·exact hnd j j' c a2 b2
     ·omega
     ·omega
     ·omega
  ·apply Wl.makeChan (n := 4) (sz := 24) chTy
   ·kernel_rfl
   ·decide
   ·decide
   ·exact rfl
   ·exact rfl
   intro cn w1 hcn hC1 u1 hoC
   have s1 := u1.size
   have lc := hC1.lt
   have lpp := hoC.1
   simp only at lpp
   apply Wl.nil
   refine Mt.backE (fun _ _ => trivial) ?_
   refine Mt.eff2 (i := 4) (j := 6) kb kf kf ?_ ?_
   ·repeat' first | (apply Wl.loadH;exact rfl;exact rfl;exact kd;exact rfl) | apply Wl.nil
    refine Mt.backE (fun _ _ => trivial) ?_
    refine Mt.e1 6 ?_
    repeat' first | (apply Wl.lit;exact rfl;exact kj;exact rfl;exact rfl;exact ke;intro c hc ho) | apply Wl.nil
    generalize c = c6 at *
    have hc6 : w1.heap.size ≤ c6 := by assumption
    refine Mt.backE (fun _ _ => trivial) ?_
    have hv1 : w1.ownsRow w.heap.size 232 1 v i (chs cs) := ownsRow_upd hv u1 fun k hk y => y ⟨fun e => (hoff k hk).1 e.symm,trivial⟩
    refine Mt.e1 7 ?_
    apply Wl.appendT (base := w.heap.size) (n := i) (m := 1) (sz := 1) (e := 232) (xs := chs cs)
    ·exact rfl
    ·exact rfl
    ·exact rfl
    ·assumption
    ·exact rfl
    ·exact hv1
    ·exact fun k hk => ⟨fun e => (hoff k hk).1 e.symm,trivial⟩
    ·exact rfl
    ·exact rfl
    ·decide
    ·unfold maxLen;omega
    ·omega
    ·omega
    intro v' w2 ho2 u2 _ hoff2
    have hov := ho2.one
    have s2 := u2.size
    apply Wl.nil
    refine Mt.backE (fun _ _ => trivial) ?_
    refine Mt.pn 8 ?_
    refine Mt.pf 9 ?_
    refine Mt.e1 10 ?_
    repeat' first | (apply Wl.store;exact rfl;exact rfl;exact hov;exact kd;exact ki) | apply Wl.nil
    refine Mt.backE (fun _ _ => trivial) ?_
    refine Mt.toGt kb ?_
    repeat' first | refine Wl.move rfl rfl ?_ | (refine Wl.addI rfl rfl rfl ?_ ?_;constructor <;> omega) | apply Wl.nil | apply St.region | apply Gt.next | apply Gt.inNormal
    have hC2 : ChanB w2 cn 4 [] := hC1.upd u2 fun y => by
     rcases y with y | y
     ·have := hv.ge cn y
      omega
     ·exact y ⟨fun e => hoC.1 e,trivial⟩
    have hoo : ∀ c ∈ cs,ChanB w2 c 4 [] := fun c hc => ((hch c hc).2.2.upd u1 fun y => y ⟨fun e => (hch c hc).2.1 e.symm,trivial⟩).upd u2 fun y => by
     rcases y with y | y
     ·exact (hoff c y).2 c hc rfl
     ·exact y ⟨fun e => (hch c hc).2.1 e.symm,trivial⟩
    have hlt0 : ∀ c ∈ cs,c < w0.heap.size := fun c hc => (hch c hc).2.2.lt
    apply Gt.round (i + 1,w2,v',cs ++ [cn])
    rotate_left
    ·simp only;omega
    ·exact kd
    ·exact fun _ h => h
    ·refine ⟨hlt,(hu0.comp u1 fun k hk hs => hs.elim id fun y => Classical.byContradiction fun hn => y ⟨fun e => hn qe,trivial⟩).comp u2 fun k hk hs => ?_,by rw [show chs (cs ++ [cn]) = chs cs ++ [.chan (some cn)] by simp [chs]];exact ho2,fun k hk => ?_,by simp [hcl],fun c hc => ?_,fun j j' c h1 h2 => ?_⟩
     ·rcases hs with y | y | y
      ·exact y
      ·exact (hv.ge k y).1
      ·exact Classical.byContradiction fun hn => y ⟨fun e => hn qe,trivial⟩
     ·have hkk := hoff2 k hk
      refine ⟨fun e => hkk.1.1 e.symm,fun c hc e => ?_⟩
      subst e
      rcases List.mem_append.1 hc with hc | hc
      ·rcases hkk.2 with y | y
       ·exact (hoff k y).2 k hc rfl
       ·have := hlt0 k hc;omega
      ·rw [List.mem_singleton.1 hc] at hkk
       rcases hkk.2 with y | y
       ·have := hv.ge cn y;omega
       ·omega
     ·rcases List.mem_append.1 hc with hc | hc
      ·exact ⟨(hch c hc).1,(hch c hc).2.1,hoo c hc⟩
      ·rw [List.mem_singleton.1 hc]
       exact ⟨by omega,fun e => lpp e.symm,hC2⟩
     ·have key : ∀ (j : Nat) (c : Nat),(cs ++ [cn])[j]? = some c → (j < cs.length ∧ cs[j]? = some c ∧ c < w0.heap.size) ∨ (j = cs.length ∧ c = cn) := fun j c h => by
       by_cases hj : j < cs.length
       ·rw [List.getElem?_append_left hj] at h
        exact .inl ⟨hj,h,hlt0 c (List.mem_of_getElem? h)⟩
       ·rw [List.getElem?_append_right kc] at h
        have : j - cs.length = 0 := by
         rcases hz : j - cs.length with _ | z
         ·rfl
         ·rw [hz] at h;simp at h
        rw [this] at h
        simp at h
        exact .inr ⟨by omega,h.symm⟩
      rcases key j c h1 with ⟨a1,a2,a3⟩ | ⟨a1,a2⟩ <;> rcases key j' c h2 with ⟨b1,b2,b3⟩ | ⟨b1,b2⟩
      ·exact hnd j j' c a2 b2
      ·omega
      ·omega
      ·omega
   ·repeat' first | (apply Wl.lit;exact rfl;exact kj;exact rfl;exact rfl;exact ke;intro c hc ho) | apply Wl.nil
    generalize c = c6 at *
    have hc6 : w1.heap.size ≤ c6 := by assumption
    refine Mt.backE (fun _ _ => trivial) ?_
    refine Mt.e1 4 ?_
    repeat' first | (apply Wl.loadH;exact rfl;exact rfl;exact kd;exact rfl) | apply Wl.nil
    refine Mt.backE (fun _ _ => trivial) ?_
    have hv1 : w1.ownsRow w.heap.size 232 1 v i (chs cs) := ownsRow_upd hv u1 fun k hk y => y ⟨fun e => (hoff k hk).1 e.symm,trivial⟩
    refine Mt.e1 7 ?_
    apply Wl.appendT (base := w.heap.size) (n := i) (m := 1) (sz := 1) (e := 232) (xs := chs cs)
    ·exact rfl
    ·exact rfl
    ·exact rfl
    ·assumption
    ·exact rfl
    ·exact hv1
    ·exact fun k hk => ⟨fun e => (hoff k hk).1 e.symm,trivial⟩
    ·exact rfl
    ·exact rfl
    ·decide
    ·unfold maxLen;omega
    ·omega
    ·omega
    intro v' w2 ho2 u2 _ hoff2
    have hov := ho2.one
    have s2 := u2.size
    apply Wl.nil
    refine Mt.backE (fun _ _ => trivial) ?_
    refine Mt.pn 8 ?_
    refine Mt.pf 9 ?_
    refine Mt.e1 10 ?_
    repeat' first | (apply Wl.store;exact rfl;exact rfl;exact hov;exact kd;exact ki) | apply Wl.nil
    refine Mt.backE (fun _ _ => trivial) ?_
    refine Mt.toGt kb ?_
    repeat' first | refine Wl.move rfl rfl ?_ | (refine Wl.addI rfl rfl rfl ?_ ?_;constructor <;> omega) | apply Wl.nil | apply St.region | apply Gt.next | apply Gt.inNormal
    have hC2 : ChanB w2 cn 4 [] := hC1.upd u2 fun y => by
     rcases y with y | y
     ·have := hv.ge cn y
      omega
     ·exact y ⟨fun e => hoC.1 e,trivial⟩
    have hoo : ∀ c ∈ cs,ChanB w2 c 4 [] := fun c hc => ((hch c hc).2.2.upd u1 fun y => y ⟨fun e => (hch c hc).2.1 e.symm,trivial⟩).upd u2 fun y => by
     rcases y with y | y
     ·exact (hoff c y).2 c hc rfl
     ·exact y ⟨fun e => (hch c hc).2.1 e.symm,trivial⟩
    have hlt0 : ∀ c ∈ cs,c < w0.heap.size := fun c hc => (hch c hc).2.2.lt
    apply Gt.round (i + 1,w2,v',cs ++ [cn])
    rotate_left
    ·simp only;omega
    ·exact kd
    ·exact fun _ h => h
    ·refine ⟨hlt,(hu0.comp u1 fun k hk hs => hs.elim id fun y => Classical.byContradiction fun hn => y ⟨fun e => hn qe,trivial⟩).comp u2 fun k hk hs => ?_,by rw [show chs (cs ++ [cn]) = chs cs ++ [.chan (some cn)] by simp [chs]];exact ho2,fun k hk => ?_,by simp [hcl],fun c hc => ?_,fun j j' c h1 h2 => ?_⟩
     ·rcases hs with y | y | y
      ·exact y
      ·exact (hv.ge k y).1
      ·exact Classical.byContradiction fun hn => y ⟨fun e => hn qe,trivial⟩
     ·have hkk := hoff2 k hk
      refine ⟨fun e => hkk.1.1 e.symm,fun c hc e => ?_⟩
      subst e
      rcases List.mem_append.1 hc with hc | hc
      ·rcases hkk.2 with y | y
       ·exact (hoff k y).2 k hc rfl
       ·have := hlt0 k hc;omega
      ·rw [List.mem_singleton.1 hc] at hkk
       rcases hkk.2 with y | y
       ·have := hv.ge cn y;omega
       ·omega
     ·rcases List.mem_append.1 hc with hc | hc
      ·exact ⟨(hch c hc).1,(hch c hc).2.1,hoo c hc⟩
      ·rw [List.mem_singleton.1 hc]
       exact ⟨by omega,fun e => lpp e.symm,hC2⟩
     ·have key : ∀ (j : Nat) (c : Nat),(cs ++ [cn])[j]? = some c → (j < cs.length ∧ cs[j]? = some c ∧ c < w0.heap.size) ∨ (j = cs.length ∧ c = cn) := fun j c h => by
       by_cases hj : j < cs.length
       ·rw [List.getElem?_append_left hj] at h
        exact .inl ⟨hj,h,hlt0 c (List.mem_of_getElem? h)⟩
       ·rw [List.getElem?_append_right kc] at h
        have : j - cs.length = 0 := by
         rcases hz : j - cs.length with _ | z
         ·rfl
         ·rw [hz] at h;simp at h
        rw [this] at h
        simp at h
        exact .inr ⟨by omega,h.symm⟩
      rcases key j c h1 with ⟨a1,a2,a3⟩ | ⟨a1,a2⟩ <;> rcases key j' c h2 with ⟨b1,b2,b3⟩ | ⟨b1,b2⟩
      ·exact hnd j j' c a2 b2
      ·omega
      ·omega
      ·omega
 ·obtain rfl : i = n := by omega
  have hd : decide ((i : Int) < (i : Int)) = false := decide_eq_false kc
  obtain ⟨g,cp,J,rfl,hg1,hg2⟩ := hv.blk kc
  have hgo := hoff g rfl
  repeat' first | refine Wl.move rfl rfl ?_ | refine Wl.assign rfl rfl ?_ | refine Wl.lss rfl rfl rfl ?_ | apply Wl.nil | apply St.seq | apply St.region | (apply St.condF;exact rfl;exact k5) | apply St.ret | apply St.exit | apply Gt.next | apply Gt.thenExit | apply Gt.inExit | (apply Gt.out2;exact rfl;exact rfl;exact rfl;intro w' hp)
  refine ⟨pp,g,cs,rfl,⟨⟨cp,J,by rw [hcl];exact hp.own.at (.head _),hp.upd.heap hg2 fun y => y ⟨fun e => hgo.1 e.symm,trivial⟩⟩,fun j c hj => ?_,hnd,by rw [hcl];exact hn⟩,hcl,hpp,hg1,fun c hc => (hch c hc).1,hp.on hu0 k6⟩
  have hm := List.mem_of_getElem? hj
  exact (hch c hm).2.2.upd hp.upd fun y => y ⟨fun e => (hch c hm).2.1 e.symm,trivial⟩
def strV (l : List UInt8) : Value := .string (strOf l)
theorem strV_size (l : List UInt8) : (strOf l).size = l.length := by unfold strOf;simp [ByteArray.size]
def lineC (x : Int × List UInt8) : List Value := [.int .i64 x.1,strV x.2]
def BoardS (w : World) (base bd ia : Nat) (lv : Value) (ll : List (Int × List UInt8)) (used : Int) (ins : List (List UInt8)) : Prop :=
 (∃ cap J,w.heap[bd]? = some (.cells #[lv,.int .i64 used,.slice (some ⟨ia,0,none⟩) ins.length cap] 231 (0,0)) ∧ w.heap[ia]? = some (.cells (ins.map strV ++ J).toArray 9 (0,0))) ∧ w.ownsRow base 111 2 lv ll.length (ll.map lineC).flatten ∧ 1 ≤ ins.length ∧ ins.length ≤ 4
theorem BoardS.upd {w w' : World} {base bd ia : Nat} {lv : Value} {ll : List (Int × List UInt8)} {used : Int} {ins : List (List UInt8)} {S : Nat → Prop} (k : BoardS w base bd ia lv ll used ins) (u : Upd S w w') (h1 : ¬ S bd) (h2 : ¬ S ia) (h3 : ∀ b,lv.ownBlock = some b → ¬ S b) : BoardS w' base bd ia lv ll used ins := by
 obtain ⟨⟨cap,J,a,b⟩,hr,r⟩ := k
 exact ⟨⟨cap,J,u.heap a h1,u.heap b h2⟩,ownsRow_upd hr u h3,r⟩
theorem BoardS.lt {w : World} {base bd ia : Nat} {lv : Value} {ll : List (Int × List UInt8)} {used : Int} {ins : List (List UInt8)} (k : BoardS w base bd ia lv ll used ins) : bd < w.heap.size ∧ ia < w.heap.size ∧ ∀ b,lv.ownBlock = some b → base ≤ b ∧ b < w.heap.size := by
 obtain ⟨⟨cap,J,a,b⟩,hr,r⟩ := k
 exact ⟨lt_of_block a,lt_of_block b,hr.ge⟩
theorem ins_at {ins : List (List UInt8)} {J : List Value} {i : Nat} {s : List UInt8} (h : ins[i]? = some s) : (ins.map strV ++ J)[i]? = some (strV s) := by
 have hl := (List.getElem?_eq_some_iff.1 h).1
 rw [List.getElem?_append_left (by rw [List.length_map];exact hl),List.getElem?_map,h];rfl
section
variable (base bd ia : Nat) (lv : Value) (ll : List (Int × List UInt8)) (used : Int) (ins : List (List UInt8))
theorem bHas (i : Nat) (w : World) (hB : BoardS w base bd ia lv ll used ins) (hi : i < ins.length) :
  Calls Tryz.prog 125 #[.pointer (some ⟨bd,0,none⟩),.int .i64 i] w fun e w' => e = .returned (.bool true) ∧ Hp w [] w' := by
 obtain ⟨⟨cap,J,a,b⟩,hr,r⟩ := hB
 have p0 : w.cell? ⟨bd,2,none⟩ = some (.slice (some ⟨ia,0,none⟩) ins.length cap) := cell_of a rfl
 have hd0 : decide ((i : Int) ≥ 0) = true := decide_eq_true kc
 have hd1 : decide ((i : Int) < (ins.length : Int)) = true := decide_eq_true kc
 refine enter (args := [_,_]) (Γ := [(0,_),(1,_)]) Tryz.func125 Tryz.ntmps125 rfl odq (.cons rfl (.cons rfl .nil)) ?_
 repeat' first | (apply Wl.loadO;exact rfl;exact rfl;exact zx;exact km) | refine Wl.move rfl rfl ?_ | refine Wl.assign rfl rfl ?_ | (apply Wl.on;exact rfl;exact rfl;exact k5) | refine Wl.nilCheck rfl rfl ?_ | (apply Wl.pickT;exact rfl;exact rfl;exact k5;exact rfl) | refine Wl.fieldAddrZ rfl rfl ?_ | refine Wl.neqPN rfl rfl rfl ?_ | refine Wl.lss rfl rfl rfl ?_ | refine Wl.geq rfl rfl rfl ?_ | refine Wl.len rfl rfl ?_ | apply Wl.nil | apply St.seq | apply St.region | apply St.ret | apply Gt.next | (apply Gt.out1;exact rfl;exact rfl;intro w' hp)
 exact ⟨by rw [hd1],hp⟩
theorem bInput (i : Nat) (s : List UInt8) (w : World) (hB : BoardS w base bd ia lv ll used ins) (hi : ins[i]? = some s) :
  Calls Tryz.prog 74 #[.pointer (some ⟨bd,0,none⟩),.int .i64 i] w fun e w' => e = .returned (strV s) ∧ Hp w [] w' := by
 have hil := (List.getElem?_eq_some_iff.1 hi).1
 have hB0 := hB
 obtain ⟨⟨cap,J,a,b⟩,hr,r⟩ := hB
 have p0 : w.cell? ⟨bd,2,none⟩ = some (.slice (some ⟨ia,0,none⟩) ins.length cap) := cell_of a rfl
 have p1 : w.cell? ⟨ia,0 + (i : Int).toNat,none⟩ = some (strV s) := by rw [Int.toNat_natCast,Nat.zero_add];exact cell_of b (ins_at hi)
 refine enter (args := [_,_]) (Γ := [(0,_),(1,_)]) Tryz.func74 Tryz.ntmps74 rfl odq (.cons rfl (.cons rfl .nil)) ?_
 repeat' first | refine Wl.move rfl rfl ?_ | refine Wl.assign rfl rfl ?_ | apply Wl.nil | apply St.seq | apply St.region | apply Gt.next
 apply Wl.callQ
 exact rfl
 (focus repeat constructor)
 ·intro wq hq
  exact hq.q (bHas base bd ia lv ll used ins i wq (hB0.upd hq.upd nt0 nt0 fun _ _ y => y trivial) hil)
 repeat' first | (apply Wl.loadO;exact rfl;exact rfl;exact zx;exact km) | refine Wl.move rfl rfl ?_ | refine Wl.assign rfl rfl ?_ | refine Wl.nilCheck rfl rfl ?_ | refine Wl.not rfl rfl ?_ | refine Wl.fieldAddrZ rfl rfl ?_ | (refine Wl.indexAddr1 rfl rfl rfl ?_ ?_;constructor <;> omega) | apply Wl.nil | apply St.seq | apply St.region | (apply St.condF;exact rfl;exact k5) | apply St.ret | apply St.skip | apply Gt.next | (apply Gt.out1;exact rfl;exact rfl;intro w' hp)
 exact ⟨rfl,hp⟩
theorem bLines (w : World) (hB : BoardS w base bd ia lv ll used ins) (hb : base ≤ w.heap.size) (hll : ll.length ≤ 1000) :
  Calls Tryz.prog 71 #[.pointer (some ⟨bd,0,none⟩)] w fun e w' => ∃ v,e = .returned v ∧ w'.ownsRow w.heap.size 111 2 v ll.length (ll.map lineC).flatten ∧ Upd (fun k => w.heap.size ≤ k) w w' := by
 have hB0 := hB
 obtain ⟨⟨cap,J,a,b⟩,hr,r⟩ := hB
 have p0 : w.cell? ⟨bd,0,none⟩ = some lv := cell_of a rfl
 refine enter (args := [_]) (Γ := [(0,_)]) Tryz.func71 Tryz.ntmps71 rfl odq (.cons rfl .nil) ?_
 repeat' first | (apply Wl.loadO;exact rfl;exact rfl;exact zx;exact km) | refine Wl.move rfl rfl ?_ | refine Wl.assign rfl rfl ?_ | refine Wl.nilCheck rfl rfl ?_ | refine Wl.fieldAddr0 rfl rfl ?_ | refine Wl.eqlPN rfl rfl rfl ?_ | apply Wl.nil | apply St.seq | apply St.region | (apply St.condF;exact rfl;exact k5) | apply St.skip | apply Gt.next
 apply Wl.appendV (base := w.heap.size) (n := 0) (m := ll.length) (sz := 2) (xs := []) (news := (ll.map lineC).flatten) (v := .slice none 0 0) (y := lv)
 ·exact rfl
 ·exact rfl
 ·exact rfl
 ·exact Sv.ofOwn hr
 ·exact fun _ _ _ _ => trivial
 ·exact World.ownsRow_nil w _ _ _
 ·exact fun k hk => by cases hk
 ·rw [List.all_eq_true]
  intro v hv
  obtain ⟨l,hl,hv⟩ := List.mem_flatten.1 hv
  obtain ⟨x,_,rfl⟩ := List.mem_map.1 hl
  simp only [lineC,List.mem_cons,List.not_mem_nil,or_false] at hv
  rcases hv with rfl | rfl <;> rfl
 ·exact rfl
 ·decide
 ·unfold maxLen;omega
 ·omega
 ·exact Nat.le_refl _
 intro v' w1 ho1 u1 _ hoff1
 repeat' first | refine Wl.assign rfl rfl ?_ | apply Wl.nil | apply St.ret | apply Gt.next | (apply Gt.out1;exact rfl;exact rfl;intro w' hp)
 refine ⟨v',rfl,ownsRow_upd (by rw [Nat.zero_add,List.nil_append] at ho1;exact ho1) hp.upd fun k _ y => y trivial,hp.on (u1.mono fun k _ hs => hs.elim (fun e => by cases e) fun y => (y trivial).elim) zd⟩
end
theorem mStr0 : (madeCells (Value.string ⟨#[]⟩).cells (0 * 1)).toList = (List.replicate 0 ([] : List UInt8)).map strV := by kernel_rfl
theorem mStr1 : (madeCells (Value.string ⟨#[]⟩).cells (1 * 1)).toList = (List.replicate 1 ([] : List UInt8)).map strV := by kernel_rfl
theorem mStr2 : (madeCells (Value.string ⟨#[]⟩).cells (2 * 1)).toList = (List.replicate 2 ([] : List UInt8)).map strV := by kernel_rfl
theorem mStr3 : (madeCells (Value.string ⟨#[]⟩).cells (3 * 1)).toList = (List.replicate 3 ([] : List UInt8)).map strV := by kernel_rfl
theorem mStr4 : (madeCells (Value.string ⟨#[]⟩).cells (4 * 1)).toList = (List.replicate 4 ([] : List UInt8)).map strV := by kernel_rfl
theorem mStr (n : Nat) (hn : n ≤ 4) : (madeCells (Value.string ⟨#[]⟩).cells (n * 1)).toList = (List.replicate n ([] : List UInt8)).map strV := by
 have h : n = 0 ∨ n = 1 ∨ n = 2 ∨ n = 3 ∨ n = 4 := by omega
 rcases h with rfl | rfl | rfl | rfl | rfl
 ·exact mStr0
 ·exact mStr1
 ·exact mStr2
 ·exact mStr3
 ·exact mStr4
theorem bNew (n : Nat) (w : World) (hn : 1 ≤ n ∧ n ≤ 4) :
  Calls Tryz.prog 89 #[.int .i64 n] w fun e w' => ∃ bd ia,e = .returned (.tuple #[.pointer (some ⟨bd,0,none⟩),.int .i64 0]) ∧ BoardS w' w.heap.size bd ia (.slice none 0 0) [] 0 (List.replicate n []) ∧ w.heap.size ≤ bd ∧ w.heap.size ≤ ia ∧ Upd (fun k => w.heap.size ≤ k) w w' := by
 have hd1 : decide ((n : Int) < 1) = false := decide_eq_false kc
 have hd2 : decide ((n : Int) > 4) = false := decide_eq_false kc
 refine enter (args := [_]) (Γ := [(0,_)]) Tryz.func89 Tryz.ntmps89 rfl odq (.cons rfl .nil) ?_
 repeat' first | refine Wl.move rfl rfl ?_ | refine Wl.assign rfl rfl ?_ | (apply Wl.on;exact rfl;exact rfl;exact k5) | (apply Wl.pickF;exact rfl;exact rfl;exact k5;exact rfl) | refine Wl.lss rfl rfl rfl ?_ | refine Wl.gtr rfl rfl rfl ?_ | apply Wl.nil | apply St.seq | apply St.region | (apply St.condF;exact rfl;exact k5) | apply St.skip | apply Gt.next
 apply Wl.makeSlice (n := n)
 ·exact rfl
 ·exact rfl
 ·exact rfl
 ·rw [Nat.ble_eq];omega
 ·omega
 intro ia hia hoi
 repeat' first | refine Wl.assign rfl rfl ?_ | (apply Wl.buildS;exact rfl;exact kj;exact ka) | (apply Wl.boxA;exact rfl;exact rfl;intro c hc ho) | apply Wl.nil | apply St.ret | apply Gt.next | (apply Gt.out2;exact rfl;exact rfl;exact rfl;intro w' hp)
 generalize c = bd at *
 have hbd : w.heap.size ≤ bd := by assumption
 refine ⟨bd,ia,rfl,⟨⟨n,[],?_,?_⟩,World.ownsRow_nil _ _ _ _,by rw [List.length_replicate];exact hn⟩,hbd,hia,hp.on (Upd.refl _ _) zi⟩
 ·rw [List.length_replicate];exact hp.own.at (.head _)
 ·rw [List.append_nil,← mStr n hn.2];exact hp.own.at (.tail _ (.head _))
structure Mi where
 (m h d wd sa pp pa bd ia cM : Nat)
 cs : List Nat
structure Mv2 where
 (pv ev seen lv : Value)
 (sn : Nat) (sx : List Value)
 L : List Sta
 t : Int
 bx : Nat → List Value
 ll : List (Int × List UInt8)
 used : Int
 ins : List (List UInt8)
 f : Nat → Int
 xs : List Value
 pc : Int
 cf : Nat
structure MonS (w : World) (base : Nat) (I : Mi) (M : Mv2) : Prop where
 mm : w.heap[I.m]? = some (.cells #[.pointer (some ⟨I.h,0,none⟩),.pointer (some ⟨I.d,0,none⟩),.pointer (some ⟨I.wd,0,none⟩),M.seen] 130 (0,0))
 dd : w.heap[I.d]? = some (.cells #[M.pv,M.ev,.pointer (some ⟨I.cM,0,none⟩),.pointer (some ⟨I.pp,0,none⟩),.pointer (some ⟨I.bd,0,none⟩)] 139 (0,0))
 ward : WardS w I.wd I.sa M.L M.t
 post : PostS w I.pp I.pa I.cs M.bx
 board : BoardS w base I.bd I.ia M.lv M.ll M.used M.ins
 mem : memH w I.cM M.f
 hart : HH w I.h M.cf (.pointer (some ⟨I.cM,0,none⟩)) M.xs M.pc
 seen : w.ownsRow base 70 7 M.seen M.sn M.sx
 rg : Rg M.xs ∧ (0 ≤ M.pc ∧ M.pc < 4294967296)
 len : I.cs.length = M.L.length ∧ M.ins.length = M.L.length
 ge : base ≤ I.m ∧ base ≤ I.h ∧ base ≤ I.d ∧ base ≤ I.wd ∧ base ≤ I.sa ∧ base ≤ I.pp ∧ base ≤ I.pa ∧ base ≤ I.bd ∧ base ≤ I.ia ∧ base ≤ I.cM ∧ ∀ c ∈ I.cs,base ≤ c
def MonF (I : Mi) (M : Mv2) (b : Nat) : Prop := b = I.m ∨ b = I.h ∨ b = I.d ∨ b = I.wd ∨ b = I.sa ∨ b = I.pp ∨ b = I.pa ∨ b = I.bd ∨ b = I.ia ∨ b = I.cM ∨ b ∈ I.cs ∨ M.lv.ownBlock = some b ∨ M.seen.ownBlock = some b
theorem MonS.lt {w : World} {base : Nat} {I : Mi} {M : Mv2} (k : MonS w base I M) : ∀ b,MonF I M b → base ≤ b ∧ b < w.heap.size := by
 obtain ⟨g1,g2,g3,g4,g5,g6,g7,g8,g9,g10,g11⟩ := k.ge
 rintro b (rfl | rfl | rfl | rfl | rfl | rfl | rfl | rfl | rfl | rfl | h | h | h)
 ·exact ⟨g1,lt_of_block k.mm⟩
 ·exact ⟨g2,k.hart.lt⟩
 ·exact ⟨g3,lt_of_block k.dd⟩
 ·exact ⟨g4,k.ward.lt.1⟩
 ·exact ⟨g5,k.ward.lt.2⟩
 ·exact ⟨g6,k.post.lt.1⟩
 ·exact ⟨g7,k.post.lt.2.1⟩
 ·exact ⟨g8,k.board.lt.1⟩
 ·exact ⟨g9,k.board.lt.2.1⟩
 ·exact ⟨g10,lt_of_block k.mem⟩
 ·exact ⟨g11 b h,k.post.lt.2.2 b h⟩
 ·exact k.board.lt.2.2 b h
 ·exact k.seen.ge b h
theorem MonS.upd {w w' : World} {base : Nat} {I : Mi} {M : Mv2} {S : Nat → Prop} (k : MonS w base I M) (u : Upd S w w') (hs : ∀ b,MonF I M b → ¬ S b) : MonS w' base I M where
 mm := u.heap k.mm (hs _ (.inl rfl))
 dd := u.heap k.dd (hs _ (.inr (.inr (.inl rfl))))
 ward := k.ward.upd u (hs _ (.inr (.inr (.inr (.inl rfl))))) (hs _ (.inr (.inr (.inr (.inr (.inl rfl))))))
 post := k.post.upd u (hs _ (.inr (.inr (.inr (.inr (.inr (.inl rfl))))))) (hs _ (.inr (.inr (.inr (.inr (.inr (.inr (.inl rfl)))))))) fun c hc => hs _ (.inr (.inr (.inr (.inr (.inr (.inr (.inr (.inr (.inr (.inr (.inl hc)))))))))))
 board := k.board.upd u (hs _ (.inr (.inr (.inr (.inr (.inr (.inr (.inr (.inl rfl))))))))) (hs _ (.inr (.inr (.inr (.inr (.inr (.inr (.inr (.inr (.inl rfl)))))))))) fun b hb => hs _ (.inr (.inr (.inr (.inr (.inr (.inr (.inr (.inr (.inr (.inr (.inr (.inl hb))))))))))))
 mem := u.heap k.mem (hs _ (.inr (.inr (.inr (.inr (.inr (.inr (.inr (.inr (.inr (.inl rfl)))))))))))
 hart := k.hart.upd u (hs _ (.inr (.inl rfl)))
 seen := ownsRow_upd k.seen u fun b hb => hs _ (.inr (.inr (.inr (.inr (.inr (.inr (.inr (.inr (.inr (.inr (.inr (.inr hb))))))))))))
 rg := k.rg
 len := k.len
 ge := k.ge
theorem MonS.new {w w' w0 : World} {base : Nat} {I : Mi} {M : Mv2} (k : MonS w base I M) (u : Upd (fun b => w0.heap.size ≤ b) w w') (hw : w.heap.size ≤ w0.heap.size) : MonS w' base I M :=
 k.upd u fun b hb hs => by have := (k.lt b hb).2;omega
theorem MonS.hp {w w' : World} {base : Nat} {I : Mi} {M : Mv2} {H : List Blk} (k : MonS w base I M) (hp : Hp w H w') (hH : ∀ x ∈ H,w.heap.size ≤ x.b) : MonS w' base I M :=
 k.upd hp.upd fun b hb hs => hs (Off.of fun x hx e => by have := hH x hx;have := (k.lt b hb).2;omega)
theorem monNew (a1 a2 a3 : Option Addr) (n c1 c2 c3 cM : Nat) (p : Nat → Int) (f : Nat → Int) (w : World) (hn : 1 ≤ n ∧ n ≤ 4) (hA : WordF w a3 n p) (hM : memH w cM f) (base : Nat) (hb : base ≤ cM) (hbw : base ≤ w.heap.size) :
  Calls Tryz.prog 40 #[.slice a1 n c1,.slice a2 n c2,.slice a3 n c3,.pointer (some ⟨cM,0,none⟩)] w fun e w' => ∃ I M,e = .returned (.tuple #[.pointer (some ⟨I.m,0,none⟩),.int .i64 0]) ∧ MonS w' base I M ∧
   I.cM = cM ∧ M = ⟨.slice a1 n c1,.slice a2 n c2,.slice none 0 0,.slice none 0 0,0,[],newL p n,0,fun _ => [],[],0,List.replicate n [],f,xz,0,M.cf⟩ ∧ (∀ b,MonF I M b → b ≠ cM → w.heap.size ≤ b) ∧ Upd (fun k => w.heap.size ≤ k) w w' := by
 have hlM := lt_of_block hM
 refine enter (args := [_,_,_,_]) (Γ := [(0,_),(1,_),(2,_),(3,_)]) Tryz.func40 Tryz.ntmps40 rfl odq (.cons rfl (.cons rfl (.cons rfl (.cons rfl .nil)))) ?_
 repeat' first | refine Wl.move rfl rfl ?_ | refine Wl.assign rfl rfl ?_ | apply Wl.nil | apply St.seq | apply St.region | apply Gt.next
 apply Wl.callC
 ·exact rfl
 ·exact kd
 intro wq hq
 refine (wNew a3 n c3 p wq hn (fun i hi => by obtain ⟨b,o,e,h1,h2⟩ := hA i hi;exact ⟨b,o,e,hq.upd.cell h1 fun y => y trivial,h2⟩)).mono ?_
 rintro e w1 ⟨wd,sa,rfl,hW1,g1,g2,u1⟩
 have uq := hq.upd
 have v1 : Upd (fun k => w.heap.size ≤ k) w w1 := uq.comp u1 fun k hk hs => hs.elim (fun y => (y trivial).elim) fun y => by have := uq.size;omega
 have z1 := uq.size
 have hW1l := hW1.lt
 refine ⟨_,_,rfl,Hp.start w1,?_⟩
 clear hq uq u1
 repeat' first | refine Wl.move rfl rfl ?_ | refine Wl.assign rfl rfl ?_ | (apply Wl.on;exact rfl;exact rfl;exact k5) | refine Wl.extract rfl rfl rfl ?_ | (apply Wl.pickF;exact rfl;exact rfl;exact k5;exact rfl) | refine Wl.eqlPN rfl rfl rfl ?_ | (apply Wl.neqIs;exact rfl;exact rfl;exact rfl;exact kx) | refine Wl.len rfl rfl ?_ | apply Wl.nil | apply St.seq | apply St.region | (apply St.condF;exact rfl;exact k5) | apply St.skip | apply Gt.next
 apply Wl.callC
 ·exact rfl
 ·exact kd
 intro wq2 hq
 refine (pNew n wq2 hn).mono ?_
 rintro e w2 ⟨pp,pa,cs,rfl,hP2,hcl,g3,g4,g5,u2⟩
 have uq := hq.upd
 have z2 := uq.size
 have v2 : Upd (fun k => w1.heap.size ≤ k) w1 w2 := uq.comp u2 fun k hk hs => hs.elim (fun y => (y trivial).elim) fun y => by omega
 have z2b := v2.size
 refine ⟨_,_,rfl,Hp.start w2,?_⟩
 clear hq uq u2
 repeat' first | refine Wl.move rfl rfl ?_ | refine Wl.assign rfl rfl ?_ | refine Wl.extract rfl rfl rfl ?_ | refine Wl.len rfl rfl ?_ | apply Wl.nil | apply St.seq | apply St.region | apply Gt.next
 apply Wl.callC
 ·exact rfl
 ·exact kd
 intro wq3 hq
 refine (bNew n wq3 hn).mono ?_
 rintro e w3 ⟨bd,ia,rfl,hB3,g6,g7,u3⟩
 have uq := hq.upd
 have z3 := uq.size
 have v3 : Upd (fun k => w2.heap.size ≤ k) w2 w3 := uq.comp u3 fun k hk hs => hs.elim (fun y => (y trivial).elim) fun y => by omega
 have z3b := v3.size
 refine ⟨_,_,rfl,Hp.start w3,?_⟩
 clear hq uq u3
 repeat' first | refine Wl.move rfl rfl ?_ | refine Wl.assign rfl rfl ?_ | refine Wl.extract rfl rfl rfl ?_ | apply Wl.nil | apply St.seq | apply St.region | apply Gt.next
 apply Wl.callC
 ·exact rfl
 ·exact kd
 intro wq4 hq
 refine (hnew (some ⟨cM,0,none⟩) wq4).mono ?_
 rintro e w4 ⟨h,cf,rfl,hp4,g8,g9,g10⟩
 have uq := hq.upd
 have z4 := uq.size
 have v4 : Upd (fun k => w3.heap.size ≤ k) w3 w4 := uq.comp hp4.upd fun k hk hs => Classical.byContradiction fun hn => hs.elim nt0 fun y => y ⟨fun e => hn qe,fun e => hn qe,trivial⟩
 have z4b := v4.size
 have hH4 : HH w4 h cf (.pointer (some ⟨cM,0,none⟩)) xz 0 := ⟨rfl,hp4.own.at (.head _)⟩
 have lh := hH4.lt
 refine ⟨_,_,rfl,Hp.start w4,?_⟩
 clear hq uq hp4
 repeat' first | refine Wl.move rfl rfl ?_ | refine Wl.assign rfl rfl ?_ | (apply Wl.buildS;exact rfl;exact kj;exact ka) | (apply Wl.boxA;exact rfl;exact rfl;intro c hc ho) | apply Wl.nil | apply St.ret | apply Gt.next | (apply Gt.out2;exact rfl;exact rfl;exact rfl;intro w' hp)
 rename_i d hd hod
 have w5u : Upd (fun k => w4.heap.size ≤ k) w4 w' := hp.on (Upd.refl _ _) k6
 have t12 : Upd (fun k => w.heap.size ≤ k) w w2 := v1.comp v2 fun k hk hs => hs.elim id fun y => by omega
 have t13 : Upd (fun k => w.heap.size ≤ k) w w3 := t12.comp v3 fun k hk hs => hs.elim id fun y => by omega
 have t14 : Upd (fun k => w.heap.size ≤ k) w w4 := t13.comp v4 fun k hk hs => hs.elim id fun y => by omega
 have t15 : Upd (fun k => w.heap.size ≤ k) w w' := t14.comp w5u fun k hk hs => hs.elim id fun y => by omega
 have q25 : Upd (fun k => w1.heap.size ≤ k) w1 w' := ((v2.comp v3 (T := fun k => w1.heap.size ≤ k) fun k hk hs => hs.elim id fun y => by omega).comp v4 (T := fun k => w1.heap.size ≤ k) fun k hk hs => hs.elim id fun y => by omega).comp w5u fun k hk hs => hs.elim id fun y => by omega
 have q35 : Upd (fun k => w2.heap.size ≤ k) w2 w' := (v3.comp v4 (T := fun k => w2.heap.size ≤ k) fun k hk hs => hs.elim id fun y => by omega).comp w5u fun k hk hs => hs.elim id fun y => by omega
 have q45 : Upd (fun k => w3.heap.size ≤ k) w3 w' := v4.comp w5u fun k hk hs => hs.elim id fun y => by omega
 have hPl := hP2.lt
 have hBl := hB3.lt
 have key : ∀ b,MonF ⟨c,h,d,wd,sa,pp,pa,bd,ia,cM,cs⟩ ⟨.slice a1 n c1,.slice a2 n c2,.slice none 0 0,.slice none 0 0,0,[],newL p n,0,fun _ => [],[],0,List.replicate n [],f,xz,0,cf⟩ b → b ≠ cM → w.heap.size ≤ b := by
  rintro b (rfl | rfl | rfl | rfl | rfl | rfl | rfl | rfl | rfl | rfl | hb | hb | hb) hne
  ·first | omega | (simp only;omega)
  ·first | omega | (simp only;omega)
  ·first | omega | (simp only;omega)
  ·first | omega | (simp only;omega)
  ·first | omega | (simp only;omega)
  ·first | omega | (simp only;omega)
  ·first | omega | (simp only;omega)
  ·first | omega | (simp only;omega)
  ·first | omega | (simp only;omega)
  ·exact (hne rfl).elim
  ·have := g5 b hb;omega
  ·cases hb
  ·cases hb
 refine ⟨⟨c,h,d,wd,sa,pp,pa,bd,ia,cM,cs⟩,⟨.slice a1 n c1,.slice a2 n c2,.slice none 0 0,.slice none 0 0,0,[],newL p n,0,fun _ => [],[],0,List.replicate n [],f,xz,0,cf⟩,rfl,?_,rfl,rfl,key,t15⟩
 exact {
  mm := hp.own.at (.head _)
  dd := hp.own.at (.tail _ (.head _))
  ward := hW1.upd q25 zy zy
  post := hP2.upd q35 zy zy fun b hb => by have := hPl.2.2 b hb;omega
  board := by
   have hB := hB3.upd q45 zy zy (fun b hb => by cases hb)
   exact ⟨hB.1,World.ownsRow_nil _ _ _ _,hB.2.2⟩
  mem := t15.heap hM (by show ¬ w.heap.size ≤ cM;omega)
  hart := hH4.upd w5u kc
  seen := World.ownsRow_nil _ _ _ _
  rg := ⟨xz_rg,by show (0 : Int) ≤ 0;decide,by show (0 : Int) < 4294967296;decide⟩
  len := ⟨by rw [newL_len];exact hcl,by rw [newL_len,List.length_replicate]⟩
  ge := ⟨by first | omega | (simp only;omega),by first | omega | (simp only;omega),by first | omega | (simp only;omega),by first | omega | (simp only;omega),by first | omega | (simp only;omega),by first | omega | (simp only;omega),by first | omega | (simp only;omega),by first | omega | (simp only;omega),by first | omega | (simp only;omega),hb,fun b hb => by have := g5 b hb;omega⟩ }
end Go.Proofs.YtabbklpalbikdaaGreatDoor
end
section
namespace Go.Pt
open Go.RowKit
theorem run_copy_off {P : Program} (w : World) {dT sT ty elem : TypeId} {c o n cap m cap' bt : Nat} {a : Addr} {cs xs : List Value} (hu : P.underlying dT = some (.slice elem)) (hs : (P.info? elem).map (·.size) = some 1) (hm : xs.length = m) (hmn : m ≤ n) (hnc : o + n ≤ cs.length)
  (hsrc : ∀ j v,xs[j]? = some v → w.cell? (a.add j) = some v) (hb : w.heap[c]? = some (.cells cs.toArray bt (0,0))) (h1 : ∀ v ∈ xs,v.oneCell' = true) :
  (Builtin.copy_ #[dT,sT] ty #[.slice (some ⟨c,o,none⟩) n cap,.slice (some a) m cap']).run P w = .ok (goInt xs.length) (w.setRow c (cs.take o ++ xs ++ cs.drop (o + xs.length)).toArray) := by
 have hl := run_loadCells_list (P := P) w a xs hsrc
 have hst := run_storeCells_at P c o bt xs 0 cs.toArray w hb zi h1
 simp only [Nat.add_zero] at hst
 have hmin : Nat.min m n = xs.length := by rw [hm];exact Nat.min_eq_left hmn
 cases hq : P.info? elem with
 | none => simp [hq] at hs
 | some i =>
  have hi : i.size = 1 := by simpa [hq] using hs
  simp [Builtin.copy_,run_underlying hu,Builtin.lenOf,Builtin.firstCells,sizeOf,typeInfo,hq,hi,hmin,hl]
  simp at hst
  rw [hst]
  simp
section
variable {P : Program} {md : Md} {N : Nat} {ops : Array Oper} {rest : List Oper} {Γ : Env} {C : World → Prop} {Q : Exit → Act → World → Prop} {d : Nat} {ty : TypeId} {pos : String} {af : Array Edge}
theorem Wl.copyO {w0 : World} {H H' : List Blk} {dT sT e by_ c o n cap bt : Nat} {y : Value} {l : List UInt8} {cs cs' : List Value} {p q : Operand} [ht : TyD P dT (.slice e)] [hz : TyS P e 1 by_]
  (hd : Nat.blt d N = true) (hx : ev Γ p = some (.slice (some ⟨c,o,none⟩) n cap)) (hy : ev Γ q = some y) (hs : HSet c cs cs' bt H H') (he : cs.take o ++ byteCells l ++ cs.drop (o + l.length) = cs') (hl : l.length ≤ n) (hn : o + n ≤ cs.length) (hb : ∀ w,Hp w0 H w → Bs w y l)
  (h : Wl rest P .seq ops N ((d,.int .i64 l.length) :: Γ) (Hp w0 H') Q) : Wl (⟨some d,.call { callee := .builtin .copy,args := #[p,q],argTypes := #[dT,sT] },ty,pos,af,none⟩ :: rest) P .seq ops N Γ (Hp w0 H) Q :=
 Wl.eff fun a w ha hw => by
  subst he
  obtain ⟨ad,cap',rfl,h1,h2⟩ := (hb w hw).shape
  have hsz : (P.info? e).map (·.size) = some 1 := by
   have := hz.out
   cases hq : P.info? e with
   | none => simp [hq] at this
   | some i => simp [hq] at this ⊢;exact this.1
  have hcell := hw.own.at hs.mem
  by_cases hne : l = []
  ·subst hne
   have hr := run_copy_none (P := P) w dT sT ty e (some ⟨c,o,none⟩) ad n cap 0 cap' ht.out hsz (Nat.zero_min n)
   refine ⟨.int .i64 0,w,.inl ?_,h.elim _ _ (ha.put hd _) (hw.hset hs (Upd.refl _ _) ?_)⟩
   ·simp only [execOp,resolve,invoke,builtin,ha.ev hx,ha.ev hy]
    simp [ha.ev hx,ha.ev hy] 
    simp [hr,goInt]
   ·simpa [byteCells] using hcell
  ·obtain ⟨g,og,e',hc'⟩ := (hb w hw).cells hne
   cases e'
   have hr := run_copy_off (P := P) w (dT := dT) (sT := sT) (ty := ty) (elem := e) (c := c) (o := o) (n := n) (cap := cap) (m := l.length) (cap' := cap') (bt := bt) (a := ⟨g,og,none⟩) (cs := cs) (xs := byteCells l) ht.out hsz (byteCells_length l) hl hn (fun j v hj => by
    obtain ⟨h1,h2⟩ := List.getElem?_eq_some_iff.1 hj
    rw [byteCells_length] at h1
    rw [addLit,hc' j h1,← h2]
    simp [byteCells]) hcell (fun v hv => by
    simp only [byteCells,List.mem_map] at hv
    obtain ⟨b,_,rfl⟩ := hv
    rfl)
   rw [byteCells_length] at hr
   refine ⟨.int .i64 l.length,w.setRow c (cs.take o ++ byteCells l ++ cs.drop (o + l.length)).toArray,.inl ?_,h.elim _ _ (ha.put hd _) (hw.hset hs ⟨rfl,rfl,rfl,by simp,fun k hk hne => ?_⟩ ?_)⟩
   ·simp only [execOp,resolve,invoke,builtin,ha.ev hx,ha.ev hy]
    simp [ha.ev hx,ha.ev hy]
    simp [hr,goInt]
   ·exact setRow_other w c k _ hne
   ·exact setRow_heap w c _ _ bt _ hcell
theorem Wl.sliceArr3 {t e sz by_ n : TypeId} {x lo hi : Operand} {b o : Nat} {k k' : IntKind} {i j : Int} (l h' : Nat) [ht : TyD P t (.array n e)] [TyS P e sz by_] (hd : Nat.blt d N = true) (hx : ev Γ x = some (.pointer (some ⟨b,o,none⟩))) (hlo : ev Γ lo = some (.int k i)) (hhi : ev Γ hi = some (.int k' j)) (ei : i = (l : Int)) (ej : j = (h' : Int)) (h1 : l ≤ h') (h2 : h' ≤ n) (h3 : l < n)
  (h : Wl rest P md ops N ((d,.slice (some ⟨b,o + l * sz,none⟩) (h' - l) (n - l)) :: Γ) C Q) : Wl (⟨some d,.slice t x (some lo) (some hi) none,ty,pos,af,none⟩ :: rest) P md ops N Γ C Q :=
 Wl.val hd (fun a w ha _ => by
  subst ei ej
  have e1 : ∀ c,(Instr.sliceBound (.int k (l : Int)) h' c).run P w = .ok l w := fun c => by
   simp only [Instr.sliceBound,asIntOf,pure_bind]
   rw [if_pos kc]
   simp
  have e2 : ∀ c,(Instr.sliceBound (.int k' (h' : Int)) n c).run P w = .ok h' w := fun c => by
   simp only [Instr.sliceBound,asIntOf,pure_bind]
   rw [if_pos kc]
   simp
  have hnl : ¬ n = l := Nat.ne_of_gt h3
  simp [execOp,ha.ev hx,ha.ev hlo,ha.ev hhi,Instr.sliceAt,run_underlying ht.out,Instr.sureAddr,Instr.sliceBounds,e1,e2,run_size (P := P) (t := e),Addr.add,hnl]) h
theorem Wl.sliceArr1 {t e sz by_ n : TypeId} {x lo : Operand} {b o : Nat} {k : IntKind} {i : Int} (l : Nat) [ht : TyD P t (.array n e)] [TyS P e sz by_] (hd : Nat.blt d N = true) (hx : ev Γ x = some (.pointer (some ⟨b,o,none⟩))) (hlo : ev Γ lo = some (.int k i)) (ei : i = (l : Int)) (h3 : l < n)
  (h : Wl rest P md ops N ((d,.slice (some ⟨b,o + l * sz,none⟩) (n - l) (n - l)) :: Γ) C Q) : Wl (⟨some d,.slice t x (some lo) none none,ty,pos,af,none⟩ :: rest) P md ops N Γ C Q :=
 Wl.val hd (fun a w ha _ => by
  subst ei
  have e1 : ∀ c,(Instr.sliceBound (.int k (l : Int)) n c).run P w = .ok l w := fun c => by
   simp only [Instr.sliceBound,asIntOf,pure_bind]
   rw [if_pos kc]
   simp
  have hnl : ¬ n = l := Nat.ne_of_gt h3
  simp [execOp,ha.ev hx,ha.ev hlo,Instr.sliceAt,run_underlying ht.out,Instr.sureAddr,Instr.sliceBounds,e1,run_size (P := P) (t := e),Addr.add,hnl]) h
end
end Go.Pt
namespace Go.Proofs.YtabbklpalbikdaaGreatDoor
open Go.RowKit Go.Pt
def FB (f : Nat → Int) : Prop := ∀ j,0 ≤ f j ∧ f j < 256
def memL (f : Nat → Int) (o n : Nat) : List UInt8 := (List.range n).map fun j => UInt8.ofNat (f (o + j)).toNat
theorem memL_len (f : Nat → Int) (o n : Nat) : (memL f o n).length = n := by simp [memL]
theorem memL_cells {f : Nat → Int} (hf : FB f) (o n j : Nat) (hj : j < n) : (byteCells (memL f o n))[j]? = some (.int .u8 (f (o + j))) := by
 have h := hf (o + j)
 simp only [byteCells,memL,List.map_map,List.getElem?_map,List.getElem?_range hj,Option.map_some,Function.comp]
 rw [show ((UInt8.ofNat (f (o + j)).toNat).toNat : Int) = f (o + j) by
  rw [UInt8.toNat_ofNat']
  omega]
def putF (f : Nat → Int) (o : Nat) (l : List UInt8) : Nat → Int := fun j => if o ≤ j then (match l[j - o]? with | some b => (b.toNat : Int) | none => f j) else f j
theorem putF_cells (f : Nat → Int) (o : Nat) (l : List UInt8) (h : o + l.length ≤ 65536) : (memC f).take o ++ byteCells l ++ (memC f).drop (o + l.length) = memC (putF f o l) := by
 apply List.ext_getElem?
 intro j
 by_cases hj : j < 65536
 ·rw [memC_get hj]
  by_cases h1 : j < o
  ·rw [List.append_assoc,List.getElem?_append_left (by rw [List.length_take,memC_len];omega),List.getElem?_take,if_pos h1,memC_get hj,putF,if_neg kc]
  ·by_cases h2 : j < o + l.length
   ·rw [List.getElem?_append_left (by rw [List.length_append,List.length_take,memC_len,byteCells_length];omega),List.getElem?_append_right (by rw [List.length_take,memC_len];omega),List.length_take,memC_len,show min o 65536 = o by omega]
    rw [putF,if_pos kc]
    obtain ⟨b,hb⟩ : ∃ b,l[j - o]? = some b := ⟨_,List.getElem?_eq_getElem kc⟩
    rw [hb]
    simp [byteCells,hb]
   ·rw [List.getElem?_append_right (by rw [List.length_append,List.length_take,memC_len,byteCells_length];omega),List.getElem?_drop,List.length_append,List.length_take,memC_len,byteCells_length,show o + l.length + (j - (min o 65536 + l.length)) = j by omega,memC_get hj,putF,if_pos kc,List.getElem?_eq_none kc]
 ·rw [List.getElem?_eq_none (by simp only [List.length_append,List.length_take,List.length_drop,memC_len,byteCells_length];omega),List.getElem?_eq_none (by rw [memC_len];omega)]
theorem putF_FB {f : Nat → Int} (hf : FB f) (o : Nat) (l : List UInt8) : FB (putF f o l) := fun j => by
 unfold putF
 split
 ·split
  ·rename_i b _
   have := b.toNat_lt
   omega
  ·exact hf j
 ·exact hf j
theorem mgetX (c : Nat) (f : Nat → Int) (at_ n : Int) (w : World) (hc : memH w c f) (hf : FB f) (ha : 0 ≤ at_ ∧ at_ < 4294967296) (hn : 1 ≤ n ∧ n < 4294967296) (hi : inM at_ n) :
  Calls Tryz.prog 24 #[.pointer (some ⟨c,0,none⟩),.int .u32 at_,.int .u32 n] w fun e w' => ∃ v,e = .returned (.tuple #[v,.int .i64 0]) ∧ Bs w' v (memL f (at_ - 2147483648).toNat n.toNat) ∧ (∀ k,v.ownBlock = some k → w.heap.size ≤ k) ∧ Upd (fun k => w.heap.size ≤ k) w w' := by
 unfold memH at hc
 obtain ⟨i1,i2⟩ := id hi
 have hd : decide (2147483648 ≤ at_ ∧ at_ + n ≤ 2147483648 + 65536) = true := decide_eq_true hi
 have hd2 : (!decide (2147483648 ≤ at_ ∧ at_ + n ≤ 2147483648 + 65536)) = false := by rw [hd];rfl
 obtain ⟨o,ho⟩ : ∃ o : Nat,at_ = 2147483648 + o := ⟨(at_ - 2147483648).toNat,by omega⟩
 obtain ⟨m,hm⟩ : ∃ m : Nat,n = m := ⟨n.toNat,by omega⟩
 subst ho hm
 rw [show (2147483648 + (o : Int) - 2147483648).toNat = o by omega,Int.toNat_natCast]
 have e1 : IntKind.u32.wrap (2147483648 + (o : Int) - 2147483648) = (o : Int) := by rw [IntKind.wrap_u32];omega
 have e2 : IntKind.u32.wrap ((o : Int) + (m : Int)) = ((o + m : Nat) : Int) := by rw [IntKind.wrap_u32];omega
 have hl : (byteCells (memL f o m)).length = m * 1 := by rw [byteCells_length,memL_len,Nat.mul_one]
 refine enter (args := [_,_,_]) (Γ := [(0,_),(1,_),(2,_)]) Tryz.func24 Tryz.ntmps24 rfl odq (.cons rfl (.cons rfl (.cons rfl .nil))) ?_
 repeat' first | refine Wl.move rfl rfl ?_ | refine Wl.assign rfl rfl ?_ | apply Wl.nil | apply St.seq | apply St.region | apply Gt.next
 apply Wl.callQ
 exact rfl
 (focus repeat constructor)
 ·intro wq hq
  exact hq.q (has_any c (2147483648 + (o : Int)) m wq ha kc)
 repeat' first | (apply Wl.sliceArr3 o (o + m);exact rfl;exact rfl;exact rfl;exact rfl;exact e1;(first | exact e2 | (rw [e1];exact e2));omega;omega;omega) | refine Wl.move rfl rfl ?_ | refine Wl.nilCheck rfl rfl ?_ | refine Wl.not rfl rfl ?_ | refine Wl.fieldAddr0 rfl rfl ?_ | refine Wl.add rfl rfl rfl ?_ | refine Wl.sub' rfl rfl rfl ?_ | apply Wl.nil | apply St.seq | apply St.region | (apply St.condF;exact rfl;exact k5) | apply St.skip | apply Gt.next
 apply Wl.append (base := w.heap.size) (n := 0) (xs := []) (news := byteCells (memL f o m)) (v := .slice none 0 0)
 ·exact rfl
 ·exact rfl
 ·exact rfl
 ·exact World.ownsRow_nil w _ _ _
 ·rw [byteCells_length,memL_len];omega
 ·intro wq hq j u hj
  have hjm : j < m := by have := (List.getElem?_eq_some_iff.1 hj).1;rw [byteCells_length,memL_len] at this;exact this
  rw [memL_cells hf o m j hjm] at hj
  cases hj
  rw [addLit]
  exact hq.old (cell_of hc (by rw [Nat.zero_add,Nat.mul_one];exact memC_get kc)) trivial
 ·exact fun k hk => by cases hk
 ·rw [List.all_eq_true]
  intro v hv
  simp only [byteCells,List.mem_map] at hv
  obtain ⟨b,_,rfl⟩ := hv
  rfl
 ·exact rfl
 ·decide
 ·unfold maxLen;omega
 ·omega
 ·exact Nat.le_refl _
 intro v1 w1 h1 u1 h3 h4
 have g1 := h1.ge
 have b1 : Bs w1 v1 (memL f o m) := by
  have h := Sv.ofOwn h1
  rw [List.nil_append,Nat.zero_add,show o + m - o = m by omega] at h
  unfold Bs
  rw [memL_len]
  exact h
 repeat' first | refine Wl.assign rfl rfl ?_ | apply Wl.nil | apply St.ret | apply Gt.next | (apply Gt.out2;exact rfl;exact rfl;exact rfl;intro w' hp)
 have hu1 : Upd (fun k => w.heap.size ≤ k) w w1 := u1.mono fun k _ hk => hk.elim (fun e => by cases e) fun y => absurd trivial y
 exact ⟨v1,rfl,b1.upd hp.upd fun k _ _ _ y => y trivial,fun k hk => (g1 k hk).1,hu1.comp hp.upd fun k hk hs => hs.elim id fun y => absurd trivial y⟩
theorem mputX1 (c : Nat) (f : Nat → Int) (at_ : Int) (v : Value) (l : List UInt8) (w : World) (hc : memH w c f) (hv : Bs w v l) (hvc : ∀ k,v.ownBlock = some k → l ≠ [] → k ≠ c) (ha : 0 ≤ at_ ∧ at_ < 4294967296) (hi : inM at_ l.length) (ho1 : at_ < 2147483648 + 65536) :
  Calls Tryz.prog 53 #[.pointer (some ⟨c,0,none⟩),.int .u32 at_,v] w fun e w' => e = .returned (.int .i64 0) ∧ memH w' c (putF f (at_ - 2147483648).toNat l) ∧ Upd (fun k => k = c) w w' := by
 unfold memH at hc
 obtain ⟨i1,i2⟩ := id hi
 obtain ⟨ad,cap,rfl,hs1,hs2⟩ := hv.shape
 have hd : decide (2147483648 ≤ at_ ∧ at_ + (l.length : Int) ≤ 2147483648 + 65536) = true := decide_eq_true hi
 have hd2 : (!decide (2147483648 ≤ at_ ∧ at_ + (l.length : Int) ≤ 2147483648 + 65536)) = false := by rw [hd];rfl
 obtain ⟨o,ho⟩ : ∃ o : Nat,at_ = 2147483648 + o := ⟨(at_ - 2147483648).toNat,by omega⟩
 subst ho
 rw [show (2147483648 + (o : Int) - 2147483648).toNat = o by omega]
 have e0 : IntKind.u64.wrap (l.length : Int) = (l.length : Int) := by rw [IntKind.wrap_u64];omega
 have e3 : IntKind.u32.wrap (l.length : Int) = (l.length : Int) := by rw [IntKind.wrap_u32];omega
 have hd0 : decide ((l.length : Int) > 65536) = false := decide_eq_false kc
 have e1 : IntKind.u32.wrap (2147483648 + (o : Int) - 2147483648) = (o : Int) := by rw [IntKind.wrap_u32];omega
 refine enter (args := [_,_,_]) (Γ := [(0,_),(1,_),(2,_)]) Tryz.func53 Tryz.ntmps53 rfl odq (.cons rfl (.cons rfl (.cons rfl .nil))) ?_
 repeat' first | refine Wl.move rfl rfl ?_ | refine Wl.assign rfl rfl ?_ | (apply Wl.on;exact rfl;exact rfl;exact k5) | refine Wl.gtr rfl rfl rfl ?_ | (refine Wl.convU64 rfl rfl ?_ ?_;constructor <;> omega) | (refine Wl.convU32 rfl rfl ?_ ?_;constructor <;> omega) | refine Wl.len rfl rfl ?_ | apply Wl.nil | apply St.seq | apply St.region | apply Gt.next
 apply Wl.callQ
 exact rfl
 (focus repeat constructor)
 ·intro wq hq
  exact hq.q (has_any c (2147483648 + (o : Int)) l.length wq ha kc)
 repeat' first | (apply Wl.sliceArr1 o;exact rfl;exact rfl;exact rfl;exact e1;omega) | refine Wl.move rfl rfl ?_ | (apply Wl.on;exact rfl;exact rfl;exact k5) | refine Wl.nilCheck rfl rfl ?_ | (apply Wl.pickF;exact rfl;exact rfl;exact k5;exact rfl) | refine Wl.not rfl rfl ?_ | refine Wl.fieldAddr0 rfl rfl ?_ | refine Wl.sub' rfl rfl rfl ?_ | apply Wl.nil | apply St.seq | apply St.region | (apply St.condF;exact rfl;exact k5) | apply St.skip | apply Gt.next
 refine Wl.cls (fun _ h' => Hp.open h' hc trivial) ?_
 apply Wl.copyO (l := l) (cs' := memC (putF f o l))
 ·exact rfl
 ·exact rfl
 ·exact rfl
 ·exact kd
 ·rw [show 0 + o * 1 = o by omega];exact putF_cells f o l kc
 ·omega
 ·rw [memC_len];omega
 ·exact fun wq hq => hv.upd hq.upd fun k hk _ hne y => y ⟨fun e => hvc k hk hne e.symm,trivial⟩
 repeat' first | refine Wl.assign rfl rfl ?_ | apply Wl.nil | apply St.seq | apply St.region | apply St.ret | apply Gt.next | (apply Gt.out1;exact rfl;exact rfl;intro w' hp)
 exact ⟨rfl,hp.own.at (.head _),Hp.turned hp⟩
end Go.Proofs.YtabbklpalbikdaaGreatDoor
end
section
namespace Go.Pt
section
variable {P : Program} {md : Md} {N : Nat} {ops : Array Oper} {rest : List Oper} {Γ : Env} {C : World → Prop} {Q : Exit → Act → World → Prop} {d : Nat} {ty : TypeId} {pos : String} {af : Array Edge}
theorem Wl.sliceArrE {t e sz by_ n : TypeId} {x lo : Operand} {b o : Nat} {k : IntKind} {i : Int} [ht : TyD P t (.array n e)] [TyS P e sz by_] (hd : Nat.blt d N = true) (hx : ev Γ x = some (.pointer (some ⟨b,o,none⟩))) (hlo : ev Γ lo = some (.int k i)) (ei : i = (n : Int))
  (h : Wl rest P md ops N ((d,.slice (some ⟨b,o,none⟩) 0 0) :: Γ) C Q) : Wl (⟨some d,.slice t x (some lo) none none,ty,pos,af,none⟩ :: rest) P md ops N Γ C Q :=
 Wl.val hd (fun a w ha _ => by
  subst ei
  have e1 : ∀ c,(Instr.sliceBound (.int k (n : Int)) n c).run P w = .ok n w := fun c => by
   simp only [Instr.sliceBound,asIntOf,pure_bind]
   rw [if_pos kc]
   simp
  simp [execOp,ha.ev hx,ha.ev hlo,Instr.sliceAt,run_underlying ht.out,Instr.sureAddr,Instr.sliceBounds,e1,run_size (P := P) (t := e),Addr.add]) h
end
end Go.Pt
namespace Go.Proofs.YtabbklpalbikdaaGreatDoor
open Go.RowKit Go.Pt
theorem mputE (c : Nat) (f : Nat → Int) (v : Value) (w : World) (hc : memH w c f) (hv : Bs w v []) :
  Calls Tryz.prog 53 #[.pointer (some ⟨c,0,none⟩),.int .u32 (2147483648 + 65536),v] w fun e w' => e = .returned (.int .i64 0) ∧ memH w' c f ∧ Upd (fun k => k = c) w w' := by
 unfold memH at hc
 obtain ⟨ad,cap,rfl,hs1,hs2⟩ := hv.shape
 have hd : decide ((2147483648 : Int) ≤ 2147483648 + 65536 ∧ 2147483648 + 65536 + (0 : Int) ≤ 2147483648 + 65536) = true := by decide
 have hd2 : (!decide ((2147483648 : Int) ≤ 2147483648 + 65536 ∧ 2147483648 + 65536 + (0 : Int) ≤ 2147483648 + 65536)) = false := by rw [hd];rfl
 have e1 : IntKind.u32.wrap ((2147483648 : Int) + 65536 - 2147483648) = ((65536 : Nat) : Int) := by rw [IntKind.wrap_u32];decide
 have e0 : IntKind.u64.wrap (0 : Int) = 0 := by rw [IntKind.wrap_u64];decide
 have e3 : IntKind.u32.wrap (0 : Int) = 0 := by rw [IntKind.wrap_u32];decide
 refine enter (args := [_,_,_]) (Γ := [(0,_),(1,_),(2,_)]) Tryz.func53 Tryz.ntmps53 rfl odq (.cons rfl (.cons rfl (.cons rfl .nil))) ?_
 repeat' first | refine Wl.move rfl rfl ?_ | refine Wl.assign rfl rfl ?_ | (apply Wl.on;exact rfl;exact rfl;exact k5) | refine Wl.gtr rfl rfl rfl ?_ | refine Wl.convI rfl rfl ?_ | refine Wl.len rfl rfl ?_ | apply Wl.nil | apply St.seq | apply St.region | apply Gt.next
 apply Wl.callQ
 exact rfl
 (focus repeat constructor)
 ·intro wq hq
  exact hq.q (has_any c (2147483648 + 65536) 0 wq ku ku)
 repeat' first | (apply Wl.sliceArrE;exact rfl;exact rfl;exact rfl;exact e1) | refine Wl.move rfl rfl ?_ | (apply Wl.on;exact rfl;exact rfl;exact k5) | refine Wl.nilCheck rfl rfl ?_ | (apply Wl.pickF;exact rfl;exact rfl;exact k5;exact rfl) | refine Wl.not rfl rfl ?_ | refine Wl.fieldAddr0 rfl rfl ?_ | refine Wl.sub' rfl rfl rfl ?_ | apply Wl.nil | apply St.seq | apply St.region | (apply St.condF;exact rfl;exact k5) | apply St.skip | apply Gt.next
 refine Wl.cls (fun _ h' => Hp.open h' hc trivial) ?_
 apply Wl.copyO (l := []) (cs' := memC f)
 ·exact rfl
 ·exact rfl
 ·exact rfl
 ·exact kd
 ·simp [byteCells]
 ·exact Nat.zero_le _
 ·exact Nat.zero_le _
 ·exact fun wq hq => hv.upd hq.upd fun k hk _ hne y => (hne rfl).elim
 repeat' first | refine Wl.assign rfl rfl ?_ | apply Wl.nil | apply St.seq | apply St.region | apply St.ret | apply Gt.next | (apply Gt.out1;exact rfl;exact rfl;intro w' hp)
 exact ⟨rfl,hp.own.at (.head _),Hp.turned hp⟩
structure Cu where
 l : List UInt8
 bad : Bool
def Cu.take (c : Cu) (n : Int) : List UInt8 × Cu := ((cTake c.l c.bad n).1,⟨(cTake c.l c.bad n).2.1,(cTake c.l c.bad n).2.2⟩)
def Cu.u (c : Cu) (n : Nat) : Nat × Cu := (leN (c.take n).1,(c.take n).2)
structure CurS (w : World) (c : Nat) (src : Value) (all : List UInt8) (cu : Cu) : Prop where
 b : ∃ v,w.heap[c]? = some (.cells #[v,.bool cu.bad] 261 (0,0)) ∧ ∀ u,Bs u src all → Bs u v cu.l
 s : Bs w src all
 ne : ∀ k,src.ownBlock = some k → all ≠ [] → k ≠ c
theorem CurS.lt {w : World} {c : Nat} {src : Value} {all : List UInt8} {cu : Cu} (h : CurS w c src all cu) : c < w.heap.size := h.b.elim fun _ h => lt_of_block h.1
theorem CurS.upd {S : Nat → Prop} {w w' : World} {c : Nat} {src : Value} {all : List UInt8} {cu : Cu} (h : CurS w c src all cu) (u : Upd S w w') (h1 : ¬ S c) (h2 : ∀ k,src.ownBlock = some k → k < w.heap.size → all ≠ [] → ¬ S k) : CurS w' c src all cu :=
 ⟨h.b.elim fun v h => ⟨v,u.heap h.1 h1,h.2⟩,h.s.upd u h2,h.ne⟩
theorem CurS.new {w w' : World} {c : Nat} {src : Value} {all : List UInt8} {cu : Cu} (h : CurS w c src all cu) (u : Upd (fun k => w.heap.size ≤ k) w w') : CurS w' c src all cu := h.upd u (Nat.not_le.2 h.lt) fun _ _ hk _ => Nat.not_le.2 hk
theorem CurS.step {w w' : World} {c : Nat} {src : Value} {all : List UInt8} {cu cu' : Cu} {v' : Value} (h : CurS w c src all cu) (hp : Hp w [⟨c,[v',.bool cu'.bad],261⟩] w') (hv : ∀ u,Bs u src all → Bs u v' cu'.l) : CurS w' c src all cu' ∧ Upd (fun k => k = c) w w' :=
 ⟨⟨⟨v',hp.own.at (.head _),hv⟩,h.s.upd hp.upd fun k hk _ hne y => y ⟨fun e => h.ne k hk hne e.symm,trivial⟩,h.ne⟩,Hp.turned hp⟩
section
variable (c : Nat) (src : Value) (all : List UInt8) (cu : Cu) (w : World)
theorem cuU8 (h : CurS w c src all cu) : Calls Tryz.prog 139 #[.pointer (some ⟨c,0,none⟩)] w fun e w' => e = .returned (.int .i64 ((cu.u 1).1 : Int)) ∧ CurS w' c src all (cu.u 1).2 ∧ Upd (fun k => k = c) w w' := by
 obtain ⟨v,hb,hs⟩ := h.b
 refine (u8_any c v cu.l cu.bad w hb (hs w h.s)).mono ?_
 rintro e w' ⟨v',rfl,hp,hv⟩
 exact ⟨rfl,h.step (cu' := (cu.u 1).2) hp fun u hu => hv u (hs u hu)⟩
theorem cuU16 (h : CurS w c src all cu) : Calls Tryz.prog 142 #[.pointer (some ⟨c,0,none⟩)] w fun e w' => e = .returned (.int .i64 ((cu.u 2).1 : Int)) ∧ CurS w' c src all (cu.u 2).2 ∧ Upd (fun k => k = c) w w' := by
 obtain ⟨v,hb,hs⟩ := h.b
 refine (u16_any c v cu.l cu.bad w hb (hs w h.s)).mono ?_
 rintro e w' ⟨v',rfl,hp,hv⟩
 exact ⟨rfl,h.step (cu' := (cu.u 2).2) hp fun u hu => hv u (hs u hu)⟩
theorem cuU32 (h : CurS w c src all cu) : Calls Tryz.prog 140 #[.pointer (some ⟨c,0,none⟩)] w fun e w' => e = .returned (.int .u32 ((cu.u 4).1 : Int)) ∧ CurS w' c src all (cu.u 4).2 ∧ Upd (fun k => k = c) w w' := by
 obtain ⟨v,hb,hs⟩ := h.b
 refine (u32_any c v cu.l cu.bad w hb (hs w h.s)).mono ?_
 rintro e w' ⟨v',rfl,hp,hv⟩
 exact ⟨rfl,h.step (cu' := (cu.u 4).2) hp fun u hu => hv u (hs u hu)⟩
theorem cuTake (n : Int) (h : CurS w c src all cu) : Calls Tryz.prog 101 #[.pointer (some ⟨c,0,none⟩),.int .i64 n] w fun e w' => ∃ x,e = .returned x ∧ (∀ u,Bs u src all → Bs u x (cu.take n).1) ∧ CurS w' c src all (cu.take n).2 ∧ Upd (fun k => k = c) w w' := by
 obtain ⟨v,hb,hs⟩ := h.b
 refine (take_any c v cu.l cu.bad n w w hb (hs w h.s)).mono ?_
 rintro e w' ⟨x,v',rfl,hp,hv⟩
 exact ⟨x,rfl,fun u hu => (hv u (hs u hu)).1,h.step (cu' := (cu.take n).2) hp fun u hu => (hv u (hs u hu)).2⟩
theorem cuBad (h : CurS w c src all cu) : Calls Tryz.prog 188 #[.pointer (some ⟨c,0,none⟩)] w fun e w' => e = .returned (.bool cu.bad) ∧ Hp w [] w' := by
 obtain ⟨v,hb,hs⟩ := h.b
 exact bad_any c v cu.bad w hb
theorem cuEnd (h : CurS w c src all cu) : Calls Tryz.prog 189 #[.pointer (some ⟨c,0,none⟩)] w fun e w' => e = .returned (.bool (!cu.bad && decide (cu.l = []))) ∧ Hp w [] w' := by
 obtain ⟨v,hb,hs⟩ := h.b
 exact end_any c v cu.l cu.bad w w hb (hs w h.s)
end
theorem cuAt (v : Value) (l : List UInt8) (w : World) (h : Bs w v l) (hb : ∀ k,v.ownBlock = some k → l ≠ [] → k < w.heap.size) :
  Calls Tryz.prog 100 #[v] w fun e w' => ∃ c,e = .returned (.pointer (some ⟨c,0,none⟩)) ∧ w.heap.size ≤ c ∧ CurS w' c v l ⟨l,false⟩ ∧ Upd (fun k => w.heap.size ≤ k) w w' := by
 refine (at_any v l w w h).mono ?_
 rintro e w' ⟨c,rfl,hc,hp⟩
 have u : Upd (fun k => w.heap.size ≤ k) w w' := hp.on (Upd.refl _ _) zi
 exact ⟨c,rfl,hc,⟨⟨v,hp.own.at (.head _),fun _ h => h⟩,h.upd u fun k _ hk _ => Nat.not_le.2 hk,fun k hk hne => by have := hb k hk hne;omega⟩,u⟩
theorem Cu.u_lt (c : Cu) (n : Nat) (hn : n ≤ 4) : (c.u n).1 < 256 ^ n := by
 have h1 := leN_lt (c.take n).1
 have h2 : (256 : Nat) ^ (c.take n).1.length ≤ 256 ^ n := Nat.pow_le_pow_right kc (cTake_len c.l c.bad n)
 exact Nat.lt_of_lt_of_le h1 h2
end Go.Proofs.YtabbklpalbikdaaGreatDoor
end
