/-
  P-256's field as mont.Mod holds it: what its functions compute, told over the field of the group law; points as values. Conditions: the receiver is the modulus of P-256.
-/
import Derived.Test.YtfaobdakpbpkbaaLaw03i
import Derived.Test.YtfaobdakpbpkbaaJac
import Derived.Test.YtfaobdakpbpkbaaBagX
namespace Go.Pt
theorem LSub.mid {a b c : List Value} {i n : Nat} (h1 : a.length = i) (h2 : b.length = n) : LSub (a ++ (b ++ c)) i n b := by
  subst h1 h2
  induction a with
  | nil =>
    induction b with
    | nil => exact .z
    | cons x r ih => exact .t ih
  | cons x r ih => exact .s ih
theorem LSub.end' {a b : List Value} {i n : Nat} (h1 : a.length = i) (h2 : b.length = n) : LSub (a ++ b) i n b := by
  have := LSub.mid (c := []) h1 h2
  rwa [List.append_nil] at this
theorem LSub.into {a b c : List Value} {i j n k : Nat} (h1 : a.length = j) (h : LSub b i n c) (hk : k = j + i) : LSub (a ++ b) k n c := by
  subst h1 hk
  induction a with
  | nil => simpa using h
  | cons x r ih => rw [List.length_cons, show r.length + 1 + i = r.length + i + 1 by omega]; exact .s ih
section
variable {P : Program} {N : Nat} {ops : Array Oper} {rest : List Oper} {Γ : Env} {Q : Exit → Act → World → Prop} {ty : TypeId} {pos : String} {af : Array Edge} {t : TypeId} {x y : Operand}
/-- a struct or an array is stored over a whole block -/
theorem Wl.storeAll {w0 : World} {H H' : List Blk} {n bt : TypeId} [ht : TyA P t n] {c : Nat} {cs xs : List Value} (hx : ev Γ x = some (.pointer (some ⟨c, 0, none⟩))) (hy : ev Γ y = some (.agg xs.toArray)) (hs : HSet c cs xs bt H H') (hn : xs.length = n) (hl : cs.length = n) (h1 : xs.all Value.oneCell' = true)
    (h : Wl rest P .seq ops N Γ (Hp w0 H') Q) : Wl (⟨none, .store t x y, ty, pos, af, none⟩ :: rest) P .seq ops N Γ (Hp w0 H) Q :=
  Wl.storeA hx hy hn h1 hs (.z (LOver.whole (by rw [hl, hn]))) h
end
end Go.Pt
namespace Go.Proofs.Ytfaobdakpbpkbaa
open Go.RowKit Go.Pt
attribute [local irreducible] Prim.P256
theorem pW : Prim.P256 < W256 := by decide +kernel
theorem pOdd : Prim.P256 % 2 = 1 := by decide +kernel
theorem p3 : 3 < Prim.P256 := by decide +kernel
theorem modMulMod (a b m : Nat) : a % m * b % m = a * b % m := by rw [Nat.mod_mul_mod]
def mg (x : Ec.F) : Nat := x.val * W256 % Prim.P256
theorem mg_lt (x : Ec.F) : mg x < Prim.P256 := Nat.mod_lt _ (by have := p3; omega)
theorem mg_W (x : Ec.F) : mg x < W256 := Nat.lt_trans (mg_lt x) pW
theorem val_W (x : Ec.F) : x.val < W256 := Nat.lt_trans x.isLt pW
theorem out_mg (x : Ec.F) : mg x * rinv Prim.P256 % Prim.P256 = x.val := by
  unfold mg
  rw [outIn pOdd, Nat.mod_eq_of_lt x.isLt]
theorem mg_inj {x y : Ec.F} (h : mg x = mg y) : x = y := Fin.ext (by rw [← out_mg x, ← out_mg y, h])
theorem mg_add (x y : Ec.F) : (mg x + mg y) % Prim.P256 = mg (x + y) := by
  unfold mg
  rw [← Nat.add_mod, ← Nat.add_mul, Fin.val_add, modMulMod]
theorem mg_sub (x y : Ec.F) : (mg x + Prim.P256 - mg y) % Prim.P256 = mg (x - y) := by
  have h := mg_add (x - y) y
  rw [show x - y + y = x by grobner] at h
  have h1 := mg_lt (x - y)
  have h2 := mg_lt y
  rw [← h]
  generalize mg (x - y) = a at *
  generalize mg y = b at *
  generalize Prim.P256 = p at *
  by_cases hlt : a + b < p
  · rw [Nat.mod_eq_of_lt hlt, show a + b + p - b = a + p by omega, Nat.add_mod_right, Nat.mod_eq_of_lt h1]
  · have e : (a + b) % p = a + b - p := by rw [Nat.mod_eq_sub_mod (by omega), Nat.mod_eq_of_lt (by omega)]
    rw [e, show a + b - p + p - b = a by omega, Nat.mod_eq_of_lt h1]
theorem mg_mul (x y : Ec.F) : mg x * mg y * rinv Prim.P256 % Prim.P256 = mg (x * y) := by
  unfold mg
  rw [in_mul pOdd, Fin.val_mul, modMulMod]
theorem val_one : (1 : Ec.F).val = 1 := Nat.mod_eq_of_lt (show 1 < Prim.P256 by have := p3; omega)
theorem val_zero : (0 : Ec.F).val = 0 := Nat.zero_mod _
theorem mg_one : W256 % Prim.P256 = mg 1 := by
  unfold mg
  rw [val_one, Nat.one_mul]
theorem mg_zero : mg 0 = 0 := by
  unfold mg
  rw [val_zero, Nat.zero_mul, Nat.zero_mod]
theorem mg_eq_zero (x : Ec.F) : mg x = 0 ↔ x = 0 := ⟨fun h => mg_inj (h.trans mg_zero.symm), fun h => h ▸ mg_zero⟩
def nF (a : Nat) : Ec.F := Fin.ofNat Prim.P256 a
theorem nF_val (a : Nat) : (nF a).val = a % Prim.P256 := rfl
theorem nF_of (x : Ec.F) : nF x.val = x := Fin.ext (Nat.mod_eq_of_lt x.isLt)
theorem mg_in (a : Nat) : a * W256 % Prim.P256 = mg (nF a) := by
  unfold mg
  rw [nF_val, modMulMod]
theorem mg_inv (x : Ec.F) : pw Prim.P256 (mg x) (Prim.P256 - 2) = mg (Ec.finv x) := by
  unfold mg
  rw [pw_in pOdd]
  unfold Ec.finv
  simp only [Fin.ofNat]
  rw [modMulMod]
section
variable {b : Nat} {w : World}
theorem fTimes (h : ModV w b Prim.P256) (x y : Ec.F) : Calls Try.prog 37 #[mp b, numV (mg x), numV (mg y)] w fun e w' => e = .returned (numV (mg (x * y))) ∧ Hp w [] w' := by
  rw [← mg_mul]; exact modTimes' h (mg_W x) (mg_lt y)
theorem fAdd (h : ModV w b Prim.P256) (x y : Ec.F) : Calls Try.prog 35 #[mp b, numV (mg x), numV (mg y)] w fun e w' => e = .returned (numV (mg (x + y))) ∧ Hp w [] w' := by
  rw [← mg_add]; exact modAdd b _ _ _ w h.mod pW (mg_lt x) (mg_lt y)
theorem fSub (h : ModV w b Prim.P256) (x y : Ec.F) : Calls Try.prog 36 #[mp b, numV (mg x), numV (mg y)] w fun e w' => e = .returned (numV (mg (x - y))) ∧ Hp w [] w' := by
  rw [← mg_sub]; exact modSub b _ _ _ w h.mod pW (mg_lt x) (mg_lt y)
theorem fOne (h : ModV w b Prim.P256) : Calls Try.prog 40 #[mp b] w fun e w' => e = .returned (numV (mg 1)) ∧ Hp w [] w' := by
  rw [← mg_one]; exact modOne b _ w h
theorem fIn (h : ModV w b Prim.P256) {a : Nat} (ha : a < W256) : Calls Try.prog 29 #[mp b, numV a] w fun e w' => e = .returned (numV (mg (nF a))) ∧ Hp w [] w' := by
  rw [← mg_in]; exact modIn b _ a w h ha
theorem fInF (h : ModV w b Prim.P256) (x : Ec.F) : Calls Try.prog 29 #[mp b, numV x.val] w fun e w' => e = .returned (numV (mg x)) ∧ Hp w [] w' := by
  have := fIn h (val_W x)
  rw [nF_of] at this
  exact this
theorem fOut (h : ModV w b Prim.P256) (x : Ec.F) : Calls Try.prog 57 #[mp b, numV (mg x)] w fun e w' => e = .returned (numV x.val) ∧ Hp w [] w' := by
  rw [← out_mg]; exact modOut b _ _ w h (mg_W x)
theorem fInv (h : ModV w b Prim.P256) (x : Ec.F) : Calls Try.prog 56 #[mp b, numV (mg x)] w fun e w' => e = .returned (numV (mg (Ec.finv x))) ∧ Hp w [] w' := by
  rw [← mg_inv]; exact modInv h (mg_lt x) pW (by have := p3; omega)
theorem fZero (x : Ec.F) (w : World) : Calls Try.prog 55 #[numV (mg x)] w fun e w' => e = .returned (.bool (decide (x = 0))) ∧ Hp w [] w' := by
  have := limbZero (mg x) w (mg_W x)
  rw [decide_eq_decide.2 (mg_eq_zero x)] at this
  exact this
end
section
variable {b : Nat} {w : World} {x y r : Ec.F}
theorem gTimes (h : ModV w b Prim.P256) (e : r = x * y) : Calls Try.prog 37 #[mp b, numV (mg x), numV (mg y)] w fun e w' => e = .returned (numV (mg r)) ∧ Hp w [] w' := e ▸ fTimes h x y
theorem gAdd (h : ModV w b Prim.P256) (e : r = x + y) : Calls Try.prog 35 #[mp b, numV (mg x), numV (mg y)] w fun e w' => e = .returned (numV (mg r)) ∧ Hp w [] w' := e ▸ fAdd h x y
theorem gSub (h : ModV w b Prim.P256) (e : r = x - y) : Calls Try.prog 36 #[mp b, numV (mg x), numV (mg y)] w fun e w' => e = .returned (numV (mg r)) ∧ Hp w [] w' := e ▸ fSub h x y
theorem gInv (h : ModV w b Prim.P256) (e : r = Ec.finv x) : Calls Try.prog 56 #[mp b, numV (mg x)] w fun e w' => e = .returned (numV (mg r)) ∧ Hp w [] w' := e ▸ fInv h x
end
attribute [irreducible] mg
/-! ### points -/
def ptC (x y z : Nat) : List Value := cellsN .u32 8 (dg W32 x) ++ (cellsN .u32 8 (dg W32 y) ++ cellsN .u32 8 (dg W32 z))
def poC (x y : Nat) (n : Bool) : List Value := cellsN .u32 8 (dg W32 x) ++ (cellsN .u32 8 (dg W32 y) ++ [.bool n])
theorem ptC_len (x y z : Nat) : (ptC x y z).length = 24 := by simp [ptC, cellsN_len]
theorem poC_len (x y : Nat) (n : Bool) : (poC x y n).length = 17 := by simp [poC, cellsN_len]
theorem ptC_one (x y z : Nat) : (ptC x y z).all Value.oneCell' = true := by
  unfold ptC
  rw [List.all_append, List.all_append, cellsN_one, cellsN_one, cellsN_one]; rfl
theorem poC_one (x y : Nat) (n : Bool) : (poC x y n).all Value.oneCell' = true := by
  unfold poC
  rw [List.all_append, List.all_append, cellsN_one, cellsN_one]; rfl
theorem ptC_x (x y z : Nat) : LSub (ptC x y z) 0 8 (cellsN .u32 8 (dg W32 x)) := LSub.mid (a := []) rfl (cellsN_len _ _ _)
theorem ptC_y (x y z : Nat) : LSub (ptC x y z) 8 8 (cellsN .u32 8 (dg W32 y)) := LSub.mid (cellsN_len _ _ _) (cellsN_len _ _ _)
theorem ptC_z (x y z : Nat) : LSub (ptC x y z) 16 8 (cellsN .u32 8 (dg W32 z)) := LSub.into (cellsN_len _ _ _) (LSub.end' (cellsN_len _ _ _) (cellsN_len _ _ _)) rfl
theorem poC_x (x y : Nat) (n : Bool) : LSub (poC x y n) 0 8 (cellsN .u32 8 (dg W32 x)) := LSub.mid (a := []) rfl (cellsN_len _ _ _)
theorem poC_y (x y : Nat) (n : Bool) : LSub (poC x y n) 8 8 (cellsN .u32 8 (dg W32 y)) := LSub.mid (cellsN_len _ _ _) (cellsN_len _ _ _)
theorem poC_n (x y : Nat) (n : Bool) : (poC x y n)[16]? = some (.bool n) := by
  unfold poC
  rw [← List.append_assoc, List.getElem?_append_right (by simp [cellsN_len])]
  simp [cellsN_len]
/-- parts laid over zeros -/
theorem fill3 {place : Nat → Option (Nat × Nat)} {za zb zc xs ys zs : List Value} (ha : za.length = 8) (hb : zb.length = 8) (hc : zc.length = 8) (hx : xs.length = 8) (hy : ys.length = 8) (hz : zs.length = 8) (p0 : place 0 = some (0, 8)) (p1 : place 1 = some (8, 8)) (p2 : place 2 = some (16, 8)) :
    Fills place (za ++ (zb ++ zc)) [(0, .agg xs.toArray), (1, .agg ys.toArray), (2, .agg zs.toArray)] (xs ++ (ys ++ zs)) := by
  have h1 : LPut (za ++ (zb ++ zc)) 0 xs (xs ++ (zb ++ zc)) := LPut.app (p := []) rfl (by rw [ha, hx])
  have h2 : LPut (xs ++ (zb ++ zc)) 8 ys (xs ++ (ys ++ zc)) := LPut.app hx (by rw [hb, hy])
  have h3 : LPut (xs ++ (ys ++ zc)) 16 zs (xs ++ (ys ++ zs)) := by
    have := LPut.app (p := xs ++ ys) (l := zc) (xs := zs) (r := []) (n := 16) (by simp [hx, hy]) (by rw [hc, hz])
    simpa using this
  exact .agg p0 (by rw [hx]; rfl) h1 (.agg p1 (by rw [hy]; rfl) h2 (.agg p2 (by rw [hz]; rfl) h3 .nil))
theorem fill2 {place : Nat → Option (Nat × Nat)} {za zb xs ys : List Value} {v : Value} (ha : za.length = 8) (hb : zb.length = 8) (hx : xs.length = 8) (hy : ys.length = 8) (p0 : place 0 = some (0, 8)) (p1 : place 1 = some (8, 8)) :
    Fills place (za ++ (zb ++ [v])) [(0, .agg xs.toArray), (1, .agg ys.toArray)] (xs ++ (ys ++ [v])) := by
  have h1 : LPut (za ++ (zb ++ [v])) 0 xs (xs ++ (zb ++ [v])) := LPut.app (p := []) rfl (by rw [ha, hx])
  have h2 : LPut (xs ++ (zb ++ [v])) 8 ys (xs ++ (ys ++ [v])) := LPut.app hx (by rw [hb, hy])
  exact .agg p0 (by rw [hx]; rfl) h1 (.agg p1 (by rw [hy]; rfl) h2 .nil)
theorem pt_zero : [Value.int .u32 0, .int .u32 0, .int .u32 0, .int .u32 0, .int .u32 0, .int .u32 0, .int .u32 0, .int .u32 0] ++ ([Value.int .u32 0, .int .u32 0, .int .u32 0, .int .u32 0, .int .u32 0, .int .u32 0, .int .u32 0, .int .u32 0] ++ [Value.int .u32 0, .int .u32 0, .int .u32 0, .int .u32 0, .int .u32 0, .int .u32 0, .int .u32 0, .int .u32 0]) = ptC 0 0 0 := by
  unfold ptC; rw [zero8]
theorem po_zero (n : Bool) : [Value.int .u32 0, .int .u32 0, .int .u32 0, .int .u32 0, .int .u32 0, .int .u32 0, .int .u32 0, .int .u32 0] ++ ([Value.int .u32 0, .int .u32 0, .int .u32 0, .int .u32 0, .int .u32 0, .int .u32 0, .int .u32 0, .int .u32 0] ++ [.bool n]) = poC 0 0 n := by
  unfold poC; rw [zero8]
theorem ptC_set (x y z x' y' z' : Nat) : Fills ([(0, 8), (8, 8), (16, 8)].toArray[·]?) (ptC x y z) [(0, numV x'), (1, numV y'), (2, numV z')] (ptC x' y' z') :=
  fill3 (cellsN_len _ _ _) (cellsN_len _ _ _) (cellsN_len _ _ _) (cellsN_len _ _ _) (cellsN_len _ _ _) (cellsN_len _ _ _) rfl rfl rfl
theorem poC_set (x y x' y' : Nat) (n : Bool) : Fills ([(0, 8), (8, 8), (16, 1)].toArray[·]?) (poC x y n) [(0, numV x'), (1, numV y')] (poC x' y' n) :=
  fill2 (cellsN_len _ _ _) (cellsN_len _ _ _) (cellsN_len _ _ _) (cellsN_len _ _ _) rfl rfl
theorem poC_put (x y : Nat) (n n' : Bool) : LSet (poC x y n) 16 (.bool n') (poC x y n') := by
  have := LSet.app (p := cellsN .u32 8 (dg W32 x) ++ cellsN .u32 8 (dg W32 y)) (r := []) (x := .bool n) (v := .bool n') (n := 16) (by simp [cellsN_len])
  simpa [poC] using this
theorem poC_none (x y : Nat) (n n' : Bool) : Fills ([(0, 8), (8, 8), (16, 1)].toArray[·]?) (poC x y n) [(2, .bool n')] (poC x y n') :=
  .one rfl rfl (poC_put x y n n') .nil
attribute [irreducible] ptC poC
section
variable {md : Md} {N : Nat} {ops : Array Oper} {rest : List Oper} {Γ : Env} {C : World → Prop} {Q : Exit → Act → World → Prop} {d : Nat} {ty : TypeId} {pos : String} {af : Array Edge} {parts : Array (Nat × Operand)}
theorem Wl.buildPt {x y z : Nat} (hd : Nat.blt d N = true) (hp : Parts Γ parts.toList [(0, numV x), (1, numV y), (2, numV z)]) (h : Wl rest Try.prog md ops N ((d, .agg (ptC x y z).toArray) :: Γ) C Q) :
    Wl (⟨some d, .build 75 parts, ty, pos, af, none⟩ :: rest) Try.prog md ops N Γ C Q := by
  refine Wl.build hd hp (fun _ => run_build_struct ?_) h
  have := ptC_set 0 0 0 x y z
  rw [← pt_zero] at this
  exact this
theorem Wl.buildPo {x y : Nat} (hd : Nat.blt d N = true) (hp : Parts Γ parts.toList [(0, numV x), (1, numV y)]) (h : Wl rest Try.prog md ops N ((d, .agg (poC x y false).toArray) :: Γ) C Q) :
    Wl (⟨some d, .build 35 parts, ty, pos, af, none⟩ :: rest) Try.prog md ops N Γ C Q := by
  refine Wl.build hd hp (fun _ => run_build_struct ?_) h
  have := poC_set 0 0 x y false
  rw [← po_zero] at this
  exact this
theorem Wl.buildPn {n : Bool} (hd : Nat.blt d N = true) (hp : Parts Γ parts.toList [(2, .bool n)]) (h : Wl rest Try.prog md ops N ((d, .agg (poC 0 0 n).toArray) :: Γ) C Q) :
    Wl (⟨some d, .build 35 parts, ty, pos, af, none⟩ :: rest) Try.prog md ops N Γ C Q := by
  refine Wl.build hd hp (fun _ => run_build_struct ?_) h
  have := poC_none 0 0 false n
  rw [← po_zero] at this
  exact this
end
/-- a point as a value -/
def poD : Ec.Pt → List Value
  | none => poC 0 0 true
  | some (x, y) => poC x.val y.val false
abbrev poV (A : Ec.Pt) : Value := .agg (poD A).toArray
theorem poD_none : poD none = poC 0 0 true := rfl
theorem poD_some (x y : Ec.F) : poD (some (x, y)) = poC x.val y.val false := rfl
theorem poD_len (A : Ec.Pt) : (poD A).length = 17 := by
  match A with
  | none => exact poC_len _ _ _
  | some (x, y) => exact poC_len _ _ _
theorem poD_one (A : Ec.Pt) : (poD A).all Value.oneCell' = true := by
  match A with
  | none => exact poC_one _ _ _
  | some (x, y) => exact poC_one _ _ _
theorem poD_n (A : Ec.Pt) : (poD A)[16]? = some (.bool A.isNone) := by
  match A with
  | none => exact poC_n _ _ _
  | some (x, y) => exact poC_n _ _ _
def poX : Ec.Pt → Nat
  | none => 0
  | some (x, _) => x.val
def poY : Ec.Pt → Nat
  | none => 0
  | some (_, y) => y.val
theorem poD_x (A : Ec.Pt) : LSub (poD A) 0 8 (cellsN .u32 8 (dg W32 (poX A))) := by
  match A with
  | none => exact poC_x _ _ _
  | some (x, y) => exact poC_x _ _ _
theorem poD_y (A : Ec.Pt) : LSub (poD A) 8 8 (cellsN .u32 8 (dg W32 (poY A))) := by
  match A with
  | none => exact poC_y _ _ _
  | some (x, y) => exact poC_y _ _ _
theorem poX_W (A : Ec.Pt) : poX A < W256 := by
  match A with
  | none => show 0 < W256; decide
  | some (x, y) => exact val_W x
theorem poY_W (A : Ec.Pt) : poY A < W256 := by
  match A with
  | none => show 0 < W256; decide
  | some (x, y) => exact val_W y
attribute [irreducible] poD
abbrev ptF (p : Ec.F × Ec.F × Ec.F) : List Value := ptC (mg p.1) (mg p.2.1) (mg p.2.2)
abbrev ptV (p : Ec.F × Ec.F × Ec.F) : Value := .agg (ptF p).toArray
def curB : Ec.F := nF 0x5AC635D8AA3A93E7B3EBBD55769886BC651D06B0CC53B0F63BCE3C3E27D2604B
/-- the curve at c -/
structure CurV (w : World) (c bm : Nat) : Prop where
  mod : w.cell? ⟨c, 0, none⟩ = some (mp bm)
  b : ArrAt w c 1 .u32 8 (dg W32 (mg curB))
  val : ModV w bm Prim.P256
theorem CurV.upd {S : Nat → Prop} {w w' : World} {c bm : Nat} (h : CurV w c bm) (u : Upd S w w') (hc : ¬ S c) (hb : ¬ S bm) : CurV w' c bm := ⟨u.cell h.mod hc, h.b.upd u hc, h.val.upd u hb⟩
theorem CurV.hp {w w' : World} {H : List Blk} {c bm : Nat} (h : CurV w c bm) (u : Hp w H w') (hc : Off H c) (hb : Off H bm) : CurV w' c bm := h.upd u.upd (fun y => y hc) fun y => y hb
theorem CurV.lt {w : World} {c bm : Nat} (h : CurV w c bm) : c < w.heap.size ∧ bm < w.heap.size := ⟨h.b.lt (by decide), h.val.blk⟩
end Go.Proofs.Ytfaobdakpbpkbaa
