/-
  Maps of int to int that the call has made: what a block holds, key by key; making, look-ups and stores.
-/
import Derived.Test.YtcefkbnachnciaaDoorFacts
import Derived.Maps.Views
import Derived.Maps.OwnSet
namespace Go.Pt
open Go.RowKit

/-- block b of w is a map from int to int of at most n entries: key t stands at lk t -/
def MapI (P : Program) (k e : TypeId) (w : World) (b n : Nat) (lk : Int → Option Int) : Prop :=
  ∃ D : DataW Unit, w.ownsMap P k (plainElem P e) b n D ∧ ∀ t : Int, Maps.has D (.int .i64 t) = (lk t).isSome ∧ D.atKey (.int .i64 t) (.lit (.int .i64 0)) = .lit (.int .i64 ((lk t).getD 0))
theorem MapI.upd {P : Program} {k e : TypeId} {w w' : World} {b n : Nat} {lk : Int → Option Int} {S : Nat → Prop} (h : MapI P k e w b n lk) (u : Upd S w w') (hs : ¬ S b) : MapI P k e w' b n lk := by
  obtain ⟨D, ⟨es, clock, hb, r⟩, h2⟩ := h
  exact ⟨D, ⟨es, clock, u.heap hb hs, r⟩, h2⟩
theorem MapI.lt {P : Program} {k e : TypeId} {w : World} {b n : Nat} {lk : Int → Option Int} (h : MapI P k e w b n lk) : b < w.heap.size := by
  obtain ⟨D, h1, _⟩ := h
  exact h1.lt
theorem MapI.eq {P : Program} {k e : TypeId} {w : World} {b n : Nat} {lk lk' : Int → Option Int} (h : MapI P k e w b n lk) (hl : ∀ t, lk t = lk' t) : MapI P k e w b n lk' := by
  obtain ⟨D, h1, h2⟩ := h
  exact ⟨D, h1, fun t => by rw [← hl]; exact h2 t⟩
theorem MapI.made (P : Program) (k e : TypeId) (w : World) : MapI P k e (w.alloc (.map #[] 0)) w.heap.size 0 (fun _ => none) :=
  ⟨.map [], World.ownsMap_made w P k _, fun _ => ⟨rfl, rfl⟩⟩
theorem keyLit64 (x : Int) : WideAt.IsKeyLit (.int .i64 x) := by simp [WideAt.IsKeyLit]
/-- an int holds it -/
def I64 (x : Int) : Prop := -9223372036854775808 ≤ x ∧ x ≤ 9223372036854775807
theorem wf64 {t : Int} (h : I64 t) : (Lit.int .i64 t).wf = true := by
  simp only [Lit.wf, Bool.and_eq_true, decide_eq_true_eq]
  exact h
theorem keyOf64 {P : Program} {k : TypeId} [hk : TyD P k (.int .i64)] {t : Int} (h : I64 t) : keyOf P k (.int .i64 t) = some (.int .i64 t) := by
  simp [keyOf, mapKey, hk.out, wf64 h]
theorem plain64 {P : Program} {e : TypeId} [he : TyD P e (.int .i64)] {v : Int} (h : I64 v) : plainElem (H := Unit) P e (.int .i64 v) = some (.lit (.int .i64 v), []) := plainElem_int he.out (wf64 h)
section
variable {P : Program} {md : Md} {ops : Array Oper} {N : Nat} {rest : List Oper} {Γ : Env} {Q : Exit → Act → World → Prop} {d : Nat} {ty : TypeId} {pos : String} {af : Array Edge} {w0 : World} {H : List Blk} {mt k e : TypeId}
theorem run_lookI {w : World} {b n : Nat} {lk : Int → Option Int} [ht : TyD P mt (.map k e)] [hk : TyD P k (.int .i64)] [he : TyD P e (.int .i64)] [hz : TyZ P e (.int .i64 0)] (h : MapI P k e w b n lk) {t : Int} (hlt : I64 t) :
    (Instr.lookup mt (.map (some b)) (.int .i64 t) true).run P w = .ok (.tuple #[.int .i64 ((lk t).getD 0), .bool (lk t).isSome]) w := by
  obtain ⟨D, h1, h2⟩ := h
  obtain ⟨h3, h4⟩ := h2 t
  obtain ⟨v, ps, hr, hv⟩ := h1.look_ok (Maps.int_keyed hk.out) ht.out (run_zero (P := P) (t := e)) (plainElem_int he.out (by decide)) (keyOf64 hlt)
  obtain ⟨c, rfl, hc, _⟩ := plainElem_int_inv he.out hv
  rw [h4] at hc
  simp only [Prod.mk.injEq, DataW.lit.injEq, Lit.int.injEq, true_and, and_true] at hc
  rw [hr, h3, ← hc.1]
theorem run_lookI0 {w : World} {b n : Nat} {lk : Int → Option Int} [ht : TyD P mt (.map k e)] [hk : TyD P k (.int .i64)] [he : TyD P e (.int .i64)] [hz : TyZ P e (.int .i64 0)] (h : MapI P k e w b n lk) {t : Int} (hlt : I64 t) :
    (Instr.lookup mt (.map (some b)) (.int .i64 t) false).run P w = .ok (.int .i64 ((lk t).getD 0)) w := by
  obtain ⟨D, h1, h2⟩ := h
  obtain ⟨h3, h4⟩ := h2 t
  obtain ⟨c, hr, hc, _⟩ := h1.lookup_int (Maps.int_keyed hk.out) ht.out he.out (run_zero (P := P) (t := e)) (keyOf64 hlt)
  rw [h4] at hc
  simp only [DataW.lit.injEq, Lit.int.injEq, true_and] at hc
  rw [hr, ← hc]
/-- 'v, ok := m[k]' -/
theorem Wl.lookI {m x : Operand} {b n : Nat} {lk : Int → Option Int} {t : Int} [TyD P mt (.map k e)] [TyD P k (.int .i64)] [TyD P e (.int .i64)] [TyZ P e (.int .i64 0)] (hd : Nat.blt d N = true)
    (hm : ev Γ m = some (.map (some b))) (hx : ev Γ x = some (.int .i64 t)) (hlt : I64 t) (hown : MapI P k e w0 b n lk) (ho : Off H b)
    (h : Wl rest P md ops N ((d, .tuple #[.int .i64 ((lk t).getD 0), .bool (lk t).isSome]) :: Γ) (Hp w0 H) Q) : Wl (⟨some d, .lookup mt m x true, ty, pos, af, none⟩ :: rest) P md ops N Γ (Hp w0 H) Q :=
  Wl.val hd (fun a w ha hw => by simp [execOp, ha.ev hm, ha.ev hx, run_lookI (P := P) (mt := mt) (hown.upd hw.upd fun y => y ho) hlt]) h
/-- 'm[k]' -/
theorem Wl.lookI0 {m x : Operand} {b n : Nat} {lk : Int → Option Int} {t : Int} [TyD P mt (.map k e)] [TyD P k (.int .i64)] [TyD P e (.int .i64)] [TyZ P e (.int .i64 0)] (hd : Nat.blt d N = true)
    (hm : ev Γ m = some (.map (some b))) (hx : ev Γ x = some (.int .i64 t)) (hlt : I64 t) (hown : MapI P k e w0 b n lk) (ho : Off H b)
    (h : Wl rest P md ops N ((d, .int .i64 ((lk t).getD 0)) :: Γ) (Hp w0 H) Q) : Wl (⟨some d, .lookup mt m x false, ty, pos, af, none⟩ :: rest) P md ops N Γ (Hp w0 H) Q :=
  Wl.val hd (fun a w ha hw => by simp [execOp, ha.ev hm, ha.ev hx, run_lookI0 (P := P) (mt := mt) (hown.upd hw.upd fun y => y ho) hlt]) h
theorem Wl.lookIS {m x : Operand} {b n : Nat} {lk : Int → Option Int} {t v : Int} [TyD P mt (.map k e)] [TyD P k (.int .i64)] [TyD P e (.int .i64)] [TyZ P e (.int .i64 0)] (hd : Nat.blt d N = true)
    (hm : ev Γ m = some (.map (some b))) (hx : ev Γ x = some (.int .i64 t)) (hlt : I64 t) (hown : MapI P k e w0 b n lk) (ho : Off H b) (hs : lk t = some v)
    (h : Wl rest P md ops N ((d, .tuple #[.int .i64 v, .bool true]) :: Γ) (Hp w0 H) Q) : Wl (⟨some d, .lookup mt m x true, ty, pos, af, none⟩ :: rest) P md ops N Γ (Hp w0 H) Q := by
  refine Wl.lookI (k := k) (e := e) hd hm hx hlt hown ho ?_
  rw [hs]; exact h
theorem Wl.lookIN {m x : Operand} {b n : Nat} {lk : Int → Option Int} {t : Int} [TyD P mt (.map k e)] [TyD P k (.int .i64)] [TyD P e (.int .i64)] [TyZ P e (.int .i64 0)] (hd : Nat.blt d N = true)
    (hm : ev Γ m = some (.map (some b))) (hx : ev Γ x = some (.int .i64 t)) (hlt : I64 t) (hown : MapI P k e w0 b n lk) (ho : Off H b) (hs : lk t = none)
    (h : Wl rest P md ops N ((d, .tuple #[.int .i64 0, .bool false]) :: Γ) (Hp w0 H) Q) : Wl (⟨some d, .lookup mt m x true, ty, pos, af, none⟩ :: rest) P md ops N Γ (Hp w0 H) Q := by
  refine Wl.lookI (k := k) (e := e) hd hm hx hlt hown ho ?_
  rw [hs]; exact h
theorem Wl.lookIB {m x : Operand} {b n : Nat} {lk : Int → Option Int} {t v : Int} {z : Bool} [TyD P mt (.map k e)] [TyD P k (.int .i64)] [TyD P e (.int .i64)] [TyZ P e (.int .i64 0)] (hd : Nat.blt d N = true)
    (hm : ev Γ m = some (.map (some b))) (hx : ev Γ x = some (.int .i64 t)) (hlt : I64 t) (hown : MapI P k e w0 b n lk) (ho : Off H b) (hs : (lk t).getD 0 = v) (hz : (lk t).isSome = z)
    (h : Wl rest P md ops N ((d, .tuple #[.int .i64 v, .bool z]) :: Γ) (Hp w0 H) Q) : Wl (⟨some d, .lookup mt m x true, ty, pos, af, none⟩ :: rest) P md ops N Γ (Hp w0 H) Q := by
  refine Wl.lookI (k := k) (e := e) hd hm hx hlt hown ho ?_
  rw [hs, hz]; exact h
theorem Wl.lookID {m x : Operand} {b n : Nat} {lk : Int → Option Int} {t v : Int} [TyD P mt (.map k e)] [TyD P k (.int .i64)] [TyD P e (.int .i64)] [TyZ P e (.int .i64 0)] (hd : Nat.blt d N = true)
    (hm : ev Γ m = some (.map (some b))) (hx : ev Γ x = some (.int .i64 t)) (hlt : I64 t) (hown : MapI P k e w0 b n lk) (ho : Off H b) (hs : (lk t).getD 0 = v)
    (h : Wl rest P md ops N ((d, .int .i64 v) :: Γ) (Hp w0 H) Q) : Wl (⟨some d, .lookup mt m x false, ty, pos, af, none⟩ :: rest) P md ops N Γ (Hp w0 H) Q := by
  refine Wl.lookI0 (k := k) (e := e) hd hm hx hlt hown ho ?_
  rw [hs]; exact h
/-- 'map[uint32]uint32{}' -/
theorem Wl.makeMapI (hd : Nat.blt d N = true)
    (h : ∀ b w1, w0.heap.size ≤ b → MapI P k e w1 b 0 (fun _ => none) → Upd (fun j => ¬ Off H j) w0 w1 → Off H b → Wl rest P .seq ops N ((d, .map (some b)) :: Γ) (Hp w1 H) Q) :
    Wl (⟨some d, .makeMap mt none, ty, pos, af, none⟩ :: rest) P .seq ops N Γ (Hp w0 H) Q :=
  Wl.eff fun a w ha hw => by
    have u : Upd (fun _ => False) w (w.alloc (.map #[] 0)) := Upd.alloc _ _ _
    refine ⟨.map (some w.heap.size), w.alloc (.map #[] 0), .inl ?_, (h w.heap.size _ hw.upd.size (MapI.made P k e w) (hw.upd.trans (Upd.alloc _ _ _)) (Off.lt hw.own)).elim _ _ (ha.put hd _) ⟨Upd.refl _ _, hw.own.upd u fun _ _ h => h, hw.apart⟩⟩
    simp [execOp, run_makeMap, Option.map]
/-- 'm[k] = v' -/
theorem Wl.storeI {m x y : Operand} {b n : Nat} {lk : Int → Option Int} {t v : Int} [ht : TyD P mt (.map k e)] [hk : TyD P k (.int .i64)] [he : TyD P e (.int .i64)]
    (hm : ev Γ m = some (.map (some b))) (hx : ev Γ x = some (.int .i64 t)) (hy : ev Γ y = some (.int .i64 v)) (hlt : I64 t) (hvt : I64 v) (hn : n < maxLen) (hown : MapI P k e w0 b n lk) (ho : Off H b)
    (h : ∀ w1, MapI P k e w1 b (n + 1) (fun j => if j = t then some v else lk j) → Upd (fun j => j = b ∨ ¬ Off H j) w0 w1 → Wl rest P .seq ops N Γ (Hp w1 H) Q) :
    Wl (⟨none, .mapUpdate mt m x y, ty, pos, af, none⟩ :: rest) P .seq ops N Γ (Hp w0 H) Q :=
  Wl.eff fun a w ha hw => by
    obtain ⟨D, h1, h2⟩ := hown.upd hw.upd fun y => y ho
    obtain ⟨w', hr, h3, hg⟩ := h1.update (Maps.int_keyed hk.out) ht.out hn (keyOf64 hlt) (plain64 hvt)
    have u : Upd (fun j => j = b) w w' := Upd.grown hg fun k hk => by cases hk; rfl
    have hM : MapI P k e w' b (n + 1) (fun j => if j = t then some v else lk j) := by
      refine ⟨_, h3, fun j => ?_⟩
      show Maps.has _ _ = (if j = t then some v else lk j).isSome ∧ _ = DataW.lit (.int .i64 ((if j = t then some v else lk j).getD 0))
      by_cases hj : j = t
      · subst hj
        rw [if_pos rfl]
        exact ⟨Maps.has_put_same h1.isMap (keyLit64 _) _, Maps.atKey_put_same h1.isMap (keyLit64 _) _ _⟩
      · rw [if_neg hj]
        have hne : (Lit.int .i64 j) ≠ .int .i64 t := fun e => by simp only [Lit.int.injEq, true_and] at e; omega
        rw [Maps.has_put_other hne, Maps.atKey_put_other hne]
        exact h2 j
    refine ⟨undef, w', .inr ⟨?_, rfl⟩, (h w' hM ((hw.upd.mono fun _ _ y => .inr y).trans (u.mono fun _ _ y => .inl y))).elim _ _ (ha.put0 _) ⟨Upd.refl _ _, hw.own.upd u fun y hy e => ?_, hw.apart⟩⟩
    · simp [execOp, ha.ev hm, ha.ev hx, ha.ev hy, hr]
    · exact ho.at hy e
end
end Go.Pt
