/-
  Maps of uint32 to uint32 that the call has made: what a block holds, key by key; making, look-ups and stores.
-/
import Derived.Test.YtcjikjadajmefaaFacts
import Derived.Maps.Views
import Derived.Maps.OwnSet
namespace Go.Pt
open Go.RowKit

/-- block b of w is a map from uint32 to uint32 of at most n entries: key t stands at lk t -/
def MapU (P : Program) (k e : TypeId) (w : World) (b n : Nat) (lk : Nat → Option Nat) : Prop :=
  ∃ D : DataW Unit, w.ownsMap P k (plainElem P e) b n D ∧ ∀ t : Nat, Maps.has D (.int .u32 t) = (lk t).isSome ∧ D.atKey (.int .u32 t) (.lit (.int .u32 0)) = .lit (.int .u32 ((lk t).getD 0 : Nat))
theorem MapU.upd {P : Program} {k e : TypeId} {w w' : World} {b n : Nat} {lk : Nat → Option Nat} {S : Nat → Prop} (h : MapU P k e w b n lk) (u : Upd S w w') (hs : ¬ S b) : MapU P k e w' b n lk := by
  obtain ⟨D, ⟨es, clock, hb, r⟩, h2⟩ := h
  exact ⟨D, ⟨es, clock, u.heap hb hs, r⟩, h2⟩
theorem MapU.lt {P : Program} {k e : TypeId} {w : World} {b n : Nat} {lk : Nat → Option Nat} (h : MapU P k e w b n lk) : b < w.heap.size := by
  obtain ⟨D, h1, _⟩ := h
  exact h1.lt
theorem MapU.eq {P : Program} {k e : TypeId} {w : World} {b n : Nat} {lk lk' : Nat → Option Nat} (h : MapU P k e w b n lk) (hl : ∀ t, lk t = lk' t) : MapU P k e w b n lk' := by
  obtain ⟨D, h1, h2⟩ := h
  exact ⟨D, h1, fun t => by rw [← hl]; exact h2 t⟩
theorem MapU.made (P : Program) (k e : TypeId) (w : World) : MapU P k e (w.alloc (.map #[] 0)) w.heap.size 0 (fun _ => none) :=
  ⟨.map [], World.ownsMap_made w P k _, fun _ => ⟨rfl, rfl⟩⟩
theorem keyLit32 (x : Int) : WideAt.IsKeyLit (.int .u32 x) := by simp [WideAt.IsKeyLit]
theorem wf32 {t : Nat} (h : t < 4294967296) : (Lit.int .u32 t).wf = true := by
  simp only [Lit.wf, Bool.and_eq_true, decide_eq_true_eq]
  constructor
  · show (0 : Int) ≤ t; omega
  · show (t : Int) ≤ 4294967295; omega
theorem keyOf32 {P : Program} {k : TypeId} [hk : TyD P k (.int .u32)] {t : Nat} (h : t < 4294967296) : keyOf P k (.int .u32 t) = some (.int .u32 t) := by
  simp [keyOf, mapKey, hk.out, wf32 h]
theorem plain32 {P : Program} {e : TypeId} [he : TyD P e (.int .u32)] {v : Nat} (h : v < 4294967296) : plainElem (H := Unit) P e (.int .u32 v) = some (.lit (.int .u32 v), []) := plainElem_int he.out (wf32 h)
section
variable {P : Program} {md : Md} {ops : Array Oper} {N : Nat} {rest : List Oper} {Γ : Env} {Q : Exit → Act → World → Prop} {d : Nat} {ty : TypeId} {pos : String} {af : Array Edge} {w0 : World} {H : List Blk} {mt k e : TypeId}
theorem run_lookU {w : World} {b n : Nat} {lk : Nat → Option Nat} [ht : TyD P mt (.map k e)] [hk : TyD P k (.int .u32)] [he : TyD P e (.int .u32)] [hz : TyZ P e (.int .u32 0)] (h : MapU P k e w b n lk) {t : Nat} (hlt : t < 4294967296) :
    (Instr.lookup mt (.map (some b)) (.int .u32 t) true).run P w = .ok (.tuple #[.int .u32 ((lk t).getD 0 : Nat), .bool (lk t).isSome]) w := by
  obtain ⟨D, h1, h2⟩ := h
  obtain ⟨h3, h4⟩ := h2 t
  obtain ⟨v, ps, hr, hv⟩ := h1.look_ok (Maps.int_keyed hk.out) ht.out (run_zero (P := P) (t := e)) (plainElem_int he.out (by decide)) (keyOf32 hlt)
  obtain ⟨c, rfl, hc, _⟩ := plainElem_int_inv he.out hv
  rw [h4] at hc
  simp only [Prod.mk.injEq, DataW.lit.injEq, Lit.int.injEq, true_and, and_true] at hc
  rw [hr, h3, ← hc.1]
theorem run_lookU0 {w : World} {b n : Nat} {lk : Nat → Option Nat} [ht : TyD P mt (.map k e)] [hk : TyD P k (.int .u32)] [he : TyD P e (.int .u32)] [hz : TyZ P e (.int .u32 0)] (h : MapU P k e w b n lk) {t : Nat} (hlt : t < 4294967296) :
    (Instr.lookup mt (.map (some b)) (.int .u32 t) false).run P w = .ok (.int .u32 ((lk t).getD 0 : Nat)) w := by
  obtain ⟨D, h1, h2⟩ := h
  obtain ⟨h3, h4⟩ := h2 t
  obtain ⟨c, hr, hc, _⟩ := h1.lookup_int (Maps.int_keyed hk.out) ht.out he.out (run_zero (P := P) (t := e)) (keyOf32 hlt)
  rw [h4] at hc
  simp only [DataW.lit.injEq, Lit.int.injEq, true_and] at hc
  rw [hr, ← hc]
/-- 'v, ok := m[k]' -/
theorem Wl.lookU {m x : Operand} {b n : Nat} {lk : Nat → Option Nat} {t : Nat} [TyD P mt (.map k e)] [TyD P k (.int .u32)] [TyD P e (.int .u32)] [TyZ P e (.int .u32 0)] (hd : Nat.blt d N = true)
    (hm : ev Γ m = some (.map (some b))) (hx : ev Γ x = some (.int .u32 t)) (hlt : t < 4294967296) (hown : MapU P k e w0 b n lk) (ho : Off H b)
    (h : Wl rest P md ops N ((d, .tuple #[.int .u32 ((lk t).getD 0 : Nat), .bool (lk t).isSome]) :: Γ) (Hp w0 H) Q) : Wl (⟨some d, .lookup mt m x true, ty, pos, af, none⟩ :: rest) P md ops N Γ (Hp w0 H) Q :=
  Wl.val hd (fun a w ha hw => by simp [execOp, ha.ev hm, ha.ev hx, run_lookU (P := P) (mt := mt) (hown.upd hw.upd fun y => y ho) hlt]) h
/-- 'm[k]' -/
theorem Wl.lookU0 {m x : Operand} {b n : Nat} {lk : Nat → Option Nat} {t : Nat} [TyD P mt (.map k e)] [TyD P k (.int .u32)] [TyD P e (.int .u32)] [TyZ P e (.int .u32 0)] (hd : Nat.blt d N = true)
    (hm : ev Γ m = some (.map (some b))) (hx : ev Γ x = some (.int .u32 t)) (hlt : t < 4294967296) (hown : MapU P k e w0 b n lk) (ho : Off H b)
    (h : Wl rest P md ops N ((d, .int .u32 ((lk t).getD 0 : Nat)) :: Γ) (Hp w0 H) Q) : Wl (⟨some d, .lookup mt m x false, ty, pos, af, none⟩ :: rest) P md ops N Γ (Hp w0 H) Q :=
  Wl.val hd (fun a w ha hw => by simp [execOp, ha.ev hm, ha.ev hx, run_lookU0 (P := P) (mt := mt) (hown.upd hw.upd fun y => y ho) hlt]) h
theorem Wl.lookUS {m x : Operand} {b n : Nat} {lk : Nat → Option Nat} {t v : Nat} [TyD P mt (.map k e)] [TyD P k (.int .u32)] [TyD P e (.int .u32)] [TyZ P e (.int .u32 0)] (hd : Nat.blt d N = true)
    (hm : ev Γ m = some (.map (some b))) (hx : ev Γ x = some (.int .u32 t)) (hlt : t < 4294967296) (hown : MapU P k e w0 b n lk) (ho : Off H b) (hs : lk t = some v)
    (h : Wl rest P md ops N ((d, .tuple #[.int .u32 (v : Nat), .bool true]) :: Γ) (Hp w0 H) Q) : Wl (⟨some d, .lookup mt m x true, ty, pos, af, none⟩ :: rest) P md ops N Γ (Hp w0 H) Q := by
  refine Wl.lookU (k := k) (e := e) hd hm hx hlt hown ho ?_
  rw [hs]; exact h
theorem Wl.lookUN {m x : Operand} {b n : Nat} {lk : Nat → Option Nat} {t : Nat} [TyD P mt (.map k e)] [TyD P k (.int .u32)] [TyD P e (.int .u32)] [TyZ P e (.int .u32 0)] (hd : Nat.blt d N = true)
    (hm : ev Γ m = some (.map (some b))) (hx : ev Γ x = some (.int .u32 t)) (hlt : t < 4294967296) (hown : MapU P k e w0 b n lk) (ho : Off H b) (hs : lk t = none)
    (h : Wl rest P md ops N ((d, .tuple #[.int .u32 0, .bool false]) :: Γ) (Hp w0 H) Q) : Wl (⟨some d, .lookup mt m x true, ty, pos, af, none⟩ :: rest) P md ops N Γ (Hp w0 H) Q := by
  refine Wl.lookU (k := k) (e := e) hd hm hx hlt hown ho ?_
  rw [hs]; exact h
theorem Wl.lookUB {m x : Operand} {b n : Nat} {lk : Nat → Option Nat} {t v : Nat} {z : Bool} [TyD P mt (.map k e)] [TyD P k (.int .u32)] [TyD P e (.int .u32)] [TyZ P e (.int .u32 0)] (hd : Nat.blt d N = true)
    (hm : ev Γ m = some (.map (some b))) (hx : ev Γ x = some (.int .u32 t)) (hlt : t < 4294967296) (hown : MapU P k e w0 b n lk) (ho : Off H b) (hs : (lk t).getD 0 = v) (hz : (lk t).isSome = z)
    (h : Wl rest P md ops N ((d, .tuple #[.int .u32 (v : Nat), .bool z]) :: Γ) (Hp w0 H) Q) : Wl (⟨some d, .lookup mt m x true, ty, pos, af, none⟩ :: rest) P md ops N Γ (Hp w0 H) Q := by
  refine Wl.lookU (k := k) (e := e) hd hm hx hlt hown ho ?_
  rw [hs, hz]; exact h
theorem Wl.lookUD {m x : Operand} {b n : Nat} {lk : Nat → Option Nat} {t v : Nat} [TyD P mt (.map k e)] [TyD P k (.int .u32)] [TyD P e (.int .u32)] [TyZ P e (.int .u32 0)] (hd : Nat.blt d N = true)
    (hm : ev Γ m = some (.map (some b))) (hx : ev Γ x = some (.int .u32 t)) (hlt : t < 4294967296) (hown : MapU P k e w0 b n lk) (ho : Off H b) (hs : (lk t).getD 0 = v)
    (h : Wl rest P md ops N ((d, .int .u32 (v : Nat)) :: Γ) (Hp w0 H) Q) : Wl (⟨some d, .lookup mt m x false, ty, pos, af, none⟩ :: rest) P md ops N Γ (Hp w0 H) Q := by
  refine Wl.lookU0 (k := k) (e := e) hd hm hx hlt hown ho ?_
  rw [hs]; exact h
/-- 'map[uint32]uint32{}' -/
theorem Wl.makeMap (hd : Nat.blt d N = true)
    (h : ∀ b w1, w0.heap.size ≤ b → MapU P k e w1 b 0 (fun _ => none) → Upd (fun j => ¬ Off H j) w0 w1 → Off H b → Wl rest P .seq ops N ((d, .map (some b)) :: Γ) (Hp w1 H) Q) :
    Wl (⟨some d, .makeMap mt none, ty, pos, af, none⟩ :: rest) P .seq ops N Γ (Hp w0 H) Q :=
  Wl.eff fun a w ha hw => by
    have u : Upd (fun _ => False) w (w.alloc (.map #[] 0)) := Upd.alloc _ _ _
    refine ⟨.map (some w.heap.size), w.alloc (.map #[] 0), .inl ?_, (h w.heap.size _ hw.upd.size (MapU.made P k e w) (hw.upd.trans (Upd.alloc _ _ _)) (Off.lt hw.own)).elim _ _ (ha.put hd _) ⟨Upd.refl _ _, hw.own.upd u fun _ _ h => h, hw.apart⟩⟩
    simp [execOp, run_makeMap, Option.map]
/-- 'm[k] = v' -/
theorem Wl.storeU {m x y : Operand} {b n : Nat} {lk : Nat → Option Nat} {t v : Nat} [ht : TyD P mt (.map k e)] [hk : TyD P k (.int .u32)] [he : TyD P e (.int .u32)]
    (hm : ev Γ m = some (.map (some b))) (hx : ev Γ x = some (.int .u32 t)) (hy : ev Γ y = some (.int .u32 v)) (hlt : t < 4294967296) (hvt : v < 4294967296) (hn : n < maxLen) (hown : MapU P k e w0 b n lk) (ho : Off H b)
    (h : ∀ w1, MapU P k e w1 b (n + 1) (fun j => if j = t then some v else lk j) → Upd (fun j => j = b ∨ ¬ Off H j) w0 w1 → Wl rest P .seq ops N Γ (Hp w1 H) Q) :
    Wl (⟨none, .mapUpdate mt m x y, ty, pos, af, none⟩ :: rest) P .seq ops N Γ (Hp w0 H) Q :=
  Wl.eff fun a w ha hw => by
    obtain ⟨D, h1, h2⟩ := hown.upd hw.upd fun y => y ho
    obtain ⟨w', hr, h3, hg⟩ := h1.update (Maps.int_keyed hk.out) ht.out hn (keyOf32 hlt) (plain32 hvt)
    have u : Upd (fun j => j = b) w w' := Upd.grown hg fun k hk => by cases hk; rfl
    have hM : MapU P k e w' b (n + 1) (fun j => if j = t then some v else lk j) := by
      refine ⟨_, h3, fun j => ?_⟩
      show Maps.has _ _ = (if j = t then some v else lk j).isSome ∧ _ = DataW.lit (.int .u32 (((if j = t then some v else lk j).getD 0 : Nat) : Int))
      by_cases hj : j = t
      · subst hj
        rw [if_pos rfl]
        exact ⟨Maps.has_put_same h1.isMap (keyLit32 _) _, Maps.atKey_put_same h1.isMap (keyLit32 _) _ _⟩
      · rw [if_neg hj]
        have hne : (Lit.int .u32 (j : Int)) ≠ .int .u32 (t : Int) := fun e => by simp only [Lit.int.injEq, true_and] at e; omega
        rw [Maps.has_put_other hne, Maps.atKey_put_other hne]
        exact h2 j
    refine ⟨undef, w', .inr ⟨?_, rfl⟩, (h w' hM ((hw.upd.mono fun _ _ y => .inr y).trans (u.mono fun _ _ y => .inl y))).elim _ _ (ha.put0 _) ⟨Upd.refl _ _, hw.own.upd u fun y hy e => ?_, hw.apart⟩⟩
    · simp [execOp, ha.ev hm, ha.ev hx, ha.ev hy, hr]
    · exact ho.at hy e
end
end Go.Pt
