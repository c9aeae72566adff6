/-
  Blocks of which some cells are known and all others hold integers of known kinds.
-/
import Derived.Test.YtcefkbnachnciaaDoorAuto
import Derived.Test.YtcefkbnachnciaaDoorMapI
namespace Go.Pt
open Go.RowKit

/-- n cells that hold integers of the kinds kd -/
def Kd (kd : Nat → IntKind) (n : Nat) (cs : List Value) : Prop := cs.length = n ∧ ∀ i, i < n → ∃ x : Int, cs[i]? = some (.int (kd i) x)
theorem Kd.set {kd : Nat → IntKind} {n i : Nat} {cs : List Value} {x : Int} {k : IntKind} (h : Kd kd n cs) (hk : kd i = k) : Kd kd n (cs.set i (.int k x)) := by
  refine ⟨by rw [List.length_set]; exact h.1, fun j hj => ?_⟩
  rw [List.getElem?_set]
  split
  · rename_i e
    subst e
    rw [if_pos (h.1 ▸ hj), hk]
    exact ⟨x, rfl⟩
  · exact h.2 j hj
theorem Kd.mk' {kd : Nat → IntKind} {n : Nat} {g : Nat → Int} : Kd kd n ((List.range n).map fun i => Value.int (kd i) (g i)) :=
  ⟨by simp, fun i hi => ⟨g i, by simp [hi]⟩⟩
theorem LSet.of {l : List Value} {i : Nat} {v : Value} (h : i < l.length) : LSet l i v (l.set i v) := by
  induction l generalizing i with
  | nil => simp at h
  | cons x r ih =>
    cases i with
    | zero => exact .z
    | succ i => exact .s (ih (by simpa using h))
section
variable {P : Program} {md : Md} {ops : Array Oper} {N : Nat} {rest : List Oper} {Γ : Env} {Q : Exit → Act → World → Prop} {d : Nat} {ty : TypeId} {pos : String} {af : Array Edge} {w0 : World} {H : List Blk} {t bt : TypeId} {x y : Operand}
theorem Wl.load9 [TyC P t] {c i n : Nat} {k : IntKind} {kd : Nat → IntKind} {v0 v1 v2 v3 v4 v5 v6 v7 v8 : Value} {cs : List Value} (hd : Nat.blt d N = true) (hx : ev Γ x = some (.pointer (some ⟨c, i, none⟩)))
    (hm : (⟨c, v0 :: v1 :: v2 :: v3 :: v4 :: v5 :: v6 :: v7 :: v8 :: cs, bt⟩ : Blk) ∈ H) (hk : Kd kd n cs) (h9 : 9 ≤ i) (hi : i - 9 < n) (hkd : kd (i - 9) = k) (h : ∀ z : Int, Wl rest P md ops N ((d, .int k z) :: Γ) (Hp w0 H) Q) :
    Wl (⟨some d, .load t x, ty, pos, af, none⟩ :: rest) P md ops N Γ (Hp w0 H) Q := by
  obtain ⟨z, hz⟩ := hk.2 _ hi
  rw [hkd] at hz
  refine Wl.loadH hd hx hm ?_ (h z)
  obtain ⟨j, rfl⟩ := Nat.exists_eq_add_of_le h9
  rw [show 9 + j - 9 = j by omega] at hz
  rw [show 9 + j = j + 9 by omega]
  simpa using hz
theorem Wl.store9 {b1 : Nat} [TyS P t 1 b1] {H' : List Value → List Blk} {c i n : Nat} {k : IntKind} {z : Int} {kd : Nat → IntKind} {v0 v1 v2 v3 v4 v5 v6 v7 v8 : Value} {cs : List Value} (hx : ev Γ x = some (.pointer (some ⟨c, i, none⟩))) (hy : ev Γ y = some (.int k z))
    (hs : ∀ cs', HSet c (v0 :: v1 :: v2 :: v3 :: v4 :: v5 :: v6 :: v7 :: v8 :: cs) (v0 :: v1 :: v2 :: v3 :: v4 :: v5 :: v6 :: v7 :: v8 :: cs') bt H (H' cs')) (hk : Kd kd n cs) (h9 : 9 ≤ i) (hi : i - 9 < n) (hkd : kd (i - 9) = k)
    (h : ∀ cs', Kd kd n cs' → Wl rest P .seq ops N Γ (Hp w0 (H' cs')) Q) : Wl (⟨none, .store t x y, ty, pos, af, none⟩ :: rest) P .seq ops N Γ (Hp w0 H) Q := by
  obtain ⟨j, rfl⟩ := Nat.exists_eq_add_of_le h9
  rw [show 9 + j - 9 = j by omega] at hi hkd
  have hl := hk.1
  have e : LSet (v0 :: v1 :: v2 :: v3 :: v4 :: v5 :: v6 :: v7 :: v8 :: cs) (9 + j) (.int k z) (v0 :: v1 :: v2 :: v3 :: v4 :: v5 :: v6 :: v7 :: v8 :: cs.set j (.int k z)) := by
    rw [show 9 + j = j + 9 by omega]
    exact .s (.s (.s (.s (.s (.s (.s (.s (.s (LSet.of (by omega))))))))))
  exact Wl.store hx hy rfl (hs _) e (h _ (hk.set hkd))
theorem Wl.load2 [TyC P t] {c i n : Nat} {k : IntKind} {kd : Nat → IntKind} {v0 v1 : Value} {cs : List Value} (hd : Nat.blt d N = true) (hx : ev Γ x = some (.pointer (some ⟨c, i, none⟩)))
    (hm : (⟨c, v0 :: v1 :: cs, bt⟩ : Blk) ∈ H) (hk : Kd kd n cs) (h9 : 2 ≤ i) (hi : i - 2 < n) (hkd : kd (i - 2) = k) (h : ∀ z : Int, Wl rest P md ops N ((d, .int k z) :: Γ) (Hp w0 H) Q) :
    Wl (⟨some d, .load t x, ty, pos, af, none⟩ :: rest) P md ops N Γ (Hp w0 H) Q := by
  obtain ⟨z, hz⟩ := hk.2 _ hi
  rw [hkd] at hz
  refine Wl.loadH hd hx hm ?_ (h z)
  obtain ⟨j, rfl⟩ := Nat.exists_eq_add_of_le h9
  rw [show 2 + j - 2 = j by omega] at hz
  rw [show 2 + j = j + 2 by omega]
  simpa using hz
theorem Wl.store2 {b1 : Nat} [TyS P t 1 b1] {H' : List Value → List Blk} {c i n : Nat} {k : IntKind} {z : Int} {kd : Nat → IntKind} {v0 v1 : Value} {cs : List Value} (hx : ev Γ x = some (.pointer (some ⟨c, i, none⟩))) (hy : ev Γ y = some (.int k z))
    (hs : ∀ cs', HSet c (v0 :: v1 :: cs) (v0 :: v1 :: cs') bt H (H' cs')) (hk : Kd kd n cs) (h9 : 2 ≤ i) (hi : i - 2 < n) (hkd : kd (i - 2) = k)
    (h : ∀ cs', Kd kd n cs' → Wl rest P .seq ops N Γ (Hp w0 (H' cs')) Q) : Wl (⟨none, .store t x y, ty, pos, af, none⟩ :: rest) P .seq ops N Γ (Hp w0 H) Q := by
  obtain ⟨j, rfl⟩ := Nat.exists_eq_add_of_le h9
  rw [show 2 + j - 2 = j by omega] at hi hkd
  have hl := hk.1
  have e : LSet (v0 :: v1 :: cs) (2 + j) (.int k z) (v0 :: v1 :: cs.set j (.int k z)) := by
    rw [show 2 + j = j + 2 by omega]
    exact .s (.s (LSet.of (by omega)))
  exact Wl.store hx hy rfl (hs _) e (h _ (hk.set hkd))
end
/-- csr.File behind its nine words: the configurations, the addresses, the counters -/
def fkd (i : Nat) : IntKind := if i < 16 then .u8 else if i < 32 then .u32 else .u64
theorem fkd8 {i : Nat} (h : i < 16) : fkd i = .u8 := if_pos h
theorem fkd32 {i : Nat} (h : 16 ≤ i) (h2 : i < 32) : fkd i = .u32 := by unfold fkd; rw [if_neg (by omega), if_pos h2]
theorem fkd64 {i : Nat} (h : 32 ≤ i) : fkd i = .u64 := by unfold fkd; rw [if_neg (by omega), if_neg (by omega)]
/-- porticoref15.File behind its mode and its map: the configurations, the counters -/
def mkd (i : Nat) : IntKind := if i < 16 then .i64 else .u64
theorem mkdI {i : Nat} (h : i < 16) : mkd i = .i64 := if_pos h
theorem mkdU {i : Nat} (h : 16 ≤ i) : mkd i = .u64 := if_neg (by omega)
end Go.Pt
