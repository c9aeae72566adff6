/-
  Arguments of tables, read off the row's own reading: lists of numbers, of pairs, of threes; a struct of them. Conditions: the argument reads.
-/
import Derived.Test.YtcjikjadajmefaaOpen2
import Derived.Test.YtcjikjadajmefaaDynB
namespace Go.Proofs.Ytcjikjadajmefaa
open Go.RowKit Go.Pt Go.ChangeShapes Go.WideShapes Go.ChangeAt

theorem u32_natT {n : Int} (h : IntKind.u32.min ≤ n ∧ n ≤ IntKind.u32.max) : ∃ m : Nat, n = (m : Int) ∧ m < 4294967296 := by
  have h' : 0 ≤ n ∧ n ≤ 4294967295 := h
  exact ⟨n.toNat, by omega, by omega⟩
theorem open_list {α : Type} {H : Type} {enc : TypeId × Value → H} {P : Program} {w : World} {t e sz : Nat} {v : Value} (g : α → List Value) (ok : α → Prop) (ht : P.underlying t = some (.slice e)) (hc : P.cellsOf e = sz) (hs : 0 < sz)
    (hone : ∀ c, Tr enc P w e c → c.length = sz → ∃ x, c = g x ∧ ok x) (h : Tr enc P w t [v]) : ∃ l : List α, Sv w sz l.length v (l.flatMap g) ∧ ∀ x ∈ l, ok x := by
  obtain ⟨es, v', e, hsv, hes, hwt⟩ := h.slice ht hc hs
  simp only [List.cons.injEq, and_true] at e
  subst e
  have : ∃ ps : List α, es.flatten = ps.flatMap g ∧ es.length = ps.length ∧ ∀ p ∈ ps, ok p := by
    clear hsv hwt
    induction es with
    | nil => exact ⟨[], rfl, rfl, fun p hp => by cases hp⟩
    | cons c r ih =>
      obtain ⟨ps, h1, h2, h3⟩ := ih fun c hc => hes c (by simp [hc])
      obtain ⟨p, rfl, hp⟩ := hone c (hes c (by simp)).2 (hes c (by simp)).1
      exact ⟨p :: ps, by simp [h1], by simp [h2], fun q hq => by
        rcases List.mem_cons.1 hq with rfl | hq
        · exact hp
        · exact h3 q hq⟩
  obtain ⟨ps, h1, h2, h3⟩ := this
  rw [h1, h2] at hsv
  exact ⟨ps, hsv, h3⟩
theorem Tr.nat32 {H : Type} {enc : TypeId × Value → H} {P : Program} {w : World} {e : Nat} (he : P.underlying e = some (.int .u32)) (c : List Value) (h : Tr enc P w e c) : ∃ x : Nat, c = [.int .u32 x] ∧ x < 4294967296 := by
  obtain ⟨n, e0, r0⟩ := h.int he
  obtain ⟨m, rfl, hm⟩ := u32_natT r0
  exact ⟨m, e0, hm⟩
theorem Tr.pair {H : Type} {enc : TypeId × Value → H} {P : Program} {w : World} {t e : Nat} (ht : P.underlying t = some (.array 2 e)) (he : P.underlying e = some (.int .u32)) (hc : P.cellsOf e = 1) (c : List Value) (h : Tr enc P w t c) (hl : c.length = 2) : ∃ p : Nat × Nat, c = pairC p ∧ (p.1 < 4294967296 ∧ p.2 < 4294967296) := by
  match c, hl with
  | [c0, c1], _ =>
    have h0 := (h.elem ht).2 0 (by decide)
    have h1 := (h.elem ht).2 1 (by decide)
    rw [hc] at h0 h1
    obtain ⟨a, e0, ha⟩ := Tr.nat32 he _ h0
    obtain ⟨b, e1, hb⟩ := Tr.nat32 he _ h1
    simp at e0 e1
    subst e0 e1
    exact ⟨(a, b), rfl, ha, hb⟩
theorem Tr.trip {H : Type} {enc : TypeId × Value → H} {P : Program} {w : World} {t e : Nat} (ht : P.underlying t = some (.array 3 e)) (he : P.underlying e = some (.int .u32)) (hc : P.cellsOf e = 1) (c : List Value) (h : Tr enc P w t c) (hl : c.length = 3) : ∃ p : Nat × Nat × Nat, c = tripC p ∧ ∀ y ∈ tripL p, y < 4294967296 := by
  match c, hl with
  | [c0, c1, c2], _ =>
    have h0 := (h.elem ht).2 0 (by decide)
    have h1 := (h.elem ht).2 1 (by decide)
    have h2 := (h.elem ht).2 2 (by decide)
    rw [hc] at h0 h1 h2
    obtain ⟨a, e0, ha⟩ := Tr.nat32 he _ h0
    obtain ⟨b, e1, hb⟩ := Tr.nat32 he _ h1
    obtain ⟨d, e2, hd⟩ := Tr.nat32 he _ h2
    simp at e0 e1 e2
    subst e0 e1 e2
    refine ⟨(a, b, d), rfl, fun y hy => ?_⟩
    simp only [tripL, List.mem_cons, List.not_mem_nil, or_false] at hy
    rcases hy with rfl | rfl | rfl
    · exact ha
    · exact hb
    · exact hd
theorem u32C_flat (l : List Nat) : u32C l = l.flatMap fun (x : Nat) => [Value.int .u32 (x : Int)] := by
  induction l with
  | nil => rfl
  | cons x r ih => rw [List.flatMap_cons, ← ih]; rfl
def Ns (w : World) (v : Value) (l : List Nat) : Prop := Sv w 1 l.length v (u32C l) ∧ ∀ x ∈ l, x < 4294967296
def Ts (w : World) (v : Value) (l : List (Nat × Nat × Nat)) : Prop := Sv w 3 l.length v (l.flatMap tripC) ∧ ∀ x ∈ l, ∀ y ∈ tripL x, y < 4294967296
theorem open_ns {H : Type} {enc : TypeId × Value → H} {w : World} {v : Value} (h : Tr enc Try.prog w 24 [v]) : ∃ l, Ns w v l := by
  obtain ⟨l, h1, h2⟩ := open_list (fun (x : Nat) => [Value.int .u32 (x : Int)]) (fun x => x < 4294967296) Try.underlying24 (sz := 1) (by kernel_rfl) (by decide) (fun c hc _ => Tr.nat32 Try.underlying32 c hc) h
  rw [← u32C_flat] at h1
  exact ⟨l, h1, h2⟩
theorem open_ts {H : Type} {enc : TypeId × Value → H} {w : World} {v : Value} (h : Tr enc Try.prog w 25 [v]) : ∃ l, Ts w v l :=
  open_list tripC (fun x => ∀ y ∈ tripL x, y < 4294967296) Try.underlying25 (sz := 3) (by kernel_rfl) (by decide) (fun c hc hl => Tr.trip Try.underlying33 Try.underlying32 (by kernel_rfl) c hc hl) h
def TabV (w : World) (v : Value) (t : Tb) : Prop := ∃ vt vs vr, v = .agg #[vt, vs, vr, .int .i64 t.more, .bool t.plain] ∧ TbV w vt vs vr t
set_option maxRecDepth 100000 in
theorem open_tabled {H : Type} {enc : TypeId × Value → H} {w : World} {base : Nat} {v : Value} (hv : Value.okWide Try.prog w .any base 27 v) (h : Tr enc Try.prog w 27 v.cells.toList) : ∃ t, TabV w v t := by
  have ht := Try.underlying27
  have h5 : v.cells.toList.length = 5 := (h.len ht).trans (by kernel_rfl)
  simp only [Value.okWide, ht] at hv
  obtain ⟨⟨l⟩, rfl, _⟩ := hv
  simp only [Value.cells] at h h5
  match l, h5 with
  | [c0, c1, c2, c3, c4], _ =>
    obtain ⟨tags, g1, g2⟩ := open_list pairC (fun p => p.1 < 4294967296 ∧ p.2 < 4294967296) Try.underlying23 (sz := 2) (by kernel_rfl) (by decide) (fun c hc hl => Tr.pair Try.underlying48 Try.underlying32 (by kernel_rfl) c hc hl) (h.field1 ht 0 (ft := 23) (off := 0) rfl (by kernel_rfl) rfl)
    obtain ⟨syms, g3, g4⟩ := open_ns (h.field1 ht 1 (ft := 24) (off := 1) rfl (by kernel_rfl) rfl)
    obtain ⟨relas, g5, g6⟩ := open_ts (h.field1 ht 2 (ft := 25) (off := 2) rfl (by kernel_rfl) rfl)
    obtain ⟨k, e3, _⟩ := (h.field1 ht 3 (ft := 3) (off := 3) rfl (by kernel_rfl) rfl).int Try.underlying3
    obtain ⟨b, e4⟩ := (h.field1 ht 4 (ft := 4) (off := 4) rfl (by kernel_rfl) rfl).bool Try.underlying4
    simp only [List.cons.injEq, and_true] at e3 e4
    subst e3 e4
    exact ⟨⟨tags, syms, relas, k, b⟩, _, _, _, rfl, g1, g3, g5, g2, g4, g6⟩
end Go.Proofs.Ytcjikjadajmefaa
