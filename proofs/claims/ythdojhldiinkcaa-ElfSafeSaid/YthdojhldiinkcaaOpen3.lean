/-
  An argument of parts, read off the row's own reading. Conditions: the argument reads.
-/
import Derived.Test.YthdojhldiinkcaaOpen2
import Derived.Test.YthdojhldiinkcaaParts
namespace Go.Proofs.Ythdojhldiinkcaa
open Go.RowKit Go.Pt Go.ChangeShapes Go.WideShapes Go.ChangeAt

theorem u32_nat {n : Int} (h : IntKind.u32.min ≤ n ∧ n ≤ IntKind.u32.max) : ∃ m : Nat, n = (m : Int) ∧ m ≤ 4294967295 := by
  have h' : 0 ≤ n ∧ n ≤ 4294967295 := h
  exact ⟨n.toNat, by omega, by omega⟩
set_option maxRecDepth 100000 in
theorem Tr.part {H : Type} {enc : TypeId × Value → H} {w : World} {c : List Value} (h : Tr enc Try.prog w 80 c) (hl : c.length = 5) : ∃ p : Part, c = partCells p ∧ PartOk w p := by
  have ht := Try.underlying80
  match c, hl with
  | [c0, c1, c2, c3, c4], _ =>
    obtain ⟨k, e0, _⟩ := (h.field1 ht 0 (ft := 3) (off := 0) rfl (by kernel_rfl) rfl).int Try.underlying3
    obtain ⟨a, e1, r1⟩ := (h.field1 ht 1 (ft := 22) (off := 1) rfl (by kernel_rfl) rfl).int Try.underlying22
    obtain ⟨m, e2, r2⟩ := (h.field1 ht 2 (ft := 22) (off := 2) rfl (by kernel_rfl) rfl).int Try.underlying22
    obtain ⟨r, e3, _⟩ := (h.field1 ht 3 (ft := 3) (off := 3) rfl (by kernel_rfl) rfl).int Try.underlying3
    obtain ⟨v, l, e4, hb, hlen⟩ := (h.field1 ht 4 (ft := 28) (off := 4) rfl (by kernel_rfl) rfl).bytes Try.underlying28 Try.underlying5 (by kernel_rfl) (by kernel_rfl)
    obtain ⟨a', rfl, ha⟩ := u32_nat r1
    obtain ⟨m', rfl, hm⟩ := u32_nat r2
    simp only [List.cons.injEq, and_true] at e0 e1 e2 e3 e4
    subst e0 e1 e2 e3 e4
    have : reachBytes ≤ 140737488355328 := by decide
    exact ⟨⟨k, r, a', m', _, l⟩, rfl, hb, Nat.le_trans hlen this, ha, hm⟩
theorem open_parts {H : Type} {enc : TypeId × Value → H} {w : World} {v : Value} (h : Tr enc Try.prog w 46 [v]) : ∃ ps, Parts' w v ps := by
  obtain ⟨es, v', e, hsv, hes, hwt⟩ := h.slice Try.underlying46 (sz := 5) (by kernel_rfl) (by decide)
  simp only [List.cons.injEq, and_true] at e
  subst e
  have : ∃ ps : List Part, es.flatten = ps.flatMap partCells ∧ es.length = ps.length ∧ ∀ p ∈ ps, PartOk w p := by
    clear hsv hwt
    induction es with
    | nil => exact ⟨[], rfl, rfl, fun p hp => by cases hp⟩
    | cons c r ih =>
      obtain ⟨ps, h1, h2, h3⟩ := ih fun c hc => hes c (by simp [hc])
      obtain ⟨p, rfl, hp⟩ := (hes c (by simp)).2.part (hes c (by simp)).1
      exact ⟨p :: ps, by simp [h1], by simp [h2], fun q hq => by
        rcases List.mem_cons.1 hq with rfl | hq
        · exact hp
        · exact h3 q hq⟩
  obtain ⟨ps, h1, h2, h3⟩ := this
  rw [h1, h2] at hsv
  exact ⟨ps, hsv, h3⟩
end Go.Proofs.Ythdojhldiinkcaa
