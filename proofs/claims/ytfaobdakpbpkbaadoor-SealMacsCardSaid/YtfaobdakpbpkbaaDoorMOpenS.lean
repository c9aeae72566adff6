/-
  Arguments of bytes and of byte slices, with their lengths, read off the row's own reading. Conditions: the argument reads.
-/
import Derived.Test.YtfaobdakpbpkbaaDoorMOpen2
import Derived.Test.YtfaobdakpbpkbaaDoorM05
namespace Go.Proofs.YtfaobdakpbpkbaaDoor
open Go.RowKit Go.Pt Go.ChangeShapes Go.WideShapes Go.ChangeAt
theorem open_bytesS {H : Type} {enc : TypeId × Value → H} {w : World} {v : Value} (h : Tr enc Tryd.prog w 22 [v]) : ∃ l, Bs w v l ∧ l.length ≤ 140737488355328 := by
  obtain ⟨v', l, e, hb, hl⟩ := h.bytes Tryd.underlying22 Tryd.underlying5 (by kernel_rfl) (by kernel_rfl)
  simp only [List.cons.injEq, and_true] at e
  subst e
  have : reachBytes ≤ 140737488355328 := by decide
  exact ⟨l, hb, Nat.le_trans hl this⟩
theorem open_pts {H : Type} {enc : TypeId × Value → H} {w : World} {v : Value} (h : Tr enc Tryd.prog w 44 [v]) : ∃ ls, Pts w v ls ∧ ∀ l ∈ ls, l.length ≤ 140737488355328 := by
  obtain ⟨es, v', e, hsv, hes, hwt⟩ := h.slice Tryd.underlying44 (sz := 1) (by kernel_rfl) (by decide)
  simp only [List.cons.injEq, and_true] at e
  subst e
  have : ∃ (vs : List Value) (ls : List (List UInt8)), es.flatten = vs ∧ es.length = vs.length ∧ vs.length = ls.length ∧ (∀ (i : Nat) (x : Value) (l : List UInt8), vs[i]? = some x → ls[i]? = some l → Bs w x l) ∧ ∀ l ∈ ls, l.length ≤ 140737488355328 := by
    clear hsv hwt
    induction es with
    | nil => exact ⟨[], [], rfl, rfl, rfl, fun i x l hx => by simp at hx, fun l hl => by cases hl⟩
    | cons c r ih =>
      obtain ⟨vs, ls, h1, h2, h3, h4, h5⟩ := ih fun c hc => hes c (by simp [hc])
      obtain ⟨hc1, hc2⟩ := hes c (by simp)
      match c, hc1 with
      | [c0], _ =>
        obtain ⟨l0, hb, hl⟩ := open_bytesS hc2
        refine ⟨c0 :: vs, l0 :: ls, by simp [h1], by simp [h2], by simp [h3], fun i x l hx hl' => ?_, fun l hl' => ?_⟩
        · cases i with
          | zero => cases hx; cases hl'; exact hb
          | succ i => exact h4 i x l (by simpa using hx) (by simpa using hl')
        · rcases List.mem_cons.1 hl' with rfl | hm
          · exact hl
          · exact h5 l hm
  obtain ⟨vs, ls, h1, h2, h3, h4, h5⟩ := this
  rw [h1, h2] at hsv
  exact ⟨ls, ⟨vs, h3, hsv, h4⟩, h5⟩
end Go.Proofs.YtfaobdakpbpkbaaDoor
