/-
  An argument that is a manifest, read off the row's own reading. Conditions: the argument reads.
-/
import Derived.Test.YthdojhldiinkcaaOpen2
import Derived.Test.YthdojhldiinkcaaGrant
namespace Go.Proofs.Ythdojhldiinkcaa
open Go.RowKit Go.Pt Go.ChangeShapes Go.WideShapes Go.ChangeAt

theorem u32_nat' {n : Int} (h : IntKind.u32.min ≤ n ∧ n ≤ IntKind.u32.max) : ∃ m : Nat, n = (m : Int) ∧ m < 4294967296 := by
  have h' : 0 ≤ n ∧ n ≤ 4294967295 := h
  exact ⟨n.toNat, by omega, by omega⟩
theorem i64_I {n : Int} (h : IntKind.i64.min ≤ n ∧ n ≤ IntKind.i64.max) : I64 n := h
set_option maxRecDepth 100000 in
theorem Tr.grant {H : Type} {enc : TypeId × Value → H} {w : World} {c : List Value} (h : Tr enc Try.prog w 99 c) (hl : c.length = 3) : ∃ g : Gr, c = grCells g ∧ GrV g := by
  have ht := Try.underlying99
  match c, hl with
  | [c0, c1, c2], _ =>
    obtain ⟨a, e0, r0⟩ := (h.field1 ht 0 (ft := 22) (off := 0) rfl (by kernel_rfl) rfl).int Try.underlying22
    obtain ⟨b, e1, r1⟩ := (h.field1 ht 1 (ft := 22) (off := 1) rfl (by kernel_rfl) rfl).int Try.underlying22
    obtain ⟨k, e2, r2⟩ := (h.field1 ht 2 (ft := 3) (off := 2) rfl (by kernel_rfl) rfl).int Try.underlying3
    obtain ⟨a', rfl, ha⟩ := u32_nat' r0
    obtain ⟨b', rfl, hb⟩ := u32_nat' r1
    simp only [List.cons.injEq, and_true] at e0 e1 e2
    subst e0 e1 e2
    exact ⟨⟨a', b', k⟩, rfl, ha, hb, i64_I r2⟩
theorem Tr.byteArr {H : Type} {enc : TypeId × Value → H} {P : Program} {w : World} {t e : TypeId} {n : Nat} {cs : List Value} (h : Tr enc P w t cs) (ht : P.underlying t = some (.array n e)) (he : P.underlying e = some (.int .u8)) (hc : P.cellsOf e = 1) (hn : cs.length = n) : ∃ l : List UInt8, cs = byteCells l ∧ l.length = n := by
  have h2 := (h.elem ht).2
  clear h
  have key : ∀ m, m ≤ n → ∃ l : List UInt8, cs.take m = byteCells l := by
    intro m hm
    induction m with
    | zero => exact ⟨[], rfl⟩
    | succ m ih =>
      obtain ⟨l, hl⟩ := ih (by omega)
      have := h2 m (by omega)
      rw [hc] at this
      obtain ⟨x, e0, r0⟩ := this.int he
      have r0' : 0 ≤ x ∧ x ≤ 255 := r0
      have hd : cs.drop (m * 1) = cs[m] :: cs.drop (m + 1) := by rw [Nat.mul_one]; exact List.drop_eq_getElem_cons (by omega)
      rw [hd] at e0
      simp only [List.take_succ_cons, List.take_zero, List.cons.injEq, and_true] at e0
      refine ⟨l ++ [UInt8.ofNat x.toNat], ?_⟩
      rw [List.take_succ_eq_append_getElem (by omega), hl, e0]
      simp only [byteCells, List.map_append, List.map_cons, List.map_nil, UInt8.toNat_ofNat', List.append_cancel_left_eq, List.cons.injEq, Value.int.injEq, true_and, and_true]
      omega
  obtain ⟨l, hl⟩ := key n (Nat.le_refl _)
  rw [List.take_of_length_le (by omega)] at hl
  exact ⟨l, hl, by rw [hl, byteCells_length] at hn; exact hn⟩
theorem open_grants {H : Type} {enc : TypeId × Value → H} {w : World} {cs : List Value} (h : Tr enc Try.prog w 95 cs) : ∃ (v : Value) (gs : List Gr), cs = [v] ∧ Sv w 3 gs.length v (gs.flatMap grCells) ∧ (∀ g ∈ gs, GrV g) ∧ gs.length ≤ 140737488355328 := by
  obtain ⟨es, v, rfl, hsv, hes, hwt⟩ := h.slice Try.underlying95 (sz := 3) (by kernel_rfl) (by decide)
  have hb : 1 ≤ Try.prog.bytesOf 99 := by decide +kernel
  have : ∃ gs : List Gr, es.flatten = gs.flatMap grCells ∧ es.length = gs.length ∧ ∀ g ∈ gs, GrV g := by
    clear hsv hwt
    induction es with
    | nil => exact ⟨[], rfl, rfl, fun p hp => by cases hp⟩
    | cons c r ih =>
      obtain ⟨ps, h1, h2, h3⟩ := ih fun c hc => hes c (by simp [hc])
      obtain ⟨p, rfl, hp⟩ := (hes c (by simp)).2.grant (hes c (by simp)).1
      exact ⟨p :: ps, by simp [h1], by simp [h2], fun q hq => by
        rcases List.mem_cons.1 hq with rfl | hq
        · exact hp
        · exact h3 q hq⟩
  obtain ⟨gs, h1, h2, h3⟩ := this
  rw [h1, h2] at hsv
  refine ⟨v, gs, rfl, hsv, h3, ?_⟩
  have hr : reachBytes ≤ 140737488355328 := by decide
  have := Nat.mul_le_mul_left es.length hb
  omega
set_option maxRecDepth 100000 in
theorem Tr.payload {H : Type} {enc : TypeId × Value → H} {w : World} {c : List Value} (h : Tr enc Try.prog w 97 c) (hl : c.length = 36) : ∃ x : Py × Value, c = pyCells x ∧ PyV w x := by
  have ht := Try.underlying97
  obtain ⟨dg, ed, hdl⟩ := (h.fieldN ht 0 (ft := 94) (off := 0) (n := 32) rfl (by kernel_rfl)).byteArr Try.underlying94 Try.underlying5 (by kernel_rfl) (by rw [List.length_take, List.length_drop]; omega)
  have hc : c = byteCells dg ++ c.drop 32 := by rw [← ed, List.drop_zero, List.take_append_drop]
  have hl4 : (c.drop 32).length = 4 := by rw [List.length_drop]; omega
  have hg (i : Nat) : c[32 + i]? = (c.drop 32)[i]? := by rw [List.getElem?_drop]
  generalize hr : c.drop 32 = r at *
  match r, hl4 with
  | [c0, c1, c2, c3], _ =>
    obtain ⟨a, e0, r0⟩ := (h.field1 ht 1 (ft := 22) (off := 32) rfl (by kernel_rfl) (hg 0)).int Try.underlying22
    obtain ⟨b, e1, r1⟩ := (h.field1 ht 2 (ft := 22) (off := 33) rfl (by kernel_rfl) (hg 1)).int Try.underlying22
    obtain ⟨v, gs, e2, hsv, hgv, hgl⟩ := open_grants (h.field1 ht 3 (ft := 95) (off := 34) rfl (by kernel_rfl) (hg 2))
    obtain ⟨k, e3, r3⟩ := (h.field1 ht 4 (ft := 3) (off := 35) rfl (by kernel_rfl) (hg 3)).int Try.underlying3
    obtain ⟨a', rfl, ha⟩ := u32_nat' r0
    obtain ⟨b', rfl, hb⟩ := u32_nat' r1
    simp only [List.cons.injEq, and_true] at e0 e1 e2 e3
    subst e0 e1 e2 e3
    exact ⟨(⟨dg, a', b', gs, k⟩, _), hc, hsv, hdl, ha, hb, i64_I r3, hgv, hgl⟩
theorem open_pays {H : Type} {enc : TypeId × Value → H} {w : World} {cs : List Value} (h : Tr enc Try.prog w 62 cs) : ∃ (v : Value) (xs : List (Py × Value)), cs = [v] ∧ Sv w 36 xs.length v (xs.flatMap pyCells) ∧ (∀ x ∈ xs, PyV w x) := by
  obtain ⟨es, v, rfl, hsv, hes, hwt⟩ := h.slice Try.underlying62 (sz := 36) (by kernel_rfl) (by decide)
  have : ∃ xs : List (Py × Value), es.flatten = xs.flatMap pyCells ∧ es.length = xs.length ∧ ∀ x ∈ xs, PyV w x := by
    clear hsv hwt
    induction es with
    | nil => exact ⟨[], rfl, rfl, fun p hp => by cases hp⟩
    | cons c r ih =>
      obtain ⟨ps, h1, h2, h3⟩ := ih fun c hc => hes c (by simp [hc])
      obtain ⟨p, rfl, hp⟩ := (hes c (by simp)).2.payload (hes c (by simp)).1
      exact ⟨p :: ps, by simp [h1], by simp [h2], fun q hq => by
        rcases List.mem_cons.1 hq with rfl | hq
        · exact hp
        · exact h3 q hq⟩
  obtain ⟨xs, h1, h2, h3⟩ := this
  rw [h1, h2] at hsv
  exact ⟨v, xs, rfl, hsv, h3⟩
set_option maxRecDepth 100000 in
theorem open_manifest {H : Type} {enc : TypeId × Value → H} {w : World} {base : Nat} {v : Value} (hv : Value.okWide Try.prog w .any base 64 v) (h : Tr enc Try.prog w 64 v.cells.toList) : ∃ m, MfV w v m := by
  have ht := Try.underlying64
  have h3 : v.cells.toList.length = 3 := (h.len ht).trans (by kernel_rfl)
  simp only [Value.okWide, ht] at hv
  obtain ⟨⟨l⟩, rfl, _⟩ := hv
  simp only [Value.cells] at h h3
  match l, h3 with
  | [c0, c1, c2], _ =>
    obtain ⟨a, e0, r0⟩ := (h.field1 ht 0 (ft := 22) (off := 0) rfl (by kernel_rfl) rfl).int Try.underlying22
    obtain ⟨k, e1, r1⟩ := (h.field1 ht 1 (ft := 3) (off := 1) rfl (by kernel_rfl) rfl).int Try.underlying3
    obtain ⟨pv, xs, e2, hsv, hpy⟩ := open_pays (h.field1 ht 2 (ft := 62) (off := 2) rfl (by kernel_rfl) rfl)
    obtain ⟨a', rfl, ha⟩ := u32_nat' r0
    simp only [List.cons.injEq, and_true] at e0 e1 e2
    subst e0 e1 e2
    exact ⟨⟨a', k, xs.map (·.1)⟩, _, xs, rfl, rfl, hsv, hpy, ha, i64_I r1⟩
end Go.Proofs.Ythdojhldiinkcaa
