/-
  The arguments of CsrBack, read off the row's own reading: a slice of calls, each with a slice of entries. Conditions: the argument reads.
-/
import Derived.Test.YtahgpfjkmcaeaaaDoorCsrR
import Derived.Test.YtahgpfjkmcaeaaaDoorOpen2
namespace Go.Proofs.YtahgpfjkmcaeaaaDoor
open Go.RowKit Go.Pt Go.ChangeShapes Go.WideShapes Go.ChangeAt
theorem open_list {α : Type} {H : Type} {enc : TypeId × Value → H} {P : Program} {w : World} {t e sz : Nat} {v : Value} (g : α → List Value) (ok : α → Prop) (ht : P.underlying t = some (.slice e)) (hc : P.cellsOf e = sz) (hs : 0 < sz)
    (hone : ∀ c, Tr enc P w e c → c.length = sz → ∃ x, c = g x ∧ ok x) (h : Tr enc P w t [v]) : ∃ l : List α, Sv w sz l.length v (l.flatMap g) ∧ (∀ x ∈ l, ok x) ∧ l.length * P.bytesOf e ≤ reachBytes := by
  obtain ⟨es, v', e, hsv, hes, hwt⟩ := h.slice ht hc hs
  simp only [List.cons.injEq, and_true] at e
  subst e
  have : ∃ ps : List α, es.flatten = ps.flatMap g ∧ es.length = ps.length ∧ ∀ p ∈ ps, ok p := by
    clear hsv hwt
    induction es with
    | nil => exact ⟨[], rfl, rfl, fun p hp => by cases hp⟩
    | cons c r ih =>
      obtain ⟨ps, h1, h2, h3⟩ := ih fun c hc => hes c (by simp [hc])
      obtain ⟨p, rfl, hp⟩ := hone c (hes c (by simp)).2 (hes c (by simp)).1
      exact ⟨p :: ps, by simp [h1], by simp [h2], fun q hq => by
        rcases List.mem_cons.1 hq with rfl | hq
        · exact hp
        · exact h3 q hq⟩
  obtain ⟨ps, h1, h2, h3⟩ := this
  rw [h1, h2] at hsv
  rw [h2] at hwt
  exact ⟨ps, hsv, h3, hwt⟩
theorem sv_at {α : Type} {w : World} {g : α → List Value} {m n cap : Nat} {a : Option Addr} {l : List α} (hg : ∀ x, (g x).length = m) (h : Sv w m l.length (.slice a n cap) (l.flatMap g)) : n = l.length ∧ ∀ (i : Nat) (x : α), l[i]? = some x → 0 < m → ∃ b o, a = some ⟨b, o, none⟩ ∧ ∀ j v, (g x)[j]? = some v → w.cell? ⟨b, o + i * m + j, none⟩ = some v := by
  obtain ⟨hlen, a', cap', e, _, _, _, hc⟩ := h
  simp only [Value.slice.injEq] at e
  obtain ⟨rfl, rfl, rfl⟩ := e
  refine ⟨rfl, fun i x hx hm => ?_⟩
  have h1 : ∀ j v, (g x)[j]? = some v → (l.flatMap g)[i * m + j]? = some v := fun j v hj => by
    have hjm : j < m := by rw [← hg x]; exact (List.getElem?_eq_some_iff.1 hj).1
    rw [flatN hg hx hjm]; exact hj
  have hne : l.flatMap g ≠ [] := by
    intro e0
    have hx0 : (g x)[0]? = some ((g x)[0]'(by rw [hg]; exact hm)) := List.getElem?_eq_getElem _
    have := h1 0 _ hx0
    rw [e0] at this
    cases this
  obtain ⟨b, o, rfl, hcc⟩ := hc hne
  refine ⟨b, o, rfl, fun j v hj => ?_⟩
  obtain ⟨l1, e1⟩ := List.getElem?_eq_some_iff.1 (h1 j v hj)
  rw [Nat.add_assoc, hcc _ l1, e1]
def entC (p : Int × Int × Int) : List Value := [.int .i64 p.1, .int .i64 p.2.1, .int .u32 p.2.2]
theorem Tr.entry {H : Type} {enc : TypeId × Value → H} {w : World} (c : List Value) (h : Tr enc Tryd.prog w 67 c) (hl : c.length = 3) : ∃ p, c = entC p ∧ True := by
  have ht := Tryd.underlying67
  match c, hl with
  | [c0, c1, c2], _ =>
    obtain ⟨x, e0, _⟩ := (h.field1 ht 0 (ft := 3) (off := 0) rfl (by kernel_rfl) rfl).int Tryd.underlying3
    obtain ⟨y, e1, _⟩ := (h.field1 ht 1 (ft := 3) (off := 1) rfl (by kernel_rfl) rfl).int Tryd.underlying3
    obtain ⟨z, e2, _⟩ := (h.field1 ht 2 (ft := 23) (off := 2) rfl (by kernel_rfl) rfl).int Tryd.underlying23
    simp only [List.cons.injEq, and_true] at e0 e1 e2
    subst e0 e1 e2
    exact ⟨(x, y, z), rfl, trivial⟩
theorem reach47 : reachBytes ≤ 140737488355328 := by decide
theorem open_ents {H : Type} {enc : TypeId × Value → H} {w : World} {v : Value} (h : Tr enc Tryd.prog w 31 [v]) : ∃ a n cap, v = .slice a n cap ∧ EntS w a n ∧ n ≤ 140737488355328 := by
  obtain ⟨l, h1, _, hb⟩ := open_list entC (fun _ => True) Tryd.underlying31 (sz := 3) (by kernel_rfl) (by decide) Tr.entry h
  obtain ⟨_, a, cap, e, _⟩ := id h1
  subst e
  obtain ⟨_, hat⟩ := sv_at (m := 3) (fun _ => rfl) h1
  refine ⟨a, l.length, cap, rfl, fun i hi => ?_, ?_⟩
  · obtain ⟨b, o, rfl, hc⟩ := hat i _ (List.getElem?_eq_getElem hi) (by decide)
    exact ⟨b, o, rfl, _, _, _, hc 0 _ rfl, hc 1 _ rfl, hc 2 _ rfl⟩
  · have hby : Tryd.prog.bytesOf 67 = 24 := by kernel_rfl
    rw [hby] at hb
    have := reach47
    omega
structure Cl where
  k : Int
  r : Int
  x : Int
  y : Int
  v : Value
def clC (c : Cl) : List Value := [.int .i64 c.k, .int .u32 c.r, .int .u32 c.x, .int .u32 c.y, c.v]
def ClOk (w : World) (c : Cl) : Prop := (0 ≤ c.r ∧ c.r < 4294967296) ∧ (0 ≤ c.x ∧ c.x < 4294967296) ∧ (0 ≤ c.y ∧ c.y < 4294967296) ∧ ∃ a n cap, c.v = .slice a n cap ∧ EntS w a n ∧ n ≤ 140737488355328
theorem u32r {n : Int} (h : IntKind.u32.min ≤ n ∧ n ≤ IntKind.u32.max) : 0 ≤ n ∧ n < 4294967296 := by
  have h' : 0 ≤ n ∧ n ≤ 4294967295 := h
  omega
set_option maxRecDepth 100000 in
theorem Tr.call {H : Type} {enc : TypeId × Value → H} {w : World} (c : List Value) (h : Tr enc Tryd.prog w 33 c) (hl : c.length = 5) : ∃ p, c = clC p ∧ ClOk w p := by
  have ht := Tryd.underlying33
  match c, hl with
  | [c0, c1, c2, c3, c4], _ =>
    obtain ⟨k, e0, _⟩ := (h.field1 ht 0 (ft := 3) (off := 0) rfl (by kernel_rfl) rfl).int Tryd.underlying3
    obtain ⟨r, e1, r1⟩ := (h.field1 ht 1 (ft := 23) (off := 1) rfl (by kernel_rfl) rfl).int Tryd.underlying23
    obtain ⟨x, e2, r2⟩ := (h.field1 ht 2 (ft := 23) (off := 2) rfl (by kernel_rfl) rfl).int Tryd.underlying23
    obtain ⟨y, e3, r3⟩ := (h.field1 ht 3 (ft := 23) (off := 3) rfl (by kernel_rfl) rfl).int Tryd.underlying23
    obtain ⟨a, n, cap, e4, hE⟩ := open_ents (h.field1 ht 4 (ft := 31) (off := 4) rfl (by kernel_rfl) rfl)
    simp only [List.cons.injEq, and_true] at e0 e1 e2 e3 e4
    subst e0 e1 e2 e3 e4
    exact ⟨⟨k, r, x, y, _⟩, rfl, u32r r1, u32r r2, u32r r3, a, n, cap, rfl, hE⟩
theorem open_calls {H : Type} {enc : TypeId × Value → H} {w : World} {v : Value} (h : Tr enc Tryd.prog w 22 [v]) : ∃ a n cap, v = .slice a n cap ∧ CallS w a n := by
  obtain ⟨l, h1, hok, hb⟩ := open_list clC (ClOk w) Tryd.underlying22 (sz := 5) (by kernel_rfl) (by decide) Tr.call h
  obtain ⟨_, a, cap, e, _⟩ := id h1
  subst e
  obtain ⟨_, hat⟩ := sv_at (m := 5) (fun _ => rfl) h1
  refine ⟨a, l.length, cap, rfl, fun i hi => ?_⟩
  obtain ⟨b, o, rfl, hc⟩ := hat i _ (List.getElem?_eq_getElem hi) (by decide)
  obtain ⟨k1, k2, k3, la, ln, lc, e, hE, hln⟩ := hok _ (List.getElem_mem hi)
  have h4 := hc 4 _ rfl
  rw [e] at h4
  exact ⟨b, o, rfl, _, _, _, _, la, ln, lc, hc 0 _ rfl, hc 1 _ rfl, hc 2 _ rfl, hc 3 _ rfl, h4, k1, k2, k3, hln, hE⟩
end Go.Proofs.YtahgpfjkmcaeaaaDoor
