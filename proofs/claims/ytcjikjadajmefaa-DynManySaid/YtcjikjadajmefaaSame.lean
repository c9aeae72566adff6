/-
  Both readers answer alike: porticolaw08.same answers true. Conditions: the file has at most 100000 bytes.
-/
import Derived.Test.YtcjikjadajmefaaSegR
namespace Go.Proofs.Ytcjikjadajmefaa
open Go.RowKit Go.Pt

/-! ### the answers, told once -/
open Classical in
noncomputable def ansE (f : List UInt8) : Nat := if okHeads f then num f 24 4 else 0
open Classical in
noncomputable def ansN (f : List UInt8) : Nat := if okHeads f then num f 44 2 else 0
open Classical in
noncomputable def ansC (f : List UInt8) : Nat := if okHeads f then 0 else 8
theorem HeadsPost.uni {f : List UInt8} {w : World} {e : Ending} {w' : World} (h : HeadsPost f w e w') :
    Upd (fun k => w.heap.size ≤ k) w w' ∧ ∃ v, e = .returned (.tuple #[.int .u32 (ansE f), v, .int .i64 (ansC f)]) ∧ Sv w' 6 (ansN f) v (hAll f (num f 28 4) (ansN f)) := by
  unfold ansE ansN ansC
  rcases h with ⟨hu, ⟨hno, rfl⟩ | ⟨hok, v, rfl, h⟩⟩
  · simp only [if_neg hno]; exact ⟨hu, _, rfl, Sv.nil _ _⟩
  · simp only [if_pos hok]; exact ⟨hu, _, rfl, Sv.ofOwn h⟩
theorem RHeadsPost.uni {f : List UInt8} {w : World} {e : Ending} {w' : World} (h : RHeadsPost f w e w') :
    Upd (fun k => w.heap.size ≤ k) w w' ∧ ∃ v, e = .returned (.tuple #[.int .i64 (ansE f), v, .int .i64 (ansC f)]) ∧ Sv w' 6 (ansN f) v (rAll f (num f 28 4) (ansN f)) := by
  unfold ansE ansN ansC
  rcases h with ⟨hu, ⟨hno, rfl⟩ | ⟨hok, v, rfl, h⟩⟩
  · simp only [if_neg hno]; exact ⟨hu, _, rfl, Sv.nil _ _⟩
  · simp only [if_pos hok]; exact ⟨hu, _, rfl, Sv.ofOwn h⟩
structure SAns where
  e : Nat
  l : List Sg
  n : Nat
  c : Nat
open Classical in
noncomputable def segAns (f : List UInt8) : SAns :=
  if okHeads f then (if h : ∃ p : List Sg × Nat, SegsOf f p.1 p.2 then ⟨num f 24 4, h.choose.1, h.choose.2, 0⟩ else ⟨0, [], 0, 9⟩) else ⟨0, [], 0, 8⟩
theorem segAns_some {f : List UInt8} (h : okHeads f) {l : List Sg} {n : Nat} (hs : SegsOf f l n) : segAns f = ⟨num f 24 4, l, n, 0⟩ := by
  have hx : ∃ p : List Sg × Nat, SegsOf f p.1 p.2 := ⟨(l, n), hs⟩
  unfold segAns
  rw [if_pos h, dif_pos hx]
  have := hs.one hx.choose_spec
  rw [← this.1, ← this.2]
theorem segAns_none {f : List UInt8} (h : okHeads f) (hs : ∀ l n, ¬ SegsOf f l n) : segAns f = ⟨0, [], 0, 9⟩ := by
  unfold segAns
  rw [if_pos h, dif_neg fun ⟨p, hp⟩ => hs _ _ hp]
theorem segAns_no {f : List UInt8} (h : ¬ okHeads f) : segAns f = ⟨0, [], 0, 8⟩ := by
  unfold segAns
  rw [if_neg h]
theorem SegsPost.uni {f : List UInt8} {w : World} {e : Ending} {w' : World} (h : SegsPost f w e w') :
    Upd (fun k => w.heap.size ≤ k) w w' ∧ ∃ v a c, e = .returned (.tuple #[.int .u32 (segAns f).e, v, .slice a (segAns f).n c, .int .i64 (segAns f).c]) ∧ SegsP w' v (segAns f).l := by
  rcases h with ⟨hu, ⟨hno, rfl⟩ | ⟨hok, hno, rfl⟩ | ⟨hok, l, nd, v, a, c, hs, rfl, h, _⟩⟩
  · rw [segAns_no hno]; exact ⟨hu, _, _, _, rfl, [], rfl, Sv.nil _ _, fun x hx => by cases hx⟩
  · rw [segAns_none hok hno]; exact ⟨hu, _, _, _, rfl, [], rfl, Sv.nil _ _, fun x hx => by cases hx⟩
  · rw [segAns_some hok hs]; exact ⟨hu, _, _, _, rfl, h⟩
theorem RSegsPost.uni {f : List UInt8} {w : World} {e : Ending} {w' : World} (h : RSegsPost f w e w') :
    Upd (fun k => w.heap.size ≤ k) w w' ∧ ∃ v a c, e = .returned (.tuple #[.int .i64 (segAns f).e, v, .slice a (segAns f).n c, .int .i64 (segAns f).c]) ∧ SegsR w' v (segAns f).l := by
  rcases h with ⟨hu, ⟨hno, rfl⟩ | ⟨hok, hno, rfl⟩ | ⟨hok, l, nd, v, a, c, hs, rfl, h, _⟩⟩
  · rw [segAns_no hno]; exact ⟨hu, _, _, _, rfl, [], rfl, Sv.nil _ _, fun x hx => by cases hx⟩
  · rw [segAns_none hok hno]; exact ⟨hu, _, _, _, rfl, [], rfl, Sv.nil _ _, fun x hx => by cases hx⟩
  · rw [segAns_some hok hs]; exact ⟨hu, _, _, _, rfl, h⟩
theorem ansE_lt (f : List UInt8) : ansE f ≤ 4294967295 := by
  have := num4 f 24
  unfold ansE; split <;> omega
theorem ansC_lt (f : List UInt8) : ansC f ≤ 9 := by unfold ansC; split <;> omega
theorem segAns_lt (f : List UInt8) : (segAns f).e ≤ 4294967295 ∧ (segAns f).c ≤ 9 := by
  have := num4 f 24
  unfold segAns
  split
  · split <;> (simp only; omega)
  · simp only; omega
theorem ansN_lt (f : List UInt8) : ansN f ≤ 65535 := by
  have := num2 f 44
  unfold ansN; split <;> omega
theorem segAns_sg (f : List UInt8) : ∀ s ∈ (segAns f).l, s.addr + s.size ≤ 4294967292 := by
  unfold segAns
  split
  · split
    · rename_i h
      intro s hs
      exact (segAt_ok h.choose_spec.1 s hs).2.2.2.1
    · intro s hs; cases hs
  · intro s hs; cases hs
/-- the cells of a list of segments, one by one -/
theorem flat4 {α : Type} {g : α → List Value} (hg : ∀ x, (g x).length = 4) {xs : List α} {i j : Nat} {x : α} (hi : xs[i]? = some x) (hj : j < 4) : (xs.flatMap g)[i * 4 + j]? = (g x)[j]? := by
  induction xs generalizing i with
  | nil => simp at hi
  | cons y ys ih =>
    rw [List.flatMap_cons]
    cases i with
    | zero =>
      simp only [List.getElem?_cons_zero, Option.some.injEq] at hi
      subst hi
      rw [List.getElem?_append_left (by rw [hg]; omega)]
      congr 1; omega
    | succ i =>
      rw [List.getElem?_append_right (by rw [hg]; omega), hg]
      rw [List.getElem?_cons_succ] at hi
      rw [← ih hi]
      congr 1; omega
theorem Sv.at {w : World} {sz n : Nat} {v : Value} {xs : List Value} (h : Sv w sz n v xs) {b : Bool} : ∃ a c, v = .slice a n c := by
  obtain ⟨_, a, c, rfl, _⟩ := h
  exact ⟨a, c, rfl⟩

end Go.Proofs.Ytcjikjadajmefaa
