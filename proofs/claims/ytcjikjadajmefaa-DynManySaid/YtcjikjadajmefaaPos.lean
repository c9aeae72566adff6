/-
  The two cursors told by their place: behind k bytes of f, whatever has been taken. Conditions: the cursor's block holds what is left of f behind k, and has failed if k is past its end.
-/
import Derived.Test.YtcjikjadajmefaaBuf
namespace Go.Proofs.Ytcjikjadajmefaa
open Go.RowKit Go.Pt

/-- n bytes of f behind the first k; none, if they are not all there -/
def part (f : List UInt8) (k n : Nat) : List UInt8 := if k + n ≤ f.length then (f.drop k).take n else []
def num (f : List UInt8) (k n : Nat) : Nat := leN (part f k n)
theorem part_len (f : List UInt8) (k n : Nat) : (part f k n).length ≤ n := by
  unfold part; split <;> simp; omega
theorem num_lt (f : List UInt8) (k n : Nat) : num f k n < 256 ^ n := by
  have h1 := leN_lt (part f k n)
  have h2 : (256 : Nat) ^ (part f k n).length ≤ 256 ^ n := Nat.pow_le_pow_right (by omega) (part_len f k n)
  unfold num
  omega
theorem num4 (f : List UInt8) (k : Nat) : num f k 4 < 4294967296 := num_lt f k 4
theorem num2 (f : List UInt8) (k : Nat) : num f k 2 < 65536 := num_lt f k 2
theorem part_drop (f : List UInt8) (a k n : Nat) (h : a ≤ f.length) : part (f.drop a) k n = part f (a + k) n := by
  unfold part
  rw [List.length_drop, List.drop_drop]
  by_cases hc : k + n ≤ f.length - a
  · rw [if_pos hc, if_pos (by omega)]
  · rw [if_neg hc, if_neg (by omega)]
theorem num_drop (f : List UInt8) (a k n : Nat) (h : a ≤ f.length) : num (f.drop a) k n = num f (a + k) n := by
  unfold num; rw [part_drop f a k n h]

theorem cTake_pos (f : List UInt8) (k n : Nat) : cTake (f.drop k) (decide (f.length < k)) n = (part f k n, f.drop (k + n), decide (f.length < k + n)) := by
  unfold cTake part
  rw [List.length_drop]
  by_cases hc : k + n ≤ f.length
  · rw [if_neg (by simp; omega), if_pos hc]
    simp [List.drop_drop]; omega
  · rw [if_pos, if_neg hc]
    · have : f.drop (k + n) = [] := List.drop_eq_nil_of_le (by omega)
      rw [this]
      simp; omega
    · simp; omega

/-- the reference's cursor stands at the place p when k bytes have been asked for -/
def RefAt (f : List UInt8) (k p : Nat) : Prop := p ≤ f.length ∧ (k ≤ f.length → p = k)
theorem rTake_pos {f : List UInt8} {k p : Nat} (h : RefAt f k p) (n : Nat) : ∃ p', rTake f p (decide (f.length < k)) n = (part f k n, p', decide (f.length < k + n)) ∧ RefAt f (k + n) p' := by
  obtain ⟨h1, h2⟩ := h
  unfold rTake part
  by_cases hc : k + n ≤ f.length
  · have := h2 (by omega)
    subst this
    refine ⟨p + n, ?_, by omega, fun _ => rfl⟩
    rw [if_neg (by simp; omega), if_pos hc]
    simp; omega
  · refine ⟨p, ?_, h1, fun h => (hc h).elim⟩
    rw [if_pos, if_neg hc]
    · simp; omega
    · by_cases hk : k ≤ f.length
      · have := h2 hk
        simp; omega
      · simp; omega

/-- v reads as what is left of f behind k, wherever v0 reads as f -/
def Left (v0 : Value) (f : List UInt8) (v : Value) (k : Nat) : Prop := ∀ u, Bs u v0 f → Bs u v (f.drop k)

theorem left0 (v0 : Value) (f : List UInt8) : Left v0 f v0 0 := fun _ hu => by rwa [List.drop_zero]
theorem at_pos (v : Value) (f : List UInt8) (w : World) (h : Bs w v f) :
    Calls Try.prog 19 #[v] w fun e w' => ∃ c, e = .returned (.pointer (some ⟨c, 0, none⟩)) ∧ w.heap.size ≤ c ∧ Hp w [⟨c, [v, .bool (decide (f.length < 0))], 105⟩] w' := by
  have e : decide (f.length < 0) = false := by simp
  rw [e]
  exact at_any v f w w h
theorem take_pos (c : Nat) (v0 v : Value) (f : List UInt8) (k n : Nat) (w : World) (h : w.heap[c]? = some (.cells #[v, .bool (decide (f.length < k))] 105 (0,0))) (hb : Bs w v0 f) (hv : Left v0 f v k) :
    Calls Try.prog 23 #[.pointer (some ⟨c, 0, none⟩), .int .i64 n] w fun e w' => ∃ x v', e = .returned x ∧ Hp w [⟨c, [v', .bool (decide (f.length < k + n))], 105⟩] w' ∧ Left v0 f v' (k + n) ∧ ∀ u, Bs u v0 f → Bs u x (part f k n) := by
  refine (take_any c v (f.drop k) _ n w w h (hv w hb)).mono ?_
  rintro e w' ⟨x, v', rfl, hp, hx⟩
  rw [cTake_pos] at hp hx
  exact ⟨x, v', rfl, hp, fun u hu => (hx u (hv u hu)).2, fun u hu => (hx u (hv u hu)).1⟩
theorem u16_pos (c : Nat) (v0 v : Value) (f : List UInt8) (k : Nat) (w : World) (h : w.heap[c]? = some (.cells #[v, .bool (decide (f.length < k))] 105 (0,0))) (hb : Bs w v0 f) (hv : Left v0 f v k) :
    Calls Try.prog 35 #[.pointer (some ⟨c, 0, none⟩)] w fun e w' => ∃ v', e = .returned (.int .i64 (num f k 2)) ∧ Hp w [⟨c, [v', .bool (decide (f.length < k + 2))], 105⟩] w' ∧ Left v0 f v' (k + 2) := by
  refine (u16_at c v (f.drop k) _ w (cTake_pos f k 2) rfl h (hv w hb)).mono ?_
  rintro e w' ⟨v', rfl, hp, hx⟩
  exact ⟨v', rfl, hp, fun u hu => hx u (hv u hu)⟩
theorem u32_pos (c : Nat) (v0 v : Value) (f : List UInt8) (k : Nat) (w : World) (h : w.heap[c]? = some (.cells #[v, .bool (decide (f.length < k))] 105 (0,0))) (hb : Bs w v0 f) (hv : Left v0 f v k) :
    Calls Try.prog 22 #[.pointer (some ⟨c, 0, none⟩)] w fun e w' => ∃ v', e = .returned (.int .u32 (num f k 4)) ∧ Hp w [⟨c, [v', .bool (decide (f.length < k + 4))], 105⟩] w' ∧ Left v0 f v' (k + 4) := by
  refine (u32_at c v (f.drop k) _ w (cTake_pos f k 4) rfl h (hv w hb)).mono ?_
  rintro e w' ⟨v', rfl, hp, hx⟩
  exact ⟨v', rfl, hp, fun u hu => hx u (hv u hu)⟩
theorem rnum_pos (c : Nat) (v : Value) (f : List UInt8) (k p : Nat) (n : Nat) (hn : n ≤ 4) (w : World) (h : w.heap[c]? = some (.cells #[v, .int .i64 p, .bool (decide (f.length < k))] 98 (0,0))) (hv : Bs w v f) (hr : RefAt f k p) :
    Calls Try.prog 29 #[.pointer (some ⟨c, 0, none⟩), .int .i64 n] w fun e w' => ∃ p' : Nat, e = .returned (.int .i64 (num f k n)) ∧ Hp w [⟨c, [v, .int .i64 p', .bool (decide (f.length < k + n))], 98⟩] w' ∧ RefAt f (k + n) p' := by
  obtain ⟨p', e1, e2⟩ := rTake_pos hr n
  have h1 := rnum_any c v f p _ n hn w h hv hr.1
  unfold RNumPost at h1
  rw [e1] at h1
  refine h1.mono ?_
  rintro e w' ⟨rfl, hp⟩
  exact ⟨p', rfl, hp, e2⟩
theorem rtake_pos (c : Nat) (v : Value) (f : List UInt8) (k p : Nat) (n : Nat) (w : World) (h : w.heap[c]? = some (.cells #[v, .int .i64 p, .bool (decide (f.length < k))] 98 (0,0))) (hv : Bs w v f) (hr : RefAt f k p) :
    Calls Try.prog 34 #[.pointer (some ⟨c, 0, none⟩), .int .i64 n] w fun e w' => ∃ (x : Value) (p' : Nat), e = .returned x ∧ Hp w [⟨c, [v, .int .i64 p', .bool (decide (f.length < k + n))], 98⟩] w' ∧ RefAt f (k + n) p' ∧ ∀ u, Bs u v f → Bs u x (part f k n) := by
  obtain ⟨p', e1, e2⟩ := rTake_pos hr n
  have h1 := rtake_any c v f p _ n w w h hv hr.1
  unfold RTakePost at h1
  rw [e1] at h1
  refine h1.mono ?_
  rintro e w' ⟨x, rfl, hp, hx⟩
  exact ⟨x, p', rfl, hp, e2, hx⟩
end Go.Proofs.Ytcjikjadajmefaa
