/-
  porticoref03: Sub, Half, Over. Conditions: numbers are below 2^256, and below the modulus where the document says so.
-/
import Derived.Test.YtfaobdakpbpkbaaRef3c
namespace Go.Pt
theorem own_sub {w : World} {H H' : List Blk} (hs : H'.Sublist H) (h : Own w H) : Own w H' := by
  induction hs with
  | slnil => exact h
  | cons a _ ih => exact ih h.2
  | cons_cons a _ ih => exact ⟨h.1, ih h.2⟩
theorem off_sub {H H' : List Blk} {k : Nat} (hs : H'.Sublist H) (h : Off H k) : Off H' k := by
  induction hs with
  | slnil => exact h
  | cons a _ ih => exact ih h.2
  | cons_cons a _ ih => exact ⟨h.1, ih h.2⟩
theorem apart_sub {H H' : List Blk} (hs : H'.Sublist H) (h : Apart H) : Apart H' := by
  induction hs with
  | slnil => exact h
  | cons a _ ih => exact ih h.2
  | cons_cons a hs ih => exact ⟨off_sub hs h.1, ih h.2⟩
theorem hpSub {w0 w : World} {H H' : List Blk} (h : Hp w0 H w) (hs : H'.Sublist H) (hH : ∀ y ∈ H, w0.heap.size ≤ y.b) : Hp w0 H' w :=
  ⟨h.upd.mono fun k hk hn _ => hn (Off.of fun y hy e => by have := hH y hy; omega), own_sub hs h.own, apart_sub hs h.apart⟩
end Go.Pt
namespace Go.Proofs.Ytfaobdakpbpkbaa
open Go.RowKit Go.Pt
end Go.Proofs.Ytfaobdakpbpkbaa
