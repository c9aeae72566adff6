/-
  porticolaw03: fit and MontMults. Conditions: none.
-/
import Derived.Test.YtfaobdakpbpkbaaRef3e
namespace Go.Pt
theorem hpSwap {w0 w : World} {x y : Blk} {H : List Blk} (h : Hp w0 (x :: y :: H) w) : Hp w0 (y :: x :: H) w :=
  ⟨h.upd.mono fun k _ hn ho => hn ⟨ho.2.1, ho.1, ho.2.2⟩, ⟨h.own.2.1, h.own.1, h.own.2.2⟩, ⟨⟨fun e => h.apart.1.1 e.symm, h.apart.2.1⟩, h.apart.1.2, h.apart.2.2⟩⟩
theorem Mt.eff3 {P : Program} {ops : Array Oper} {N n : Nat} {Γ : Env} {C D : World → Prop} {Q : Act → World → Prop} {listed : Array Bool} {i j k : Nat} {o o' o'' : Oper} (hr : Region.ready .any ops listed = [i, j, k]) (hi : ops[i]? = some o) (hj : ops[j]? = some o') (hk : ops[k]? = some o'')
    (h : Wl [o] P .seq ops N Γ D (MtE P ops C Q n (listed.setIfInBounds i true))) (h' : Wl [o'] P .seq ops N Γ D (MtE P ops C Q n (listed.setIfInBounds j true))) (h'' : Wl [o''] P .seq ops N Γ D (MtE P ops C Q n (listed.setIfInBounds k true))) : Mt P ops N (n + 1) listed Γ D C Q := fun a w ha hD hC => by
  refine ⟨hC, fun e => (by rw [hr] at e; cases e), fun x hx => ?_⟩
  rw [hr] at hx
  simp only [List.mem_cons, List.not_mem_nil, or_false] at hx
  rcases hx with rfl | rfl | rfl
  · exact Mt.op hi h a w ha hD
  · exact Mt.op hj h' a w ha hD
  · exact Mt.op hk h'' a w ha hD
theorem hpRb {w0 w : World} {H : List Blk} (h : Hp w0 H w) : Hp w H w := ⟨Upd.refl _ _, h.own, h.apart⟩
theorem hpNewer {w0 w w' : World} {H : List Blk} (h : Hp w0 H w) (u : Upd (fun k => w.heap.size ≤ k) w w') : Hp w0 H w' :=
  h.step u (fun x hx hle => by have := h.own.lt hx; omega) (fun k hk hle => by have := h.upd.size; omega)
theorem hpOn {w w1 w2 : World} {H : List Blk} (h : Hp w1 H w2) (hu : Upd (fun k => w.heap.size ≤ k) w w1) (hH : ∀ x ∈ H, w.heap.size ≤ x.b) : Upd (fun k => w.heap.size ≤ k) w w2 :=
  hu.comp h.upd fun j _ hs => hs.elim id fun y => Classical.byContradiction fun hlt => y (Off.of fun x hx e => by have := hH x hx; omega)
theorem hpFin {w w1 w' : World} {H : List Blk} (hp : Hp w1 H w') (hu : Upd (fun k => w.heap.size ≤ k) w w1) (hH : ∀ x ∈ H, w.heap.size ≤ x.b) : Hp w [] w' := hpNewer (hpNil w) (hpOn hp hu hH)
end Go.Pt
namespace Go.Proofs.Ytfaobdakpbpkbaa
open Go.RowKit Go.Pt
theorem const8 (v : Nat) (h : v < 4294967296) : [Value.int .u32 (v : Int), .int .u32 0, .int .u32 0, .int .u32 0, .int .u32 0, .int .u32 0, .int .u32 0, .int .u32 0] = cellsN .u32 8 (dg W32 v) := by
  have hz (j : Nat) (hj : 0 < j) : dg W32 v j = 0 := by
    have : v < W32 ^ j := Nat.lt_of_lt_of_le h (Nat.le_self_pow (by omega) W32)
    unfold dg; rw [hi_top this]; rfl
  have h0 : dg W32 v 0 = v := by unfold dg; rw [hi_zero]; exact Nat.mod_eq_of_lt h
  unfold cellsN
  simp [List.range, List.range.loop, hz, h0]
theorem eqT {a b : Nat} (h : a = b) : true = true ↔ ∀ j, j < 8 → dg W32 a j = dg W32 b j := ⟨fun _ _ _ => by rw [h], fun _ => rfl⟩
theorem outIn {m a : Nat} (h : m % 2 = 1) : a * W256 % m * rinv m % m = a % m := by rw [Nat.mod_mul_mod]; exact inW h
end Go.Proofs.Ytfaobdakpbpkbaa
