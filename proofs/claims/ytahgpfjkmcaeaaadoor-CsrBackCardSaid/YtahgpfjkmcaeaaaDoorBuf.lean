/-
  The contracts of the functions that append bytes: P16, P32, Put, Join.
-/
import Derived.Test.YtahgpfjkmcaeaaaDoorRcur
namespace Go.Proofs.YtahgpfjkmcaeaaaDoor
open Go.RowKit Go.Pt

/-- n bytes of a number, the lowest first -/
def leB : Nat → Nat → List UInt8
  | 0, _ => []
  | n + 1, x => UInt8.ofNat (x % 256) :: leB n (x / 256)
theorem leB_length (n x : Nat) : (leB n x).length = n := by
  induction n generalizing x with
  | zero => rfl
  | succ n ih => simp [leB, ih]
theorem leN_leB (n x : Nat) : leN (leB n x) = x % 256 ^ n := by
  induction n generalizing x with
  | zero => simp [leB, leN, Nat.mod_one]
  | succ n ih =>
    simp only [leB, leN, ih]
    have : (UInt8.ofNat (x % 256)).toNat = x % 256 := by simp
    rw [this, Nat.pow_succ, Nat.mul_comm (256 ^ n) 256, Nat.mod_mul]
theorem leB_snoc (n x : Nat) : leB (n + 1) x = leB n x ++ [UInt8.ofNat (x / 256 ^ n % 256)] := by
  induction n generalizing x with
  | zero => simp [leB]
  | succ n ih =>
    rw [leB, ih, leB]
    simp [Nat.pow_succ, Nat.div_div_eq_div_mul, Nat.mul_comm]

theorem leB_mod (n x : Nat) : leB n (x % 256 ^ n) = leB n x := by
  induction n generalizing x with
  | zero => rfl
  | succ n ih =>
    have h1 : x % 256 ^ (n + 1) % 256 = x % 256 := Nat.mod_mod_of_dvd x ⟨256 ^ n, by rw [Nat.pow_succ, Nat.mul_comm]⟩
    have h2 : x % 256 ^ (n + 1) / 256 = x / 256 % 256 ^ n := by rw [Nat.pow_succ, Nat.mul_comm, Nat.mod_mul_right_div_self]
    simp only [leB, h1, h2, ih]
/-- v is a buffer of the call's own (its block from base on) that holds the bytes l -/
def Bo (w : World) (base : Nat) (v : Value) (l : List UInt8) : Prop := w.ownsRow base 5 1 v l.length (byteCells l)
theorem Bo.nil (w : World) (base : Nat) : Bo w base (.slice none 0 0) [] := World.ownsRow_nil w base 5 1
theorem Bo.bs {w : World} {base : Nat} {v : Value} {l : List UInt8} (h : Bo w base v l) : Bs w v l := Sv.ofOwn h
theorem Bo.shape {w : World} {base : Nat} {v : Value} {l : List UInt8} (h : Bo w base v l) : ∃ a cap, v = .slice a l.length cap ∧ l.length ≤ cap ∧ cap ≤ maxLen := h.bs.shape
theorem Bo.base {w : World} {base : Nat} {v : Value} {l : List UInt8} (h : Bo w base v l) {k : Nat} (hk : v.ownBlock = some k) : base ≤ k := (h.lt k hk).1
theorem Bo.upd {S : Nat → Prop} {w w' : World} {base : Nat} {v : Value} {l : List UInt8} (h : Bo w base v l) (u : Upd S w w') (hs : ∀ k, v.ownBlock = some k → ¬ S k) : Bo w' base v l := ownsRow_upd h u hs
theorem Bo.of {w : World} {base : Nat} {v : Value} {l m : List UInt8} {n : Nat} {cs : List Value} (h : w.ownsRow base 5 1 v n (byteCells l ++ cs)) (hn : n = l.length + m.length) (hc : cs = byteCells m) : Bo w base v (l ++ m) := by
  unfold Bo
  subst hc
  rw [List.length_append, ← hn]
  simpa [byteCells] using h
theorem byteCells_all (l : List UInt8) : (byteCells l).all Value.oneCell' = true := by
  rw [List.all_eq_true]
  intro x hx
  simp only [byteCells, List.mem_map] at hx
  obtain ⟨c, _, rfl⟩ := hx
  rfl
theorem u8_cell (x : Int) : (Value.int .u8 (IntKind.u8.wrap x)) = .int .u8 ((UInt8.ofNat (x % 256).toNat).toNat : Int) := by
  congr 1
  rw [IntKind.wrap_u8]
  simp
  omega

theorem wrap8 (x : Int) : IntKind.u8.wrap x = ((UInt8.ofNat (x % 256).toNat).toNat : Int) := by
  rw [IntKind.wrap_u8]; simp; omega

/-- integers of a kind, as a slice of them reads -/
def Is (k : IntKind) (w : World) (v : Value) (l : List Int) : Prop := Sv w 1 l.length v (l.map (Value.int k))
theorem Is.upd {k : IntKind} {S : Nat → Prop} {w w' : World} {v : Value} {l : List Int} (h : Is k w v l) (u : Upd S w w') (hs : ∀ b, v.ownBlock = some b → b < w.heap.size → l ≠ [] → ¬ S b) : Is k w' v l :=
  Sv.upd h u fun b h1 h2 h3 => hs b h1 h2 (by simpa using h3)
theorem Is.shape {k : IntKind} {w : World} {v : Value} {l : List Int} (h : Is k w v l) : ∃ a cap, v = .slice a l.length cap ∧ l.length ≤ cap ∧ cap ≤ maxLen := by
  obtain ⟨_, a, cap, h1, h2, h3, _, _⟩ := h; exact ⟨a, cap, h1, h2, h3⟩
theorem Is.cells {k : IntKind} {w : World} {a : Option Addr} {n cap : Nat} {l : List Int} (h : Is k w (.slice a n cap) l) (hne : l ≠ []) :
    ∃ b off, a = some ⟨b, off, none⟩ ∧ ∀ i (hi : i < l.length), w.cell? ⟨b, off + i, none⟩ = some (.int k l[i]) := by
  obtain ⟨_, a', cap', h1, _, _, _, h3⟩ := h
  cases h1
  obtain ⟨b, off, rfl, hc⟩ := h3 (by simpa using hne)
  refine ⟨b, off, rfl, fun i hi => ?_⟩
  have := hc i (by simpa using hi)
  simpa using this
end Go.Proofs.YtahgpfjkmcaeaaaDoor
