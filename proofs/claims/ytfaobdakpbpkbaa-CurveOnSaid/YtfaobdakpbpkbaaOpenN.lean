/- What the arguments of a law are, read off the row's own reading: numbers of eight words. Conditions: the argument reads. -/
import Derived.Test.YtfaobdakpbpkbaaLaw03
import Derived.Test.YtfaobdakpbpkbaaRows
import Derived.WalkKit
import Derived.ProofKit
import Derived.OpenShut
import Derived.ShutString
import Derived.ChangeOld
import Derived.Below
namespace Go.Proofs.Ytfaobdakpbpkbaa
open Go.RowKit Go.Pt Go.ChangeShapes Go.WideShapes Go.ChangeAt

theorem own_knob : ownKnob Try.prog.godebug = none := by kernel_rfl
theorem laid_out : laidOutB Try.prog = true := by kernel_rfl
theorem wf_int {k : IntKind} {n : Int} (h : (Lit.int k n).wf = true) : k.min ≤ n ∧ n ≤ k.max := by
  simpa [Lit.wf] using h
theorem u32_natN {n : Int} (h : IntKind.u32.min ≤ n ∧ n ≤ IntKind.u32.max) : ∃ m : Nat, n = (m : Int) ∧ m < 4294967296 := by
  have h' : 0 ≤ n ∧ n ≤ 4294967295 := h
  exact ⟨n.toNat, by omega, by omega⟩
theorem of_digits (f : Nat → Nat) : ∀ k, (∀ i, i < k → f i < W32) → ∃ n, n < W32 ^ k ∧ ∀ i, i < k → dg W32 n i = f i := by
  intro k
  induction k with
  | zero => intro _; exact ⟨0, by simp, fun i hi => by omega⟩
  | succ k ih =>
    intro hf
    obtain ⟨n, hn, hd⟩ := ih fun i hi => hf i (by omega)
    have hk := hf k (by omega)
    refine ⟨n + W32 ^ k * f k, ?_, fun i hik => ?_⟩
    · rw [Nat.pow_succ]
      have h1 : W32 ^ k * f k + W32 ^ k ≤ W32 ^ k * W32 := by rw [← Nat.mul_succ]; exact Nat.mul_le_mul_left _ hk
      omega
    · rcases Nat.lt_succ_iff_lt_or_eq.1 hik with h | rfl
      · rw [← hd i h]
        have := dg_mod (B := W32) (n := n + W32 ^ k * f k) h
        rw [← this, Nat.add_mul_mod_self_left, Nat.mod_eq_of_lt hn]
      · unfold dg hi
        rw [Nat.add_mul_div_left _ _ (Nat.pow_pos (by decide)), Nat.div_eq_of_lt hn, Nat.zero_add, Nat.mod_eq_of_lt hk]
theorem open_num {H : Type} {enc : TypeId × Value → H} {P : Program} {w : World} {base : Nat} {t e : TypeId} {v : Value} {d : DataW H} {p : List MemPlace}
    (ht : P.underlying t = some (.array 8 e)) (he : P.underlying e = some (.int .u32)) (hc : P.cellsOf e = 1) (hc8 : P.cellsOf t = 8) (hv : Value.okWide P w .any base t v)
    (h : DataW.Trod enc P w 0 (fun _ => true) true t v d p) : ∃ n, n < W256 ∧ v = numV n := by
  simp only [Value.okWide, ht] at hv
  obtain ⟨⟨l⟩, rfl, hsz, _⟩ := hv
  obtain ⟨fuel, hf⟩ := h
  obtain ⟨xs, m, rfl, _, hl, hx, hg⟩ := DataW.trod_array ht hf
  rw [hc8] at hsz
  have hsz' : l.length = 8 := by simpa using hsz
  have key : ∀ i, i < 8 → ∃ x : Nat, l[i]? = some (.int .u32 x) ∧ x < W32 := by
    intro i hi
    have g := hg i hi
    rw [List.getElem?_eq_getElem (by omega)] at g
    simp only [Value.cells, hc, Nat.mul_one] at g
    obtain ⟨x, hx1, _, hx2⟩ := DataW.trod_int he g
    obtain ⟨x', rfl, hx'⟩ := u32_natN (wf_int hx2)
    have h0 : (List.take 1 (List.drop i l))[0]? = l[i]? := by simp [List.getElem?_take, List.getElem?_drop]
    rw [hx1] at h0
    exact ⟨x', h0.symm, hx'⟩
  have hch : ∃ f : Nat → Nat, ∀ i, i < 8 → l[i]? = some (.int .u32 (f i)) ∧ f i < W32 := by
    refine ⟨fun i => if h : i < 8 then (key i h).choose else 0, fun i hi => ?_⟩
    simp only [hi, dif_pos]
    exact (key i hi).choose_spec
  obtain ⟨f, hf⟩ := hch
  obtain ⟨n, hn, hd⟩ := of_digits f 8 fun i hi => (hf i hi).2
  refine ⟨n, by rw [W256_eq]; exact hn, ?_⟩
  have e : l = cellsN .u32 8 (dg W32 n) := by
    apply List.ext_getElem?
    intro i
    rcases Nat.lt_or_ge i 8 with h | h
    · rw [(hf i h).1, cellsN_get h, hd i h]
    · rw [List.getElem?_eq_none (by omega), List.getElem?_eq_none (by rw [cellsN_len]; exact h)]
  rw [e]
end Go.Proofs.Ytfaobdakpbpkbaa
