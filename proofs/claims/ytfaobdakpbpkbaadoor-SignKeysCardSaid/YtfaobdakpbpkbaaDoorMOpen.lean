/- What the arguments of a law are, read off the row's own reading: slices of integers, bytes, pairs of integers. Conditions: the argument reads. -/
import Derived.Test.YtfaobdakpbpkbaaDoorM05
import Derived.Test.YtfaobdakpbpkbaaDoorRows
import Derived.WalkKit
import Derived.ProofKit
import Derived.OpenShut
import Derived.ShutString
import Derived.ChangeOld
import Derived.Below
namespace Go.Proofs.YtfaobdakpbpkbaaDoor
open Go.RowKit Go.Pt Go.ChangeShapes Go.WideShapes Go.ChangeAt

theorem own_knob : ownKnob Tryd.prog.godebug = none := by kernel_rfl
theorem laid_out : laidOutB Tryd.prog = true := by kernel_rfl

theorem Is.inH {k : IntKind} {w : World} {v : Value} {l : List Int} (h : Is k w v l) : ∀ b, v.ownBlock = some b → l ≠ [] → b < w.heap.size := by
  obtain ⟨a, cap, rfl, _, _⟩ := h.shape
  intro b hb hne
  obtain ⟨b', off, rfl, hc⟩ := h.cells hne
  cases hb
  exact World.block_lt_of_cell? w _ (hc 0 (List.length_pos_iff.2 hne))
theorem wf_int {k : IntKind} {n : Int} (h : (Lit.int k n).wf = true) : k.min ≤ n ∧ n ≤ k.max := by
  simpa [Lit.wf] using h

theorem u32_of {n : Int} (h : IntKind.u32.min ≤ n ∧ n ≤ IntKind.u32.max) : U32 n := h
theorem i64_of {n : Int} (h : IntKind.i64.min ≤ n ∧ n ≤ IntKind.i64.max) : -9223372036854775808 ≤ n ∧ n ≤ 9223372036854775807 := h

theorem open_Is {H : Type} {enc : TypeId × Value → H} {P : Program} {w : World} {base : Nat} {t e : TypeId} {k : IntKind} {v : Value} {d : DataW H} {p : List MemPlace}
    (ht : P.underlying t = some (.slice e)) (he : P.underlying e = some (.int k)) (hc : P.cellsOf e = 1) (hv : Value.okWide P w .any base t v)
    (h : DataW.Trod enc P w 0 (fun _ => true) true t v d p) : ∃ l, Is k w v l ∧ ∀ n ∈ l, k.min ≤ n ∧ n ≤ k.max := by
  obtain ⟨a, len, cap, rfl⟩ := okWide_slice ht hv
  obtain ⟨fuel, hf⟩ := h
  rcases open_ints ht he hc hf with ⟨hcs, _⟩ | ⟨x, l, c, zs, hcs, _, hl, hm, hz, _, hcell, hwz⟩
  · simp [Value.cells] at hcs
    obtain ⟨rfl, rfl, rfl⟩ := hcs
    exact ⟨[], Sv.nil w 1, fun n hn => by cases hn⟩
  · simp [Value.cells] at hcs
    obtain ⟨rfl, rfl, rfl⟩ := hcs
    simp only [if_true] at hz
    have hlen : (zs.take len).length = len := by rw [List.length_take]; omega
    refine ⟨zs.take len, ⟨by simp, some x, cap, by rw [hlen], by rw [hlen]; exact hl, hm, fun e => (by cases e), fun hne => ?_⟩, fun n hn => wf_int (hwz n (List.mem_of_mem_take hn))⟩
    have hpos : 0 < len := by
      rcases Nat.eq_zero_or_pos len with rfl | h
      · simp at hne
      · exact h
    have h0 := hcell 0 (by omega)
    obtain ⟨b, off, spot⟩ := x
    have hs : spot = none := by simpa [Addr.add] using World.cell?_spot h0
    subst hs
    refine ⟨b, off, rfl, fun i hi => ?_⟩
    rw [List.length_map, hlen] at hi
    have := hcell i (by omega)
    rw [show (Addr.add ⟨b, off, none⟩ i : Addr) = ⟨b, off + i, none⟩ by simp [Addr.add]] at this
    rw [this]
    simp [List.getD_eq_getElem?_getD, List.getElem?_eq_getElem (show i < zs.length by omega)]

theorem open_Bs {H : Type} {enc : TypeId × Value → H} {P : Program} {w : World} {base : Nat} {t e : TypeId} {v : Value} {d : DataW H} {p : List MemPlace}
    (ht : P.underlying t = some (.slice e)) (he : P.underlying e = some (.int .u8)) (hc : P.cellsOf e = 1) (hv : Value.okWide P w .any base t v)
    (h : DataW.Trod enc P w 0 (fun _ => true) true t v d p) : ∃ l, Bs w v l := by
  obtain ⟨l, hl, hr⟩ := open_Is ht he hc hv h
  refine ⟨l.map fun n => UInt8.ofNat n.toNat, ?_⟩
  have e1 : byteCells (l.map fun n => UInt8.ofNat n.toNat) = l.map (Value.int .u8) := by
    unfold byteCells
    rw [List.map_map]
    apply List.map_congr_left
    intro n hn
    have := hr n hn
    have h0 : IntKind.u8.min = 0 := by decide
    have h1 : IntKind.u8.max = 255 := by decide
    rw [h0, h1] at this
    simp only [Function.comp, UInt8.toNat_ofNat', Value.int.injEq, true_and]
    omega
  unfold Bs
  rw [e1, List.length_map]
  exact hl

theorem open_two {H : Type} {enc : TypeId × Value → H} {P : Program} {w : World} {base : Nat} {t e : TypeId} {k : IntKind} {v : Value} {d : DataW H} {p : List MemPlace}
    (ht : P.underlying t = some (.array 2 e)) (he : P.underlying e = some (.int k)) (hc : P.cellsOf e = 1) (hc2 : P.cellsOf t = 2) (hv : Value.okWide P w .any base t v)
    (h : DataW.Trod enc P w 0 (fun _ => true) true t v d p) : ∃ x y, v = .agg #[.int k x, .int k y] ∧ (k.min ≤ x ∧ x ≤ k.max) ∧ k.min ≤ y ∧ y ≤ k.max := by
  simp only [Value.okWide, ht] at hv
  obtain ⟨⟨l⟩, rfl, hsz, _⟩ := hv
  obtain ⟨fuel, hf⟩ := h
  obtain ⟨xs, m, rfl, _, hl, hx, hg⟩ := DataW.trod_array ht hf
  rw [hc2] at hsz
  match l, hsz with
  | [u, v], _ =>
    have g0 := hg 0 (by omega)
    have g1 := hg 1 (by omega)
    rw [List.getElem?_eq_getElem (by omega)] at g0 g1
    simp only [Value.cells, hc] at g0 g1
    obtain ⟨x, hx1, _, hx2⟩ := DataW.trod_int he g0
    obtain ⟨y, hy1, _, hy2⟩ := DataW.trod_int he g1
    simp at hx1 hy1
    subst hx1 hy1
    exact ⟨x, y, rfl, wf_int hx2, wf_int hy2⟩
end Go.Proofs.YtfaobdakpbpkbaaDoor
