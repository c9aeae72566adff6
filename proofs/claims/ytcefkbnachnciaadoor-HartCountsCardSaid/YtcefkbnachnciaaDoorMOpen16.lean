/-
  The argument of the Hart laws, a start, read off the row's own reading; the listed table of bits, read. Conditions: the argument reads; the listed variable is laid.
-/
import Derived.Test.YtcefkbnachnciaaDoorM05
import Derived.Test.YtcefkbnachnciaaDoorM04
import Derived.Test.YtcefkbnachnciaaDoorRows
import Derived.WalkKit
import Derived.ProofKit
import Derived.LaidMore
import Derived.OpenShut
import Derived.ShutString
import Derived.ChangeOld
import Derived.Below
import Derived.MakeChecks
import Derived.Stop.Joined
namespace Go.Proofs.YtcefkbnachnciaaDoor
open Go.RowKit Go.Pt Go.ChangeShapes Go.WideShapes Go.ChangeAt
def laid1 {H : Type} : List (String × DataW H) := [("math/bits.deBruijn32tab", Rows.laid_math_bits_deBruijn32tab)]
theorem laid1_eq : (Rows.laid_math_bits_deBruijn32tab : DataW Unit) = .agg (tabL.map fun (n : Int) => .lit (.int .u8 n)) := by kernel_rfl
theorem tabLaid {W : World} (h : laidMetH Tryd.prog laid1 W) : tabOk W := by
  intro r hr
  rw [MakeChecks.laidMetH_plain _ _ _ (by kernel_rfl)] at h
  obtain ⟨ps, ⟨g, t, cs, fuel, p, q, hg, ht, hv, hd, _, _⟩, _, _⟩ := h
  obtain rfl := Option.some.inj ((show Tryd.prog.globalNamed "math/bits.deBruijn32tab" = some 0 by kernel_rfl).symm.trans hg)
  obtain rfl := Option.some.inj ((show (Tryd.prog.globals[0]?).map (·.type) = some 129 by kernel_rfl).symm.trans ht)
  rw [laid1_eq] at hd
  obtain ⟨xs, m, _, ex, _, hl, hel⟩ := DataW.trod_array Tryd.underlying129 hd
  have c5 : Tryd.prog.cellsOf 5 = 1 := by kernel_rfl
  have hE := hel r hr
  rw [c5, Nat.mul_one, List.getElem?_eq_getElem (by omega)] at hE
  obtain ⟨z, e1, e2, _⟩ := DataW.trod_int Tryd.underlying5 hE
  have hlen : tabL.length = 32 := rfl
  have e3 : (xs.map (·.1)) = tabL.map fun (n : Int) => .lit (.int .u8 n) := (DataW.agg.inj (Prod.mk.inj ex).1).symm
  have e4 : (xs.map (·.1))[r]? = (tabL.map fun (n : Int) => (DataW.lit (.int .u8 n) : DataW Unit))[r]? := by rw [e3]
  rw [List.getElem?_map, List.getElem?_map, List.getElem?_eq_getElem (by omega : r < xs.length), List.getElem?_eq_getElem (by omega : r < tabL.length), e2] at e4
  have hz : z = tabL[r]'(by omega) := by
    simp only [Option.map_some, Option.some.injEq, DataW.lit.injEq, Lit.int.injEq, true_and] at e4
    exact e4
  refine ⟨tabL[r]'(by omega), List.getElem?_eq_getElem _, ?_, ?_⟩
  · have : ∀ x ∈ tabL, (0 : Int) ≤ x ∧ x ≤ 31 := by decide
    exact this _ (List.getElem_mem _)
  · rw [World.var?_cell hg hv r, ← hz]
    have h0 : ((cs.toList.drop r).take 1)[0]? = some (.int .u8 z) := by rw [e1]; rfl
    simpa using h0
set_option maxRecDepth 100000 in
theorem Tr.two32 {H : Type} {enc : TypeId × Value → H} {w : World} (c : List Value) (h : Tr enc Tryd.prog w 56 c) (hl : c.length = 2) : ∃ p : Int × Int, c = [Value.int .u32 p.1, .int .u32 p.2] ∧ (0 ≤ p.1 ∧ p.1 < 4294967296) ∧ 0 ≤ p.2 ∧ p.2 < 4294967296 := by
  have h2 := (h.elem Tryd.underlying56).2
  have c1 : Tryd.prog.cellsOf 22 = 1 := by kernel_rfl
  match c, hl with
  | [a, b], _ =>
    have ha := h2 0 (by decide)
    have hb := h2 1 (by decide)
    rw [c1] at ha hb
    obtain ⟨x, e0, r0⟩ := ha.int Tryd.underlying22
    obtain ⟨y, e1, r1⟩ := hb.int Tryd.underlying22
    simp only [Nat.zero_mul, List.drop_zero, List.take_succ_cons, List.take_zero, Nat.one_mul, List.drop_succ_cons, List.cons.injEq, and_true] at e0 e1
    subst e0 e1
    exact ⟨(x, y), rfl, u32r r0, u32r r1⟩
theorem Tr.word32 {H : Type} {enc : TypeId × Value → H} {w : World} (c : List Value) (h : Tr enc Tryd.prog w 22 c) (hl : c.length = 1) : ∃ p : Int, c = [Value.int .u32 p] ∧ 0 ≤ p ∧ p < 4294967296 := by
  obtain ⟨x, e0, r0⟩ := h.int Tryd.underlying22
  exact ⟨x, e0, u32r r0⟩
theorem open_words {H : Type} {enc : TypeId × Value → H} {w : World} {v : Value} (h : Tr enc Tryd.prog w 35 [v]) : ∃ a n cap, v = .slice a n cap ∧ WordS w a n := by
  obtain ⟨l, h1, hok, _⟩ := open_list (fun p : Int => [Value.int .u32 p]) (fun p => 0 ≤ p ∧ p < 4294967296) Tryd.underlying35 (sz := 1) (by kernel_rfl) (by decide) Tr.word32 h
  obtain ⟨_, a, cap, e, _⟩ := id h1
  subst e
  obtain ⟨_, hat⟩ := sv_at (m := 1) (fun _ => rfl) h1
  refine ⟨a, l.length, cap, rfl, fun i hi => ?_⟩
  obtain ⟨b, o, rfl, hc⟩ := hat i _ (List.getElem?_eq_getElem hi) (by decide)
  have h0 := hc 0 _ rfl
  rw [Nat.mul_one, Nat.add_zero] at h0
  exact ⟨b, o, rfl, _, h0, hok _ (List.getElem_mem hi)⟩
theorem open_pairs {H : Type} {enc : TypeId × Value → H} {w : World} {v : Value} (h : Tr enc Tryd.prog w 36 [v]) : ∃ a n cap, v = .slice a n cap ∧ PairS w a n := by
  obtain ⟨l, h1, hok, _⟩ := open_list (fun p : Int × Int => [Value.int .u32 p.1, .int .u32 p.2]) (fun p => (0 ≤ p.1 ∧ p.1 < 4294967296) ∧ 0 ≤ p.2 ∧ p.2 < 4294967296) Tryd.underlying36 (sz := 2) (by kernel_rfl) (by decide) Tr.two32 h
  obtain ⟨_, a, cap, e, _⟩ := id h1
  subst e
  obtain ⟨_, hat⟩ := sv_at (m := 2) (fun _ => rfl) h1
  refine ⟨a, l.length, cap, rfl, fun i hi => ?_⟩
  obtain ⟨b, o, rfl, hc⟩ := hat i _ (List.getElem?_eq_getElem hi) (by decide)
  obtain ⟨k1, k2⟩ := hok _ (List.getElem_mem hi)
  exact ⟨b, o, rfl, _, _, ⟨hc 0 _ rfl, k1⟩, hc 1 _ rfl, k2⟩
set_option maxRecDepth 100000 in
theorem open_start {H : Type} {enc : TypeId × Value → H} {w : World} {cs : List Value} (h : Tr enc Tryd.prog w 39 cs) (hl : cs.length = 6) :
    ∃ wa wn wc xa xn xc la ln lc, ∃ us : Bool, ∃ ca cn cc, ∃ pc0 : Int, cs = [Value.slice wa wn wc, .slice xa xn xc, .slice la ln lc, .bool us, .slice ca cn cc, .int .u32 pc0] ∧ WordS w wa wn ∧ PairS w xa xn ∧ EntS w la ln ∧ PairS w ca cn := by
  have ht := Tryd.underlying39
  match cs, hl with
  | [c0, c1, c2, c3, c4, c5], _ =>
    obtain ⟨wa, wn, wc, rfl, hW⟩ := open_words (h.field1 ht 0 (ft := 35) (off := 0) rfl (by kernel_rfl) rfl)
    obtain ⟨xa, xn, xc, rfl, hX⟩ := open_pairs (h.field1 ht 1 (ft := 36) (off := 1) rfl (by kernel_rfl) rfl)
    obtain ⟨la, ln, lc, rfl, hL, _⟩ := open_ents (h.field1 ht 2 (ft := 37) (off := 2) rfl (by kernel_rfl) rfl)
    obtain ⟨us, e3⟩ := (h.field1 ht 3 (ft := 4) (off := 3) rfl (by kernel_rfl) rfl).bool Tryd.underlying4
    obtain ⟨ca, cn, cc, rfl, hC⟩ := open_pairs (h.field1 ht 4 (ft := 36) (off := 4) rfl (by kernel_rfl) rfl)
    obtain ⟨pc0, e5, _⟩ := (h.field1 ht 5 (ft := 22) (off := 5) rfl (by kernel_rfl) rfl).int Tryd.underlying22
    simp only [List.cons.injEq, and_true] at e3 e5
    subst e3 e5
    exact ⟨wa, wn, wc, xa, xn, xc, la, ln, lc, us, ca, cn, cc, pc0, rfl, hW, hX, hL, hC⟩
end Go.Proofs.YtcefkbnachnciaaDoor
