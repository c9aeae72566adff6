/-
  Points compared; porticolaw04.pt, like. Conditions: points are of the curve.
-/
import Derived.Test.YtfaobdakpbpkbaaLaw04
namespace Go.Pt
open Go.RowKit
theorem mapM_ex {α β : Type} {g : α → Option β} {l : List α} (h : ∀ x ∈ l, ∃ y, g x = some y) : ∃ ys, l.mapM g = some ys := by
  induction l with
  | nil => exact ⟨[], rfl⟩
  | cons x r ih =>
    obtain ⟨y, hy⟩ := h x (by simp)
    obtain ⟨ys, hys⟩ := ih fun z hz => h z (by simp [hz])
    exact ⟨y :: ys, by rw [List.mapM_cons, hy, hys]; rfl⟩
section
variable {P : Program} {md : Md} {N : Nat} {ops : Array Oper} {rest : List Oper} {Γ : Env} {C : World → Prop} {Q : Exit → Act → World → Prop} {d : Nat} {ty : TypeId} {pos : String} {af : Array Edge} {t u : TypeId} {x y : Operand}
/-- a field of a struct that is a value -/
theorem Wl.fieldVv {s i off ft : Nat} [hf : Fld P s i off ft] [TyC P ft] {cs : List Value} {v : Value} (hd : Nat.blt d N = true) (hx : ev Γ x = some (.agg cs.toArray)) (hv : cs[off]? = some v) (h : Wl rest P md ops N ((d, v) :: Γ) C Q) :
    Wl (⟨some d, .field s x i, ty, pos, af, none⟩ :: rest) P md ops N Γ C Q :=
  Wl.val hd (fun a w ha _ => by
    have h := hf.out
    unfold fieldB at h
    split at h <;> try cases h
    rename_i fs hfs
    cases e : fs[i]? with
    | none => rw [e] at h; cases h
    | some f =>
      rw [e] at h; simp at h
      obtain ⟨h1, h2, h3⟩ := h
      subst h1 h2
      have hv' : cs.toArray[f.offset]? = some v := by simpa using hv
      simp [execOp, ha.ev hx, Instr.field, run_underlying hfs, e, part, run_aggC (P := P) (t := f.type), asAgg, hv]) h
/-- a value and itself compared -/
theorem Wl.eqlSame {xs : Array Value} (hd : Nat.blt d N = true) (hx : ev Γ x = some (.agg xs)) (hy : ev Γ y = some (.agg xs)) (hk : P.keyTypeAt 8 t = true) (hg0 : P.eqGuardType P.depth t = false) (fx : (Value.agg xs).formed P t = true)
    (hl : ∃ la, P.keyLits 8 t xs.toList = some la) (h : Wl rest P md ops N ((d, .bool true) :: Γ) C Q) : Wl (⟨some d, .binOp .eql t x y u, ty, pos, af, none⟩ :: rest) P md ops N Γ C Q :=
  Wl.val hd (fun a w ha _ => by
    obtain ⟨la, hl⟩ := hl
    obtain ⟨r, h1, _, h3⟩ := run_neq_agg (P := P) w (t := t) hk fx fx hl hl
    have : r = true := h3.2 rfl
    subst this
    simp only [execOp, ha.ev hx, ha.ev hy, pure_bind, Sem.run_bind, guard_agg (P := P) hg0, Result.andThen_ok, h1]; rfl) h
end
end Go.Pt
namespace Go.Proofs.Ytfaobdakpbpkbaa
open Go.RowKit Go.Pt
attribute [local irreducible] Prim.P256
theorem poFld : (match Try.prog.underlying 35 with
    | some (.struct fs) => fs.all fun f => (f.name != "_") && ((Nat.beq f.type 24 && (Nat.beq f.offset 0 || Nat.beq f.offset 8)) || (Nat.beq f.type 4 && Nat.beq f.offset 16))
    | _ => false) = true := by kernel_rfl
theorem klNum (x : Nat) : Try.prog.keyLits 7 24 (cellsN .u32 8 (dg W32 x)) = some ((List.range 8).map fun j => Lit.int .u32 (dg W32 x j)) :=
  klInts (d := 5) (e := 22) TyD.out TyD.out (by kernel_rfl) (by kernel_rfl) _ (cell32 _ (dlt _))
theorem poC_drop (x y : Nat) (n : Bool) : (poC x y n).take 8 = cellsN .u32 8 (dg W32 x) ∧ ((poC x y n).drop 8).take 8 = cellsN .u32 8 (dg W32 y) ∧ ((poC x y n).drop 16).take 1 = [.bool n] := by
  unfold poC
  refine ⟨?_, ?_, ?_⟩
  · rw [List.take_append_of_le_length (by rw [cellsN_len]; omega), List.take_of_length_le (by rw [cellsN_len]; omega)]
  · rw [List.drop_append_of_le_length (by rw [cellsN_len]; omega), List.drop_of_length_le (by rw [cellsN_len]; omega), List.nil_append, List.take_append_of_le_length (by rw [cellsN_len]; omega), List.take_of_length_le (by rw [cellsN_len]; omega)]
  · rw [← List.append_assoc, List.drop_append_of_le_length (by rw [List.length_append, cellsN_len, cellsN_len]; omega), List.drop_of_length_le (by rw [List.length_append, cellsN_len, cellsN_len]; omega)]
    rfl
theorem klPo (x y : Nat) (n : Bool) : ∃ la, Try.prog.keyLits 8 35 (poC x y n) = some la := by
  have hF := poFld
  obtain ⟨d1, d2, d3⟩ := poC_drop x y n
  have hcn : Try.prog.cellsOf 24 = 8 := by kernel_rfl
  have hcb : Try.prog.cellsOf 4 = 1 := by kernel_rfl
  have hcp : Try.prog.cellsOf 35 = 17 := by kernel_rfl
  cases hu : Try.prog.underlying 35 with
  | none => rw [hu] at hF; cases hF
  | some td =>
    rw [hu] at hF
    cases td <;> try (cases hF; done)
    rename_i fs
    simp only at hF
    show ∃ la, Try.prog.keyLits (7 + 1) _ _ = some la
    unfold Program.keyLits
    rw [hu]
    simp only
    have hall := Array.all_eq_true'.1 hF
    have hlen : (poC x y n).length = Try.prog.cellsOf 35 := by rw [poC_len, hcp]
    have hnames : (fs.all fun f => f.name != "_") = true := by
      rw [Array.all_eq_true']
      intro f hf
      have := hall f hf
      rw [Bool.and_eq_true] at this
      exact this.1
    rw [if_pos ⟨hlen, hnames⟩]
    obtain ⟨ys, hys⟩ := mapM_ex (g := fun f => Try.prog.keyLits 7 f.type (((poC x y n).drop f.offset).take (Try.prog.cellsOf f.type))) (l := fs.toList) (fun f hf => by
      have := hall f (by simpa using hf)
      rw [Bool.and_eq_true, Bool.or_eq_true, Bool.and_eq_true, Bool.or_eq_true, Bool.and_eq_true] at this
      rcases this.2 with ⟨ht, ho | ho⟩ | ⟨ht, ho⟩
      · rw [Nat.eq_of_beq_eq_true ht, Nat.eq_of_beq_eq_true ho, hcn, List.drop_zero, d1]
        exact ⟨_, klNum x⟩
      · rw [Nat.eq_of_beq_eq_true ht, Nat.eq_of_beq_eq_true ho, hcn, d2]
        exact ⟨_, klNum y⟩
      · rw [Nat.eq_of_beq_eq_true ht, Nat.eq_of_beq_eq_true ho, hcb, d3]
        refine ⟨[.bool n], ?_⟩
        show Try.prog.keyLits (6 + 1) _ _ = _
        unfold Program.keyLits
        rw [show Try.prog.underlying 4 = some .bool by kernel_rfl])
    rw [hys]
    exact ⟨_, rfl⟩
theorem poD_ex (A : Ec.Pt) : poD A = poC (poX A) (poY A) A.isNone := by
  match A with
  | none => exact poD_none
  | some (x, y) => exact poD_some x y
theorem klD (A : Ec.Pt) : ∃ la, Try.prog.keyLits 8 35 (poD A) = some la := by rw [poD_ex]; exact klPo _ _ _
theorem formPo (x y : Nat) (n : Bool) : (Value.agg (poC x y n).toArray).formed Try.prog 35 = true := by
  have hF := poFld
  have hcp : Try.prog.cellsOf 35 = 17 := by kernel_rfl
  unfold Value.formed
  cases hu : Try.prog.underlying 35 with
  | none => rw [hu] at hF; cases hF
  | some td =>
    rw [hu] at hF
    cases td <;> try (cases hF; done)
    simp [hcp, poC_len]
theorem formD (A : Ec.Pt) : (Value.agg (poD A).toArray).formed Try.prog 35 = true := by rw [poD_ex]; exact formPo _ _ _
end Go.Proofs.Ytfaobdakpbpkbaa
