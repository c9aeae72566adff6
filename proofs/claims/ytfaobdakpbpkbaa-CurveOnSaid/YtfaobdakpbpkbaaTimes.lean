/-
  mont.Mod.Times: Montgomery's product. Conditions: the second factor is below the modulus.
-/
import Derived.Test.YtfaobdakpbpkbaaModS
namespace Go.Pt
open Go.RowKit
theorem hpHead {w0 w : World} {x : Blk} {H : List Blk} (h : Hp w0 (x :: H) w) (hH : ∀ y ∈ H, w0.heap.size ≤ y.b) : Hp w0 [x] w :=
  ⟨h.upd.mono fun k hk hs ho => hs ⟨ho.1, Off.of fun y hy e => by have := hH y hy; omega⟩, ⟨h.own.1, trivial⟩, ⟨trivial, trivial⟩⟩
section
variable {P : Program} {md : Md} {N : Nat} {ops : Array Oper} {rest : List Oper} {Γ : Env} {C : World → Prop} {Q : Exit → Act → World → Prop} {d : Nat} {ty : TypeId} {pos : String} {af : Array Edge} {t : TypeId} {x y : Operand}
theorem Wl.predI {t u : TypeId} {n : Nat} (hd : Nat.blt d N = true) (hx : ev Γ x = some (.int .i64 ((n + 1 : Nat) : Int))) (hy : ev Γ y = some (.int .i64 1)) (hb : n < 9223372036854775807) (h : Wl rest P md ops N ((d, .int .i64 (n : Int)) :: Γ) C Q) : Wl (⟨some d, .binOp .sub t x y u, ty, pos, af, none⟩ :: rest) P md ops N Γ C Q :=
  Wl.subI hd hx hy (by omega) (by rw [show ((n + 1 : Nat) : Int) - 1 = (n : Int) by omega]; exact h)
theorem Wl.sliceToArr {n e : Nat} [ht : TyD P t (.array n e)] {a : Addr} {l c : Nat} (hd : Nat.blt d N = true) (hx : ev Γ x = some (.slice (some a) l c)) (hn : n ≤ l) (h : Wl rest P md ops N ((d, .pointer (some a)) :: Γ) C Q) : Wl (⟨some d, .sliceToArrayPointer t x, ty, pos, af, none⟩ :: rest) P md ops N Γ C Q :=
  Wl.val hd (fun a' w ha _ => by simp [execOp, ha.ev hx, Instr.arrayAt, run_underlying ht.out, show ¬ l < n by omega]) h
theorem Wl.sliceArrF {e sz by_ n : Nat} [ht : TyD P t (.array n e)] [TyS P e sz by_] {b o h' : Nat} {z : Operand} {k : IntKind} (hd : Nat.blt d N = true) (hx : ev Γ x = some (.pointer (some ⟨b, o, none⟩))) (hz : ev Γ z = some (.int k (h' : Int))) (h2 : h' ≤ n) (hn : n ≠ 0)
    (h : Wl rest P md ops N ((d, .slice (some ⟨b, o, none⟩) h' n) :: Γ) C Q) : Wl (⟨some d, .slice t x none (some z) none, ty, pos, af, none⟩ :: rest) P md ops N Γ C Q :=
  Wl.val hd (fun a w ha _ => by
    have e2 : ∀ c, (Instr.sliceBound (.int k (h' : Int)) n c).run P w = .ok h' w := fun c => by
      simp only [Instr.sliceBound, asIntOf, pure_bind]
      rw [if_pos (by omega)]
      simp
    simp [execOp, ha.ev hx, ha.ev hz, Instr.sliceAt, run_underlying ht.out, Instr.sureAddr, Instr.sliceBounds, e2, run_size (P := P) (t := e), Addr.add, hn]) h
/-- the first n cells of a longer array -/
theorem cellsN_take {k : IntKind} {n m : Nat} {f : Nat → Nat} (h : n ≤ m) : LSub (cellsN k m f) 0 n (cellsN k n f) := by
  have key : ∀ (l : List Value) n, n ≤ l.length → LSub l 0 n (l.take n) := by
    intro l
    induction l with
    | nil => intro n hn; have : n = 0 := by simpa using hn
             subst this; exact .z
    | cons x r ih =>
      intro n hn
      cases n with
      | zero => exact .z
      | succ n => exact .t (ih n (by simpa using hn))
  have e : (cellsN k m f).take n = cellsN k n f := by
    unfold cellsN
    rw [← List.map_take, List.take_range, Nat.min_eq_left h]
  rw [← e]
  exact key _ _ (by rw [cellsN_len]; exact h)
theorem Wl.loadT {w0 : World} {H : List Blk} {n m bt : Nat} [TyA P t n] {c : Nat} {k : IntKind} {f : Nat → Nat} (hd : Nat.blt d N = true) (hx : ev Γ x = some (.pointer (some ⟨c, 0, none⟩))) (hm : (⟨c, cellsN k m f, bt⟩ : Blk) ∈ H) (hn : n ≤ m)
    (h : Wl rest P md ops N ((d, .agg (cellsN k n f).toArray) :: Γ) (Hp w0 H) Q) : Wl (⟨some d, .load t x, ty, pos, af, none⟩ :: rest) P md ops N Γ (Hp w0 H) Q :=
  Wl.loadAH hd hx hm (cellsN_take hn) h
end
end Go.Pt
namespace Go.Proofs.Ytfaobdakpbpkbaa
open Go.RowKit Go.Pt
/-- nine words of T, and one that is left over -/
def t9 (T u : Nat) : Nat → Nat := fun j => if j < 9 then dg W32 T j else u
theorem t9_lo {T u j : Nat} (h : j < 9) : t9 T u j = dg W32 T j := if_pos h
theorem hi_div (B n i : Nat) : hi B (n / B) i = hi B n (i + 1) := by unfold hi; rw [Nat.div_div_eq_div_mul, ← Nat.pow_succ']
theorem hi9_small {S : Nat} (h : S < W256 * 4294967296 * 4294967296) : hi W32 S 9 < 4294967296 := by
  unfold hi
  rw [Nat.div_lt_iff_lt_mul (by decide)]
  have e : W32 ^ 9 * 4294967296 = W256 * 4294967296 * 4294967296 := by decide
  omega
set_option maxHeartbeats 4000000 in
theorem modTimes (b m neg x y : Nat) (w : World) (hM : ArrAt w b 0 .u32 8 (dg W32 m)) (hN : w.cell? ⟨b, 8, none⟩ = some (.int .u32 neg)) (hneg : (m * neg + 1) % 4294967296 = 0) (hm : m < W256) (hodd : m % 2 = 1) (hx : x < W256) (hy : y < m) :
    Calls Try.prog 37 #[mp b, numV x, numV y] w fun e w' => e = .returned (numV (x * y * rinv m % m)) ∧ Hp w [] w' := by
  have hb := hM.lt (by decide)
  refine enter (args := [_, _, _]) (Γ := [(0, _), (1, _), (2, _)]) Try.func37 Try.ntmps37 rfl (of_decide_eq_true rfl) (.cons rfl (.cons rfl (.cons rfl .nil))) ?_
  repeat' (first | (apply Wl.boxN; exact rfl; exact rfl; intro c hc ho) | (apply Wl.allocN; exact rfl; (first | exact z8 | exact z16 | exact z17 | exact z33 | exact z10); intro c hc ho) | (apply Wl.move; exact rfl; exact rfl) | (apply Wl.eqlPN; exact rfl; exact rfl; exact rfl) | (apply Wl.nil) | (apply St.seq) | (apply St.block) | (apply St.region) | (apply St.condF; exact rfl; (first | with_reducible rfl | with_reducible assumption | decide)) | (apply St.skip) | (apply Gt.next) | (apply Wl.splitP; exact rfl; exact rfl; all_goals (intros; try (exfalso; omega))) | (apply Wl.splitB; exact rfl; exact rfl; all_goals intros) | (apply St.condP; exact rfl; all_goals (intros; try (exfalso; omega))) | (apply St.condB; exact rfl; all_goals intros))
  rename_i ca hca hoa cb hcb hob cr hcr hor
  generalize c = ct at *
  refine St.loop (σ := Nat × Nat × Nat) (fun τ => τ.1 ≤ 8 ∧ τ.2.1 < 2 * m ∧ τ.2.1 * W32 ^ τ.1 % m = (x % W32 ^ τ.1) * y % m)
    (fun τ => [(0, mp b), (4, mp ca), (5, mp cb), (6, mp cr), (7, mp ct), (16, .int .i64 τ.1)])
    (fun τ => Hp w [⟨ct, cellsN .u32 10 (t9 τ.2.1 τ.2.2), 91⟩, ⟨cr, cellsN .u32 8 fun _ => 0, 24⟩, ⟨cb, cellsN .u32 8 (dg W32 y), 24⟩, ⟨ca, cellsN .u32 8 (dg W32 x), 24⟩])
    (fun τ => 8 - τ.1) (0, 0, 0) ⟨by simp, by simp; omega, by simp [Nat.mod_one]⟩ (by (repeat (first | exact Sub.nil | apply Sub.cons rfl))) (fun _ h => by
      have e : cellsN .u32 10 (t9 0 0) = cellsN .u32 10 (fun _ => 0) := cellsN_congr fun j _ => by unfold t9 dg hi; split <;> simp
      show Hp w [⟨ct, cellsN .u32 10 (t9 0 0), _⟩, _, _, _] _
      rw [e]; exact h) ?_
  rintro ⟨i, T, u⟩ ⟨hi8, hT, hTm⟩
  simp only at hi8 hT hTm ⊢
  by_cases hlt : i < 8
  · have hxi := dlt x i
    repeat' (first | (apply Wl.move; exact rfl; exact rfl) | (apply Wl.assign; exact rfl; exact rfl) | (apply Wl.lss; exact rfl; exact rfl; exact rfl) | (apply Wl.nil) | (apply St.seq) | (apply St.block) | (apply St.region) | (apply St.skip) | (apply Gt.next) | (apply Wl.splitP; exact rfl; exact rfl; all_goals (intros; try (exfalso; omega))) | (apply Wl.splitB; exact rfl; exact rfl; all_goals intros) | (apply St.condP; exact rfl; all_goals (intros; try (exfalso; omega))) | (apply St.condB; exact rfl; all_goals intros))
    refine St.loop (σ := Nat × Nat) (fun τ => τ.1 ≤ 8 ∧ τ.2 < W32 ∧ hi W32 (T + dg W32 x i * y) τ.1 = hi W32 T τ.1 + dg W32 x i * hi W32 y τ.1 + τ.2)
      (fun τ => [(0, mp b), (4, mp ca), (5, mp cb), (6, mp cr), (7, mp ct), (8, .int .i64 i), (9, .int .u64 τ.2), (16, .int .i64 i), (19, .int .i64 τ.1)])
      (fun τ => Hp w [⟨ct, cellsN .u32 10 (fillN (t9 T u) (dg W32 (T + dg W32 x i * y)) τ.1), 91⟩, ⟨cr, cellsN .u32 8 fun _ => 0, 24⟩, ⟨cb, cellsN .u32 8 (dg W32 y), 24⟩, ⟨ca, cellsN .u32 8 (dg W32 x), 24⟩])
      (fun τ => 8 - τ.1) (0, 0) ⟨by simp, by decide, by simp [hi_zero]⟩ (by (repeat (first | exact Sub.nil | apply Sub.cons rfl))) (fun _ h => by simpa only [fillN_zero] using h) ?_
    rintro ⟨k, c⟩ ⟨hk8, hc32, hk⟩
    simp only at hk8 hc32 hk ⊢
    by_cases hkl : k < 8
    · have hyk := dlt y k
      have hTk := dlt T k
      have hf : fillN (t9 T u) (dg W32 (T + dg W32 x i * y)) k k = dg W32 T k := (fillN_at (Nat.le_refl _)).trans (t9_lo (by omega))
      obtain ⟨p1, p2, p3, p4⟩ := mul_step hxi hc32 hk
      rw [← hf] at p1 hTk
      have q1 : dg W32 x i * dg W32 y k + fillN (t9 T u) (dg W32 (T + dg W32 x i * y)) k k < 18446744073709551616 := by omega
      have q2 : dg W32 x i * dg W32 y k < 18446744073709551616 := by omega
      repeat' (first | (apply Wl.indexA; exact rfl; exact rfl; exact rfl; (omega)) | (apply Wl.loadN; exact rfl; exact rfl; (repeat (first | exact List.Mem.head _ | apply List.Mem.tail)); (omega)) | (apply Wl.storeN; exact rfl; exact rfl; (repeat (first | apply HSet.here | apply HSet.there)); (omega)) | (apply Wl.addNU; exact rfl; exact rfl; exact rfl; (first | assumption | omega)) | (apply Wl.mulNU; exact rfl; exact rfl; exact rfl; (first | assumption | omega)) | (apply Wl.shr32; exact rfl; exact rfl; exact rfl) | (apply Wl.convN32 (k := .u64); exact rfl; exact rfl) | (apply Wl.move; exact rfl; exact rfl) | (apply Wl.assign; exact rfl; exact rfl) | (apply Wl.lss; exact rfl; exact rfl; exact rfl) | (apply Wl.addI; exact rfl; exact rfl; exact rfl; (constructor <;> omega)) | (apply Wl.convU64; exact rfl; exact rfl; (constructor <;> omega)) | (apply Wl.nil) | (apply Wl.nilQ) | (apply St.seq) | (apply St.block) | (apply St.region) | (apply St.draw; exact mixed; (kernel_rfl); exact (fun _ h => Hp.drew h)) | (apply St.skip) | (apply Gt.next) | (apply Gt.inNormal) | (apply Wl.splitP; exact rfl; exact rfl; all_goals (intros; try (exfalso; omega))) | (apply Wl.splitB; exact rfl; exact rfl; all_goals intros) | (apply St.condP; exact rfl; all_goals (intros; try (exfalso; omega))) | (apply St.condB; exact rfl; all_goals intros))
      rw [hf, p2]
      apply Gt.round (k + 1, (c + (dg W32 x i * dg W32 y k + dg W32 T k)) / 4294967296)
      rotate_left
      · simp only; omega
      · (repeat (first | exact Sub.nil | apply Sub.cons rfl))
      · exact fun _ h => by rw [fillN_step] at h; exact h
      · exact ⟨by simp only; omega, p4, p3⟩
    have hke : k = 8 := by omega
    subst hke
    obtain ⟨ms1, ms2, ms3⟩ := mont_step hneg hy hT hTm
    generalize hSe : T + dg W32 x i * y = S at *
    have hT8 : hi W32 T 8 < 2 := by rw [hi8_eq]; exact Nat.div_lt_of_lt_mul (by omega)
    have hd8 : dg W32 T 8 = hi W32 T 8 := Nat.mod_eq_of_lt (Nat.lt_of_lt_of_le hT8 (by decide))
    have hS8 : c + dg W32 T 8 = hi W32 S 8 := by rw [hk, hi8_lt (show y < W256 by omega), Nat.mul_zero, hd8]; omega
    have hf8 : fillN (t9 T u) (dg W32 S) 8 8 = dg W32 T 8 := (fillN_at (Nat.le_refl _)).trans (t9_lo (by omega))
    have hF8 := dlt T 8
    rw [← hf8] at hF8
    have hc32' : c < 4294967296 := hc32
    have hS9 : hi W32 S 9 = dg W32 S 9 := by
      have h9 : hi W32 S 9 = hi W32 S 8 / 4294967296 := hi_succ _ _ _
      exact (Nat.mod_eq_of_lt (by unfold W32 at *; omega)).symm
    repeat' (first | (apply Wl.indexA (j := 8); exact rfl; exact rfl; exact rfl; (decide)) | (apply Wl.indexA (j := 9); exact rfl; exact rfl; exact rfl; (decide)) | (apply Wl.loadN; exact rfl; exact rfl; (repeat (first | exact List.Mem.head _ | apply List.Mem.tail)); (omega)) | (apply Wl.storeN; exact rfl; exact rfl; (repeat (first | apply HSet.here | apply HSet.there)); (omega)) | (apply Wl.addNU; exact rfl; exact rfl; exact rfl; (first | assumption | omega)) | (apply Wl.shr32; exact rfl; exact rfl; exact rfl) | (apply Wl.convN32 (k := .u64); exact rfl; exact rfl) | (apply Wl.move; exact rfl; exact rfl) | (apply Wl.assign; exact rfl; exact rfl) | (apply Wl.lss; exact rfl; exact rfl; exact rfl) | (apply Wl.convU64; exact rfl; exact rfl; (constructor <;> omega)) | (apply Wl.nil) | (apply St.seq) | (apply St.region) | (apply St.condF; exact rfl; (first | with_reducible rfl | with_reducible assumption | decide)) | (apply St.exit) | (apply Gt.next) | (apply Gt.thenExit) | (apply Gt.inExit) | (apply Wl.splitP; exact rfl; exact rfl; all_goals (intros; try (exfalso; omega))) | (apply Wl.splitB; exact rfl; exact rfl; all_goals intros) | (apply St.condP; exact rfl; all_goals (intros; try (exfalso; omega))) | (apply St.condB; exact rfl; all_goals intros))
    have ec : cellsN .u32 10 (updN (updN (fillN (t9 T u) (dg W32 S) 8) 8 ((c + fillN (t9 T u) (dg W32 S) 8 8) % 4294967296)) 9 ((c + fillN (t9 T u) (dg W32 S) 8 8) / 4294967296 % 4294967296)) = cellsN .u32 10 (dg W32 S) := by
      rw [hf8, hS8]
      refine cellsN_congr fun j hj => ?_
      unfold updN
      split
      · rename_i e; subst e; show _ = hi W32 S (8 + 1) % W32; rw [hi_succ W32 S 8]
      · split
        · rename_i e; subst e; rfl
        · exact fillN_lo (by omega)
    refine St.cls (C' := Hp w [⟨ct, cellsN .u32 10 (dg W32 S), 91⟩, ⟨cr, cellsN .u32 8 fun _ => 0, 24⟩, ⟨cb, cellsN .u32 8 (dg W32 y), 24⟩, ⟨ca, cellsN .u32 8 (dg W32 x), 24⟩]) (fun _ h => by rw [ec] at h; exact h) ?_
    clear ec hf8 hF8 hk hc32 hc32'
    have hS0 : dg W32 S 0 = S % 4294967296 := by unfold dg; rw [hi_zero]
    rw [← hS0] at ms1 ms2 ms3
    generalize hQ : dg W32 S 0 * neg % 4294967296 = q at *
    have hq32 : q < 4294967296 := by rw [← hQ]; exact Nat.mod_lt _ (by decide)
    have hm0 := dlt m 0
    have hs0 := dlt S 0
    obtain ⟨p1, p2, p3, p4⟩ := mul_step (t := S) (x := q) (y := m) (c := 0) (i := 0) hq32 (by decide) (by simp [hi_zero])
    simp only [Nat.zero_add] at p1 p2 p3 p4
    have q2 : q * dg W32 m 0 < 18446744073709551616 := by omega
    apply St.draw
    · exact mixed
    · kernel_rfl
    · exact fun _ h => Hp.drew h
    repeat' (first | (apply Wl.indexA (j := 0); exact rfl; exact rfl; exact rfl; (decide)) | (apply Wl.loadO; exact rfl; exact rfl; exact hN; (apply Off.of; simp; omega)) | (apply Wl.loadN; exact rfl; exact rfl; (repeat (first | exact List.Mem.head _ | apply List.Mem.tail)); (omega)) | (apply Wl.mulN32; exact rfl; exact rfl; exact rfl) | (apply Wl.move; exact rfl; exact rfl) | (apply Wl.assign; exact rfl; exact rfl) | (apply Wl.nilCheck; exact rfl; exact rfl) | (apply Wl.fieldAddrZ; exact rfl; exact rfl) | (apply Wl.nilQ) | (apply St.seq) | (apply Gt.next) | (apply Wl.splitP; exact rfl; exact rfl; all_goals (intros; try (exfalso; omega))) | (apply Wl.splitB; exact rfl; exact rfl; all_goals intros) | (apply St.condP; exact rfl; all_goals (intros; try (exfalso; omega))) | (apply St.condB; exact rfl; all_goals intros))
    rw [hQ]
    apply St.draw
    · exact mixed
    · kernel_rfl
    · exact fun _ h => Hp.drew h
    repeat' (first | (apply Wl.indexA (j := 0); exact rfl; exact rfl; exact rfl; (decide)) | (apply Wl.loadME; exact rfl; exact rfl; exact hM; (apply Off.of; simp; omega); (decide)) | (apply Wl.loadN; exact rfl; exact rfl; (repeat (first | exact List.Mem.head _ | apply List.Mem.tail)); (omega)) | (apply Wl.addNU; exact rfl; exact rfl; exact rfl; (first | assumption | omega)) | (apply Wl.mulNU; exact rfl; exact rfl; exact rfl; (first | assumption | omega)) | (apply Wl.shr32; exact rfl; exact rfl; exact rfl) | (apply Wl.move; exact rfl; exact rfl) | (apply Wl.assign; exact rfl; exact rfl) | (apply Wl.nilCheck; exact rfl; exact rfl) | (apply Wl.fieldAddr0; exact rfl; exact rfl) | (apply Wl.convU64; exact rfl; exact rfl; (constructor <;> omega)) | (apply Wl.nil) | (apply Wl.nilQ) | (apply St.seq) | (apply St.block) | (apply St.region) | (apply Gt.next) | (apply Wl.splitP; exact rfl; exact rfl; all_goals (intros; try (exfalso; omega))) | (apply Wl.splitB; exact rfl; exact rfl; all_goals intros) | (apply St.condP; exact rfl; all_goals (intros; try (exfalso; omega))) | (apply St.condB; exact rfl; all_goals intros))
    generalize hS2 : S + q * m = S2 at *
    have hR (j : Nat) : hi W32 (S2 / 4294967296) j = hi W32 S2 (j + 1) := hi_div W32 S2 j
    refine St.loop (σ := Nat × Nat) (fun τ => τ.1 ≤ 7 ∧ τ.2 < W32 ∧ hi W32 S2 (τ.1 + 1) = hi W32 S (τ.1 + 1) + q * hi W32 m (τ.1 + 1) + τ.2)
      (fun τ => [(0, mp b), (4, mp ca), (5, mp cb), (6, mp cr), (7, mp ct), (8, .int .i64 i), (9, .int .u64 τ.2), (11, .int .u32 q), (12, .int .i64 (τ.1 + 1 : Nat)), (16, .int .i64 i)])
      (fun τ => Hp w [⟨ct, cellsN .u32 10 (fillN (dg W32 S) (dg W32 (S2 / 4294967296)) τ.1), 91⟩, ⟨cr, cellsN .u32 8 fun _ => 0, 24⟩, ⟨cb, cellsN .u32 8 (dg W32 y), 24⟩, ⟨ca, cellsN .u32 8 (dg W32 x), 24⟩])
      (fun τ => 7 - τ.1) (0, (q * dg W32 m 0 + dg W32 S 0) / 4294967296) ⟨by simp, p4, p3⟩ (by (repeat (first | exact Sub.nil | apply Sub.cons rfl))) (fun _ h => by simpa only [fillN_zero] using h) ?_
    clear p1 p2 p3 p4 q2
    rintro ⟨k, c⟩ ⟨hk7, hc32, hk⟩
    simp only at hk7 hc32 hk ⊢
    by_cases hkl : k < 7
    · have hmk := dlt m (k + 1)
      have hSk := dlt S (k + 1)
      have hf : fillN (dg W32 S) (dg W32 (S2 / 4294967296)) k (k + 1) = dg W32 S (k + 1) := fillN_at (by omega)
      rw [← hS2] at hk
      obtain ⟨p1, p2, p3, p4⟩ := mul_step hq32 hc32 hk
      rw [hS2] at p2 p3
      have p2' : (c + (q * dg W32 m (k + 1) + dg W32 S (k + 1))) % 4294967296 = dg W32 (S2 / 4294967296) k := by rw [p2]; unfold dg; rw [hR]
      rw [← hf] at p1 hSk
      have q1 : q * dg W32 m (k + 1) + fillN (dg W32 S) (dg W32 (S2 / 4294967296)) k (k + 1) < 18446744073709551616 := by omega
      have q2 : q * dg W32 m (k + 1) < 18446744073709551616 := by omega
      repeat' (first | (apply Wl.predI; exact rfl; exact rfl; exact rfl; (omega)) | (apply Wl.loadME; exact rfl; exact rfl; exact hM; (apply Off.of; simp; omega); (omega)) | (apply Wl.indexA; exact rfl; exact rfl; exact rfl; (omega)) | (apply Wl.loadN; exact rfl; exact rfl; (repeat (first | exact List.Mem.head _ | apply List.Mem.tail)); (omega)) | (apply Wl.storeN; exact rfl; exact rfl; (repeat (first | apply HSet.here | apply HSet.there)); (omega)) | (apply Wl.addNU; exact rfl; exact rfl; exact rfl; (first | assumption | omega)) | (apply Wl.mulNU; exact rfl; exact rfl; exact rfl; (first | assumption | omega)) | (apply Wl.shr32; exact rfl; exact rfl; exact rfl) | (apply Wl.convN32 (k := .u64); exact rfl; exact rfl) | (apply Wl.move; exact rfl; exact rfl) | (apply Wl.assign; exact rfl; exact rfl) | (apply Wl.nilCheck; exact rfl; exact rfl) | (apply Wl.fieldAddr0; exact rfl; exact rfl) | (apply Wl.lss; exact rfl; exact rfl; exact rfl) | (apply Wl.addI; exact rfl; exact rfl; exact rfl; (constructor <;> omega)) | (apply Wl.convU64; exact rfl; exact rfl; (constructor <;> omega)) | (apply Wl.nil) | (apply Wl.nilQ) | (apply St.seq) | (apply St.block) | (apply St.region) | (apply St.draw; exact mixed; (kernel_rfl); exact (fun _ h => Hp.drew h)) | (apply St.skip) | (apply Gt.next) | (apply Gt.inNormal) | (apply Wl.splitP; exact rfl; exact rfl; all_goals (intros; try (exfalso; omega))) | (apply Wl.splitB; exact rfl; exact rfl; all_goals intros) | (apply St.condP; exact rfl; all_goals (intros; try (exfalso; omega))) | (apply St.condB; exact rfl; all_goals intros))
      rw [hf, p2']
      apply Gt.round (k + 1, (c + (q * dg W32 m (k + 1) + dg W32 S (k + 1))) / 4294967296)
      rotate_left
      · simp only; omega
      · (repeat (first | exact Sub.nil | apply Sub.cons rfl))
      · exact fun _ h => by rw [fillN_step] at h; exact h
      · exact ⟨by simp only; omega, p4, p3⟩
    · have hke : k = 7 := by omega
      subst hke
      have hc32' : c < 4294967296 := hc32
      have f8 : fillN (dg W32 S) (dg W32 (S2 / 4294967296)) 7 8 = dg W32 S 8 := fillN_at (by omega)
      have f9 : fillN (dg W32 S) (dg W32 (S2 / 4294967296)) 7 9 = dg W32 S 9 := fillN_at (by omega)
      have h8 := dlt S 8
      have h9 := dlt S 9
      have h8' := h8
      have h9' := h9
      rw [← f8] at h8'
      rw [← f9] at h9'
      repeat' (first | (apply Wl.indexA (j := 7); exact rfl; exact rfl; exact rfl; (decide)) | (apply Wl.indexA (j := 8); exact rfl; exact rfl; exact rfl; (decide)) | (apply Wl.indexA (j := 9); exact rfl; exact rfl; exact rfl; (decide)) | (apply Wl.loadN; exact rfl; exact rfl; (repeat (first | exact List.Mem.head _ | apply List.Mem.tail)); (omega)) | (apply Wl.storeN; exact rfl; exact rfl; (repeat (first | apply HSet.here | apply HSet.there)); (omega)) | (apply Wl.addNU; exact rfl; exact rfl; exact rfl; (first | assumption | omega)) | (apply Wl.shr32; exact rfl; exact rfl; exact rfl) | (apply Wl.convN32 (k := .u64); exact rfl; exact rfl) | (apply Wl.addN32; exact rfl; exact rfl; exact rfl) | (apply Wl.move; exact rfl; exact rfl) | (apply Wl.assign; exact rfl; exact rfl) | (apply Wl.lss; exact rfl; exact rfl; exact rfl) | (apply Wl.addI; exact rfl; exact rfl; exact rfl; (constructor <;> omega)) | (apply Wl.convU64; exact rfl; exact rfl; (constructor <;> omega)) | (apply Wl.nil) | (apply St.seq) | (apply St.region) | (apply St.condF; exact rfl; (first | with_reducible rfl | with_reducible assumption | decide)) | (apply St.exit) | (apply Gt.next) | (apply Gt.thenExit) | (apply Gt.inNormal) | (apply Gt.inExit) | (apply Wl.splitP; exact rfl; exact rfl; all_goals (intros; try (exfalso; omega))) | (apply Wl.splitB; exact rfl; exact rfl; all_goals intros) | (apply St.condP; exact rfl; all_goals (intros; try (exfalso; omega))) | (apply St.condB; exact rfl; all_goals intros))
      have hR8 : hi W32 (S2 / 4294967296) 8 < 2 := by rw [hi8_eq]; exact Nat.div_lt_of_lt_mul (by omega)
      have hs := hi_eq W32 S 8
      rw [hS9] at hs
      have hs : hi W32 S 8 = 4294967296 * dg W32 S 9 + dg W32 S 8 := hs
      have hk' : hi W32 S2 8 = c + dg W32 S 8 + 4294967296 * dg W32 S 9 := by
        rw [hk, hs, hi8_lt hm, Nat.mul_zero]
        omega
      have hR7 : dg W32 (S2 / 4294967296) 7 = (c + dg W32 S 8) % 4294967296 := by
        show hi W32 (S2 / 4294967296) 7 % 4294967296 = _
        rw [hR, hk']; omega
      have hR8' : hi W32 (S2 / 4294967296) 8 = (c + dg W32 S 8) / 4294967296 + dg W32 S 9 := by
        rw [hR, hi_succ W32 S2 8, hk']
        show (c + dg W32 S 8 + 4294967296 * dg W32 S 9) / 4294967296 = _
        omega
      have hR8d : dg W32 (S2 / 4294967296) 8 = (dg W32 S 9 + (c + dg W32 S 8) / 4294967296 % 4294967296) % 4294967296 := by
        show hi W32 (S2 / 4294967296) 8 % 4294967296 = _
        rw [hR8'] at hR8 ⊢
        omega
      have ec : cellsN .u32 10 (updN (updN (fillN (dg W32 S) (dg W32 (S2 / 4294967296)) 7) 7 ((c + dg W32 S 8) % 4294967296)) 8 ((dg W32 S 9 + (c + dg W32 S 8) / 4294967296 % 4294967296) % 4294967296)) = cellsN .u32 10 (t9 (S2 / 4294967296) (dg W32 S 9)) := by
        refine cellsN_congr fun j hj => ?_
        unfold updN t9
        by_cases e8 : j = 8
        · subst e8; simp [hR8d]
        · by_cases e7 : j = 7
          · subst e7; simp [hR7]
          · rw [if_neg e8, if_neg e7]
            by_cases e9 : j < 9
            · rw [if_pos e9]; exact fillN_lo (by omega)
            · have : j = 9 := by omega
              subst this
              rw [if_neg e9]; exact f9
      rw [f8, f9]
      apply Gt.round (i + 1, S2 / 4294967296, dg W32 S 9)
      rotate_left
      · simp only; omega
      · (repeat (first | exact Sub.nil | apply Sub.cons rfl))
      · exact fun _ h => by rw [ec] at h; exact h
      · exact ⟨by simp only; omega, ms2, ms3⟩
  · have : i = 8 := by omega
    subst this
    have e8 : cellsN .u32 8 (t9 T u) = cellsN .u32 8 (dg W32 (T % W256)) := by rw [d8_mod]; exact cellsN_congr fun j hj => t9_lo (by omega)
    have hT8 : hi W32 T 8 < 2 := by rw [hi8_eq]; exact Nat.div_lt_of_lt_mul (by omega)
    have e9 : t9 T u 8 = T / W256 := by rw [t9_lo (by decide), ← hi8_eq]; exact Nat.mod_eq_of_lt (Nat.lt_of_lt_of_le hT8 (by decide))
    have hfin : T % m = x * y * rinv m % m := unW hodd (by
      rw [two56, Nat.mod_eq_of_lt hx] at hTm
      exact hTm)
    repeat' (first | (apply Wl.lss; exact rfl; exact rfl; exact rfl) | (apply Wl.nil) | (apply St.seq) | (apply St.region) | (apply St.condF; exact rfl; (first | with_reducible rfl | with_reducible assumption | decide)) | (apply St.exit) | (apply Gt.next) | (apply Gt.thenExit) | (apply Gt.inExit) | (apply Wl.splitP; exact rfl; exact rfl; all_goals (intros; try (exfalso; omega))) | (apply Wl.splitB; exact rfl; exact rfl; all_goals intros) | (apply St.condP; exact rfl; all_goals (intros; try (exfalso; omega))) | (apply St.condB; exact rfl; all_goals intros))
    refine St.tree (Hp w [_]) mixed (fun _ h => ⟨Hp.drew h, hpHead (Hp.drew h) (by simp; omega)⟩) ?_
    refine Mt.pure 0 (by decide +kernel) (by exact rfl) (by exact rfl) (by decide +kernel) (by decide +kernel) ?_
    repeat' (first | (apply Wl.move; exact rfl; exact rfl) | (apply Wl.nilM) | (apply Wl.splitP; exact rfl; exact rfl; all_goals (intros; try (exfalso; omega))) | (apply Wl.splitB; exact rfl; exact rfl; all_goals intros) | (apply St.condP; exact rfl; all_goals (intros; try (exfalso; omega))) | (apply St.condB; exact rfl; all_goals intros))
    apply Mt.back
    refine Mt.pure 1 (by decide +kernel) (by exact rfl) (by exact rfl) (by decide +kernel) (by decide +kernel) ?_
    repeat' (first | (apply Wl.sliceArrF (h' := 8); exact rfl; exact rfl; exact rfl; (decide); (decide)) | (apply Wl.nilM) | (apply Wl.splitP; exact rfl; exact rfl; all_goals (intros; try (exfalso; omega))) | (apply Wl.splitB; exact rfl; exact rfl; all_goals intros) | (apply St.condP; exact rfl; all_goals (intros; try (exfalso; omega))) | (apply St.condB; exact rfl; all_goals intros))
    apply Mt.back
    refine Mt.pure 2 (by decide +kernel) (by exact rfl) (by exact rfl) (by decide +kernel) (by decide +kernel) ?_
    repeat' (first | (apply Wl.sliceToArr; exact rfl; exact rfl; (decide)) | (apply Wl.nilM) | (apply Wl.splitP; exact rfl; exact rfl; all_goals (intros; try (exfalso; omega))) | (apply Wl.splitB; exact rfl; exact rfl; all_goals intros) | (apply St.condP; exact rfl; all_goals (intros; try (exfalso; omega))) | (apply St.condB; exact rfl; all_goals intros))
    apply Mt.back
    refine Mt.pure 3 (by decide +kernel) (by exact rfl) (by exact rfl) (by decide +kernel) (by decide +kernel) ?_
    repeat' (first | (apply Wl.loadT; exact rfl; exact rfl; (repeat (first | exact List.Mem.head _ | apply List.Mem.tail)); (decide)) | (apply Wl.nilM) | (apply Wl.splitP; exact rfl; exact rfl; all_goals (intros; try (exfalso; omega))) | (apply Wl.splitB; exact rfl; exact rfl; all_goals intros) | (apply St.condP; exact rfl; all_goals (intros; try (exfalso; omega))) | (apply St.condB; exact rfl; all_goals intros))
    apply Mt.back
    refine Mt.pure 4 (by decide +kernel) (by exact rfl) (by exact rfl) (by decide +kernel) (by decide +kernel) ?_
    repeat' (first | (apply Wl.indexA (j := 8); exact rfl; exact rfl; exact rfl; (decide)) | (apply Wl.nilM) | (apply Wl.splitP; exact rfl; exact rfl; all_goals (intros; try (exfalso; omega))) | (apply Wl.splitB; exact rfl; exact rfl; all_goals intros) | (apply St.condP; exact rfl; all_goals (intros; try (exfalso; omega))) | (apply St.condB; exact rfl; all_goals intros))
    apply Mt.back
    refine Mt.pure 5 (by decide +kernel) (by exact rfl) (by exact rfl) (by decide +kernel) (by decide +kernel) ?_
    repeat' (first | (apply Wl.loadN; exact rfl; exact rfl; (repeat (first | exact List.Mem.head _ | apply List.Mem.tail)); (omega)) | (apply Wl.nilM) | (apply Wl.splitP; exact rfl; exact rfl; all_goals (intros; try (exfalso; omega))) | (apply Wl.splitB; exact rfl; exact rfl; all_goals intros) | (apply St.condP; exact rfl; all_goals (intros; try (exfalso; omega))) | (apply St.condB; exact rfl; all_goals intros))
    apply Mt.back
    rw [e8, e9]
    refine Mt.eff1 (i := 6) (by decide +kernel) (by exact rfl) ?_
    apply Wl.callQ
    exact rfl
    (repeat (first | exact Evs.nil | apply Evs.cons rfl))
    · intro wq hq
      refine (modFit b m (T % W256) (T / W256) wq (hM.hp hq (by apply Off.of; simp; omega)) hm (Nat.mod_lt _ (by decide)) (by rw [← hi8_eq]; omega) (by rw [Nat.mod_add_div]; exact hT)).mono ?_
      rintro e wr ⟨rfl, hr⟩
      exact ⟨rfl, hq.keep hr⟩
    rw [Nat.mod_add_div, hfin]
    repeat' (first | (apply Wl.nil) | (apply Wl.splitP; exact rfl; exact rfl; all_goals (intros; try (exfalso; omega))) | (apply Wl.splitB; exact rfl; exact rfl; all_goals intros) | (apply St.condP; exact rfl; all_goals (intros; try (exfalso; omega))) | (apply St.condB; exact rfl; all_goals intros))
    refine Mt.backE (fun _ h => hpHead h (by simp; omega)) ?_
    refine Mt.eff1 (i := 7) (by decide +kernel) (by exact rfl) ?_
    repeat' (first | (apply Wl.storeW; exact rfl; exact rfl; (repeat (first | apply HSet.here | apply HSet.there)); exact rfl; (first | exact cellsN_len _ _ _ | exact rfl)) | (apply Wl.nil) | (apply Wl.splitP; exact rfl; exact rfl; all_goals (intros; try (exfalso; omega))) | (apply Wl.splitB; exact rfl; exact rfl; all_goals intros) | (apply St.condP; exact rfl; all_goals (intros; try (exfalso; omega))) | (apply St.condB; exact rfl; all_goals intros))
    refine Mt.backE (fun _ h => hpHead h (by simp; omega)) ?_
    refine Mt.toGt (by decide +kernel) ?_
    repeat' (first | (apply Gt.outN; exact rfl; infer_instance; exact rfl; (repeat (first | exact List.Mem.head _ | apply List.Mem.tail)); exact rfl; intro w' hp) | (apply St.ret) | (apply Gt.next) | (apply Wl.splitP; exact rfl; exact rfl; all_goals (intros; try (exfalso; omega))) | (apply Wl.splitB; exact rfl; exact rfl; all_goals intros) | (apply St.condP; exact rfl; all_goals (intros; try (exfalso; omega))) | (apply St.condB; exact rfl; all_goals intros))
    exact ⟨rfl, hp.drop (by simp; omega)⟩
end Go.Proofs.Ytfaobdakpbpkbaa
