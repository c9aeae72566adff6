/-
  csr.File.Read of four registers, Due, Trap, Back: what they hand back, and the bits of the status that they leave. Conditions: the file lies in a block of its own.
-/
import Derived.Test.YtcefkbnachnciaaDoorCsrP
namespace Go.Proofs.YtcefkbnachnciaaDoor
open Go.RowKit Go.Pt
/-- bit j of a number of 32 bits -/
def tb (a : Int) (j : Nat) : Bool := (BitVec.ofInt 32 a).getLsbD j
theorem ofInt_toNat (x : BitVec 32) : BitVec.ofInt 32 (x.toNat : Int) = x := by
  rw [BitVec.ofInt_natCast]; simp
theorem bits_and32 (a b : Int) : bits .and .u32 a b = (((BitVec.ofInt 32 a) &&& (BitVec.ofInt 32 b)).toNat : Int) := by
  show IntKind.u32.wrap (((BitVec.ofInt 32 a) &&& (BitVec.ofInt 32 b)).toNat : Int) = _
  exact IntWalk.u32_in _ ⟨by omega, by have := ((BitVec.ofInt 32 a) &&& (BitVec.ofInt 32 b)).isLt; omega⟩
theorem bits_or32 (a b : Int) : bits .or .u32 a b = (((BitVec.ofInt 32 a) ||| (BitVec.ofInt 32 b)).toNat : Int) := by
  show IntKind.u32.wrap (((BitVec.ofInt 32 a) ||| (BitVec.ofInt 32 b)).toNat : Int) = _
  exact IntWalk.u32_in _ ⟨by omega, by have := ((BitVec.ofInt 32 a) ||| (BitVec.ofInt 32 b)).isLt; omega⟩
theorem bits_andNot32 (a b : Int) : bits .andNot .u32 a b = (((BitVec.ofInt 32 a) &&& ~~~(BitVec.ofInt 32 b)).toNat : Int) := by
  show IntKind.u32.wrap (((BitVec.ofInt 32 a) &&& ~~~(BitVec.ofInt 32 b)).toNat : Int) = _
  exact IntWalk.u32_in _ ⟨by omega, by have := ((BitVec.ofInt 32 a) &&& ~~~(BitVec.ofInt 32 b)).isLt; omega⟩
theorem tb_and (a b : Int) (j : Nat) : tb (bits .and .u32 a b) j = (tb a j && tb b j) := by unfold tb; rw [bits_and32, ofInt_toNat, BitVec.getLsbD_and]
theorem tb_or (a b : Int) (j : Nat) : tb (bits .or .u32 a b) j = (tb a j || tb b j) := by unfold tb; rw [bits_or32, ofInt_toNat, BitVec.getLsbD_or]
theorem tb_andNot (a b : Int) (j : Nat) (hj : j < 32) : tb (bits .andNot .u32 a b) j = (tb a j && !tb b j) := by unfold tb; rw [bits_andNot32, ofInt_toNat, BitVec.getLsbD_and, BitVec.getLsbD_not]; simp [hj]
theorem and8 (a : Int) : bits .and .u32 a 8 = if tb a 3 then 8 else 0 := by
  rw [bits_and32]
  have : BitVec.ofInt 32 a &&& BitVec.ofInt 32 8 = if tb a 3 then 8#32 else 0#32 := by
    apply BitVec.eq_of_getLsbD_eq
    intro i hi
    have hb : ∀ k : Fin 32, (BitVec.ofInt 32 8).getLsbD k.val = decide (k.val = 3) := by decide
    have hb2 : ∀ k : Fin 32, (8#32).getLsbD k.val = decide (k.val = 3) := by decide
    rw [BitVec.getLsbD_and, hb ⟨i, hi⟩]
    unfold tb
    by_cases e : i = 3
    · subst e; split <;> simp_all
    · split
      · rw [hb2 ⟨i, hi⟩]; simp [e]
      · simp [e]
  rw [this]; split <;> rfl
theorem and128 (a : Int) : bits .and .u32 a 128 = if tb a 7 then 128 else 0 := by
  rw [bits_and32]
  have : BitVec.ofInt 32 a &&& BitVec.ofInt 32 128 = if tb a 7 then 128#32 else 0#32 := by
    apply BitVec.eq_of_getLsbD_eq
    intro i hi
    have hb : ∀ k : Fin 32, (BitVec.ofInt 32 128).getLsbD k.val = decide (k.val = 7) := by decide
    have hb2 : ∀ k : Fin 32, (128#32).getLsbD k.val = decide (k.val = 7) := by decide
    rw [BitVec.getLsbD_and, hb ⟨i, hi⟩]
    unfold tb
    by_cases e : i = 7
    · subst e; split <;> simp_all
    · split
      · rw [hb2 ⟨i, hi⟩]; simp [e]
      · simp [e]
  rw [this]; split <;> rfl
theorem and6144 (a : Int) (h1 : tb a 11 = false) (h2 : tb a 12 = false) : bits .and .u32 a 6144 = 0 := by
  rw [bits_and32]
  have : BitVec.ofInt 32 a &&& BitVec.ofInt 32 6144 = 0#32 := by
    apply BitVec.eq_of_getLsbD_eq
    intro i hi
    have hb : ∀ k : Fin 32, (BitVec.ofInt 32 6144).getLsbD k.val = (decide (k.val = 11) || decide (k.val = 12)) := by decide
    rw [BitVec.getLsbD_and, hb ⟨i, hi⟩]
    unfold tb at h1 h2
    by_cases e : i = 11
    · subst e; rw [h1]; rfl
    · by_cases e2 : i = 12
      · subst e2; rw [h2]; rfl
      · simp [e, e2]
  rw [this]; rfl
theorem tb_nat (n j : Nat) (hj : j < 32) : tb (n : Int) j = decide (n / 2 ^ j % 2 = 1) := by
  unfold tb
  rw [BitVec.ofInt_natCast, BitVec.getLsbD_ofNat, Nat.testBit_eq_decide_div_mod_eq]
  simp [hj]
theorem shr11 (st : Int) (h : 0 ≤ st ∧ st < 4294967296) : IntKind.i64.wrap (bits .and .u32 (st.fdiv (2 ^ min (Int.toNat 11) IntKind.u32.bits)) 3) = (if tb st 11 then 1 else 0) + (if tb st 12 then 2 else 0) := by
  obtain ⟨n, rfl⟩ := Int.eq_ofNat_of_zero_le h.1
  have e : Int.fdiv (n : Int) (2 ^ min (Int.toNat 11) IntKind.u32.bits) = ((n / 2048 : Nat) : Int) := by
    rw [show ((2 : Int) ^ min (Int.toNat 11) IntKind.u32.bits) = 2048 from rfl, Int.fdiv_eq_ediv_of_nonneg _ (by decide)]; rfl
  rw [e]
  have e2 := u32_and_nat (n / 2048) 3 (by omega) (by decide)
  rw [show n / 2048 &&& 3 = n / 2048 % 4 from Nat.and_two_pow_sub_one_eq_mod _ 2] at e2
  rw [show ((3 : Nat) : Int) = 3 from rfl] at e2
  rw [e2, IntWalk.i64_in _ (by constructor <;> omega), tb_nat n 11 (by decide), tb_nat n 12 (by decide)]
  rw [show (2 : Nat) ^ 11 = 2048 from rfl, show (2 : Nat) ^ 12 = 4096 from rfl]
  simp only [decide_eq_true_eq]
  split <;> split <;> omega
set_option linter.unusedVariables false
set_option maxHeartbeats 4000000 in
theorem fread768 (c : Nat) (md st mie mip tv sc ep ca tl : Int) (cs : List Value) (w : World) (hc : w.heap[c]? = some (.cells (.int .i64 md :: .int .u32 st :: .int .u32 mie :: .int .u32 mip :: .int .u32 tv :: .int .u32 sc :: .int .u32 ep :: .int .u32 ca :: .int .u32 tl :: cs).toArray 54 (0, 0))) :
    Calls Tryd.prog 13 #[.pointer (some ⟨c, 0, none⟩), .int .u32 768] w fun e w' => e = .returned (.tuple #[.int .u32 st, .bool true]) ∧ Hp w [] w' := by
  refine enter (args := [_, _]) (Γ := [(0, _), (1, _)]) Tryd.func13 Tryd.ntmps13 rfl (of_decide_eq_true rfl) (.cons rfl (.cons rfl .nil)) ?_
  refine St.cls (C' := Hp w [⟨c, .int .i64 md :: .int .u32 st :: .int .u32 mie :: .int .u32 mip :: .int .u32 tv :: .int .u32 sc :: .int .u32 ep :: .int .u32 ca :: .int .u32 tl :: cs, 54⟩]) (fun _ h' => Hp.open h' hc) ?_
  repeat' (first | (apply Wl.move; exact rfl; exact rfl) | (apply Wl.assign; exact rfl; exact rfl) | (apply Wl.off; exact rfl; exact rfl; exact rfl; (first | with_reducible rfl | (show _ = false; with_reducible assumption) | (show _ = true; with_reducible assumption) | decide)) | (apply Wl.nilCheck; exact rfl; exact rfl) | (apply Wl.pickF; exact rfl; exact rfl; (first | with_reducible rfl | with_reducible assumption | decide); exact rfl) | (apply Wl.fieldAddrZ; exact rfl; exact rfl) | (apply Wl.loadH; exact rfl; exact rfl; (repeat (first | exact List.Mem.head _ | apply List.Mem.tail)); exact rfl) | (apply Wl.eqlPN; exact rfl; exact rfl; exact rfl) | (apply Wl.eqlIs; exact rfl; exact rfl; exact rfl; (first | with_reducible assumption | with_reducible rfl)) | (apply Wl.geq; exact rfl; exact rfl; exact rfl) | (apply Wl.nil) | (apply St.seq) | (apply St.block) | (apply St.region) | (apply St.condT; exact rfl; (first | with_reducible rfl | with_reducible assumption | decide)) | (apply St.condF; exact rfl; (first | with_reducible rfl | with_reducible assumption | decide)) | (apply St.ret) | (apply St.skip) | (apply Gt.next) | (apply Gt.thenRet) | (apply Gt.inNormal) | (apply Gt.inRet) | (apply Gt.out2; exact rfl; exact rfl; exact rfl; intro w' hp) | (apply Wl.splitP; exact rfl; exact rfl; all_goals (intros; try (exfalso; omega))) | (apply Wl.splitB; exact rfl; exact rfl; all_goals intros) | (apply St.condP; exact rfl; all_goals (intros; try (exfalso; omega))) | (apply St.condB; exact rfl; all_goals intros))
  exact ⟨rfl, Hp.same hp hc⟩
set_option maxHeartbeats 4000000 in
theorem fread773 (c : Nat) (md st mie mip tv sc ep ca tl : Int) (cs : List Value) (w : World) (hc : w.heap[c]? = some (.cells (.int .i64 md :: .int .u32 st :: .int .u32 mie :: .int .u32 mip :: .int .u32 tv :: .int .u32 sc :: .int .u32 ep :: .int .u32 ca :: .int .u32 tl :: cs).toArray 54 (0, 0))) :
    Calls Tryd.prog 13 #[.pointer (some ⟨c, 0, none⟩), .int .u32 773] w fun e w' => e = .returned (.tuple #[.int .u32 tv, .bool true]) ∧ Hp w [] w' := by
  refine enter (args := [_, _]) (Γ := [(0, _), (1, _)]) Tryd.func13 Tryd.ntmps13 rfl (of_decide_eq_true rfl) (.cons rfl (.cons rfl .nil)) ?_
  refine St.cls (C' := Hp w [⟨c, .int .i64 md :: .int .u32 st :: .int .u32 mie :: .int .u32 mip :: .int .u32 tv :: .int .u32 sc :: .int .u32 ep :: .int .u32 ca :: .int .u32 tl :: cs, 54⟩]) (fun _ h' => Hp.open h' hc) ?_
  repeat' (first | (apply Wl.move; exact rfl; exact rfl) | (apply Wl.assign; exact rfl; exact rfl) | (apply Wl.off; exact rfl; exact rfl; exact rfl; (first | with_reducible rfl | (show _ = false; with_reducible assumption) | (show _ = true; with_reducible assumption) | decide)) | (apply Wl.nilCheck; exact rfl; exact rfl) | (apply Wl.pickF; exact rfl; exact rfl; (first | with_reducible rfl | with_reducible assumption | decide); exact rfl) | (apply Wl.fieldAddrZ; exact rfl; exact rfl) | (apply Wl.loadH; exact rfl; exact rfl; (repeat (first | exact List.Mem.head _ | apply List.Mem.tail)); exact rfl) | (apply Wl.eqlPN; exact rfl; exact rfl; exact rfl) | (apply Wl.eqlIs; exact rfl; exact rfl; exact rfl; (first | with_reducible assumption | with_reducible rfl)) | (apply Wl.eql; exact rfl; exact rfl; exact rfl) | (apply Wl.geq; exact rfl; exact rfl; exact rfl) | (apply Wl.nil) | (apply St.seq) | (apply St.block) | (apply St.region) | (apply St.condT; exact rfl; (first | with_reducible rfl | with_reducible assumption | decide)) | (apply St.condF; exact rfl; (first | with_reducible rfl | with_reducible assumption | decide)) | (apply St.ret) | (apply St.skip) | (apply Gt.next) | (apply Gt.thenRet) | (apply Gt.inNormal) | (apply Gt.inRet) | (apply Gt.out2; exact rfl; exact rfl; exact rfl; intro w' hp) | (apply Wl.splitP; exact rfl; exact rfl; all_goals (intros; try (exfalso; omega))) | (apply Wl.splitB; exact rfl; exact rfl; all_goals intros) | (apply St.condP; exact rfl; all_goals (intros; try (exfalso; omega))) | (apply St.condB; exact rfl; all_goals intros))
  exact ⟨rfl, Hp.same hp hc⟩
set_option maxHeartbeats 4000000 in
theorem fread834 (c : Nat) (md st mie mip tv sc ep ca tl : Int) (cs : List Value) (w : World) (hc : w.heap[c]? = some (.cells (.int .i64 md :: .int .u32 st :: .int .u32 mie :: .int .u32 mip :: .int .u32 tv :: .int .u32 sc :: .int .u32 ep :: .int .u32 ca :: .int .u32 tl :: cs).toArray 54 (0, 0))) :
    Calls Tryd.prog 13 #[.pointer (some ⟨c, 0, none⟩), .int .u32 834] w fun e w' => e = .returned (.tuple #[.int .u32 ca, .bool true]) ∧ Hp w [] w' := by
  refine enter (args := [_, _]) (Γ := [(0, _), (1, _)]) Tryd.func13 Tryd.ntmps13 rfl (of_decide_eq_true rfl) (.cons rfl (.cons rfl .nil)) ?_
  refine St.cls (C' := Hp w [⟨c, .int .i64 md :: .int .u32 st :: .int .u32 mie :: .int .u32 mip :: .int .u32 tv :: .int .u32 sc :: .int .u32 ep :: .int .u32 ca :: .int .u32 tl :: cs, 54⟩]) (fun _ h' => Hp.open h' hc) ?_
  repeat' (first | (apply Wl.move; exact rfl; exact rfl) | (apply Wl.assign; exact rfl; exact rfl) | (apply Wl.off; exact rfl; exact rfl; exact rfl; (first | with_reducible rfl | (show _ = false; with_reducible assumption) | (show _ = true; with_reducible assumption) | decide)) | (apply Wl.nilCheck; exact rfl; exact rfl) | (apply Wl.pickF; exact rfl; exact rfl; (first | with_reducible rfl | with_reducible assumption | decide); exact rfl) | (apply Wl.fieldAddrZ; exact rfl; exact rfl) | (apply Wl.loadH; exact rfl; exact rfl; (repeat (first | exact List.Mem.head _ | apply List.Mem.tail)); exact rfl) | (apply Wl.eqlPN; exact rfl; exact rfl; exact rfl) | (apply Wl.eqlIs; exact rfl; exact rfl; exact rfl; (first | with_reducible assumption | with_reducible rfl)) | (apply Wl.eql; exact rfl; exact rfl; exact rfl) | (apply Wl.geq; exact rfl; exact rfl; exact rfl) | (apply Wl.nil) | (apply St.seq) | (apply St.block) | (apply St.region) | (apply St.condT; exact rfl; (first | with_reducible rfl | with_reducible assumption | decide)) | (apply St.condF; exact rfl; (first | with_reducible rfl | with_reducible assumption | decide)) | (apply St.ret) | (apply St.skip) | (apply Gt.next) | (apply Gt.thenRet) | (apply Gt.inNormal) | (apply Gt.inRet) | (apply Gt.out2; exact rfl; exact rfl; exact rfl; intro w' hp) | (apply Wl.splitP; exact rfl; exact rfl; all_goals (intros; try (exfalso; omega))) | (apply Wl.splitB; exact rfl; exact rfl; all_goals intros) | (apply St.condP; exact rfl; all_goals (intros; try (exfalso; omega))) | (apply St.condB; exact rfl; all_goals intros))
  exact ⟨rfl, Hp.same hp hc⟩
set_option maxHeartbeats 4000000 in
theorem fread835 (c : Nat) (md st mie mip tv sc ep ca tl : Int) (cs : List Value) (w : World) (hc : w.heap[c]? = some (.cells (.int .i64 md :: .int .u32 st :: .int .u32 mie :: .int .u32 mip :: .int .u32 tv :: .int .u32 sc :: .int .u32 ep :: .int .u32 ca :: .int .u32 tl :: cs).toArray 54 (0, 0))) :
    Calls Tryd.prog 13 #[.pointer (some ⟨c, 0, none⟩), .int .u32 835] w fun e w' => e = .returned (.tuple #[.int .u32 tl, .bool true]) ∧ Hp w [] w' := by
  refine enter (args := [_, _]) (Γ := [(0, _), (1, _)]) Tryd.func13 Tryd.ntmps13 rfl (of_decide_eq_true rfl) (.cons rfl (.cons rfl .nil)) ?_
  refine St.cls (C' := Hp w [⟨c, .int .i64 md :: .int .u32 st :: .int .u32 mie :: .int .u32 mip :: .int .u32 tv :: .int .u32 sc :: .int .u32 ep :: .int .u32 ca :: .int .u32 tl :: cs, 54⟩]) (fun _ h' => Hp.open h' hc) ?_
  repeat' (first | (apply Wl.move; exact rfl; exact rfl) | (apply Wl.assign; exact rfl; exact rfl) | (apply Wl.off; exact rfl; exact rfl; exact rfl; (first | with_reducible rfl | (show _ = false; with_reducible assumption) | (show _ = true; with_reducible assumption) | decide)) | (apply Wl.nilCheck; exact rfl; exact rfl) | (apply Wl.pickF; exact rfl; exact rfl; (first | with_reducible rfl | with_reducible assumption | decide); exact rfl) | (apply Wl.fieldAddrZ; exact rfl; exact rfl) | (apply Wl.loadH; exact rfl; exact rfl; (repeat (first | exact List.Mem.head _ | apply List.Mem.tail)); exact rfl) | (apply Wl.eqlPN; exact rfl; exact rfl; exact rfl) | (apply Wl.eqlIs; exact rfl; exact rfl; exact rfl; (first | with_reducible assumption | with_reducible rfl)) | (apply Wl.eql; exact rfl; exact rfl; exact rfl) | (apply Wl.geq; exact rfl; exact rfl; exact rfl) | (apply Wl.nil) | (apply St.seq) | (apply St.block) | (apply St.region) | (apply St.condT; exact rfl; (first | with_reducible rfl | with_reducible assumption | decide)) | (apply St.condF; exact rfl; (first | with_reducible rfl | with_reducible assumption | decide)) | (apply St.ret) | (apply St.skip) | (apply Gt.next) | (apply Gt.thenRet) | (apply Gt.inNormal) | (apply Gt.inRet) | (apply Gt.out2; exact rfl; exact rfl; exact rfl; intro w' hp) | (apply Wl.splitP; exact rfl; exact rfl; all_goals (intros; try (exfalso; omega))) | (apply Wl.splitB; exact rfl; exact rfl; all_goals intros) | (apply St.condP; exact rfl; all_goals (intros; try (exfalso; omega))) | (apply St.condB; exact rfl; all_goals intros))
  exact ⟨rfl, Hp.same hp hc⟩
def dueOf (md st mie mip : Int) : Bool := decide (bits .and .u32 (bits .and .u32 mie mip) 128 ≠ 0) && (decide (md = 0) || tb st 3)
set_option maxHeartbeats 4000000 in
theorem fdue (c : Nat) (md st mie mip tv sc ep ca tl : Int) (cs : List Value) (w : World) (hc : w.heap[c]? = some (.cells (.int .i64 md :: .int .u32 st :: .int .u32 mie :: .int .u32 mip :: .int .u32 tv :: .int .u32 sc :: .int .u32 ep :: .int .u32 ca :: .int .u32 tl :: cs).toArray 54 (0, 0))) :
    Calls Tryd.prog 22 #[.pointer (some ⟨c, 0, none⟩)] w fun e w' => e = .returned (.bool (dueOf md st mie mip)) ∧ Hp w [] w' := by
  refine enter (args := [_]) (Γ := [(0, _)]) Tryd.func22 Tryd.ntmps22 rfl (of_decide_eq_true rfl) (.cons rfl .nil) ?_
  refine St.cls (C' := Hp w [⟨c, .int .i64 md :: .int .u32 st :: .int .u32 mie :: .int .u32 mip :: .int .u32 tv :: .int .u32 sc :: .int .u32 ep :: .int .u32 ca :: .int .u32 tl :: cs, 54⟩]) (fun _ h' => Hp.open h' hc) ?_
  repeat' (first | (apply Wl.move; exact rfl; exact rfl) | (apply Wl.assign; exact rfl; exact rfl) | (apply Wl.on; exact rfl; exact rfl; (first | with_reducible rfl | with_reducible assumption | decide)) | (apply Wl.off; exact rfl; exact rfl; exact rfl; (first | with_reducible rfl | (show _ = false; with_reducible assumption) | (show _ = true; with_reducible assumption) | decide)) | (apply Wl.offU; exact rfl; exact rfl; exact rfl) | (apply Wl.nilCheck; exact rfl; exact rfl) | (apply Wl.pickT; exact rfl; exact rfl; (first | with_reducible rfl | with_reducible assumption | decide); exact rfl) | (apply Wl.pickF; exact rfl; exact rfl; (first | with_reducible rfl | with_reducible assumption | decide); exact rfl) | (apply Wl.fieldAddr0; exact rfl; exact rfl) | (apply Wl.fieldAddrZ; exact rfl; exact rfl) | (apply Wl.loadH; exact rfl; exact rfl; (repeat (first | exact List.Mem.head _ | apply List.Mem.tail)); exact rfl) | (apply Wl.neqPN; exact rfl; exact rfl; exact rfl) | (apply Wl.eql; exact rfl; exact rfl; exact rfl) | (apply Wl.neq; exact rfl; exact rfl; exact rfl) | (apply Wl.and; exact rfl; exact rfl; exact rfl) | (apply Wl.nil) | (apply Wl.nilQ) | (apply St.seq) | (apply St.region) | (apply St.draw; exact mixed; (kernel_rfl); exact (fun _ h => Hp.drew h)) | (apply St.ret) | (apply Gt.next) | (apply Gt.out1; exact rfl; exact rfl; intro w' hp) | (apply Wl.splitP; exact rfl; exact rfl; all_goals (intros; try (exfalso; omega))) | (apply Wl.splitB; exact rfl; exact rfl; all_goals intros) | (apply St.condP; exact rfl; all_goals (intros; try (exfalso; omega))) | (apply St.condB; exact rfl; all_goals intros))
  · rename_i h1 _ h2 _
    refine ⟨?_, Hp.same hp hc⟩
    unfold dueOf
    rw [decide_eq_true h1, decide_eq_true h2]; rfl
  · rename_i h1 _ h2 _
    refine ⟨?_, Hp.same hp hc⟩
    unfold dueOf
    rw [decide_eq_true h1, decide_eq_false h2, and8]
    cases tb st 3 <;> rfl
  · rename_i h1 _
    refine ⟨?_, Hp.same hp hc⟩
    unfold dueOf
    rw [decide_eq_false h1]; rfl
set_option maxHeartbeats 4000000 in
theorem ftrapX (c : Nat) (md st mie mip tv sc ep ca tl : Int) (cs : List Value) (w : World) (pc ca1 tl1 : Int) (hpc : 0 ≤ pc ∧ pc < 4294967296) (hmd : md = 0 ∨ md = 3) (hc : w.heap[c]? = some (.cells (.int .i64 md :: .int .u32 st :: .int .u32 mie :: .int .u32 mip :: .int .u32 tv :: .int .u32 sc :: .int .u32 ep :: .int .u32 ca :: .int .u32 tl :: cs).toArray 54 (0, 0))) :
    Calls Tryd.prog 38 #[.pointer (some ⟨c, 0, none⟩), .int .u32 pc, .int .u32 ca1, .int .u32 tl1] w fun e w' => e = .returned (.int .u32 tv) ∧ ∃ s', Hp w [⟨c, .int .i64 3 :: .int .u32 s' :: .int .u32 mie :: .int .u32 mip :: .int .u32 tv :: .int .u32 sc :: .int .u32 (pc - pc % 4) :: .int .u32 ca1 :: .int .u32 tl1 :: cs, 54⟩] w' ∧
      (0 ≤ s' ∧ s' < 4294967296) ∧ tb s' 3 = false ∧ tb s' 7 = tb st 3 ∧ tb s' 11 = decide (md = 3) ∧ tb s' 12 = decide (md = 3) := by
  refine enter (args := [_, _, _, _]) (Γ := [(0, _), (1, _), (2, _), (3, _)]) Tryd.func38 Tryd.ntmps38 rfl (of_decide_eq_true rfl) (.cons rfl (.cons rfl (.cons rfl (.cons rfl .nil)))) ?_
  refine St.cls (C' := Hp w [⟨c, .int .i64 md :: .int .u32 st :: .int .u32 mie :: .int .u32 mip :: .int .u32 tv :: .int .u32 sc :: .int .u32 ep :: .int .u32 ca :: .int .u32 tl :: cs, 54⟩]) (fun _ h' => Hp.open h' hc) ?_
  rw [← low2 pc hpc]
  repeat' (first | (apply Wl.move; exact rfl; exact rfl) | (apply Wl.assign; exact rfl; exact rfl) | (apply Wl.nilCheck; exact rfl; exact rfl) | (apply Wl.fieldAddr0; exact rfl; exact rfl) | (apply Wl.fieldAddrZ; exact rfl; exact rfl) | (apply Wl.loadH; exact rfl; exact rfl; (repeat (first | exact List.Mem.head _ | apply List.Mem.tail)); exact rfl) | (apply Wl.eqlPN; exact rfl; exact rfl; exact rfl) | (apply Wl.neq; exact rfl; exact rfl; exact rfl) | (apply Wl.and; exact rfl; exact rfl; exact rfl) | (apply Wl.or; exact rfl; exact rfl; exact rfl) | (apply Wl.andNot; exact rfl; exact rfl; exact rfl) | (apply Wl.shl; exact rfl; exact rfl; exact rfl; (omega)) | (apply Wl.convU32; exact rfl; exact rfl; (constructor <;> omega)) | (apply Wl.store; exact rfl; exact rfl; exact rfl; (repeat (first | apply HSet.here | apply HSet.there)); (repeat (first | apply LSet.z | apply LSet.s))) | (apply Wl.nil) | (apply St.seq) | (apply St.region) | (apply St.condF; exact rfl; (first | with_reducible rfl | with_reducible assumption | decide)) | (apply St.ret) | (apply St.skip) | (apply Gt.next) | (apply Gt.out1; exact rfl; exact rfl; intro w' hp) | (apply Wl.splitP; exact rfl; exact rfl; all_goals (intros; try (exfalso; omega))) | (apply Wl.splitB; exact rfl; exact rfl; all_goals intros) | (apply St.condP; exact rfl; all_goals (intros; try (exfalso; omega))) | (apply St.condB; exact rfl; all_goals intros))
  all_goals
    rename_i h1 _
    refine ⟨rfl, _, hp, ⟨bits_lo_u32 _ _ _, by have := bits_hi_u32; have := this BinOp.or; exact Int.lt_of_le_of_lt (this _ _) (by decide)⟩, ?_⟩
    rw [and8] at h1
    have e0 : IntKind.u32.wrap (0 * 2 ^ min (Int.toNat 11) IntKind.u32.bits) = 0 := by rfl
    have e3 : IntKind.u32.wrap (3 * 2 ^ min (Int.toNat 11) IntKind.u32.bits) = 6144 := by rfl
    rcases hmd with rfl | rfl
    all_goals
      first | rw [e0] | rw [e3]
      simp [tb_or, tb_andNot, show tb 8 3 = true from by decide, show tb 8 7 = false from by decide, show tb 8 11 = false from by decide, show tb 8 12 = false from by decide,
        show tb 6272 7 = true from by decide, show tb 6272 11 = true from by decide, show tb 6272 12 = true from by decide, show tb 128 7 = true from by decide, show tb 128 11 = false from by decide, show tb 128 12 = false from by decide,
        show tb 0 3 = false from by decide, show tb 0 7 = false from by decide, show tb 0 11 = false from by decide, show tb 0 12 = false from by decide,
        show tb 6144 3 = false from by decide, show tb 6144 7 = false from by decide, show tb 6144 11 = true from by decide, show tb 6144 12 = true from by decide]
      simpa using h1
set_option maxHeartbeats 4000000 in
theorem fbackX (c : Nat) (md st mie mip tv sc ep ca tl : Int) (cs : List Value) (w : World) (hst : 0 ≤ st ∧ st < 4294967296) (hc : w.heap[c]? = some (.cells (.int .i64 md :: .int .u32 st :: .int .u32 mie :: .int .u32 mip :: .int .u32 tv :: .int .u32 sc :: .int .u32 ep :: .int .u32 ca :: .int .u32 tl :: cs).toArray 54 (0, 0))) :
    Calls Tryd.prog 65 #[.pointer (some ⟨c, 0, none⟩)] w fun e w' => e = .returned (.int .u32 ep) ∧ ∃ s', Hp w [⟨c, .int .i64 ((if tb st 11 then 1 else 0) + (if tb st 12 then 2 else 0)) :: .int .u32 s' :: .int .u32 mie :: .int .u32 mip :: .int .u32 tv :: .int .u32 sc :: .int .u32 ep :: .int .u32 ca :: .int .u32 tl :: cs, 54⟩] w' ∧
      tb s' 3 = tb st 7 ∧ tb s' 11 = false ∧ tb s' 12 = false := by
  refine enter (args := [_]) (Γ := [(0, _)]) Tryd.func65 Tryd.ntmps65 rfl (of_decide_eq_true rfl) (.cons rfl .nil) ?_
  refine St.cls (C' := Hp w [⟨c, .int .i64 md :: .int .u32 st :: .int .u32 mie :: .int .u32 mip :: .int .u32 tv :: .int .u32 sc :: .int .u32 ep :: .int .u32 ca :: .int .u32 tl :: cs, 54⟩]) (fun _ h' => Hp.open h' hc) ?_
  rw [← shr11 st hst]
  repeat' (first | (apply Wl.move; exact rfl; exact rfl) | (apply Wl.assign; exact rfl; exact rfl) | (apply Wl.nilCheck; exact rfl; exact rfl) | (apply Wl.fieldAddr0; exact rfl; exact rfl) | (apply Wl.fieldAddrZ; exact rfl; exact rfl) | (apply Wl.loadH; exact rfl; exact rfl; (repeat (first | exact List.Mem.head _ | apply List.Mem.tail)); exact rfl) | (apply Wl.eqlPN; exact rfl; exact rfl; exact rfl) | (apply Wl.neq; exact rfl; exact rfl; exact rfl) | (apply Wl.and; exact rfl; exact rfl; exact rfl) | (apply Wl.or; exact rfl; exact rfl; exact rfl) | (apply Wl.andNot; exact rfl; exact rfl; exact rfl) | (apply Wl.shr; exact rfl; exact rfl; exact rfl; (omega)) | (apply Wl.convI; exact rfl; exact rfl) | (apply Wl.store; exact rfl; exact rfl; exact rfl; (repeat (first | apply HSet.here | apply HSet.there)); (repeat (first | apply LSet.z | apply LSet.s))) | (apply Wl.nil) | (apply St.seq) | (apply St.region) | (apply St.condF; exact rfl; (first | with_reducible rfl | with_reducible assumption | decide)) | (apply St.ret) | (apply St.skip) | (apply Gt.next) | (apply Gt.out1; exact rfl; exact rfl; intro w' hp) | (apply Wl.splitP; exact rfl; exact rfl; all_goals (intros; try (exfalso; omega))) | (apply Wl.splitB; exact rfl; exact rfl; all_goals intros) | (apply St.condP; exact rfl; all_goals (intros; try (exfalso; omega))) | (apply St.condB; exact rfl; all_goals intros))
  all_goals
    rename_i h1 _
    refine ⟨rfl, _, hp, ?_⟩
    rw [and128] at h1
    simp [tb_or, tb_andNot, show tb 8 3 = true from by decide, show tb 8 11 = false from by decide, show tb 8 12 = false from by decide, show tb 6152 3 = true from by decide, show tb 6152 11 = true from by decide, show tb 6152 12 = true from by decide,
      show tb 128 3 = false from by decide, show tb 128 11 = false from by decide, show tb 128 12 = false from by decide]
    simpa using h1
end Go.Proofs.YtcefkbnachnciaaDoor
