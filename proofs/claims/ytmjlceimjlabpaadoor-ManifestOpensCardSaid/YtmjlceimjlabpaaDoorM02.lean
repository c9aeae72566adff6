/-
 17 texts, one behind the other; each says what it proves. Conditions: as each text says.
-/
import Derived.Test.YtmjlceimjlabpaaDoorM01
import Derived.Laws.ResultCell
import Derived.DeepKeys
import Derived.Laws.BitsLemmas
import Derived.Laws.Bits64
import Derived.ArgAppend
import Derived.Lib.SliceRun
import Derived.Laws.IdiomCopy
section
namespace Go.Proofs.YtmjlceimjlabpaaDoor
open Go.RowKit Go.Pt
structure Gr where
 start : Nat
 size : Nat
 rights : Int
structure Py where
 dig : List UInt8
 size : Nat
 bias : Nat
 grants : List Gr
 calls : Int
structure Mf where
 counter : Nat
 key : Int
 pays : List Py
def manMark : List UInt8 := [80, 79, 82, 84, 73, 67, 79, 49]
def encG (g : Gr) : List UInt8 := leB 4 g.start ++ (leB 4 g.size ++ leB 4 g.rights.toNat)
def encP (p : Py) : List UInt8 := p.dig ++ (leB 4 p.size ++ (leB 4 p.bias ++ (leB 1 p.calls.toNat ++ (leB 1 p.grants.length ++ (leB 2 0 ++ p.grants.flatMap encG)))))
def encM (m : Mf) : List UInt8 := manMark ++ (leB 4 m.counter ++ (leB 1 m.key.toNat ++ (leB 1 m.pays.length ++ (leB 2 0 ++ m.pays.flatMap encP))))
def gAt (b : List UInt8) (k : Nat) : Gr := ⟨num b k 4, num b (k + 4) 4, num b (k + 8) 4⟩
def decG (b : List UInt8) : Nat → Nat → Option (List Gr)
 | 0, _ => some []
 | n + 1, k => if num b (k + 8) 4 ≤ 7 then (decG b n (k + 12)).map (gAt b k :: ·) else none
def digAt (b : List UInt8) (k : Nat) : List UInt8 := if k + 32 ≤ b.length then part b k 32 else List.replicate 32 0
def decP (b : List UInt8) : Nat → Nat → Option (List Py × Nat)
 | 0, k => some ([], k)
 | n + 1, k =>
  if num b (k + 42) 2 = 0 ∧ num b (k + 41) 1 ≤ 4 then
   match decG b (num b (k + 41) 1) (k + 44) with
   | none => none
   | some gs => (decP b n (k + 44 + 12 * num b (k + 41) 1)).map fun r => (⟨digAt b k, num b (k + 32) 4, num b (k + 36) 4, gs, num b (k + 40) 1⟩ :: r.1, r.2)
  else none
def decM (b : List UInt8) : Option Mf :=
 if part b 0 8 = manMark ∧ num b 14 2 = 0 ∧ num b 13 1 ≤ 4 then
  match decP b (num b 13 1) 16 with
  | none => none
  | some r => if r.2 = b.length then some ⟨num b 8 4, num b 12 1, r.1⟩ else none
 else none
theorem part_at (a x c : List UInt8) : part (a ++ (x ++ c)) a.length x.length = x := by
 unfold part
 rw [if_pos (by simp only [List.length_append]; omega), List.drop_left, List.take_left]
theorem num_at (a c : List UInt8) (n y : Nat) : num (a ++ (leB n y ++ c)) a.length n = y % 256 ^ n := by
 have := part_at a (leB n y) c
 rw [leB_length] at this
 unfold num
 rw [this, leN_leB]
theorem num_in (a x c : List UInt8) (n y k : Nat) (hk : k = a.length + x.length) : num (a ++ (x ++ (leB n y ++ c))) k n = y % 256 ^ n := by
 have := num_at (a ++ x) c n y
 rw [List.append_assoc, List.length_append, ← hk] at this
 exact this
def GrOk (g : Gr) : Prop := g.start < 4294967296 ∧ g.size < 4294967296 ∧ 0 ≤ g.rights ∧ g.rights ≤ 7
def PyFit (p : Py) : Prop := p.dig.length = 32 ∧ p.size < 4294967296 ∧ p.bias < 4294967296 ∧ 0 ≤ p.calls ∧ p.calls ≤ 255 ∧ p.grants.length ≤ 4 ∧ ∀ g ∈ p.grants, GrOk g
def MfOk (m : Mf) : Prop := m.counter < 4294967296 ∧ 0 ≤ m.key ∧ m.key ≤ 255 ∧ m.pays.length ≤ 4 ∧ ∀ p ∈ m.pays, PyFit p
theorem encG_length (g : Gr) : (encG g).length = 12 := by simp [encG, leB_length]
theorem encGs_length (gs : List Gr) : (gs.flatMap encG).length = 12 * gs.length := by
 induction gs with
 | nil => rfl
 | cons g r ih => rw [List.flatMap_cons, List.length_append, encG_length, ih, List.length_cons]; omega
theorem decG_enc (gs : List Gr) (hg : ∀ g ∈ gs, GrOk g) (a c : List UInt8) : decG (a ++ (gs.flatMap encG ++ c)) gs.length a.length = some gs := by
 induction gs generalizing a with
 | nil => rfl
 | cons g r ih =>
  obtain ⟨h1, h2, h3, h4⟩ := hg g (by simp)
  have e : a ++ ((g :: r).flatMap encG ++ c) = a ++ (leB 4 g.start ++ (leB 4 g.size ++ (leB 4 g.rights.toNat ++ (r.flatMap encG ++ c)))) := by simp [encG]
  have n0 : num (a ++ ((g :: r).flatMap encG ++ c)) a.length 4 = g.start := by rw [e, num_at]; exact Nat.mod_eq_of_lt h1
  have n4 : num (a ++ ((g :: r).flatMap encG ++ c)) (a.length + 4) 4 = g.size := by
   rw [e, num_in _ _ _ _ _ _ (by rw [leB_length])]; exact Nat.mod_eq_of_lt h2
  have n8 : num (a ++ ((g :: r).flatMap encG ++ c)) (a.length + 8) 4 = g.rights.toNat := by
   rw [e, ← List.append_assoc (leB 4 g.start), num_in _ _ _ _ _ _ (by rw [List.length_append, leB_length, leB_length])]
   exact Nat.mod_eq_of_lt (by omega)
  have e2 : a ++ ((g :: r).flatMap encG ++ c) = (a ++ encG g) ++ (r.flatMap encG ++ c) := by simp
  have ih' := ih (fun g hg' => hg g (by simp [hg'])) (a ++ encG g)
  rw [List.length_append, encG_length] at ih'
  simp only [List.length_cons, decG, n8, gAt, n0, n4]
  rw [if_pos (by omega), e2, ih']
  simp only [Option.map_some, Option.some.injEq, List.cons.injEq, and_true]
  cases g
  simp only [Gr.mk.injEq, true_and]
  simp only at h3
  omega
theorem encP_length (p : Py) (h : p.dig.length = 32) : (encP p).length = 44 + 12 * p.grants.length := by
 simp only [encP, List.length_append, leB_length, h, encGs_length]; omega
theorem decP_enc (ps : List Py) (hp : ∀ p ∈ ps, PyFit p) (a c : List UInt8) : decP (a ++ (ps.flatMap encP ++ c)) ps.length a.length = some (ps, (a ++ ps.flatMap encP).length) := by
 induction ps generalizing a with
 | nil => simp [decP]
 | cons p r ih =>
  obtain ⟨h1, h2, h3, h4, h5, h6, h7⟩ := hp p (by simp)
  generalize hb : a ++ ((p :: r).flatMap encP ++ c) = b
  have e : b = a ++ (p.dig ++ (leB 4 p.size ++ (leB 4 p.bias ++ (leB 1 p.calls.toNat ++ (leB 1 p.grants.length ++ (leB 2 0 ++ (p.grants.flatMap encG ++ (r.flatMap encP ++ c)))))))) := by subst hb; simp [encP]
  have d0 : digAt b a.length = p.dig := by
   have := part_at a p.dig (leB 4 p.size ++ (leB 4 p.bias ++ (leB 1 p.calls.toNat ++ (leB 1 p.grants.length ++ (leB 2 0 ++ (p.grants.flatMap encG ++ (r.flatMap encP ++ c)))))))
   rw [← e, h1] at this
   unfold digAt
   rw [if_pos (by rw [e]; simp only [List.length_append, h1]; omega), this]
  have n32 : num b (a.length + 32) 4 = p.size := by rw [e, num_in _ _ _ _ _ _ (by rw [h1])]; exact Nat.mod_eq_of_lt h2
  have n36 : num b (a.length + 36) 4 = p.bias := by
   rw [e, ← List.append_assoc p.dig, num_in _ _ _ _ _ _ (by rw [List.length_append, h1, leB_length])]; exact Nat.mod_eq_of_lt h3
  have n40 : num b (a.length + 40) 1 = p.calls.toNat := by
   rw [e, ← List.append_assoc p.dig, ← List.append_assoc (p.dig ++ _), num_in _ _ _ _ _ _ (by simp only [List.length_append, h1, leB_length])]; exact Nat.mod_eq_of_lt (by omega)
  have n41 : num b (a.length + 41) 1 = p.grants.length := by
   rw [e, ← List.append_assoc p.dig, ← List.append_assoc (p.dig ++ _), ← List.append_assoc (p.dig ++ _ ++ _), num_in _ _ _ _ _ _ (by simp only [List.length_append, h1, leB_length])]; exact Nat.mod_eq_of_lt (by omega)
  have n42 : num b (a.length + 42) 2 = 0 := by
   rw [e, ← List.append_assoc p.dig, ← List.append_assoc (p.dig ++ _), ← List.append_assoc (p.dig ++ _ ++ _), ← List.append_assoc (p.dig ++ _ ++ _ ++ _), num_in _ _ _ _ _ _ (by simp only [List.length_append, h1, leB_length])]
  have eg : b = (a ++ (p.dig ++ (leB 4 p.size ++ (leB 4 p.bias ++ (leB 1 p.calls.toNat ++ (leB 1 p.grants.length ++ leB 2 0)))))) ++ (p.grants.flatMap encG ++ (r.flatMap encP ++ c)) := by rw [e]; simp
  have hg := decG_enc p.grants h7 (a ++ (p.dig ++ (leB 4 p.size ++ (leB 4 p.bias ++ (leB 1 p.calls.toNat ++ (leB 1 p.grants.length ++ leB 2 0)))))) (r.flatMap encP ++ c)
  rw [← eg] at hg
  have hgl : (a ++ (p.dig ++ (leB 4 p.size ++ (leB 4 p.bias ++ (leB 1 p.calls.toNat ++ (leB 1 p.grants.length ++ leB 2 0)))))).length = a.length + 44 := by simp only [List.length_append, h1, leB_length]
  rw [hgl] at hg
  have ih' := ih (fun q hq => hp q (by simp [hq])) (a ++ encP p)
  rw [List.length_append, encP_length p h1] at ih'
  have e2 : b = (a ++ encP p) ++ (r.flatMap encP ++ c) := by subst hb; simp
  rw [← e2] at ih'
  simp only [List.length_cons, decP, n41, n42, n40, n36, n32, d0]
  rw [if_pos ⟨trivial, h6⟩, hg]
  simp only
  rw [show a.length + 44 + 12 * p.grants.length = a.length + (44 + 12 * p.grants.length) by omega, ih']
  simp only [Option.map_some, Option.some.injEq, Prod.mk.injEq, List.cons.injEq, and_true]
  refine ⟨?_, by simp⟩
  cases p
  simp only [Py.mk.injEq, true_and]
  simp only at h4
  omega
theorem decM_enc (m : Mf) (h : MfOk m) : decM (encM m) = some m := by
 obtain ⟨h1, h2, h3, h4, h5⟩ := h
 have hp := decP_enc m.pays h5 (manMark ++ (leB 4 m.counter ++ (leB 1 m.key.toNat ++ (leB 1 m.pays.length ++ leB 2 0)))) []
 rw [List.append_nil] at hp
 have e : (manMark ++ (leB 4 m.counter ++ (leB 1 m.key.toNat ++ (leB 1 m.pays.length ++ leB 2 0)))) ++ m.pays.flatMap encP = encM m := by simp [encM]
 rw [e] at hp
 have hl : (manMark ++ (leB 4 m.counter ++ (leB 1 m.key.toNat ++ (leB 1 m.pays.length ++ leB 2 0)))).length = 16 := by simp only [List.length_append, leB_length]; rfl
 rw [hl] at hp
 have p0 : part (encM m) 0 8 = manMark := by have := part_at [] manMark (leB 4 m.counter ++ (leB 1 m.key.toNat ++ (leB 1 m.pays.length ++ (leB 2 0 ++ m.pays.flatMap encP)))); exact this
 have n8 : num (encM m) 8 4 = m.counter := by
  unfold encM; rw [show (8 : Nat) = manMark.length from rfl, num_at]; exact Nat.mod_eq_of_lt h1
 have n12 : num (encM m) 12 1 = m.key.toNat := by
  unfold encM; rw [num_in _ _ _ _ _ _ (by rw [leB_length]; rfl)]; exact Nat.mod_eq_of_lt (by omega)
 have n13 : num (encM m) 13 1 = m.pays.length := by
  unfold encM; rw [← List.append_assoc (leB 4 m.counter), num_in _ _ _ _ _ _ (by simp only [List.length_append, leB_length]; rfl)]; exact Nat.mod_eq_of_lt (by omega)
 have n14 : num (encM m) 14 2 = 0 := by
  unfold encM; rw [← List.append_assoc (leB 4 m.counter), ← List.append_assoc (leB 4 m.counter ++ _), num_in _ _ _ _ _ _ (by simp only [List.length_append, leB_length]; rfl)]
 unfold decM
 rw [if_pos ⟨p0, n14, by omega⟩, n13, hp, n8, n12]
 simp only [if_true]
 cases m
 simp only [Option.some.injEq, Mf.mk.injEq, true_and, and_true]
 simp only at h2
 omega
def fineB (g : Gr) : Bool := decide (2147487744 ≤ g.start ∧ g.start + g.size ≤ 2147549184 ∧ g.size ≠ 0 ∧ g.start % 4 = 0 ∧ g.size % 4 = 0 ∧ 1 ≤ g.rights ∧ g.rights ≤ 5)
def apG (g o : Gr) : Bool := apB g.start g.size o.start o.size
def notUp (prev : Option Gr) (g : Gr) : Bool := match prev with
 | some q => decide (g.start ≤ q.start)
 | none => false
def grantsR : List Gr → Option Gr → List Gr → Nat × List Gr
 | all, _, [] => (0, all)
 | all, prev, g :: r => if !fineB g || notUp prev g then (10, all) else if all.all (apG g) then grantsR (all ++ [g]) (some g) r else (11, all)
def payB (p : Py) : Bool := decide (1 ≤ p.grants.length ∧ p.grants.length ≤ 4 ∧ 0 ≤ p.calls ∧ p.calls ≤ 255 ∧ p.size ≤ 32768 ∧ p.bias % 4 = 0)
def paysR : List Gr → List Py → Nat
 | _, [] => 0
 | all, p :: r => if payB p then (if (grantsR all none p.grants).1 = 0 then paysR (grantsR all none p.grants).2 r else (grantsR all none p.grants).1) else 3
def rightOf (m : Mf) : Nat := if 0 ≤ m.key ∧ m.key ≤ 255 ∧ 1 ≤ m.pays.length ∧ m.pays.length ≤ 4 then paysR [] m.pays else 3
theorem grantsR_ok {all : List Gr} {prev : Option Gr} {gs : List Gr} (h : (grantsR all prev gs).1 = 0) : ∀ g ∈ gs, fineB g = true := by
 induction gs generalizing all prev with
 | nil => intro g hg; cases hg
 | cons g r ih =>
  simp only [grantsR] at h
  split at h
  ·cases h
  ·rename_i h1
   split at h
   ·intro q hq
    rcases List.mem_cons.1 hq with rfl | hq
    ·simp only [Bool.not_eq_true, Bool.or_eq_false_iff, Bool.not_eq_false'] at h1
     exact h1.1
    ·exact ih h q hq
   ·cases h
theorem paysR_ok {all : List Gr} {ps : List Py} (h : paysR all ps = 0) : ∀ p ∈ ps, payB p = true ∧ ∀ g ∈ p.grants, fineB g = true := by
 induction ps generalizing all with
 | nil => intro p hp; cases hp
 | cons p r ih =>
  simp only [paysR] at h
  split at h
  ·rename_i h1
   split at h
   ·rename_i h2
    intro q hq
    rcases List.mem_cons.1 hq with rfl | hq
    ·exact ⟨h1, grantsR_ok h2⟩
    ·exact ih h q hq
   ·rename_i h2; exact (h2 h).elim
  ·cases h
theorem rightOf_fit {m : Mf} (h : rightOf m = 0) (hc : m.counter < 4294967296) (hp : ∀ p ∈ m.pays, p.dig.length = 32 ∧ p.bias < 4294967296) : MfOk m := by
 unfold rightOf at h
 split at h
 ·rename_i h1
  refine ⟨hc, h1.1, h1.2.1, h1.2.2.2, fun p hpm => ?_⟩
  obtain ⟨h2, h3⟩ := paysR_ok h p hpm
  unfold payB at h2
  simp only [decide_eq_true_eq] at h2
  refine ⟨(hp p hpm).1, by omega, (hp p hpm).2, h2.2.2.1, h2.2.2.2.1, h2.2.1, fun g hg => ?_⟩
  have := h3 g hg
  unfold fineB at this
  simp only [decide_eq_true_eq] at this
  exact ⟨by omega, by omega, by omega, by omega⟩
 ·cases h
end Go.Proofs.YtmjlceimjlabpaaDoor
end
section
namespace Go.Proofs.YtmjlceimjlabpaaDoor
open Go.RowKit Go.Pt
def I64 (x : Int) : Prop := -9223372036854775808 ≤ x ∧ x ≤ 9223372036854775807
def grCells (g : Gr) : List Value := [.int .u32 g.start, .int .u32 g.size, .int .i64 g.rights]
def pyCells (x : Py × Value) : List Value := byteCells x.1.dig ++ [.int .u32 x.1.size, .int .u32 x.1.bias, x.2, .int .i64 x.1.calls]
def GrV (g : Gr) : Prop := g.start < 4294967296 ∧ g.size < 4294967296 ∧ I64 g.rights
def PyV (w : World) (x : Py × Value) : Prop :=
 Sv w 3 x.1.grants.length x.2 (x.1.grants.flatMap grCells) ∧ x.1.dig.length = 32 ∧ x.1.size < 4294967296 ∧ x.1.bias < 4294967296 ∧ I64 x.1.calls ∧ (∀ g ∈ x.1.grants, GrV g) ∧ x.1.grants.length ≤ 140737488355328
def MfV (w : World) (v : Value) (m : Mf) : Prop :=
 ∃ (pv : Value) (xs : List (Py × Value)), v = .agg #[.int .u32 m.counter, .int .i64 m.key, pv] ∧ xs.map (·.1) = m.pays ∧ Sv w 36 xs.length pv (xs.flatMap pyCells) ∧ (∀ x ∈ xs, PyV w x) ∧ m.counter < 4294967296 ∧ I64 m.key
theorem and6I (r : Int) (a : 1 ≤ r) (b : r ≤ 7) : bits .and .i64 r 6 = 6 ↔ 6 ≤ r := by
 have : r = 1 ∨ r = 2 ∨ r = 3 ∨ r = 4 ∨ r = 5 ∨ r = 6 ∨ r = 7 := by omega
 rcases this with e | e | e | e | e | e | e <;> rw [e] <;> decide
set_option maxHeartbeats 1000000 in
theorem grant_any (g : Gr) (w : World) (hg : GrV g) : Calls Tryd.prog 61 #[.agg (grCells g).toArray] w fun e w' => e = .returned (.bool (fineB g)) ∧ Hp w [] w' := by
 obtain ⟨h1, h2, h3⟩ := hg
 unfold I64 at h3
 have t1 : (g.start : Int).tmod 4 = ((g.start % 4 : Nat) : Int) := rfl
 have t2 : (g.size : Int).tmod 4 = ((g.size % 4 : Nat) : Int) := rfl
 unfold grCells
 refine enter (args := [_]) (Γ := [(0, _)]) Tryd.func61 Tryd.ntmps61 rfl (of_decide_eq_true rfl) (.cons rfl .nil) ?_
 repeat' first | refine Wl.assign rfl rfl ?_ | refine Wl.fieldAddr0 rfl rfl ?_ | refine Wl.fieldAddrZ rfl rfl ?_ | (apply Wl.loadH; exact rfl; exact rfl; (focus repeat constructor); exact rfl) | (apply Wl.boxA; exact rfl; exact rfl; intro c hc ho) | apply Wl.nil | apply St.seq | apply St.region | apply Gt.next
 apply Wl.callQ
 exact rfl
 (focus repeat constructor)
 ·intro wq hq
  exact hq.q (within_any g.start g.size 2147487744 61440 wq (by unfold U32; omega) (by unfold U32; omega) (by unfold U32; omega) (by unfold U32; omega))
 cases hib : inB g.start g.size 2147487744 61440
 ·have hw1 : ¬ (2147487744 ≤ g.start ∧ g.start + g.size ≤ 2147549184) := fun h => by
   have : inB g.start g.size 2147487744 61440 = true := by unfold inB; rw [decide_eq_true_eq]; omega
   rw [hib] at this; cases this
  clear hib
  repeat' first | refine Wl.move rfl rfl ?_ | refine Wl.assign rfl rfl ?_ | (apply Wl.off; exact rfl; exact rfl; exact rfl; (first | with_reducible rfl | (show _ = false; with_reducible assumption) | (show _ = true; with_reducible assumption) | decide)) | (apply Wl.pickF; exact rfl; exact rfl; (with_reducible first | rfl | assumption | decide); exact rfl) | apply Wl.nil | apply St.seq | apply St.region | apply St.ret | apply Gt.next | (apply Gt.out1; exact rfl; exact rfl; intro w' hp)
  refine ⟨congrArg (fun b => Ending.returned (.bool b)) ?_, hp.drop (by simp; omega)⟩
  unfold fineB
  rw [Bool.eq_iff_iff]
  simp only [decide_eq_true_eq, Bool.false_eq_true, true_iff, false_iff]
  omega
 ·have hw1 : 2147487744 ≤ g.start ∧ g.start + g.size ≤ 2147549184 := by
   unfold inB at hib; rw [decide_eq_true_eq] at hib; omega
  clear hib
  repeat' first | refine Wl.move rfl rfl ?_ | refine Wl.assign rfl rfl ?_ | (apply Wl.on; exact rfl; exact rfl; (with_reducible first | rfl | assumption | decide)) | (apply Wl.off; exact rfl; exact rfl; exact rfl; (first | with_reducible rfl | (show _ = false; with_reducible assumption) | (show _ = true; with_reducible assumption) | decide)) | (apply Wl.pickT; exact rfl; exact rfl; (with_reducible first | rfl | assumption | decide); exact rfl) | (apply Wl.pickF; exact rfl; exact rfl; (with_reducible first | rfl | assumption | decide); exact rfl) | refine Wl.fieldAddr0 rfl rfl ?_ | refine Wl.fieldAddrZ rfl rfl ?_ | (apply Wl.loadH; exact rfl; exact rfl; (focus repeat constructor); exact rfl) | refine Wl.eql rfl rfl rfl ?_ | refine Wl.neq rfl rfl rfl ?_ | refine Wl.leq rfl rfl rfl ?_ | refine Wl.gtr rfl rfl rfl ?_ | refine Wl.geq rfl rfl rfl ?_ | (apply Wl.rem; exact rfl; exact rfl; exact rfl; (first | decide | omega)) | refine Wl.and rfl rfl rfl ?_ | apply Wl.nil | apply St.seq | apply St.region | apply St.ret | apply Gt.next | (apply Gt.out1; exact rfl; exact rfl; intro w' hp) | (apply Wl.splitP; exact rfl; exact rfl; all_goals (intros; try (exfalso; omega)))
  all_goals
   have h6 : 1 ≤ g.rights ∧ g.rights ≤ 7 → (bits .and .i64 g.rights 6 = 6 ↔ 6 ≤ g.rights) := fun h => and6I _ h.1 h.2
   generalize bits .and .i64 g.rights 6 = kk at *
   refine ⟨congrArg (fun b => Ending.returned (.bool b)) ?_, hp.drop (by simp; omega)⟩
   unfold fineB
   rw [Bool.eq_iff_iff]
   simp only [decide_eq_true_eq, Bool.false_eq_true, true_iff, false_iff]
   omega
set_option maxHeartbeats 1000000 in
theorem fine_any (g : Gr) (w : World) (hg : GrV g) : Calls Tryd.prog 79 #[.agg (grCells g).toArray] w fun e w' => e = .returned (.bool (fineB g)) ∧ Hp w [] w' := by
 obtain ⟨h1, h2, h3⟩ := hg
 unfold I64 at h3
 have t1 : (g.start : Int).tmod 4 = ((g.start % 4 : Nat) : Int) := rfl
 have t2 : (g.size : Int).tmod 4 = ((g.size % 4 : Nat) : Int) := rfl
 unfold grCells
 refine enter (args := [_]) (Γ := [(0, _)]) Tryd.func79 Tryd.ntmps79 rfl (of_decide_eq_true rfl) (.cons rfl .nil) ?_
 repeat' first | refine Wl.move rfl rfl ?_ | refine Wl.assign rfl rfl ?_ | (apply Wl.on; exact rfl; exact rfl; (with_reducible first | rfl | assumption | decide)) | (apply Wl.off; exact rfl; exact rfl; exact rfl; (first | with_reducible rfl | (show _ = false; with_reducible assumption) | (show _ = true; with_reducible assumption) | decide)) | (apply Wl.pickT; exact rfl; exact rfl; (with_reducible first | rfl | assumption | decide); exact rfl) | (apply Wl.pickF; exact rfl; exact rfl; (with_reducible first | rfl | assumption | decide); exact rfl) | refine Wl.fieldAddr0 rfl rfl ?_ | refine Wl.fieldAddrZ rfl rfl ?_ | (apply Wl.loadH; exact rfl; exact rfl; (focus repeat constructor); exact rfl) | refine Wl.eql rfl rfl rfl ?_ | refine Wl.neq rfl rfl rfl ?_ | refine Wl.lss rfl rfl rfl ?_ | refine Wl.gtr rfl rfl rfl ?_ | (refine Wl.addI rfl rfl rfl ?_ ?_; constructor <;> omega) | (apply Wl.rem; exact rfl; exact rfl; exact rfl; (first | decide | omega)) | (refine Wl.convI64 rfl rfl ?_ ?_; constructor <;> omega) | (apply Wl.boxA; exact rfl; exact rfl; intro c hc ho) | apply Wl.nil | apply Wl.nilQ | apply St.seq | apply St.block | apply St.region | (apply St.draw; exact mixed; (kernel_rfl); exact (fun _ h => Hp.drew h)) | (apply St.condT; exact rfl; (with_reducible first | rfl | assumption | decide)) | apply St.ret | apply St.skip | apply Gt.next | apply Gt.thenRet | apply Gt.inNormal | apply Gt.inRet | (apply Gt.out1; exact rfl; exact rfl; intro w' hp) | (apply Wl.splitP; exact rfl; exact rfl; all_goals (intros; try (exfalso; omega))) | (apply St.condP; exact rfl; all_goals (intros; try (exfalso; omega)))
 all_goals refine ⟨congrArg (fun b => Ending.returned (.bool b)) ?_, hp.drop (by simp; omega)⟩; unfold fineB; rw [Bool.eq_iff_iff]; simp only [decide_eq_true_eq, Bool.false_eq_true, true_iff, false_iff]; omega
end Go.Proofs.YtmjlceimjlabpaaDoor
end
section
namespace Go.Proofs.YtmjlceimjlabpaaDoor
open Go.RowKit Go.Pt
def Bss (w : World) (v : Value) (ls : List (List UInt8)) : Prop := ∃ vs : List Value, vs.length = ls.length ∧ Sv w 1 vs.length v vs ∧ ∀ (i : Nat) (x : Value) (l : List UInt8), vs[i]? = some x → ls[i]? = some l → Bs w x l
end Go.Proofs.YtmjlceimjlabpaaDoor
end
section
namespace Go.Proofs.YtmjlceimjlabpaaDoor
open Go.RowKit Go.Pt
end Go.Proofs.YtmjlceimjlabpaaDoor
end
section
namespace Go.Pt
open Go.RowKit
theorem Hp.pop1 {w0 w : World} {x : Blk} {H : List Blk} (h : Hp w0 (x :: H) w) (hx : w0.heap.size ≤ x.b) : Hp w0 H w :=
 ⟨h.upd.mono fun k hk hs y => hs ⟨fun e => by omega, y⟩, h.own.2, h.apart.2⟩
theorem Wl.loadAP {P : Program} {md : Md} {ops : Array Oper} {N : Nat} {rest : List Oper} {Γ : Env} {Q : Exit → Act → World → Prop} {d : Nat} {ty : TypeId} {pos : String} {af : Array Edge} {w0 : World} {H : List Blk} {t n : TypeId} [TyA P t n] {x : Operand} {b o : Nat} {xs : List Value}
  (hd : Nat.blt d N = true) (hx : ev Γ x = some (.pointer (some ⟨b, o, none⟩))) (hc : ∀ j v, xs[j]? = some v → w0.cell? ⟨b, o + j, none⟩ = some v) (ho : Off H b) (hn : xs.length = n)
  (h : Wl rest P md ops N ((d, .agg xs.toArray) :: Γ) (Hp w0 H) Q) : Wl (⟨some d, .load t x, ty, pos, af, none⟩ :: rest) P md ops N Γ (Hp w0 H) Q :=
 Wl.loadAF hd hx hn (fun w hw i v hv => by rw [addLit]; exact hw.old (hc i v hv) ho) h
theorem run_conv_mark {P : Program} {w : World} {t e : TypeId} {c n m : Nat} {cs : Array Value} {fr : Nat × Nat} (ht : P.underlying t = some (.slice e)) (he : P.underlying e = some (.int .u8)) (h : w.heap[c]? = some (.cells cs e fr)) :
  ∃ w' fr', (convert t t (.slice (some ⟨c, 0, none⟩) n m)).run P w = .ok (.slice (some ⟨c, 0, none⟩) n m) w' ∧ w'.heap[c]? = some (.cells cs e fr') ∧ Upd (· = c) w w' := by
 have hsh : w.shape? c = some (e, cs.size) := by unfold World.shape?; rw [h]
 have hlt := lt_of_block h
 refine ⟨w.freeze ⟨c, cs.size, none⟩ 1, if fr.1 == fr.2 then (cs.size, cs.size + 1) else (min fr.1 cs.size, max fr.2 (cs.size + 1)), ?_, ?_, ?_⟩
 ·simp [convert, run_underlying ht, run_underlying he, markStringish, hsh]
 ·have h' : w.heap[c] = .cells cs e fr := by simpa [Array.getElem?_eq_getElem hlt] using h
  unfold World.freeze
  rw [if_neg (by decide)]
  show (w.heap.modify c _)[c]? = _
  rw [Array.getElem?_eq_getElem (by simpa using hlt), Array.getElem_modify_self, h']
 ·refine ⟨rfl, rfl, rfl, by simp [World.freeze], fun k hk hs => ?_⟩
  unfold World.freeze
  rw [if_neg (by decide)]
  show (w.heap.modify c _)[k]? = _
  rw [Array.getElem?_modify, if_neg (fun e => hs e.symm)]
theorem Hp.ext {w0 w : World} (h : Hp w0 [] w) : Ext w0 w := h.upd.mono fun _ _ y => y trivial
theorem bag_call {w1 wq wr w' : World} (hq : Hp w1 [] wq) (hu : Upd (fun k => wq.heap.size ≤ k) wq wr) (h' : Hp wr [] w') : Ext w1 w' :=
 Ext.trans _ _ _ hq.ext (Ext.trans _ _ _ (hu.mono fun k hk y => by omega) h'.ext)
end Go.Pt
namespace Go.Proofs.YtmjlceimjlabpaaDoor
open Go.RowKit Go.Pt
theorem Bo.less {w : World} {base base' : Nat} {v : Value} {l : List UInt8} (h : Bo w base v l) (hb : base' ≤ base) : Bo w base' v l := by
 obtain ⟨h1, h2⟩ := h
 refine ⟨h1, ?_⟩
 rcases h2 with h2 | ⟨g, cap, cur, rfl, hg, hx⟩
 ·exact .inl h2
 ·exact .inr ⟨g, cap, cur, rfl, Nat.le_trans hb hg, hx⟩
end Go.Proofs.YtmjlceimjlabpaaDoor
end
section
namespace Go.Proofs.YtmjlceimjlabpaaDoor
open Go.RowKit Go.Pt
theorem list32 {α : Type} (l : List α) (h : l.length = 32) : ∃ d0 d1 d2 d3 d4 d5 d6 d7 d8 d9 d10 d11 d12 d13 d14 d15 d16 d17 d18 d19 d20 d21 d22 d23 d24 d25 d26 d27 d28 d29 d30 d31 : α,
  l = [d0, d1, d2, d3, d4, d5, d6, d7, d8, d9, d10, d11, d12, d13, d14, d15, d16, d17, d18, d19, d20, d21, d22, d23, d24, d25, d26, d27, d28, d29, d30, d31] := by
 match l, h with
 | [d0, d1, d2, d3, d4, d5, d6, d7, d8, d9, d10, d11, d12, d13, d14, d15, d16, d17, d18, d19, d20, d21, d22, d23, d24, d25, d26, d27, d28, d29, d30, d31], _ =>
  exact ⟨d0, d1, d2, d3, d4, d5, d6, d7, d8, d9, d10, d11, d12, d13, d14, d15, d16, d17, d18, d19, d20, d21, d22, d23, d24, d25, d26, d27, d28, d29, d30, d31, rfl⟩
theorem flat36 {α : Type} {g : α → List Value} {xs : List α} (hg : ∀ x ∈ xs, (g x).length = 36) {i j : Nat} {x : α} (hi : xs[i]? = some x) (hj : j < 36) : (xs.flatMap g)[i * 36 + j]? = (g x)[j]? := by
 induction xs generalizing i with
 | nil => simp at hi
 | cons y ys ih =>
  rw [List.flatMap_cons]
  have hy := hg y (by simp)
  cases i with
  | zero =>
   simp only [List.getElem?_cons_zero, Option.some.injEq] at hi
   subst hi
   rw [List.getElem?_append_left (by omega)]
   congr 1; omega
  | succ i =>
   rw [List.getElem?_append_right (by omega), hy]
   rw [List.getElem?_cons_succ] at hi
   rw [← ih (fun x hx => hg x (by simp [hx])) hi]
   congr 1; omega
theorem flat3 {α : Type} {g : α → List Value} (hg : ∀ x, (g x).length = 3) {xs : List α} {i j : Nat} {x : α} (hi : xs[i]? = some x) (hj : j < 3) : (xs.flatMap g)[i * 3 + j]? = (g x)[j]? := by
 induction xs generalizing i with
 | nil => simp at hi
 | cons y ys ih =>
  rw [List.flatMap_cons]
  cases i with
  | zero =>
   simp only [List.getElem?_cons_zero, Option.some.injEq] at hi
   subst hi
   rw [List.getElem?_append_left (by rw [hg]; omega)]
   congr 1; omega
  | succ i =>
   rw [List.getElem?_append_right (by rw [hg]; omega), hg]
   rw [List.getElem?_cons_succ] at hi
   rw [← ih hi]
   congr 1; omega
theorem pyCells_len (x : Py × Value) (h : x.1.dig.length = 32) : (pyCells x).length = 36 := by simp [pyCells, byteCells, h]
theorem grCells_len (g : Gr) : (grCells g).length = 3 := rfl
theorem Sv.cellN {w : World} {sz n b o c : Nat} {cs : List Value} (h : Sv w sz n (.slice (some ⟨b, o, none⟩) n c) cs) {j : Nat} {v : Value} (hj : cs[j]? = some v) : w.cell? ⟨b, o + j, none⟩ = some v := by
 obtain ⟨_, a, cap, e, _, _, _, hc⟩ := h
 obtain ⟨h1, h2⟩ := List.getElem?_eq_some_iff.1 hj
 obtain ⟨b', o', e', hc⟩ := hc (fun e => by rw [e] at h1; simp at h1)
 simp only [Value.slice.injEq] at e
 rw [e'] at e
 simp only [Option.some.injEq, Addr.mk.injEq, and_true] at e
 obtain ⟨⟨rfl, rfl⟩, _⟩ := e
 rw [hc j h1, h2]
theorem Sv.some_of {w : World} {sz n : Nat} {v : Value} {cs : List Value} (h : Sv w sz n v cs) (hne : cs ≠ []) : ∃ b o c, v = .slice (some ⟨b, o, none⟩) n c ∧ n ≤ c ∧ c ≤ maxLen := by
 obtain ⟨_, a, cap, rfl, h1, h2, _, hc⟩ := h
 obtain ⟨b, o, rfl, _⟩ := hc hne
 exact ⟨b, o, cap, rfl, h1, h2⟩
def prevOf (gs : List Gr) : Nat → Option Gr
 | 0 => none
 | k + 1 => gs[k]?
section
variable {P : Program} {N : Nat} {Γ : Env} {C : World → Prop} {Q : Exit → Act → World → Prop} {k i : Nat} {l : Array Oper} {b : Bool} {x : Operand} {p q r y : Code}
theorem St.seqK (hk : Nat.beq i k = false) (h : St (.region i l b) P N Γ C (Exit.then (y.wp P Q) Q)) : St (.seq (.region i l b) y) P N Γ C Q := St.seq h
theorem St.seqKS (hk : Nat.beq i k = false) (h : St (.seq (.region i l b) p) P N Γ C (Exit.then (y.wp P Q) Q)) : St (.seq (.seq (.region i l b) p) y) P N Γ C Q := St.seq h
theorem St.seqC (h : St (.cond x p q) P N Γ C (Exit.then (y.wp P Q) Q)) : St (.seq (.cond x p q) y) P N Γ C Q := St.seq h
end
set_option maxHeartbeats 1000000 in
theorem right_any (v : Value) (m : Mf) (w : World) (hv : MfV w v m) :
  Calls Tryd.prog 26 #[v] w fun e w' => e = .returned (.int .i64 (rightOf m)) ∧ Upd (fun k => w.heap.size ≤ k) w w' := by
 obtain ⟨pv, xs, rfl, hxs, hsv, hpy, hcnt, hkey⟩ := hv
 unfold I64 at hkey
 have hlen : xs.length = m.pays.length := by rw [← hxs, List.length_map]
 have hsv0 := hsv
 obtain ⟨_, ap, cp, rfl, hp1, hp2, _, _⟩ := hsv
 unfold maxLen at hp2
 refine enter (args := [_]) (Γ := [(0, _)]) Tryd.func26 Tryd.ntmps26 rfl (of_decide_eq_true rfl) (.cons rfl .nil) ?_
 repeat' first | refine Wl.move rfl rfl ?_ | refine Wl.assign rfl rfl ?_ | (apply Wl.on; exact rfl; exact rfl; (with_reducible first | rfl | assumption | decide)) | (apply Wl.off; exact rfl; exact rfl; exact rfl; (first | with_reducible rfl | (show _ = false; with_reducible assumption) | (show _ = true; with_reducible assumption) | decide)) | (apply Wl.pickT; exact rfl; exact rfl; (with_reducible first | rfl | assumption | decide); exact rfl) | (apply Wl.pickF; exact rfl; exact rfl; (with_reducible first | rfl | assumption | decide); exact rfl) | refine Wl.fieldAddrZ rfl rfl ?_ | (apply Wl.loadH; exact rfl; exact rfl; (focus repeat constructor); exact rfl) | refine Wl.lss rfl rfl rfl ?_ | refine Wl.gtr rfl rfl rfl ?_ | refine Wl.len rfl rfl ?_ | (apply Wl.boxA; exact rfl; exact rfl; intro c hc ho) | apply Wl.nil | apply St.seq | apply St.block | apply St.region | (apply St.condT; exact rfl; (with_reducible first | rfl | assumption | decide)) | apply St.ret | apply St.skip | apply Gt.next | apply Gt.thenRet | (apply Gt.out1; exact rfl; exact rfl; intro w' hp) | (apply Wl.splitP; exact rfl; exact rfl; all_goals (intros; try (exfalso; omega))) | (apply St.condP; exact rfl; all_goals (intros; try (exfalso; omega)))
 all_goals try exact ⟨by rw [show rightOf m = 3 from by unfold rightOf; rw [if_neg (by omega)]]; rfl, (hp.drop (by simp; omega)).upd.mono fun _ _ y => (y trivial).elim⟩
 have hmain : rightOf m = paysR [] m.pays := by unfold rightOf; rw [if_pos (by omega)]
 refine St.loop (σ := Nat × World × Value × List Gr)
  (fun τ => τ.1 ≤ xs.length ∧ Upd (fun k => w.heap.size ≤ k) w τ.2.1 ∧ τ.2.1.ownsRow w.heap.size 61 3 τ.2.2.1 τ.2.2.2.length (τ.2.2.2.flatMap grCells) ∧ rightOf m = paysR τ.2.2.2 (m.pays.drop τ.1) ∧ τ.2.2.2.length ≤ 4 * τ.1 ∧ ∀ g ∈ τ.2.2.2, GrV g)
  (fun τ => [(3, τ.2.2.1), (31, .slice ap xs.length cp), (32, .int .i64 xs.length), (33, .int .i64 τ.1)])
  (fun τ => Hp τ.2.1 [])
  (fun τ => xs.length - τ.1) (0, w, .slice none 0 0, []) ⟨Nat.zero_le _, Upd.refl _ _, World.ownsRow_nil _ _ _ _, hmain, Nat.zero_le _, fun g hg => by cases hg⟩ (by repeat constructor) (fun _ h => h.drop (by simp; omega)) ?_
 rintro ⟨i, w0, va, all⟩ ⟨hin, hu, hown, hri, hal, hgv⟩
 simp only at hin hu hown hri hal hgv ⊢
 by_cases hlt : i < xs.length
 ·obtain ⟨x, hx⟩ : ∃ x, xs[i]? = some x := ⟨_, List.getElem?_eq_getElem hlt⟩
  obtain ⟨hsg, hdl, hsz, hbi, hca, hgrs, _⟩ := hpy x (List.mem_of_getElem? hx)
  have hdrop : m.pays.drop i = x.1 :: m.pays.drop (i + 1) := by
   have h1 : m.pays[i]? = some x.1 := by rw [← hxs, List.getElem?_map, hx]; rfl
   obtain ⟨h2, h3⟩ := List.getElem?_eq_some_iff.1 h1
   rw [List.drop_eq_getElem_cons h2, h3]
  have hpyl : ∀ x ∈ xs, (pyCells x).length = 36 := fun x hx => pyCells_len x (hpy x hx).2.1
  obtain ⟨⟨dig, psz, pbi, gs, pca⟩, gv⟩ := x
  simp only at hsg hdl hsz hbi hca hgrs hdrop
  unfold I64 at hca
  obtain ⟨d0, d1, d2, d3, d4, d5, d6, d7, d8, d9, d10, d11, d12, d13, d14, d15, d16, d17, d18, d19, d20, d21, d22, d23, d24, d25, d26, d27, d28, d29, d30, d31, rfl⟩ := list32 dig hdl
  obtain ⟨bp, op, cp', hap, _, _⟩ := Sv.some_of hsv0 (fun e => by have := flat36 hpyl hx (j := 0) (by decide); rw [e] at this; simp [pyCells, byteCells] at this)
  simp only [Value.slice.injEq, true_and] at hap
  obtain ⟨rfl, rfl⟩ := hap
  have hsg0 := hsg
  obtain ⟨_, ga, gc, rfl, hg1, hg2, _, _⟩ := hsg
  have hce : ∀ j v, [Value.int .u8 (d0.toNat : Int), .int .u8 (d1.toNat : Int), .int .u8 (d2.toNat : Int), .int .u8 (d3.toNat : Int), .int .u8 (d4.toNat : Int), .int .u8 (d5.toNat : Int), .int .u8 (d6.toNat : Int), .int .u8 (d7.toNat : Int), .int .u8 (d8.toNat : Int), .int .u8 (d9.toNat : Int), .int .u8 (d10.toNat : Int), .int .u8 (d11.toNat : Int), .int .u8 (d12.toNat : Int), .int .u8 (d13.toNat : Int), .int .u8 (d14.toNat : Int), .int .u8 (d15.toNat : Int), .int .u8 (d16.toNat : Int), .int .u8 (d17.toNat : Int), .int .u8 (d18.toNat : Int), .int .u8 (d19.toNat : Int), .int .u8 (d20.toNat : Int), .int .u8 (d21.toNat : Int), .int .u8 (d22.toNat : Int), .int .u8 (d23.toNat : Int), .int .u8 (d24.toNat : Int), .int .u8 (d25.toNat : Int), .int .u8 (d26.toNat : Int), .int .u8 (d27.toNat : Int), .int .u8 (d28.toNat : Int), .int .u8 (d29.toNat : Int), .int .u8 (d30.toNat : Int), .int .u8 (d31.toNat : Int), .int .u32 psz, .int .u32 pbi, .slice ga gs.length gc, .int .i64 pca][j]? = some v → w0.cell? ⟨bp, op + (i : Int).toNat * 36 + j, none⟩ = some v := by
   intro j v hj
   have hj36 : j < 36 := (List.getElem?_eq_some_iff.1 hj).1
   have := flat36 hpyl hx hj36
   rw [show op + (i : Int).toNat * 36 + j = op + (i * 36 + j) by omega]
   have hc := Sv.cellN hsv0 (this.trans hj)
   exact hu.cell hc (by have := World.block_lt_of_cell? w _ hc; simp only at this ⊢; omega)
  have t1 : (pbi : Int).tmod 4 = ((pbi % 4 : Nat) : Int) := rfl
  repeat' first | (apply Wl.loadAP; exact rfl; exact rfl; exact hce; exact trivial; exact rfl) | refine Wl.move rfl rfl ?_ | refine Wl.assign rfl rfl ?_ | (apply Wl.on; exact rfl; exact rfl; (with_reducible first | rfl | assumption | decide)) | (apply Wl.off; exact rfl; exact rfl; exact rfl; (first | with_reducible rfl | (show _ = false; with_reducible assumption) | (show _ = true; with_reducible assumption) | decide)) | (apply Wl.pickT; exact rfl; exact rfl; (with_reducible first | rfl | assumption | decide); exact rfl) | (apply Wl.pickF; exact rfl; exact rfl; (with_reducible first | rfl | assumption | decide); exact rfl) | refine Wl.fieldAddrZ rfl rfl ?_ | (apply Wl.loadH; exact rfl; exact rfl; (focus repeat constructor); exact rfl) | refine Wl.neq rfl rfl rfl ?_ | refine Wl.lss rfl rfl rfl ?_ | refine Wl.gtr rfl rfl rfl ?_ | (apply Wl.rem; exact rfl; exact rfl; exact rfl; (first | decide | omega)) | refine Wl.len rfl rfl ?_ | (apply Wl.storeA; exact rfl; exact rfl; exact rfl; exact rfl; (focus repeat constructor); (repeat (first | apply LPut.s | apply LPut.z | apply LOver.nil | apply LOver.cons))) | (apply Wl.alloc; exact rfl; intro c hc ho) | (refine Wl.indexAddr rfl rfl rfl ?_ ?_; constructor <;> omega) | apply Wl.nil | apply St.seq | apply St.block | apply St.region | (apply St.condT; exact rfl; (with_reducible first | rfl | assumption | decide)) | apply St.ret | apply St.skip | apply Gt.next | apply Gt.thenRet | apply Gt.inRet | (apply Gt.out1; exact rfl; exact rfl; intro w' hp) | (apply Wl.splitP; exact rfl; exact rfl; all_goals (intros; try (exfalso; omega))) | (apply St.condP; exact rfl; all_goals (intros; try (exfalso; omega)))
  all_goals try exact ⟨by rw [hri, hdrop]; simp only [paysR]; rw [if_neg (by unfold payB; simp only [decide_eq_true_eq]; omega)]; rfl, hu.comp (hp.drop (by simp; omega)).upd fun _ _ hs => hs.elim id fun y => (y trivial).elim⟩
  generalize c = c5 at *
  have hcw5 : w0.heap.size ≤ c5 := hc
  have hpay : payB (⟨[d0, d1, d2, d3, d4, d5, d6, d7, d8, d9, d10, d11, d12, d13, d14, d15, d16, d17, d18, d19, d20, d21, d22, d23, d24, d25, d26, d27, d28, d29, d30, d31], psz, pbi, gs, pca⟩ : Py) = true := by unfold payB; simp only [decide_eq_true_eq]; omega
  have hri' : rightOf m = if (grantsR all none gs).1 = 0 then paysR (grantsR all none gs).2 (m.pays.drop (i + 1)) else (grantsR all none gs).1 := by
   rw [hri, hdrop]; simp only [paysR]; rw [if_pos hpay]
  have hriE : ∀ e, (grantsR all none gs).1 = e → e ≠ 0 → rightOf m = e := fun e h1 h2 => by rw [hri', if_neg (by rw [h1]; exact h2), h1]
  have hriO : ∀ a', grantsR all none gs = (0, a') → rightOf m = paysR a' (m.pays.drop (i + 1)) := fun a' h1 => by rw [hri', if_pos (by rw [h1]), h1]
  clear hri'
  have hglen : gs.length ≤ 4 := by omega
  have hvs : ∀ k, va.ownBlock = some k → w.heap.size ≤ k ∧ k < w0.heap.size := fun k hk => hown.lt k hk
  apply St.reb (H' := [])
  intro w1 h1
  refine ⟨trivial, trivial, ?_⟩
  have hc5 : w1.cell? ⟨c5, 34, none⟩ = some (.slice ga gs.length gc) := h1.cell (.head _) rfl
  have u01 : Ext w0 w1 := (h1.drop (by simp; omega)).ext
  have hc1 : c5 < w1.heap.size := h1.own.lt (.head _)
  refine St.loop (σ := Nat × World × Value × List Gr)
   (fun τ => τ.1 ≤ gs.length ∧ Upd (fun k => w.heap.size ≤ k) w τ.2.1 ∧ τ.2.1.ownsRow w.heap.size 61 3 τ.2.2.1 τ.2.2.2.length (τ.2.2.2.flatMap grCells) ∧ grantsR all none gs = grantsR τ.2.2.2 (prevOf gs τ.1) (gs.drop τ.1) ∧
    τ.2.2.2.length = all.length + τ.1 ∧ (∀ g ∈ τ.2.2.2, GrV g) ∧ τ.2.1.cell? ⟨c5, 34, none⟩ = some (.slice ga gs.length gc) ∧ c5 < τ.2.1.heap.size ∧ τ.2.2.1.ownBlock ≠ some c5)
   (fun τ => [(3, τ.2.2.1), (5, .pointer (some ⟨c5, 0, none⟩)), (31, .slice (some ⟨bp, op, none⟩) xs.length cp), (32, .int .i64 xs.length), (33, .int .i64 i), (69, .slice ga gs.length gc), (70, .int .i64 gs.length), (71, .int .i64 τ.1)])
   (fun τ => Hp τ.2.1 [])
   (fun τ => gs.length - τ.1) (0, w1, va, all) ⟨Nat.zero_le _, hu.comp u01 fun _ _ hs => hs.elim id False.elim, ownsRow_upd hown u01 fun _ _ y => y, by simp [prevOf], rfl, hgv, hc5, hc1, fun e => by have := (hvs c5 e).2; omega⟩ (by repeat constructor) (fun _ h => h) ?_
  clear hc5 u01 hc1 h1 w1
  rintro ⟨k, w1, vb, all'⟩ ⟨hkn, hu1, hown1, hgr, hal', hgv', hc5, hc1, hvc⟩
  simp only at hkn hu1 hown1 hgr hal' hgv' hc5 hc1 hvc ⊢
  by_cases hkl : k < gs.length
  ·obtain ⟨g, hg⟩ : ∃ g, gs[k]? = some g := ⟨_, List.getElem?_eq_getElem hkl⟩
   have hgd : gs.drop k = g :: gs.drop (k + 1) := by
    obtain ⟨h2, h3⟩ := List.getElem?_eq_some_iff.1 hg
    rw [List.drop_eq_getElem_cons h2, h3]
   have hgV := hgrs g (List.mem_of_getElem? hg)
   have hg32 := hgV.1
   have hgs32 := hgV.2.1
   obtain ⟨gb, go, gc', hga, _, _⟩ := Sv.some_of hsg0 (fun e => by have := flat3 grCells_len hg (j := 0) (by decide); rw [e] at this; simp [grCells] at this)
   simp only [Value.slice.injEq, true_and] at hga
   obtain ⟨rfl, rfl⟩ := hga
   have hcell : ∀ n j v q, gs[n]? = some q → (grCells q)[j]? = some v → j < 3 → w1.cell? ⟨gb, go + (n * 3 + j), none⟩ = some v := by
    intro n j v q hq hj hj3
    have hc := Sv.cellN hsg0 ((flat3 grCells_len hq hj3).trans hj)
    exact hu1.cell hc (by have := World.block_lt_of_cell? w _ hc; simp only at this ⊢; omega)
   have hge : ∀ j v, [Value.int .u32 g.start, .int .u32 g.size, .int .i64 g.rights][j]? = some v → w1.cell? ⟨gb, go + (k : Int).toNat * 3 + j, none⟩ = some v := by
    intro j v hj
    have hj3 : j < 3 := (List.getElem?_eq_some_iff.1 hj).1
    rw [show go + (k : Int).toNat * 3 + j = go + (k * 3 + j) by omega]
    exact hcell k j v g hg hj hj3
   have hgb : gb < w1.heap.size := World.block_lt_of_cell? w1 _ (hge 0 _ rfl)
   obtain ⟨_, ab, cb, rfl, hb1, hb2, _, _⟩ := Sv.ofOwn hown1
   repeat' first | refine Wl.lss rfl rfl rfl ?_ | apply Wl.nil | apply St.region | apply St.skip | apply Gt.next | (apply St.seqK (k := 12); exact rfl) | apply St.seqC | (apply St.condP; exact rfl; all_goals (intros; try (exfalso; omega)))
   apply St.seq
   repeat' first | (apply Wl.loadAP; exact rfl; exact rfl; exact hge; exact trivial; exact rfl) | refine Wl.move rfl rfl ?_ | refine Wl.assign rfl rfl ?_ | (apply Wl.storeA; exact rfl; exact rfl; exact rfl; exact rfl; (focus repeat constructor); (repeat (first | apply LPut.s | apply LPut.z | apply LOver.nil | apply LOver.cons))) | (apply Wl.alloc; exact rfl; intro c hc ho) | (refine Wl.indexAddr rfl rfl rfl ?_ ?_; constructor <;> omega) | apply Wl.nil | apply St.block | apply St.region | apply Gt.next | (apply St.seqK (k := 12); exact rfl)
   generalize c = c7 at *
   have hcw7 : w1.heap.size ≤ c7 := hc
   refine St.cut (σ := Unit) (fun _ => fineB g = true ∧ notUp (prevOf gs k) g = false) (fun _ => [(3, .slice ab all'.length cb), (5, .pointer (some ⟨c5, 0, none⟩)), (7, .pointer (some ⟨c7, 0, none⟩)), (31, .slice (some ⟨bp, op, none⟩) xs.length cp), (32, .int .i64 xs.length), (33, .int .i64 i), (69, .slice (some ⟨gb, go, none⟩) gs.length gc), (70, .int .i64 gs.length), (71, .int .i64 k)])
    (fun _ => Hp w1 [⟨c7, grCells g, 61⟩]) ?_ ?_
   ·apply St.seq
    apply St.draw
    ·exact mixed
    ·kernel_rfl
    ·exact fun _ h => Hp.drew h
    have hten (h : (!fineB g || notUp (prevOf gs k) g) = true) (H : List Blk) (w' : World) (hp : Hp w1 H w') (hH : ∀ x ∈ H, w1.heap.size ≤ x.b) : Ending.returned (.int .i64 10) = Ending.returned (.int .i64 (rightOf m)) ∧ Upd (fun k => w.heap.size ≤ k) w w' := by
     refine ⟨?_, hu1.comp (hp.drop hH).upd fun _ _ hs => hs.elim id fun y => (y trivial).elim⟩
     rw [hriE 10 (by rw [hgr, hgd]; simp only [grantsR]; rw [if_pos h]) (by decide)]; rfl
    cases k with
    | zero =>
     repeat' first | (apply Wl.loadAH; exact rfl; exact rfl; (focus repeat constructor); (focus repeat constructor))
     apply Wl.callQQ
     exact rfl
     (focus repeat constructor)
     ·intro wq hq
      exact hq.q (grant_any g wq hgV)
     repeat' first | refine Wl.move rfl rfl ?_ | refine Wl.assign rfl rfl ?_ | (apply Wl.on; exact rfl; exact rfl; (with_reducible first | rfl | assumption | decide)) | (apply Wl.off; exact rfl; exact rfl; exact rfl; (first | with_reducible rfl | (show _ = false; with_reducible assumption) | (show _ = true; with_reducible assumption) | decide)) | refine Wl.offU rfl rfl rfl ?_ | (apply Wl.pickT; exact rfl; exact rfl; (with_reducible first | rfl | assumption | decide); exact rfl) | (apply Wl.pickF; exact rfl; exact rfl; (with_reducible first | rfl | assumption | decide); exact rfl) | refine Wl.not rfl rfl ?_ | refine Wl.gtr rfl rfl rfl ?_ | apply Wl.nil | apply Wl.nilQ | apply St.seq | apply St.region | (apply St.condT; exact rfl; (with_reducible first | rfl | assumption | decide)) | (apply St.condF; exact rfl; (with_reducible first | rfl | assumption | decide)) | apply St.ret | apply St.skip | apply Gt.next | apply Gt.thenRet | apply Gt.inRet | (apply Gt.out1; exact rfl; exact rfl; intro w' hp) | (apply Wl.splitB; exact rfl; exact rfl; all_goals intros)
     ·rename_i hnf
      exact hten (by rw [hnf]; rfl) _ _ hp (by simp; omega)
     ·rename_i hnf
      apply Gt.meet ()
      ·exact ⟨by simpa using hnf, rfl⟩
      ·repeat constructor
      ·exact fun _ h => h
    | succ k =>
     obtain ⟨q, hq⟩ : ∃ q, gs[k]? = some q := ⟨_, List.getElem?_eq_getElem (by omega)⟩
     have hpv : w1.cell? ⟨gb, go + (((k + 1 : Nat) : Int) - 1).toNat * 3, none⟩ = some (.int .u32 q.start) := by
      have := hcell k 0 _ q hq rfl (by decide)
      rw [show go + (((k + 1 : Nat) : Int) - 1).toNat * 3 = go + (k * 3 + 0) by omega]
      exact this
     repeat' first | (apply Wl.loadAH; exact rfl; exact rfl; (focus repeat constructor); (focus repeat constructor))
     apply Wl.callQQ
     exact rfl
     (focus repeat constructor)
     ·intro wq hq
      exact hq.q (grant_any g wq hgV)
     repeat' first | refine Wl.move rfl rfl ?_ | refine Wl.assign rfl rfl ?_ | (apply Wl.on; exact rfl; exact rfl; (with_reducible first | rfl | assumption | decide)) | (apply Wl.off; exact rfl; exact rfl; exact rfl; (first | with_reducible rfl | (show _ = false; with_reducible assumption) | (show _ = true; with_reducible assumption) | decide)) | refine Wl.offU rfl rfl rfl ?_ | (apply Wl.pickT; exact rfl; exact rfl; (with_reducible first | rfl | assumption | decide); exact rfl) | (apply Wl.pickF; exact rfl; exact rfl; (with_reducible first | rfl | assumption | decide); exact rfl) | refine Wl.not rfl rfl ?_ | refine Wl.fieldAddr0 rfl rfl ?_ | refine Wl.fieldAddrZ rfl rfl ?_ | (apply Wl.loadH; exact rfl; exact rfl; (focus repeat constructor); exact rfl) | (apply Wl.loadO; exact rfl; exact rfl; (assumption); (repeat (first | exact trivial | refine ⟨by first | assumption | omega, ?_⟩))) | refine Wl.leq rfl rfl rfl ?_ | refine Wl.gtr rfl rfl rfl ?_ | (refine Wl.subI rfl rfl rfl ?_ ?_; constructor <;> omega) | (refine Wl.indexAddr rfl rfl rfl ?_ ?_; constructor <;> omega) | apply Wl.nil | apply Wl.nilQ | apply St.seq | apply St.region | (apply St.condT; exact rfl; (with_reducible first | rfl | assumption | decide)) | apply St.ret | apply St.skip | apply Gt.next | apply Gt.thenRet | apply Gt.inRet | (apply Gt.out1; exact rfl; exact rfl; intro w' hp) | (apply Wl.splitP; exact rfl; exact rfl; all_goals (intros; try (exfalso; omega))) | (apply Wl.splitB; exact rfl; exact rfl; all_goals intros) | (apply St.condP; exact rfl; all_goals (intros; try (exfalso; omega)))
     ·rename_i hnf
      exact hten (by rw [hnf]; rfl) _ _ hp (by simp; omega)
     ·exact ⟨fun e => by have e' : c7 = c5 := e; omega, trivial⟩
     ·exact ⟨fun e => by have e' : c7 = gb := e; omega, trivial⟩
     ·refine hten ?_ _ _ hp (by simp; omega)
      rw [show notUp (prevOf gs (k + 1)) g = true from by simp only [prevOf, hq, notUp]; exact decide_eq_true (by omega)]
      simp
     ·rename_i hnf _ _ _ _
      apply Gt.meet ()
      ·exact ⟨by simpa using hnf, by simp only [prevOf, hq, notUp]; exact decide_eq_false (by omega)⟩
      ·repeat constructor
      ·exact fun _ h => h
   rintro _ ⟨hfine, hnu⟩
   repeat' first | refine Wl.move rfl rfl ?_ | refine Wl.len rfl rfl ?_ | apply Wl.nil | apply St.seq | apply St.block | apply St.region | apply Gt.next
   refine St.loop (σ := Nat) (fun j => j ≤ all'.length ∧ ∀ o ∈ all'.take j, apG g o = true)
    (fun j => [(3, .slice ab all'.length cb), (5, .pointer (some ⟨c5, 0, none⟩)), (7, .pointer (some ⟨c7, 0, none⟩)), (31, .slice (some ⟨bp, op, none⟩) xs.length cp), (32, .int .i64 xs.length), (33, .int .i64 i), (69, .slice (some ⟨gb, go, none⟩) gs.length gc), (70, .int .i64 gs.length), (71, .int .i64 k), (95, .slice ab all'.length cb), (96, .int .i64 all'.length), (97, .int .i64 j)])
    (fun _ => Hp w1 [⟨c7, grCells g, 61⟩]) (fun j => all'.length - j) 0 ⟨Nat.zero_le _, fun o ho => by simp at ho⟩ (by repeat constructor) (fun _ h => h) ?_
   rintro j ⟨hjn, hja⟩
   by_cases hjl : j < all'.length
   ·obtain ⟨o, hoj⟩ : ∃ o, all'[j]? = some o := ⟨_, List.getElem?_eq_getElem hjl⟩
    obtain ⟨ho32, hos32, _⟩ := hgv' o (List.mem_of_getElem? hoj)
    obtain ⟨aq, ao, cb', hab, _, _⟩ := Sv.some_of (Sv.ofOwn hown1) (fun e => by have := flat3 grCells_len hoj (j := 0) (by decide); rw [e] at this; simp [grCells] at this)
    simp only [Value.slice.injEq, true_and] at hab
    obtain ⟨rfl, rfl⟩ := hab
    have hoe : ∀ n v, [Value.int .u32 o.start, .int .u32 o.size, .int .i64 o.rights][n]? = some v → w1.cell? ⟨aq, ao + (j : Int).toNat * 3 + n, none⟩ = some v := by
     intro n v hj
     have hj3 : n < 3 := (List.getElem?_eq_some_iff.1 hj).1
     rw [show ao + (j : Int).toNat * 3 + n = ao + (j * 3 + n) by omega]
     exact Sv.cellN (Sv.ofOwn hown1) ((flat3 grCells_len hoj hj3).trans hj)
    have haq : aq < w1.heap.size := World.block_lt_of_cell? w1 _ (hoe 0 _ rfl)
    repeat' first | (apply Wl.loadAP; exact rfl; exact rfl; exact hoe; exact ⟨fun e => by have e' : c7 = aq := e; omega, trivial⟩; exact rfl) | refine Wl.fieldAddr0 rfl rfl ?_ | refine Wl.fieldAddrZ rfl rfl ?_ | (apply Wl.loadH; exact rfl; exact rfl; (focus repeat constructor); exact rfl) | refine Wl.lss rfl rfl rfl ?_ | (apply Wl.storeA; exact rfl; exact rfl; exact rfl; exact rfl; (focus repeat constructor); (repeat (first | apply LPut.s | apply LPut.z | apply LOver.nil | apply LOver.cons))) | (apply Wl.alloc; exact rfl; intro c hc ho) | (refine Wl.indexAddr rfl rfl rfl ?_ ?_; constructor <;> omega) | apply Wl.nil | apply St.seq | apply St.block | apply St.region | apply St.skip | apply Gt.next | (apply St.condP; exact rfl; all_goals (intros; try (exfalso; omega)))
    apply Wl.callQ
    exact rfl
    (focus repeat constructor)
    ·intro wq hq
     exact hq.q (apart_any g.start g.size o.start o.size wq (by unfold U32; omega) (by unfold U32; omega) (by unfold U32; omega) (by unfold U32; omega))
    repeat' first | refine Wl.move rfl rfl ?_ | refine Wl.assign rfl rfl ?_ | refine Wl.not rfl rfl ?_ | (refine Wl.addI rfl rfl rfl ?_ ?_; constructor <;> omega) | apply Wl.nil | apply St.seq | apply St.region | apply St.ret | apply St.skip | apply Gt.next | apply Gt.thenRet | apply Gt.inNormal | apply Gt.inRet | (apply Gt.out1; exact rfl; exact rfl; intro w' hp) | (apply St.condB; exact rfl; all_goals intros)
    ·rename_i hna
     refine ⟨?_, hu1.comp (hp.drop (by simp; omega)).upd fun _ _ hs => hs.elim id fun y => (y trivial).elim⟩
     rw [hriE 11 (by
      rw [hgr, hgd]; simp only [grantsR]
      rw [if_neg (by rw [hfine, hnu]; simp), if_neg fun h => by
       have h1 := List.all_eq_true.1 h o (List.mem_of_getElem? hoj)
       unfold apG at h1
       rw [h1] at hna
       cases hna]) (by decide)]
     rfl
    ·rename_i hna
     apply Gt.round (j + 1)
     ·refine ⟨hjl, fun o' ho' => ?_⟩
      rw [List.take_add_one, hoj] at ho'
      rcases List.mem_append.1 ho' with ho' | ho'
      ·exact hja o' ho'
      ·simp only [Option.toList_some, List.mem_singleton] at ho'
       subst ho'
       unfold apG
       simpa using hna
     ·omega
     ·repeat constructor
     ·exact fun u hu' => Hp.pop1 hu' hc
   ·have hj' : j = all'.length := by omega
    subst hj'
    rw [List.take_length] at hja
    have hapart : all'.all (apG g) = true := List.all_eq_true.2 hja
    repeat' first | refine Wl.move rfl rfl ?_ | refine Wl.lss rfl rfl rfl ?_ | (apply Wl.loadAH; exact rfl; exact rfl; (focus repeat constructor); (focus repeat constructor)) | (apply Wl.lit; exact rfl; (repeat (first | exact Parts.nil | apply Parts.cons rfl)); exact rfl; exact rfl; (repeat (first | apply CatP.nil | (apply CatP.one; exact rfl; exact rfl) | (apply CatP.agg; exact rfl) | apply LApp.nil | apply LApp.cons)); intro c hc ho) | apply Wl.nil | apply St.seq | apply St.region | apply St.exit | apply Gt.next | apply Gt.thenExit | apply Gt.inExit | (apply St.condP; exact rfl; all_goals (intros; try (exfalso; omega)))
    apply Wl.appendT
    ·exact rfl
    ·exact rfl
    ·exact rfl
    ·exact hc
    ·exact rfl
    ·exact hown1
    ·exact fun k hk => ⟨fun e => by have := (hown1.lt k hk).2; have e' : c7 = k := e; omega, trivial⟩
    ·exact rfl
    ·exact rfl
    ·decide
    ·unfold maxLen; omega
    ·omega
    ·exact hu1.size
    intro vb' w2 ho2 u2 _ hk2
    have u2' : Upd (fun k => (Value.slice ab all'.length cb).ownBlock = some k) w1 w2 := u2.mono fun k hk hs => hs.elim id fun y => (y ⟨fun e => by have e' : c7 = k := e; omega, trivial⟩).elim
    have hvsb : ∀ k, (Value.slice ab all'.length cb).ownBlock = some k → w.heap.size ≤ k ∧ k < w1.heap.size := fun k hk => hown1.lt k hk
    repeat' first | refine Wl.move rfl rfl ?_ | refine Wl.assign rfl rfl ?_ | (refine Wl.addI rfl rfl rfl ?_ ?_; constructor <;> omega) | apply Wl.nil | apply St.region | apply Gt.next | apply Gt.inNormal
    apply Gt.reb (H' := [])
    intro w3 h3
    refine ⟨trivial, trivial, ?_⟩
    have u3 : Upd (fun k => k = c7) w2 w3 := h3.upd.mono fun k _ y => Classical.byContradiction fun e => y ⟨fun e' => e e'.symm, trivial⟩
    apply Gt.round (k + 1, w3, vb', all' ++ [g])
    rotate_left
    ·simp only; omega
    ·refine .cons rfl (.cons rfl (.cons rfl (.cons rfl (.cons rfl (.cons rfl (.cons rfl (.cons rfl .nil)))))))
    ·exact fun _ h => h
    refine ⟨hkl, (hu1.comp u2' (T := fun k => w.heap.size ≤ k) fun k _ hs => hs.elim id fun e => (hvsb k e).1).comp u3 fun k _ hs => hs.elim id fun e => by have := hu1.size; omega, ?_, ?_, by simp [hal']; omega, fun q hq => ?_, ?_, ?_, fun e => ?_⟩
    ·simp only
     rw [List.length_append, List.flatMap_append]
     exact ownsRow_upd ho2 u3 fun k hk e => (hk2 k hk).1.1 e.symm
    ·simp only
     rw [hgr, hgd]
     simp only [grantsR]
     rw [if_neg (by rw [hfine, hnu]; simp), if_pos hapart]
     simp only [prevOf, hg]
    ·rcases List.mem_append.1 hq with hq | hq
     ·exact hgv' q hq
     ·rw [List.mem_singleton] at hq; subst hq; exact hgV
    ·exact u3.cell (u2'.cell hc5 hvc) (fun e => by have e' : c5 = c7 := e; omega)
    ·have := u2'.size; have := u3.size; simp only; omega
    ·rcases (hk2 c5 e).2 with e' | e'
     ·exact hvc e'
     ·omega
  ·have hk' : k = gs.length := by omega
   subst hk'
   rw [List.drop_length] at hgr
   simp only [grantsR] at hgr
   repeat' first | refine Wl.move rfl rfl ?_ | refine Wl.lss rfl rfl rfl ?_ | (refine Wl.addI rfl rfl rfl ?_ ?_; constructor <;> omega) | apply Wl.nil | apply St.seq | apply St.region | apply St.exit | apply Gt.next | apply Gt.thenExit | apply Gt.inNormal | apply Gt.inExit | (apply St.condP; exact rfl; all_goals (intros; try (exfalso; omega)))
   apply Gt.round (i + 1, w1, vb, all')
   rotate_left
   ·simp only; omega
   ·repeat constructor
   ·exact fun _ h => h
   refine ⟨hlt, hu1, hown1, ?_, by simp only; omega, hgv'⟩
   simp only
   exact hriO _ hgr
 ·have hin' : i = xs.length := by omega
  subst hin'
  rw [hlen, List.drop_length] at hri
  repeat' first | refine Wl.assign rfl rfl ?_ | refine Wl.lss rfl rfl rfl ?_ | apply Wl.nil | apply St.seq | apply St.region | apply St.ret | apply St.exit | apply Gt.next | apply Gt.thenExit | apply Gt.inExit | (apply Gt.out1; exact rfl; exact rfl; intro w' hp) | (apply St.condP; exact rfl; all_goals (intros; try (exfalso; omega)))
  exact ⟨by rw [hri]; rfl, hu.comp hp.upd fun _ _ hs => hs.elim id fun y => (y trivial).elim⟩
end Go.Proofs.YtmjlceimjlabpaaDoor
end
section
namespace Go.Proofs.YtmjlceimjlabpaaDoor
open Go.RowKit Go.Pt
end Go.Proofs.YtmjlceimjlabpaaDoor
end
section
namespace Go.Pt
section
variable {P : Program} {ops : Array Oper} {N n : Nat} {Γ : Env} {C D : World → Prop} {Q : Act → World → Prop}
def Mt (P : Program) (ops : Array Oper) (N n : Nat) (listed : Array Bool) (Γ : Env) (D C : World → Prop) (Q : Act → World → Prop) : Prop :=
 ∀ a w, Fr N a Γ → D w → C w → wpAnyC P ops C Q n listed a w
def MtQ (P : Program) (ops : Array Oper) (C : World → Prop) (Q : Act → World → Prop) (n : Nat) (listed : Array Bool) : Exit → Act → World → Prop := fun _ a w => C w → wpAnyC P ops C Q n listed a w
def MtE (P : Program) (ops : Array Oper) (C : World → Prop) (Q : Act → World → Prop) (n : Nat) (listed : Array Bool) : Exit → Act → World → Prop := fun e a w => e = .normal ∧ C w ∧ wpAnyC P ops C Q n listed a w
theorem Mt.back {listed : Array Bool} (h : Mt P ops N n listed Γ D C Q) : Gt N .normal Γ D (MtQ P ops C Q n listed) := Gt.intro fun a w ha hD hC => h a w ha hD hC
theorem Mt.backE {listed : Array Bool} (hc : ∀ w, D w → C w) (h : Mt P ops N n listed Γ D C Q) : Gt N .normal Γ D (MtE P ops C Q n listed) := Gt.intro fun a w ha hD => ⟨rfl, hc w hD, h a w ha hD (hc w hD)⟩
theorem Mt.done {listed : Array Bool} (hr : (Region.ready .any ops listed).isEmpty = true) (h : ∀ a w, Fr N a Γ → D w → Q a w) : Mt P ops N n listed Γ D C Q := fun a w ha hD hC => by
 have hr' : Region.ready .any ops listed = [] := by simpa using hr
 cases n with
 | zero => exact ⟨hC, hr', h a w ha hD⟩
 | succ n => exact ⟨hC, fun _ => h a w ha hD, fun i hi => by rw [hr'] at hi; cases hi⟩
theorem Mt.pure {listed : Array Bool} (i : Nat) {o : Oper} (hs : Region.noSelect ops = true) (hi : ops[i]? = some o) (he : effB o = false) (hr : (Region.ready .any ops listed).contains i = true) (hf : Region.free .any ops listed i = true)
  (h : Wl [o] P (.mix D) ops N Γ C (MtQ P ops C Q n (listed.setIfInBounds i true))) : Mt P ops N (n + 1) listed Γ D C Q := fun a w ha hD hC => by
 have h := h.elimM a w ha hD hC
 simp only [wpE, he] at h
 by_cases hw : Region.wanted o (yielded ops a.tmps) = true
 ·rw [if_pos hw] at h
  obtain ⟨v, hv, h⟩ := h
  exact firstC hi hs n listed a w (Region.free_spec hi hf) (by simpa using hr) (.inl ⟨hw, hv⟩) (h hC)
 ·rw [if_neg hw] at h
  exact firstC hi hs n listed a w (Region.free_spec hi hf) (by simpa using hr) (.inr ⟨by simpa using hw, rfl⟩) (h hC)
theorem Mt.op {listed : Array Bool} {i : Nat} {o : Oper} (hi : ops[i]? = some o) (h : Wl [o] P .seq ops N Γ D (MtE P ops C Q n (listed.setIfInBounds i true))) (a : Act) (w : World) (ha : Fr N a Γ) (hD : D w) :
  wpOp P ops (onlyN Q) i (wpAnyC P ops C Q n (listed.setIfInBounds i true)) a w := by
 have h := h.elim a w ha hD
 unfold wpOp
 simp only [hi]
 simp only [wpList] at h
 split
 ·rename_i hw
  rw [if_pos hw] at h
  rcases h with h | ⟨_, x, y, h⟩
  ·refine .inl ?_
   have h1 := wp_only (fun _ _ _ h => h.1) h
   have h2 := Oper.wp_mono (fun a' w' hh => hh.2.2) h1
   unfold Oper.wp at *
   generalize (execOp a.eval o).run P w = r at *
   cases r with
   | ok n w' =>
    cases n <;> simp only [Oper.upon] at h2 ⊢
    case value u => exact h2
    case skip => exact h2
    case defer d => exact h2
    case enter f args => exact Calls.mono h2 (fun e w'' he => by cases e <;> first | exact he | exact he.elim | (obtain ⟨_, _, hf⟩ := he; exact hf.elim))
    case row row args => exact h2
   | halt x w' => cases x <;> simp only [Oper.upon] at h2
  ·cases h.1
 ·rename_i hw
  rw [if_neg hw] at h
  exact h.2.2
theorem Mt.eff1 {listed : Array Bool} {i : Nat} {o : Oper} (hr : Region.ready .any ops listed = [i]) (hi : ops[i]? = some o) (h : Wl [o] P .seq ops N Γ D (MtE P ops C Q n (listed.setIfInBounds i true))) : Mt P ops N (n + 1) listed Γ D C Q := fun a w ha hD hC => by
 refine ⟨hC, fun e => (by rw [hr] at e; cases e), fun j hj => ?_⟩
 rw [hr, List.mem_singleton] at hj
 subst hj
 exact Mt.op hi h a w ha hD
theorem Mt.eff2 {listed : Array Bool} {i j : Nat} {o o' : Oper} (hr : Region.ready .any ops listed = [i, j]) (hi : ops[i]? = some o) (hj : ops[j]? = some o') (h : Wl [o] P .seq ops N Γ D (MtE P ops C Q n (listed.setIfInBounds i true)))
  (h' : Wl [o'] P .seq ops N Γ D (MtE P ops C Q n (listed.setIfInBounds j true))) : Mt P ops N (n + 1) listed Γ D C Q := fun a w ha hD hC => by
 refine ⟨hC, fun e => (by rw [hr] at e; cases e), fun k hk => ?_⟩
 rw [hr] at hk
 simp only [List.mem_cons, List.not_mem_nil, or_false] at hk
 rcases hk with rfl | rfl
 ·exact Mt.op hi h a w ha hD
 ·exact Mt.op hj h' a w ha hD
end
section
variable {P : Program} {N : Nat} {Γ : Env} {C B : World → Prop} {Q : Exit → Act → World → Prop}
theorem St.tree {i : Nat} {l : List Oper} (B : World → Prop) (hm : P.follows .mixedOrders = true) (hC : ∀ w, C w → C w.drew ∧ B w.drew) (h : Mt P l.toArray N l.length (Array.replicate l.length false) Γ C B (fun a w => Q .normal a w)) :
  St (.region i l.toArray true) P N Γ C Q := St.intro fun a w ha hw => by
 refine wp_mono (wp_region_any (Q := onlyN fun a' w' => Q .normal a' w') hm ?_) ?_
 ·have := wpAny_of_C _ _ _ _ (h a w.drew ha (hC w hw).1 (hC w hw).2)
  simpa using this
 ·intro e a w h
  cases e <;> first | exact h | exact h.elim
theorem Mt.toGt {ops : Array Oper} {n : Nat} {listed : Array Bool} {D : World → Prop} (hr : (Region.ready .any ops listed).isEmpty = true) (h : Gt N .normal Γ D Q) : Mt P ops N n listed Γ D C (fun a w => Q .normal a w) := Mt.done hr fun a w ha hD => h.elim a w ha hD
end
end Go.Pt
end
section
namespace Go.Proofs.YtmjlceimjlabpaaDoor
def hi (B n i : Nat) : Nat := n / B ^ i
def dg (B n i : Nat) : Nat := hi B n i % B
theorem hi_zero (B n : Nat) : hi B n 0 = n := by simp [hi]
theorem hi_succ (B n i : Nat) : hi B n (i + 1) = hi B n i / B := by unfold hi; rw [Nat.pow_succ, Nat.div_div_eq_div_mul]
theorem dg_lt {B : Nat} (h : 0 < B) (n i : Nat) : dg B n i < B := Nat.mod_lt _ h
theorem hi_top {B n k : Nat} (h : n < B ^ k) : hi B n k = 0 := Nat.div_eq_of_lt h
theorem hi_eq (B n i : Nat) : hi B n i = B * hi B n (i + 1) + dg B n i := by rw [hi_succ]; unfold dg; exact (Nat.div_add_mod _ _).symm
theorem dg_ext {B n m k : Nat} (hn : n < B ^ k) (hm : m < B ^ k) (h : ∀ i, i < k → dg B n i = dg B m i) : n = m := by
 have key : ∀ j, j ≤ k → hi B n (k - j) = hi B m (k - j) := by
  intro j
  induction j with
  | zero => intro _; rw [Nat.sub_zero, hi_top hn, hi_top hm]
  | succ j ih =>
   intro hj
   have e : k - (j + 1) + 1 = k - j := by omega
   have h1 := ih (by omega)
   rw [hi_eq B n, hi_eq B m, e, h1, h _ (by omega)]
 have := key k (Nat.le_refl _)
 rw [Nat.sub_self, hi_zero, hi_zero] at this
 exact this
theorem dg_mod {B n k i : Nat} (hi' : i < k) : dg B (n % B ^ k) i = dg B n i := by
 unfold dg hi
 have e : B ^ k = B ^ i * B ^ (k - i) := by rw [← Nat.pow_add]; congr 1; omega
 have e2 : B ^ (k - i) = B * B ^ (k - i - 1) := by rw [← Nat.pow_succ']; congr 1; omega
 rw [e, Nat.mod_mul_right_div_self, e2, Nat.mod_mul_right_mod]
theorem lt_of_hi {B a b i : Nat} (h : hi B a i < hi B b i) : a < b := by
 rcases Nat.lt_or_ge a b with h' | h'
 ·exact h'
 ·exact absurd (Nat.div_le_div_right (c := B ^ i) h') (Nat.not_le.2 h)
abbrev W32 : Nat := 4294967296
abbrev W256 : Nat := 115792089237316195423570985008687907853269984665640564039457584007913129639936
theorem W256_eq : W256 = W32 ^ 8 := by decide
theorem add_step {a b c i : Nat} (h : hi W32 (a + b) i = hi W32 a i + hi W32 b i + c) :
  (c + (dg W32 a i + dg W32 b i)) % 4294967296 = dg W32 (a + b) i ∧ hi W32 (a + b) (i + 1) = hi W32 a (i + 1) + hi W32 b (i + 1) + (c + (dg W32 a i + dg W32 b i)) / 4294967296 := by
 rw [hi_succ, hi_succ, hi_succ]
 unfold dg W32 at *
 generalize hi 4294967296 (a + b) i = S at *
 generalize hi 4294967296 a i = X at *
 generalize hi 4294967296 b i = Y at *
 omega
theorem sub_step {a b c i : Nat} (hi8 : i < 8) (h : hi W32 (a + W256 - b) i + hi W32 b i + c = hi W32 a i + W32 ^ (8 - i)) (hc : c ≤ 1) :
  ((dg W32 a i + 18446744073709551616 - dg W32 b i) % 18446744073709551616 + 18446744073709551616 - c) % 18446744073709551616 % 4294967296 = dg W32 (a + W256 - b) i ∧
  hi W32 (a + W256 - b) (i + 1) + hi W32 b (i + 1) + ((dg W32 a i + 18446744073709551616 - dg W32 b i) % 18446744073709551616 + 18446744073709551616 - c) % 18446744073709551616 / 9223372036854775808 = hi W32 a (i + 1) + W32 ^ (8 - (i + 1)) ∧
  ((dg W32 a i + 18446744073709551616 - dg W32 b i) % 18446744073709551616 + 18446744073709551616 - c) % 18446744073709551616 / 9223372036854775808 ≤ 1 := by
 have e : W32 ^ (8 - i) = W32 * W32 ^ (8 - (i + 1)) := by rw [← Nat.pow_succ']; congr 1; omega
 rw [e] at h
 rw [hi_succ, hi_succ, hi_succ]
 unfold dg at *
 generalize W32 ^ (8 - (i + 1)) = P at *
 unfold W32 at *
 generalize hi 4294967296 (a + W256 - b) i = S at *
 generalize hi 4294967296 a i = X at *
 generalize hi 4294967296 b i = Y at *
 omega
theorem mul_step {t x y c i : Nat} (hx : x < W32) (hc : c < W32) (h : hi W32 (t + x * y) i = hi W32 t i + x * hi W32 y i + c) :
  c + (x * dg W32 y i + dg W32 t i) < 18446744073709551616 ∧ (c + (x * dg W32 y i + dg W32 t i)) % 4294967296 = dg W32 (t + x * y) i ∧
  hi W32 (t + x * y) (i + 1) = hi W32 t (i + 1) + x * hi W32 y (i + 1) + (c + (x * dg W32 y i + dg W32 t i)) / 4294967296 ∧ (c + (x * dg W32 y i + dg W32 t i)) / 4294967296 < W32 := by
 have e := hi_eq W32 y i
 have e2 : x * hi W32 y i = W32 * (x * hi W32 y (i + 1)) + x * dg W32 y i := by
  rw [e, Nat.mul_add, ← Nat.mul_assoc, Nat.mul_comm x W32, Nat.mul_assoc]
 have hd := dg_lt (B := W32) (by decide) y i
 have hb : x * dg W32 y i ≤ 4294967295 * 4294967295 := Nat.mul_le_mul (Nat.le_of_lt_succ hx) (Nat.le_of_lt_succ hd)
 have ht := dg_lt (B := W32) (by decide) t i
 rw [e2] at h
 have et := hi_eq W32 t i
 have es := hi_eq W32 (t + x * y) i
 have hs := dg_lt (B := W32) (by decide) (t + x * y) i
 rw [show W32 = 4294967296 from rfl] at *
 generalize dg 4294967296 (t + x * y) i = ds at *
 generalize hi 4294967296 (t + x * y) i = S at *
 generalize hi 4294967296 (t + x * y) (i + 1) = S' at *
 generalize dg 4294967296 t i = dt at *
 generalize hi 4294967296 t i = T at *
 generalize hi 4294967296 t (i + 1) = T' at *
 generalize x * dg 4294967296 y i = q at *
 generalize x * hi 4294967296 y (i + 1) = p at *
 omega
theorem mod_div_bit (X k r : Nat) (h : r < k) : X % 2 ^ k / 2 ^ r % 2 = X / 2 ^ r % 2 := by
 have e : 2 ^ k = 2 ^ r * 2 ^ (k - r) := by rw [← Nat.pow_add]; congr 1; omega
 have e2 : 2 ^ (k - r) = 2 * 2 ^ (k - r - 1) := by rw [← Nat.pow_succ']; congr 1; omega
 rw [e, Nat.mod_mul_right_div_self, e2, Nat.mod_mul_right_mod]
theorem bit_dg (n i : Nat) : dg W32 n (i / 32) / 2 ^ (i % 32) % 2 = n / 2 ^ i % 2 := by
 unfold dg hi W32
 rw [show (4294967296 : Nat) = 2 ^ 32 from rfl, mod_div_bit _ _ _ (Nat.mod_lt _ (by decide)), ← Nat.pow_mul, Nat.div_div_eq_div_mul, ← Nat.pow_add]
 congr 3
 omega
theorem bit_dg16 (n i : Nat) : dg 65536 n (i / 16) / 2 ^ (i % 16) % 2 = n / 2 ^ i % 2 := by
 unfold dg hi
 rw [show (65536 : Nat) = 2 ^ 16 from rfl, mod_div_bit _ _ _ (Nat.mod_lt _ (by decide)), ← Nat.pow_mul, Nat.div_div_eq_div_mul, ← Nat.pow_add]
 congr 3
 omega
theorem bit_step (n i : Nat) : n / 2 ^ i = 2 * (n / 2 ^ (i + 1)) + n / 2 ^ i % 2 := by
 rw [Nat.pow_succ, ← Nat.div_div_eq_div_mul]; omega
theorem horner (n m i : Nat) : (2 * (n / 2 ^ (i + 1) % m) + n / 2 ^ i % 2) % m = n / 2 ^ i % m := by
 conv => rhs; rw [bit_step n i]
 rw [Nat.add_mod, Nat.mul_mod, Nat.mod_mod, ← Nat.mul_mod, ← Nat.add_mod]
def half (m : Nat) : Nat := (m + 1) / 2
def rinv (m : Nat) : Nat := half m ^ 256
theorem two_half {m : Nat} (h : m % 2 = 1) : 2 * half m = m + 1 := by unfold half; omega
theorem W_rinv {m : Nat} (h : m % 2 = 1) : W256 * rinv m % m = 1 % m := by
 have e : W256 * rinv m = (m + 1) ^ 256 := by
  unfold rinv
  rw [show W256 = 2 ^ 256 from by decide, ← Nat.mul_pow, two_half h]
 rw [e, Nat.pow_mod, Nat.add_mod_left, ← Nat.pow_mod, Nat.one_pow]
theorem unW {m x y : Nat} (h : m % 2 = 1) (he : x * W256 % m = y % m) : x % m = y * rinv m % m := by
 have h1 : x * W256 * rinv m % m = y * rinv m % m := by rw [Nat.mul_mod, he, ← Nat.mul_mod]
 rw [← h1, Nat.mul_assoc, Nat.mul_mod, W_rinv h, ← Nat.mul_mod, Nat.mul_one]
theorem inW {m x : Nat} (h : m % 2 = 1) : x * W256 * rinv m % m = x % m := by
 rw [Nat.mul_assoc, Nat.mul_mod, W_rinv h, ← Nat.mul_mod, Nat.mul_one]
theorem inv_round {m x d : Nat} (hdd : d * d ∣ 4294967296) (h : (d : Int) ∣ (m : Int) * x - 1) :
  ((d * d : Nat) : Int) ∣ (m : Int) * ((x * ((2 + 4294967296 - m * x % 4294967296) % 4294967296) % 4294967296 : Nat) : Int) - 1 := by
 obtain ⟨k1, hk1⟩ : ∃ k1 : Int, (((2 + 4294967296 - m * x % 4294967296) % 4294967296 : Nat) : Int) = 2 - (m : Int) * x + 4294967296 * k1 := by
  have : ((m * x : Nat) : Int) = (m : Int) * x := by simp
  rw [← this]
  generalize m * x = p
  exact ⟨1 + ((p / 4294967296 : Nat) : Int) - (((2 + 4294967296 - p % 4294967296) / 4294967296 : Nat) : Int), by omega⟩
 generalize (2 + 4294967296 - m * x % 4294967296) % 4294967296 = r at *
 obtain ⟨k2, hk2⟩ : ∃ k2 : Int, ((x * r % 4294967296 : Nat) : Int) = (x : Int) * r + 4294967296 * k2 := by
  have : ((x * r : Nat) : Int) = (x : Int) * r := by simp
  rw [← this]
  generalize x * r = p
  exact ⟨- ((p / 4294967296 : Nat) : Int), by omega⟩
 rw [hk2, hk1]
 obtain ⟨u, hu⟩ := h
 obtain ⟨v, hv⟩ := hdd
 have e1 : (m : Int) * (x * (2 - m * x + 4294967296 * k1) + 4294967296 * k2) - 1 = - ((m * x - 1) * (m * x - 1)) + 4294967296 * (m * (x * k1 + k2)) := by
  simp only [Int.mul_add, Int.mul_sub, Int.sub_mul, Int.mul_one, Int.one_mul]
  have a1 : (m : Int) * (x * (m * x)) = m * x * (m * x) := by rw [Int.mul_assoc]
  have a2 : (m : Int) * (x * 2) = m * x * 2 := by rw [Int.mul_assoc]
  have a3 : (m : Int) * (x * (4294967296 * k1)) = 4294967296 * (m * (x * k1)) := by rw [← Int.mul_assoc (x : Int), Int.mul_comm (x : Int), Int.mul_assoc, ← Int.mul_assoc (m : Int), Int.mul_comm (m : Int), Int.mul_assoc]
  have a4 : (m : Int) * (4294967296 * k2) = 4294967296 * (m * k2) := by rw [← Int.mul_assoc, Int.mul_comm (m : Int), Int.mul_assoc]
  rw [a1, a2, a3, a4]
  omega
 rw [e1, hu]
 have e2 : (4294967296 : Int) = ((d * d : Nat) : Int) * (v : Int) := by rw [← Int.natCast_mul, ← hv]; rfl
 refine Int.dvd_add (Int.dvd_neg.2 ⟨u * u, ?_⟩) ⟨v * (m * (x * k1 + k2)), ?_⟩
 ·simp only [Int.natCast_mul]
  rw [Int.mul_assoc, Int.mul_assoc, ← Int.mul_assoc u, Int.mul_comm u (d : Int), Int.mul_assoc]
 ·rw [e2, Int.mul_assoc]
theorem neg_ok {m x : Nat} (h : ((4294967296 : Nat) : Int) ∣ (m : Int) * x - 1) : (m * ((4294967296 - x % 4294967296) % 4294967296) + 1) % 4294967296 = 0 := by
 obtain ⟨u, hu⟩ := h
 obtain ⟨k, hk⟩ : ∃ k : Int, (((4294967296 - x % 4294967296) % 4294967296 : Nat) : Int) = - (x : Int) + 4294967296 * k :=
  ⟨1 + ((x / 4294967296 : Nat) : Int) - (((4294967296 - x % 4294967296) / 4294967296 : Nat) : Int), by omega⟩
 generalize (4294967296 - x % 4294967296) % 4294967296 = r at *
 have e : ((m * r + 1 : Nat) : Int) = 4294967296 * (m * k - u) := by
  simp only [Int.natCast_add, Int.natCast_mul, hk, Int.mul_add, Int.mul_sub, Int.mul_neg]
  have a4 : (m : Int) * (4294967296 * k) = 4294967296 * (m * k) := by rw [← Int.mul_assoc, Int.mul_comm (m : Int), Int.mul_assoc]
  rw [a4]
  omega
 omega
theorem mont_q {m neg t : Nat} (h : (m * neg + 1) % 4294967296 = 0) : (t + t % 4294967296 * neg % 4294967296 * m) % 4294967296 = 0 := by
 have e : (t + t % 4294967296 * neg % 4294967296 * m) % 4294967296 = (t * (m * neg + 1)) % 4294967296 := by
  rw [Nat.add_mod, Nat.mul_mod, Nat.mod_mod, ← Nat.mul_mod, ← Nat.add_mod, Nat.mul_assoc, Nat.add_mod, Nat.mul_mod (t % 4294967296), Nat.mod_mod, ← Nat.mul_mod, ← Nat.add_mod]
  congr 1
  rw [Nat.mul_add, Nat.mul_one, Nat.mul_comm m neg, Nat.add_comm]
 rw [e, Nat.mul_mod, h, Nat.mul_zero, Nat.zero_mod]
theorem mod_succ (B a i : Nat) : a % B ^ (i + 1) = a % B ^ i + B ^ i * dg B a i := by
 unfold dg hi
 rw [Nat.pow_succ, Nat.mod_mul]
theorem mont_step {m a b T neg i : Nat} (hneg : (m * neg + 1) % 4294967296 = 0) (hb : b < m) (hT : T < 2 * m) (h : T * W32 ^ i % m = (a % W32 ^ i) * b % m) :
  let T1 := T + dg W32 a i * b
  let q := T1 % 4294967296 * neg % 4294967296
  (T1 + q * m) % 4294967296 = 0 ∧ (T1 + q * m) / 4294967296 < 2 * m ∧ (T1 + q * m) / 4294967296 * W32 ^ (i + 1) % m = (a % W32 ^ (i + 1)) * b % m := by
 intro T1 q
 have h0 : (T1 + q * m) % 4294967296 = 0 := mont_q hneg
 have hd := dg_lt (B := W32) (by decide) a i
 have hq : q < 4294967296 := Nat.mod_lt _ (by decide)
 have b1 : dg W32 a i * b ≤ 4294967295 * m := Nat.mul_le_mul (Nat.le_of_lt_succ hd) (Nat.le_of_lt hb)
 have b2 : q * m ≤ 4294967295 * m := Nat.mul_le_mul_right _ (by omega)
 have e : (T1 + q * m) / 4294967296 * 4294967296 = T1 + q * m := by omega
 refine ⟨h0, by omega, ?_⟩
 have e2 : (T1 + q * m) / 4294967296 * W32 ^ (i + 1) = (T1 + q * m) * W32 ^ i := by
  rw [Nat.pow_succ, Nat.mul_comm (W32 ^ i), ← Nat.mul_assoc]
  rw [show (T1 + q * m) / 4294967296 * W32 = (T1 + q * m) / 4294967296 * 4294967296 from rfl, e]
 rw [e2, mod_succ, Nat.add_mul, Nat.mul_assoc q, Nat.mul_comm m, ← Nat.mul_assoc, Nat.add_mul_mod_self_right]
 show (T + dg W32 a i * b) * W32 ^ i % m = _
 rw [Nat.add_mul, Nat.add_mul, Nat.add_mod, h, ← Nat.add_mod]
 congr 2
 rw [Nat.mul_comm _ (W32 ^ i), Nat.mul_assoc]
theorem once {m T : Nat} (h : T < 2 * m) : T % m = if m ≤ T then T - m else T := by
 split
 ·rw [Nat.mod_eq_sub_mod (by assumption), Nat.mod_eq_of_lt (by omega)]
 ·exact Nat.mod_eq_of_lt (by omega)
end Go.Proofs.YtmjlceimjlabpaaDoor
end
section
namespace Go.Pt
open Go.RowKit
def cellsN (k : IntKind) (n : Nat) (f : Nat → Nat) : List Value := (List.range n).map fun j => Value.int k (f j)
def updN (f : Nat → Nat) (i x : Nat) : Nat → Nat := fun j => if j = i then x else f j
theorem cellsN_len (k : IntKind) (n : Nat) (f : Nat → Nat) : (cellsN k n f).length = n := by simp [cellsN]
theorem cellsN_get {k : IntKind} {n i : Nat} {f : Nat → Nat} (h : i < n) : (cellsN k n f)[i]? = some (.int k (f i)) := by simp [cellsN, h]
theorem cellsN_one (k : IntKind) (n : Nat) (f : Nat → Nat) : (cellsN k n f).all Value.oneCell' = true := by simp [cellsN, Value.oneCell']
theorem cellsN_congr {k : IntKind} {n : Nat} {f g : Nat → Nat} (h : ∀ j, j < n → f j = g j) : cellsN k n f = cellsN k n g := by
 unfold cellsN
 apply List.map_congr_left
 intro j hj
 rw [h j (List.mem_range.1 hj)]
theorem lset_set {l : List Value} {i : Nat} {v : Value} (h : i < l.length) : LSet l i v (l.set i v) := by
 induction l generalizing i with
 | nil => simp at h
 | cons x r ih =>
  cases i with
  | zero => exact .z
  | succ i => exact .s (ih (by simpa using h))
theorem cellsN_set {k : IntKind} {n i x : Nat} {f : Nat → Nat} (h : i < n) : LSet (cellsN k n f) i (.int k x) (cellsN k n (updN f i x)) := by
 have e : cellsN k n (updN f i x) = (cellsN k n f).set i (.int k x) := by
  apply List.ext_getElem
  ·simp [cellsN]
  ·intro j h1 h2
   rw [List.getElem_set]
   simp only [cellsN, List.getElem_map, List.getElem_range, updN]
   by_cases e : i = j
   ·subst e; simp
   ·rw [if_neg e, if_neg (fun h => e h.symm)]
 rw [e]
 exact lset_set (by rw [cellsN_len]; exact h)
def fillN (f g : Nat → Nat) (i : Nat) : Nat → Nat := fun j => if j < i then g j else f j
theorem fillN_zero (f g : Nat → Nat) : fillN f g 0 = f := by funext j; simp [fillN]
theorem fillN_step (f g : Nat → Nat) (i : Nat) : updN (fillN f g i) i (g i) = fillN f g (i + 1) := by
 funext j
 unfold updN fillN
 by_cases e : j = i
 ·subst e; simp
 ·rw [if_neg e]
  by_cases h : j < i
  ·rw [if_pos h, if_pos (by omega)]
  ·rw [if_neg h, if_neg (by omega)]
theorem fillN_end (k : IntKind) (n : Nat) (f g : Nat → Nat) : cellsN k n (fillN f g n) = cellsN k n g := cellsN_congr fun j hj => by unfold fillN; rw [if_pos hj]
theorem fillN_at {f g : Nat → Nat} {i j : Nat} (h : i ≤ j) : fillN f g i j = f j := if_neg (by omega)
theorem fillN_lo {f g : Nat → Nat} {i j : Nat} (h : j < i) : fillN f g i j = g j := if_pos h
theorem z8 : (Value.agg #[.int .u32 0, .int .u32 0, .int .u32 0, .int .u32 0, .int .u32 0, .int .u32 0, .int .u32 0, .int .u32 0]).cells.toList = cellsN .u32 8 fun _ => 0 := rfl
theorem z10 : (Value.agg #[.int .u32 0, .int .u32 0, .int .u32 0, .int .u32 0, .int .u32 0, .int .u32 0, .int .u32 0, .int .u32 0, .int .u32 0, .int .u32 0]).cells.toList = cellsN .u32 10 fun _ => 0 := rfl
theorem z16 : (Value.agg #[.int .u64 0, .int .u64 0, .int .u64 0, .int .u64 0, .int .u64 0, .int .u64 0, .int .u64 0, .int .u64 0, .int .u64 0, .int .u64 0, .int .u64 0, .int .u64 0, .int .u64 0, .int .u64 0, .int .u64 0, .int .u64 0]).cells.toList = cellsN .u64 16 fun _ => 0 := rfl
theorem z17 : (Value.agg #[.int .u64 0, .int .u64 0, .int .u64 0, .int .u64 0, .int .u64 0, .int .u64 0, .int .u64 0, .int .u64 0, .int .u64 0, .int .u64 0, .int .u64 0, .int .u64 0, .int .u64 0, .int .u64 0, .int .u64 0, .int .u64 0, .int .u64 0]).cells.toList = cellsN .u64 17 fun _ => 0 := rfl
theorem z33 : (Value.agg #[.int .u64 0, .int .u64 0, .int .u64 0, .int .u64 0, .int .u64 0, .int .u64 0, .int .u64 0, .int .u64 0, .int .u64 0, .int .u64 0, .int .u64 0, .int .u64 0, .int .u64 0, .int .u64 0, .int .u64 0, .int .u64 0, .int .u64 0, .int .u64 0, .int .u64 0, .int .u64 0, .int .u64 0, .int .u64 0, .int .u64 0, .int .u64 0, .int .u64 0, .int .u64 0, .int .u64 0, .int .u64 0, .int .u64 0, .int .u64 0, .int .u64 0, .int .u64 0, .int .u64 0]).cells.toList = cellsN .u64 33 fun _ => 0 := rfl
theorem one8 : [Value.int .u32 1, .int .u32 0, .int .u32 0, .int .u32 0, .int .u32 0, .int .u32 0, .int .u32 0, .int .u32 0] = cellsN .u32 8 (Go.Proofs.YtmjlceimjlabpaaDoor.dg Go.Proofs.YtmjlceimjlabpaaDoor.W32 1) := rfl
theorem two8 : [Value.int .u32 2, .int .u32 0, .int .u32 0, .int .u32 0, .int .u32 0, .int .u32 0, .int .u32 0, .int .u32 0] = cellsN .u32 8 (Go.Proofs.YtmjlceimjlabpaaDoor.dg Go.Proofs.YtmjlceimjlabpaaDoor.W32 2) := rfl
theorem zero8 : [Value.int .u32 0, .int .u32 0, .int .u32 0, .int .u32 0, .int .u32 0, .int .u32 0, .int .u32 0, .int .u32 0] = cellsN .u32 8 (Go.Proofs.YtmjlceimjlabpaaDoor.dg Go.Proofs.YtmjlceimjlabpaaDoor.W32 0) := rfl
theorem one16 : [Value.int .u64 1, .int .u64 0, .int .u64 0, .int .u64 0, .int .u64 0, .int .u64 0, .int .u64 0, .int .u64 0, .int .u64 0, .int .u64 0, .int .u64 0, .int .u64 0, .int .u64 0, .int .u64 0, .int .u64 0, .int .u64 0] = cellsN .u64 16 (Go.Proofs.YtmjlceimjlabpaaDoor.dg 65536 1) := rfl
theorem run_neq_agg {P : Program} (w : World) {t : TypeId} {xs ys : Array Value} {la lb : List Lit} (hk : P.keyTypeAt 8 t = true) (fx : (Value.agg xs).formed P t = true) (fy : (Value.agg ys).formed P t = true) (hx : P.keyLits 8 t xs.toList = some la) (hy : P.keyLits 8 t ys.toList = some lb) :
  ∃ r : Bool, (binOp .eql t (.agg xs) (.agg ys)).run P w = .ok (.bool r) w ∧ (binOp .neq t (.agg xs) (.agg ys)).run P w = .ok (.bool (!r)) w ∧ (r = true ↔ la = lb) := by
 obtain ⟨r, hr, hiff⟩ := run_equalIn_deep 9992 8 t hk w 8 8 (.agg xs) (.agg ys) la lb fx fy hx hy
 refine ⟨r, ?_, ?_, hiff⟩ <;>
 ·have : (Op.equal t (.agg xs) (.agg ys)).run P w = .ok r w := hr
  simp [binOp, this]
theorem mapM_some {α β : Type} {f : α → Option β} {g : α → β} {l : List α} (h : ∀ x ∈ l, f x = some (g x)) : l.mapM f = some (l.map g) := by
 induction l with
 | nil => rfl
 | cons x r ih => rw [List.mapM_cons, h x (by simp), ih fun y hy => h y (by simp [hy])]; rfl
theorem flat1 {α β : Type} (h : α → β) (l : List α) : (l.map fun i => [h i]).flatten = l.map h := by
 induction l with
 | nil => rfl
 | cons x r ih => simp [ih]
theorem klInt {P : Program} {d t : Nat} {q : IntKind} {n : Int} (ht : P.underlying t = some (.int q)) (hn : q.min ≤ n ∧ n ≤ q.max) : P.keyLits (d + 1) t [.int q n] = some [.int q n] := by
 simp [Program.keyLits, ht, Lit.wf, hn.1, hn.2]
theorem klInts {P : Program} {d t n e : Nat} {q : IntKind} (ht : P.underlying t = some (.array n e)) (he : P.underlying e = some (.int q)) (hs : P.cellsOf t = n) (hse : P.cellsOf e = 1) (f : Nat → Nat) (hf : ∀ j, j < n → q.min ≤ (f j : Int) ∧ (f j : Int) ≤ q.max) :
  P.keyLits (d + 2) t (cellsN q n f) = some ((List.range n).map fun j => Lit.int q (f j)) := by
 show P.keyLits ((d + 1) + 1) t _ = _
 unfold Program.keyLits
 simp only [ht]
 rw [if_pos (by rw [cellsN_len, hs]), mapM_some (g := fun i => [Lit.int q (f i)]) ?_]
 ·simp only [Option.map_some, flat1]
 ·intro i hi
  have hi' : i < n := by simpa using hi
  rw [hse, Nat.mul_one]
  have e1 : ((cellsN q n f).drop i).take 1 = [.int q (f i)] := by
   have h2 : i < (cellsN q n f).length := by rw [cellsN_len]; exact hi'
   rw [List.drop_eq_getElem_cons h2]
   simp [cellsN]
  rw [e1]
  exact klInt he (hf i hi')
theorem guard_agg {op : BinOp} {t : TypeId} {P : Program} (hg : P.eqGuardType P.depth t = false) (x y : Operand) (a b : Array Value) (w : World) : (eqGuard op t x y (.agg a) (.agg b)).run P w = .ok () w := by
 cases op <;> simp [eqGuard, hg]
theorem run_ints {P : Program} (w : World) {t e n : Nat} {q : IntKind} (ht : P.underlying t = some (.array n e)) (he : P.underlying e = some (.int q)) (hs : P.cellsOf t = n) (hse : P.cellsOf e = 1) (hk : P.keyTypeAt 8 t = true) (f g : Nat → Nat)
  (hf : ∀ j, j < n → q.min ≤ (f j : Int) ∧ (f j : Int) ≤ q.max) (hg : ∀ j, j < n → q.min ≤ (g j : Int) ∧ (g j : Int) ≤ q.max) :
  ∃ r : Bool, (binOp .eql t (.agg (cellsN q n f).toArray) (.agg (cellsN q n g).toArray)).run P w = .ok (.bool r) w ∧ (binOp .neq t (.agg (cellsN q n f).toArray) (.agg (cellsN q n g).toArray)).run P w = .ok (.bool (!r)) w ∧ (r = true ↔ ∀ j, j < n → f j = g j) := by
 have form (f : Nat → Nat) : (Value.agg (cellsN q n f).toArray).formed P t = true := by
  simp [Value.formed, ht, hs, cellsN_len]
 obtain ⟨r, h1, h2, hiff⟩ := run_neq_agg (P := P) w (t := t) hk (form f) (form g) (klInts ht he hs hse f hf) (klInts ht he hs hse g hg)
 refine ⟨r, h1, h2, hiff.trans ⟨fun h j hj => ?_, fun h => ?_⟩⟩
 ·have := congrArg (fun l => l[j]?) h
  simp [hj] at this
  exact Int.ofNat_inj.1 this
 ·apply List.map_congr_left
  intro j hj
  rw [h j (List.mem_range.1 hj)]
section
variable {P : Program} {md : Md} {N : Nat} {ops : Array Oper} {rest : List Oper} {Γ : Env} {C : World → Prop} {Q : Exit → Act → World → Prop} {d : Nat} {ty : TypeId} {pos : String} {af : Array Edge} {t u : TypeId} {x y : Operand}
section
variable {m n : Nat}
theorem Wl.addNU (hd : Nat.blt d N = true) (hx : ev Γ x = some (.int .u64 (m : Int))) (hy : ev Γ y = some (.int .u64 (n : Int))) (hb : m + n < 18446744073709551616) (h : Wl rest P md ops N ((d, .int .u64 ((m + n : Nat) : Int)) :: Γ) C Q) : Wl (⟨some d, .binOp .add t x y u, ty, pos, af, none⟩ :: rest) P md ops N Γ C Q :=
 Wl.addU hd hx hy (by omega) (by rw [← Int.natCast_add]; exact h)
theorem Wl.mulNU (hd : Nat.blt d N = true) (hx : ev Γ x = some (.int .u64 (m : Int))) (hy : ev Γ y = some (.int .u64 (n : Int))) (hb : m * n < 18446744073709551616) (h : Wl rest P md ops N ((d, .int .u64 ((m * n : Nat) : Int)) :: Γ) C Q) : Wl (⟨some d, .binOp .mul t x y u, ty, pos, af, none⟩ :: rest) P md ops N Γ C Q :=
 Wl.mul hd hx hy (by rw [← Int.natCast_mul, IntWalk.u64_in _ (by omega)]; exact h)
theorem Wl.mulNI (hd : Nat.blt d N = true) (hx : ev Γ x = some (.int .i64 (m : Int))) (hy : ev Γ y = some (.int .i64 (n : Int))) (hb : m * n < 9223372036854775808) (h : Wl rest P md ops N ((d, .int .i64 ((m * n : Nat) : Int)) :: Γ) C Q) : Wl (⟨some d, .binOp .mul t x y u, ty, pos, af, none⟩ :: rest) P md ops N Γ C Q :=
 Wl.mul hd hx hy (by rw [← Int.natCast_mul, IntWalk.i64_in _ (by omega)]; exact h)
theorem Wl.addNI (hd : Nat.blt d N = true) (hx : ev Γ x = some (.int .i64 (m : Int))) (hy : ev Γ y = some (.int .i64 (n : Int))) (hb : m + n < 9223372036854775808) (h : Wl rest P md ops N ((d, .int .i64 ((m + n : Nat) : Int)) :: Γ) C Q) : Wl (⟨some d, .binOp .add t x y u, ty, pos, af, none⟩ :: rest) P md ops N Γ C Q :=
 Wl.addI hd hx hy (by omega) (by rw [← Int.natCast_add]; exact h)
theorem Wl.shlV {k' : IntKind} (hd : Nat.blt d N = true) (hx : ev Γ x = some (.int .u32 (m : Int))) (hy : ev Γ y = some (.int k' (n : Int))) (hn : n ≤ 32) (h : Wl rest P md ops N ((d, .int .u32 ((m * 2 ^ n % 4294967296 : Nat) : Int)) :: Γ) C Q) : Wl (⟨some d, .binOp .shl t x y u, ty, pos, af, none⟩ :: rest) P md ops N Γ C Q :=
 Wl.shl hd hx hy (by omega) (by
  rw [Int.toNat_natCast, show min n IntKind.u32.bits = n from Nat.min_eq_left hn, IntKind.wrap_u32]
  have e : (m : Int) * 2 ^ n % 4294967296 = ((m * 2 ^ n % 4294967296 : Nat) : Int) := by simp
  rw [e]; exact h)
theorem Wl.mulN32 (hd : Nat.blt d N = true) (hx : ev Γ x = some (.int .u32 (m : Int))) (hy : ev Γ y = some (.int .u32 (n : Int))) (h : Wl rest P md ops N ((d, .int .u32 ((m * n % 4294967296 : Nat) : Int)) :: Γ) C Q) : Wl (⟨some d, .binOp .mul t x y u, ty, pos, af, none⟩ :: rest) P md ops N Γ C Q :=
 Wl.mul hd hx hy (by rw [← Int.natCast_mul, IntKind.wrap_u32]; exact h)
theorem Wl.addN32 (hd : Nat.blt d N = true) (hx : ev Γ x = some (.int .u32 (m : Int))) (hy : ev Γ y = some (.int .u32 (n : Int))) (h : Wl rest P md ops N ((d, .int .u32 ((((m + n) % 4294967296 : Nat)) : Int)) :: Γ) C Q) : Wl (⟨some d, .binOp .add t x y u, ty, pos, af, none⟩ :: rest) P md ops N Γ C Q :=
 Wl.add hd hx hy (by rw [← Int.natCast_add, IntKind.wrap_u32]; exact h)
theorem Wl.subN32 (hd : Nat.blt d N = true) (hx : ev Γ x = some (.int .u32 (m : Int))) (hy : ev Γ y = some (.int .u32 (n : Int))) (hn : n ≤ 4294967296) (h : Wl rest P md ops N ((d, .int .u32 (((m + 4294967296 - n) % 4294967296 : Nat) : Int)) :: Γ) C Q) : Wl (⟨some d, .binOp .sub t x y u, ty, pos, af, none⟩ :: rest) P md ops N Γ C Q :=
 Wl.sub' hd hx hy (by rw [IntKind.wrap_u32, show ((m : Int) - n) % 4294967296 = (((m + 4294967296 - n) % 4294967296 : Nat) : Int) by omega]; exact h)
theorem Wl.subNU (hd : Nat.blt d N = true) (hx : ev Γ x = some (.int .u64 (m : Int))) (hy : ev Γ y = some (.int .u64 (n : Int))) (hn : n ≤ 18446744073709551616) (h : Wl rest P md ops N ((d, .int .u64 (((m + 18446744073709551616 - n) % 18446744073709551616 : Nat) : Int)) :: Γ) C Q) : Wl (⟨some d, .binOp .sub t x y u, ty, pos, af, none⟩ :: rest) P md ops N Γ C Q :=
 Wl.sub' hd hx hy (by rw [IntKind.wrap_u64, show ((m : Int) - n) % 18446744073709551616 = (((m + 18446744073709551616 - n) % 18446744073709551616 : Nat) : Int) by omega]; exact h)
theorem Wl.negN32 (hd : Nat.blt d N = true) (hx : ev Γ x = some (.int .u32 (m : Int))) (h : Wl rest P md ops N ((d, .int .u32 (((4294967296 - m % 4294967296) % 4294967296 : Nat) : Int)) :: Γ) C Q) : Wl (⟨some d, .unOp .neg t x, ty, pos, af, none⟩ :: rest) P md ops N Γ C Q :=
 Wl.neg hd hx (by rw [IntKind.wrap_u32, show ((0 : Int) - m) % 4294967296 = (((4294967296 - m % 4294967296) % 4294967296 : Nat) : Int) by omega]; exact h)
theorem Wl.convN32 {s t : TypeId} {k : IntKind} [hs : TyD P s (.int k)] [ht : TyD P t (.int .u32)] (hd : Nat.blt d N = true) (hx : ev Γ x = some (.int k (m : Int))) (h : Wl rest P md ops N ((d, .int .u32 ((m % 4294967296 : Nat) : Int)) :: Γ) C Q) : Wl (⟨some d, .convert s t x, ty, pos, af, none⟩ :: rest) P md ops N Γ C Q :=
 Wl.convI hd hx (by rw [IntKind.wrap_u32]; exact h)
theorem Wl.convNU {s t : TypeId} {k : IntKind} [hs : TyD P s (.int k)] [ht : TyD P t (.int .u64)] (hd : Nat.blt d N = true) (hx : ev Γ x = some (.int k (m : Int))) (hb : m < 18446744073709551616) (h : Wl rest P md ops N ((d, .int .u64 (m : Int)) :: Γ) C Q) : Wl (⟨some d, .convert s t x, ty, pos, af, none⟩ :: rest) P md ops N Γ C Q :=
 Wl.convU64 hd hx (by omega) h
theorem Wl.shr32 {k : IntKind} (hd : Nat.blt d N = true) (hx : ev Γ x = some (.int .u64 (m : Int))) (hy : ev Γ y = some (.int k 32)) (h : Wl rest P md ops N ((d, .int .u64 ((m / 4294967296 : Nat) : Int)) :: Γ) C Q) : Wl (⟨some d, .binOp .shr t x y u, ty, pos, af, none⟩ :: rest) P md ops N Γ C Q :=
 Wl.shr hd hx hy (by decide) (by
  rw [show (2 : Int) ^ min (Int.toNat 32) IntKind.u64.bits = 4294967296 from rfl, Int.fdiv_eq_ediv_of_nonneg _ (by decide)]; exact h)
theorem Wl.shr63 {k : IntKind} (hd : Nat.blt d N = true) (hx : ev Γ x = some (.int .u64 (m : Int))) (hy : ev Γ y = some (.int k 63)) (h : Wl rest P md ops N ((d, .int .u64 ((m / 9223372036854775808 : Nat) : Int)) :: Γ) C Q) : Wl (⟨some d, .binOp .shr t x y u, ty, pos, af, none⟩ :: rest) P md ops N Γ C Q :=
 Wl.shr hd hx hy (by decide) (by
  rw [show (2 : Int) ^ min (Int.toNat 63) IntKind.u64.bits = 9223372036854775808 from rfl, Int.fdiv_eq_ediv_of_nonneg _ (by decide)]; exact h)
theorem Wl.shrV {k k' : IntKind} (hd : Nat.blt d N = true) (hx : ev Γ x = some (.int k (m : Int))) (hy : ev Γ y = some (.int k' (n : Int))) (hn : n ≤ k.bits) (h : Wl rest P md ops N ((d, .int k ((m / 2 ^ n : Nat) : Int)) :: Γ) C Q) : Wl (⟨some d, .binOp .shr t x y u, ty, pos, af, none⟩ :: rest) P md ops N Γ C Q :=
 Wl.shr hd hx hy (by omega) (by
  rw [Int.toNat_natCast, Nat.min_eq_left hn, Int.fdiv_eq_ediv_of_nonneg _ (Int.le_of_lt (Int.pow_pos (by decide)))]
  have e : (m : Int) / 2 ^ n = ((m / 2 ^ n : Nat) : Int) := by simp
  rw [e]; exact h)
theorem bits_and1 (k : IntKind) (hk : 1 ≤ k.bits) (hw : ∀ n : Int, 0 ≤ n → n < 2 → k.wrap n = n) (m : Nat) : bits .and k (m : Int) 1 = ((m % 2 : Nat) : Int) := by
 unfold bits
 simp only
 have e : ((BitVec.ofInt k.bits (m : Int)) &&& (BitVec.ofInt k.bits 1)).toNat = m % 2 := by
  rw [show (1 : Int) = ((1 : Nat) : Int) from rfl, BitVec.ofInt_natCast, BitVec.ofInt_natCast, BitVec.toNat_and, BitVec.toNat_ofNat, BitVec.toNat_ofNat]
  have h2 : 1 % 2 ^ k.bits = 1 := Nat.mod_eq_of_lt (Nat.one_lt_two_pow (by omega))
  rw [h2, Nat.and_one_is_mod]
  have e2 : 2 ^ k.bits = 2 * 2 ^ (k.bits - 1) := by rw [← Nat.pow_succ']; congr 1; omega
  rw [e2, Nat.mod_mul_right_mod]
 rw [e, hw _ (by omega) (by omega)]
theorem Wl.and1 {k : IntKind} (hd : Nat.blt d N = true) (hx : ev Γ x = some (.int k (m : Int))) (hy : ev Γ y = some (.int k 1)) (hk : Nat.ble 1 k.bits = true) (hw : ∀ n : Int, 0 ≤ n → n < 2 → k.wrap n = n) (h : Wl rest P md ops N ((d, .int k ((m % 2 : Nat) : Int)) :: Γ) C Q) : Wl (⟨some d, .binOp .and t x y u, ty, pos, af, none⟩ :: rest) P md ops N Γ C Q :=
 Wl.and hd hx hy (by rw [bits_and1 k (Nat.le_of_ble_eq_true hk) hw]; exact h)
theorem wrap2_u32 : ∀ n : Int, 0 ≤ n → n < 2 → IntKind.u32.wrap n = n := fun n h1 h2 => by rw [IntKind.wrap_u32]; omega
theorem Wl.quoN {k : IntKind} (hd : Nat.blt d N = true) (hx : ev Γ x = some (.int k (m : Int))) (hy : ev Γ y = some (.int k (n : Int))) (hn : n ≠ 0) (hw : k.wrap ((m / n : Nat) : Int) = ((m / n : Nat) : Int)) (h : Wl rest P md ops N ((d, .int k ((m / n : Nat) : Int)) :: Γ) C Q) : Wl (⟨some d, .binOp .quo t x y u, ty, pos, af, none⟩ :: rest) P md ops N Γ C Q :=
 Wl.quo hd hx hy (by omega) (by rw [Int.tdiv_eq_ediv_of_nonneg (by omega), ← Int.natCast_ediv, hw]; exact h)
theorem Wl.remN {k : IntKind} (hd : Nat.blt d N = true) (hx : ev Γ x = some (.int k (m : Int))) (hy : ev Γ y = some (.int k (n : Int))) (hn : n ≠ 0) (h : Wl rest P md ops N ((d, .int k ((m % n : Nat) : Int)) :: Γ) C Q) : Wl (⟨some d, .binOp .rem t x y u, ty, pos, af, none⟩ :: rest) P md ops N Γ C Q :=
 Wl.rem hd hx hy (by omega) (by rw [Int.tmod_eq_emod_of_nonneg (by omega), ← Int.natCast_emod]; exact h)
end
theorem Wl.indexA {e by_ n : TypeId} [ht : TyD P t (.array n e)] [TyS P e 1 by_] {i : Operand} {b : Nat} {k : IntKind} {j : Nat} (hd : Nat.blt d N = true) (hx : ev Γ x = some (.pointer (some ⟨b, 0, none⟩))) (hi : ev Γ i = some (.int k (j : Int)))
  (hj : j < n) (h : Wl rest P md ops N ((d, .pointer (some ⟨b, j, none⟩)) :: Γ) C Q) : Wl (⟨some d, .indexAddr t x i, ty, pos, af, none⟩ :: rest) P md ops N Γ C Q :=
 Wl.indexArr hd hx hi ⟨by omega, by omega⟩ (by rw [Int.toNat_natCast, Nat.mul_one, Nat.zero_add]; exact h)
theorem Wl.indexAo {e by_ n : TypeId} [ht : TyD P t (.array n e)] [TyS P e 1 by_] {i : Operand} {b o : Nat} {k : IntKind} {j : Nat} (hd : Nat.blt d N = true) (hx : ev Γ x = some (.pointer (some ⟨b, o, none⟩))) (hi : ev Γ i = some (.int k (j : Int)))
  (hj : j < n) (h : Wl rest P md ops N ((d, .pointer (some ⟨b, o + j, none⟩)) :: Γ) C Q) : Wl (⟨some d, .indexAddr t x i, ty, pos, af, none⟩ :: rest) P md ops N Γ C Q :=
 Wl.indexArr hd hx hi ⟨by omega, by omega⟩ (by rw [Int.toNat_natCast, Nat.mul_one]; exact h)
theorem Wl.loadN {w0 : World} {H : List Blk} {bt : TypeId} [TyC P t] {c j n : Nat} {k : IntKind} {f : Nat → Nat} (hd : Nat.blt d N = true) (hx : ev Γ x = some (.pointer (some ⟨c, j, none⟩))) (hm : (⟨c, cellsN k n f, bt⟩ : Blk) ∈ H) (hj : j < n)
  (h : Wl rest P md ops N ((d, .int k (f j)) :: Γ) (Hp w0 H) Q) : Wl (⟨some d, .load t x, ty, pos, af, none⟩ :: rest) P md ops N Γ (Hp w0 H) Q := Wl.loadH hd hx hm (cellsN_get hj) h
theorem Wl.storeN {w0 : World} {H H' : List Blk} {bt by_ : TypeId} [TyS P t 1 by_] {c j n v : Nat} {k : IntKind} {f : Nat → Nat} (hx : ev Γ x = some (.pointer (some ⟨c, j, none⟩))) (hy : ev Γ y = some (.int k (v : Int))) (hs : HSet c (cellsN k n f) (cellsN k n (updN f j v)) bt H H') (hj : j < n)
  (h : Wl rest P .seq ops N Γ (Hp w0 H') Q) : Wl (⟨none, .store t x y, ty, pos, af, none⟩ :: rest) P .seq ops N Γ (Hp w0 H) Q := Wl.store hx hy rfl hs (cellsN_set hj) h
theorem Wl.eqlA {e n : Nat} {q : IntKind} {f g : Nat → Nat} [ht : TyD P t (.array n e)] [he : TyD P e (.int q)] (hd : Nat.blt d N = true) (hx : ev Γ x = some (.agg (cellsN q n f).toArray)) (hy : ev Γ y = some (.agg (cellsN q n g).toArray)) (hs : P.cellsOf t = n) (hse : P.cellsOf e = 1) (hk : P.keyTypeAt 8 t = true) (hg0 : P.eqGuardType P.depth t = false)
  (hf : ∀ j, j < n → q.min ≤ (f j : Int) ∧ (f j : Int) ≤ q.max) (hg : ∀ j, j < n → q.min ≤ (g j : Int) ∧ (g j : Int) ≤ q.max) (b : Bool) (hb : b = true ↔ ∀ j, j < n → f j = g j) (h : Wl rest P md ops N ((d, .bool b) :: Γ) C Q) : Wl (⟨some d, .binOp .eql t x y u, ty, pos, af, none⟩ :: rest) P md ops N Γ C Q :=
 Wl.val hd (fun a w ha _ => by
  obtain ⟨r, h1, _, h3⟩ := run_ints (P := P) w ht.out he.out hs hse hk f g hf hg
  have : r = b := by rw [Bool.eq_iff_iff, h3, hb]
  subst this
  simp only [execOp, ha.ev hx, ha.ev hy, pure_bind, Sem.run_bind, guard_agg (P := P) hg0, Result.andThen_ok, h1]; rfl) h
theorem Wl.neqA {e n : Nat} {q : IntKind} {f g : Nat → Nat} [ht : TyD P t (.array n e)] [he : TyD P e (.int q)] (hd : Nat.blt d N = true) (hx : ev Γ x = some (.agg (cellsN q n f).toArray)) (hy : ev Γ y = some (.agg (cellsN q n g).toArray)) (hs : P.cellsOf t = n) (hse : P.cellsOf e = 1) (hk : P.keyTypeAt 8 t = true) (hg0 : P.eqGuardType P.depth t = false)
  (hf : ∀ j, j < n → q.min ≤ (f j : Int) ∧ (f j : Int) ≤ q.max) (hg : ∀ j, j < n → q.min ≤ (g j : Int) ∧ (g j : Int) ≤ q.max) (b : Bool) (hb : b = true ↔ ∀ j, j < n → f j = g j) (h : Wl rest P md ops N ((d, .bool (!b)) :: Γ) C Q) : Wl (⟨some d, .binOp .neq t x y u, ty, pos, af, none⟩ :: rest) P md ops N Γ C Q :=
 Wl.val hd (fun a w ha _ => by
  obtain ⟨r, _, h1, h3⟩ := run_ints (P := P) w ht.out he.out hs hse hk f g hf hg
  have : r = b := by rw [Bool.eq_iff_iff, h3, hb]
  subst this
  simp only [execOp, ha.ev hx, ha.ev hy, pure_bind, Sem.run_bind, guard_agg (P := P) hg0, Result.andThen_ok, h1]; rfl) h
end
attribute [irreducible] cellsN
theorem LOver.whole {l xs : List Value} (h : l.length = xs.length) : LOver l xs xs := by
 induction xs generalizing l with
 | nil => cases l with
  | nil => exact .nil
  | cons _ _ => simp at h
 | cons x r ih => cases l with
  | nil => simp at h
  | cons y s => exact .cons (ih (by simpa using h))
theorem LSub.whole {l : List Value} {n : Nat} (h : l.length = n) : LSub l 0 n l := by
 induction l generalizing n with
 | nil => subst h; exact .z
 | cons x r ih => subst h; exact .t (ih rfl)
section
variable {P : Program} {md : Md} {N : Nat} {ops : Array Oper} {rest : List Oper} {Γ : Env} {Q : Exit → Act → World → Prop} {d : Nat} {ty : TypeId} {pos : String} {af : Array Edge} {t : TypeId} {x y : Operand}
theorem Wl.storeW {w0 : World} {H H' : List Blk} {n m bt : TypeId} [ht : TyA P t n] {c : Nat} {k : IntKind} {f : Nat → Nat} {cs : List Value} (hx : ev Γ x = some (.pointer (some ⟨c, 0, none⟩))) (hy : ev Γ y = some (.agg (cellsN k m f).toArray)) (hs : HSet c cs (cellsN k m f) bt H H') (hn : Nat.beq m n = true) (hl : cs.length = m)
  (h : Wl rest P .seq ops N Γ (Hp w0 H') Q) : Wl (⟨none, .store t x y, ty, pos, af, none⟩ :: rest) P .seq ops N Γ (Hp w0 H) Q :=
 Wl.storeA hx hy ((cellsN_len k m f).trans (Nat.eq_of_beq_eq_true hn)) (cellsN_one k m f) hs (.z (LOver.whole (by rw [hl, cellsN_len]))) h
theorem Wl.boxN {w0 : World} {H : List Blk} {k : IntKind} {n : Nat} {f : Nat → Nat} (hd : Nat.blt d N = true) (hx : ev Γ x = some (.agg (cellsN k n f).toArray))
  (h : ∀ c, w0.heap.size ≤ c → Off H c → Wl rest P .seq ops N ((d, .pointer (some ⟨c, 0, none⟩)) :: Γ) (Hp w0 (⟨c, cellsN k n f, t⟩ :: H)) Q) : Wl (⟨some d, .box t x, ty, pos, af, none⟩ :: rest) P .seq ops N Γ (Hp w0 H) Q := Wl.boxA hd hx h
theorem Wl.allocN {w0 : World} {H : List Blk} {k : IntKind} {n : Nat} {f : Nat → Nat} {z : Value} [TyZ P t z] (hd : Nat.blt d N = true) (hz : z.cells.toList = cellsN k n f)
  (h : ∀ c, w0.heap.size ≤ c → Off H c → Wl rest P .seq ops N ((d, .pointer (some ⟨c, 0, none⟩)) :: Γ) (Hp w0 (⟨c, cellsN k n f, t⟩ :: H)) Q) : Wl (⟨some d, .alloc t, ty, pos, af, none⟩ :: rest) P .seq ops N Γ (Hp w0 H) Q := Wl.alloc hd fun c hc ho => by rw [hz]; exact h c hc ho
theorem Wl.buildN {n e sz by_ m : TypeId} {parts : Array (Nat × Operand)} {ps : List (Nat × Value)} {z cs : List Value} {k : IntKind} {f : Nat → Nat} [TyD P t (.array n e)] [TyS P e sz by_] [TyZ P t (.agg z.toArray)] (hd : Nat.blt d N = true) (hp : Parts Γ parts.toList ps) (hF : Fills (fun i => some (i * sz, sz)) z ps cs) (he : cs = cellsN k m f)
  {C : World → Prop} (h : Wl rest P md ops N ((d, .agg (cellsN k m f).toArray) :: Γ) C Q) : Wl (⟨some d, .build t parts, ty, pos, af, none⟩ :: rest) P md ops N Γ C Q := Wl.buildA hd hp hF (by rw [he]; exact h)
theorem Wl.loadW {w0 : World} {H : List Blk} {n m bt : TypeId} [TyA P t n] {c : Nat} {k : IntKind} {f : Nat → Nat} (hd : Nat.blt d N = true) (hx : ev Γ x = some (.pointer (some ⟨c, 0, none⟩))) (hm : (⟨c, cellsN k m f, bt⟩ : Blk) ∈ H) (hn : Nat.beq m n = true)
  (h : Wl rest P md ops N ((d, .agg (cellsN k m f).toArray) :: Γ) (Hp w0 H) Q) : Wl (⟨some d, .load t x, ty, pos, af, none⟩ :: rest) P md ops N Γ (Hp w0 H) Q :=
 Wl.loadAH hd hx hm (LSub.whole ((cellsN_len k m f).trans (Nat.eq_of_beq_eq_true hn))) h
end
theorem Gt.outCT {P : Program} {N : Nat} {Γ : Env} {w0 : World} {H : List Blk} {fn : Func} {R : Ending → World → Prop} {t u ty n c i bt : Nat} {v : Value} {cs xs : List Value} (hr : fn.results = #[.cell t ty, .tmp u]) (hT : TyA P ty n) (ht : look Γ t = some (.pointer (some ⟨c, i, none⟩))) (hu : look Γ u = some v) (hm : (⟨c, cs, bt⟩ : Blk) ∈ H) (hi' : LSub cs i n xs)
  (h : ∀ w, Hp w0 H w → R (.returned (.tuple #[.agg xs.toArray, v])) w) : Gt N .ret Γ (Hp w0 H) (bodyPost P fn R) := Gt.intro fun a w ha hw => by
 have hi := hi'.out.1
 have hn := hi'.out.2
 refine ⟨ha.defers, _, ?_, h w hw⟩
 have hl := run_loadA (P := P) (t := ty) (w := w) (a := ⟨c, i, none⟩) hn (fun j v hj => by
  rw [addLit]
  refine hw.cell hm ?_
  subst hi
  rw [List.getElem?_take] at hj
  split at hj
  ·simpa [List.getElem?_drop] using hj
  ·cases hj)
 rw [results_cell_tmp hr]
 simp [ha.get _ _ ht, ha.get _ _ hu, asAddr, hl]
theorem Gt.outC' {P : Program} {N : Nat} {Γ : Env} {w0 : World} {H : List Blk} {fn : Func} {R : Ending → World → Prop} {t ty n c i bt : Nat} {cs xs : List Value} (hr : fn.results = #[.cell t ty]) (hT : TyA P ty n) (ht : look Γ t = some (.pointer (some ⟨c, i, none⟩))) (hm : (⟨c, cs, bt⟩ : Blk) ∈ H) (hi' : LSub cs i n xs)
  (h : ∀ w, Hp w0 H w → R (.returned (.agg xs.toArray)) w) : Gt N .ret Γ (Hp w0 H) (bodyPost P fn R) := Gt.outC hr ht hm hi' h
end Go.Pt
end
section
namespace Go.Pt
open Go.RowKit in
theorem klBytes {P : Program} {d t n e : Nat} (ht : P.underlying t = some (.array n e)) (he : P.underlying e = some (.int .u8)) (hs : P.cellsOf t = n) (hse : P.cellsOf e = 1) (l : List UInt8) (hl : l.length = n) :
  P.keyLits (d + 2) t (byteCells l) = some (l.map fun x => Lit.int .u8 (x.toNat : Int)) := by
 show P.keyLits ((d + 1) + 1) t _ = _
 unfold Program.keyLits
 simp only [ht]
 rw [if_pos (by rw [byteCells_length, hs, hl]), mapM_some (g := fun i => [Lit.int .u8 ((l[i]!).toNat : Int)]) ?_]
 ·simp only [Option.map_some, flat1, Option.some.injEq]
  apply List.ext_getElem
  ·simp [hl]
  ·intro i h1 h2
   simp at h1 h2
   simp [h2]
 ·intro i hi
  have hi' : i < l.length := by rw [hl]; simpa using hi
  rw [hse, Nat.mul_one]
  have e1 : ((byteCells l).drop i).take 1 = [.int .u8 ((l[i]!).toNat : Int)] := by
   have h2 : i < (byteCells l).length := by rw [byteCells_length]; exact hi'
   rw [List.drop_eq_getElem_cons h2]
   simp [byteCells, hi']
  rw [e1]
  refine klInt he ?_
  have := (l[i]!).toNat_lt
  generalize l[i]! = c at *
  simp only [IntKind.min, IntKind.max, IntKind.signed, IntKind.bits]
  constructor
  ·simp
  ·simp; omega
theorem klStruct {P : Program} {d t : Nat} {fs : Array Field} {cs : List Value} {ps : List (Nat × Nat)} (hu : P.underlying t = some (.struct fs)) (hn : fs.all (·.name != "_") = true) (hp : fs.toList.map (fun f => (f.type, f.offset)) = ps) (hl : cs.length = P.cellsOf t) :
  P.keyLits (d + 1) t cs = (ps.mapM fun p => P.keyLits d p.1 ((cs.drop p.2).take (P.cellsOf p.1))).map List.flatten := by
 simp only [Program.keyLits, hu]
 rw [if_pos ⟨hl, hn⟩]
 subst hp
 rw [List.mapM_map]
 rfl
end Go.Pt
namespace Go.Proofs.YtmjlceimjlabpaaDoor
open Go.RowKit Go.Pt
section
variable {md : Md} {N : Nat} {ops : Array Oper} {rest : List Oper} {Γ : Env} {C : World → Prop} {Q : Exit → Act → World → Prop} {d : Nat} {ty : TypeId} {pos : String} {af : Array Edge} {x y : Operand} {u : TypeId}
theorem lit_bytes_inj {p q : List UInt8} (h : p.map (fun x => Lit.int .u8 (x.toNat : Int)) = q.map (fun x => Lit.int .u8 (x.toNat : Int))) : p = q := by
 induction p generalizing q with
 | nil => cases q with
  | nil => rfl
  | cons _ _ => simp at h
 | cons x r ih => cases q with
  | nil => simp at h
  | cons y s =>
   simp only [List.map_cons, List.cons.injEq, Lit.int.injEq, true_and] at h
   rw [ih h.2, show x = y from UInt8.toNat_inj.1 (by omega)]
theorem run_dig (w : World) (p q : List UInt8) (hp : p.length = 32) (hq : q.length = 32) :
  (binOp .eql 48 (.agg (byteCells p).toArray) (.agg (byteCells q).toArray)).run Tryd.prog w = .ok (.bool (decide (p = q))) w ∧ (binOp .neq 48 (.agg (byteCells p).toArray) (.agg (byteCells q).toArray)).run Tryd.prog w = .ok (.bool (decide (p ≠ q))) w := by
 have h32 : Tryd.prog.cellsOf 48 = 32 := by kernel_rfl
 have h1 : Tryd.prog.cellsOf 5 = 1 := by kernel_rfl
 have hu : Tryd.prog.underlying 48 = some (.array 32 5) := by kernel_rfl
 have he : Tryd.prog.underlying 5 = some (.int .u8) := by kernel_rfl
 have form (p : List UInt8) (hp : p.length = 32) : (Value.agg (byteCells p).toArray).formed Tryd.prog 48 = true := by
  simp [Value.formed, hu, h32, byteCells_length, hp]
 obtain ⟨r, h1, h2, hiff⟩ := run_neq_agg (P := Tryd.prog) w (t := 48) (by kernel_rfl) (form p hp) (form q hq) (klBytes hu he h32 h1 p hp) (klBytes hu he h32 h1 q hq)
 have : r = decide (p = q) := by
  rw [Bool.eq_iff_iff, hiff, decide_eq_true_eq]
  exact ⟨lit_bytes_inj, fun e => by rw [e]⟩
 rw [h1, h2, this]
 exact ⟨rfl, by simp⟩
theorem run_grant (w : World) (p q : Gr) (hp : GrV p) (hq : GrV q) : (binOp .neq 61 (.agg (grCells p).toArray) (.agg (grCells q).toArray)).run Tryd.prog w = .ok (.bool (decide (¬ (p.start = q.start ∧ p.size = q.size ∧ p.rights = q.rights)))) w := by
 have hfs : ∃ fs, Tryd.prog.underlying 61 = some (.struct fs) ∧ fs.all (·.name != "_") = true ∧ fs.toList.map (fun f => (f.type, f.offset)) = [(24, 0), (24, 1), (3, 2)] := ⟨Tryd.prog.fieldsOf 61, by kernel_rfl, by kernel_rfl, by kernel_rfl⟩
 obtain ⟨fs, hu, hn, hps⟩ := hfs
 have h3 : Tryd.prog.cellsOf 61 = 3 := by kernel_rfl
 have c1 : Tryd.prog.cellsOf 24 = 1 := by kernel_rfl
 have c2 : Tryd.prog.cellsOf 3 = 1 := by kernel_rfl
 have u1 : Tryd.prog.underlying 24 = some (.int .u32) := by kernel_rfl
 have u2 : Tryd.prog.underlying 3 = some (.int .i64) := by kernel_rfl
 have form (p : Gr) : (Value.agg (grCells p).toArray).formed Tryd.prog 61 = true := by
  simp [Value.formed, hu, h3, grCells]
 have lits (p : Gr) (hp : GrV p) : Tryd.prog.keyLits 8 61 (grCells p).toArray.toList = some [Lit.int .u32 p.start, .int .u32 p.size, .int .i64 p.rights] := by
  obtain ⟨a1, a2, a3⟩ := hp
  unfold I64 at a3
  rw [klStruct hu hn hps (by rw [h3]; rfl)]
  simp only [List.mapM_cons, List.mapM_nil, c1, c2, grCells, List.drop_zero, List.take_succ_cons, List.take_zero, List.drop_succ_cons]
  rw [klInt u1 (by simp only [IntKind.min, IntKind.max, IntKind.signed, IntKind.bits]; constructor <;> simp <;> omega), klInt u1 (by simp only [IntKind.min, IntKind.max, IntKind.signed, IntKind.bits]; constructor <;> simp <;> omega), klInt u2 (by simp only [IntKind.min, IntKind.max, IntKind.signed, IntKind.bits]; constructor <;> simp <;> omega)]
  rfl
 obtain ⟨r, _, h2, hiff⟩ := run_neq_agg (P := Tryd.prog) w (t := 61) (by kernel_rfl) (form p) (form q) (lits p hp) (lits q hq)
 have : r = decide (p.start = q.start ∧ p.size = q.size ∧ p.rights = q.rights) := by
  rw [Bool.eq_iff_iff, hiff, decide_eq_true_eq]
  simp only [List.cons.injEq, Lit.int.injEq, true_and, and_true]
  omega
 rw [h2, this, decide_not]
theorem Wl.neqDig {p q : List UInt8} (hd : Nat.blt d N = true) (hx : ev Γ x = some (.agg (byteCells p).toArray)) (hy : ev Γ y = some (.agg (byteCells q).toArray)) (hp : p.length = 32) (hq : q.length = 32) (h : Wl rest Tryd.prog md ops N ((d, .bool (decide (p ≠ q))) :: Γ) C Q) :
  Wl (⟨some d, .binOp .neq 48 x y u, ty, pos, af, none⟩ :: rest) Tryd.prog md ops N Γ C Q :=
 Wl.val hd (fun a w ha _ => by simp only [execOp, ha.ev hx, ha.ev hy, pure_bind, Sem.run_bind, guard_agg (P := Tryd.prog) (t := 48) (by kernel_rfl), Result.andThen_ok, (run_dig w p q hp hq).2]; rfl) h
theorem Wl.neqGrant {p q : Gr} (hd : Nat.blt d N = true) (hx : ev Γ x = some (.agg (grCells p).toArray)) (hy : ev Γ y = some (.agg (grCells q).toArray)) (hp : GrV p) (hq : GrV q)
  (h : Wl rest Tryd.prog md ops N ((d, .bool (decide (¬ (p.start = q.start ∧ p.size = q.size ∧ p.rights = q.rights)))) :: Γ) C Q) : Wl (⟨some d, .binOp .neq 61 x y u, ty, pos, af, none⟩ :: rest) Tryd.prog md ops N Γ C Q :=
 Wl.val hd (fun a w ha _ => by simp only [execOp, ha.ev hx, ha.ev hy, pure_bind, Sem.run_bind, guard_agg (P := Tryd.prog) (t := 61) (by kernel_rfl), Result.andThen_ok, run_grant w p q hp hq]; rfl) h
end
end Go.Proofs.YtmjlceimjlabpaaDoor
end
section
namespace Go.Proofs.YtmjlceimjlabpaaDoor
open Go.RowKit Go.Pt
theorem Hp.swap2 {w0 w : World} {x y : Blk} {H : List Blk} (h : Hp w0 (x :: y :: H) w) : Hp w0 (y :: x :: H) w :=
 ⟨h.upd.mono fun k _ hn ho => hn ⟨ho.2.1, ho.1, ho.2.2⟩, ⟨h.own.2.1, h.own.1, h.own.2.2⟩, ⟨⟨fun e => h.apart.1.1 e.symm, h.apart.2.1⟩, h.apart.1.2, h.apart.2.2⟩⟩
theorem take_step {α : Type} {p q : List α} {i : Nat} {x y : α} (h : p.take i = q.take i) (hp : p[i]? = some x) (hq : q[i]? = some y) (e : x = y) : p.take (i + 1) = q.take (i + 1) := by
 rw [List.take_add_one, List.take_add_one, h, hp, hq, e]
set_option maxHeartbeats 4000000 in
theorem same_any (m n : Mf) (v v' : Value) (w : World) (hv : MfV w v m) (hv' : MfV w v' n) :
  Calls Tryd.prog 7 #[v, v'] w fun e w' => ∃ b : Bool, e = .returned (.bool b) ∧ (b = true ↔ m = n) ∧ Upd (fun k => w.heap.size ≤ k) w w' := by
 obtain ⟨pv, xs, rfl, hxs, hsv, hpy, hcnt, hkey⟩ := hv
 obtain ⟨qv, ys, rfl, hys, hsv', hpy', hcnt', hkey'⟩ := hv'
 unfold I64 at hkey hkey'
 have hlen : xs.length = m.pays.length := by rw [← hxs, List.length_map]
 have hlen' : ys.length = n.pays.length := by rw [← hys, List.length_map]
 have hsv0 := hsv
 have hsv0' := hsv'
 obtain ⟨_, ap, cp, rfl, hp1, hp2, _, _⟩ := hsv
 obtain ⟨_, aq, cq, rfl, hq1, hq2, _, _⟩ := hsv'
 unfold maxLen at hp2 hq2
 refine enter (args := [_, _]) (Γ := [(0, _), (1, _)]) Tryd.func7 Tryd.ntmps7 rfl (of_decide_eq_true rfl) (.cons rfl (.cons rfl .nil)) ?_
 repeat' first | refine Wl.move rfl rfl ?_ | refine Wl.assign rfl rfl ?_ | (apply Wl.on; exact rfl; exact rfl; (with_reducible first | rfl | assumption | decide)) | (apply Wl.off; exact rfl; exact rfl; exact rfl; (first | with_reducible rfl | (show _ = false; with_reducible assumption) | (show _ = true; with_reducible assumption) | decide)) | (apply Wl.pickT; exact rfl; exact rfl; (with_reducible first | rfl | assumption | decide); exact rfl) | (apply Wl.pickF; exact rfl; exact rfl; (with_reducible first | rfl | assumption | decide); exact rfl) | refine Wl.fieldAddr0 rfl rfl ?_ | refine Wl.fieldAddrZ rfl rfl ?_ | (apply Wl.loadH; exact rfl; exact rfl; (focus repeat constructor); exact rfl) | refine Wl.neq rfl rfl rfl ?_ | refine Wl.len rfl rfl ?_ | (apply Wl.boxA; exact rfl; exact rfl; intro c hc ho) | apply Wl.nil | apply St.region | (apply St.condT; exact rfl; (with_reducible first | rfl | assumption | decide)) | apply St.ret | apply St.skip | apply Gt.next | apply Gt.thenRet | (apply Gt.out1; exact rfl; exact rfl; intro w' hp) | (apply St.seqK (k := 3); exact rfl) | (apply St.seqKS (k := 3); exact rfl) | (apply Wl.splitP; exact rfl; exact rfl; all_goals (intros; try (exfalso; omega))) | (apply St.condP; exact rfl; all_goals (intros; try (exfalso; omega)))
 all_goals try exact ⟨false, rfl, ⟨fun h => (by cases h), fun h => (by subst h; omega)⟩, (hp.drop (by simp; omega)).upd.mono fun _ _ y => (y trivial).elim⟩
 rename_i c2 hc2 ho2 _ _ _ _ _ _
 have em1 : m.counter = n.counter := by omega
 have em2 : m.key = n.key := by omega
 have em3 : xs.length = ys.length := by omega
 generalize c = c3 at *
 refine St.reb (H' := []) ?_
 intro w1 h1
 refine ⟨trivial, trivial, ?_⟩
 have u01 : Upd (fun k => w.heap.size ≤ k) w w1 := (h1.drop (by simp; omega)).upd.mono fun _ _ y => (y trivial).elim
 have hA : w1.cell? ⟨c2, 2, none⟩ = some (.slice ap xs.length cp) := h1.cell (.tail _ (.head _)) rfl
 have hB : w1.cell? ⟨c3, 2, none⟩ = some (.slice aq ys.length cq) := h1.cell (.head _) rfl
 have hl2 : c2 < w1.heap.size := h1.own.lt (.tail _ (.head _))
 have hl3 : c3 < w1.heap.size := h1.own.lt (.head _)
 clear h1
 repeat' first | refine Wl.assign rfl rfl ?_ | apply Wl.nil | apply St.seq | apply St.block | apply St.region | apply Gt.next
 refine St.loop (σ := Nat) (fun i => i ≤ xs.length ∧ m.pays.take i = n.pays.take i)
  (fun i => [(2, .pointer (some ⟨c2, 0, none⟩)), (3, .pointer (some ⟨c3, 0, none⟩)), (5, .int .i64 i)])
  (fun _ => Hp w1 []) (fun i => xs.length - i) 0 ⟨Nat.zero_le _, rfl⟩ (by repeat constructor) (fun _ h => h) ?_
 rintro i ⟨hin, htk⟩
 by_cases hlt : i < xs.length
 ·obtain ⟨x, hx⟩ : ∃ x, xs[i]? = some x := ⟨_, List.getElem?_eq_getElem hlt⟩
  obtain ⟨y, hy⟩ : ∃ y, ys[i]? = some y := ⟨_, List.getElem?_eq_getElem (by omega)⟩
  obtain ⟨hsg, hdl, hsz, hbi, hca, hgrs, hgl⟩ := hpy x (List.mem_of_getElem? hx)
  obtain ⟨hsg', hdl', hsz', hbi', hca', hgrs', hgl'⟩ := hpy' y (List.mem_of_getElem? hy)
  have hmx : m.pays[i]? = some x.1 := by rw [← hxs, List.getElem?_map, hx]; rfl
  have hmy : n.pays[i]? = some y.1 := by rw [← hys, List.getElem?_map, hy]; rfl
  have hpyl : ∀ x ∈ xs, (pyCells x).length = 36 := fun x hx => pyCells_len x (hpy x hx).2.1
  have hpyl' : ∀ x ∈ ys, (pyCells x).length = 36 := fun x hx => pyCells_len x (hpy' x hx).2.1
  have hno (hne : x.1 ≠ y.1) (H : List Blk) (w' : World) (hp : Hp w1 H w') (hH : ∀ x ∈ H, w1.heap.size ≤ x.b) : ∃ b : Bool, Ending.returned (.bool false) = .returned (.bool b) ∧ (b = true ↔ m = n) ∧ Upd (fun k => w.heap.size ≤ k) w w' := by
   refine ⟨false, rfl, ⟨fun h => (by cases h), fun h => ?_⟩, u01.comp (hp.drop hH).upd fun _ _ hs => hs.elim id fun y => (y trivial).elim⟩
   subst h
   rw [hmx] at hmy
   exact absurd (Option.some.inj hmy) hne
  obtain ⟨⟨dig, psz, pbi, gs, pca⟩, gv⟩ := x
  obtain ⟨⟨dig', qsz, qbi, hs, qca⟩, gv'⟩ := y
  simp only at hsg hdl hsz hbi hca hgrs hgl hsg' hdl' hsz' hbi' hca' hgrs' hgl' hmx hmy hno
  unfold I64 at hca hca'
  obtain ⟨d0, d1, d2, d3, d4, d5, d6, d7, d8, d9, d10, d11, d12, d13, d14, d15, d16, d17, d18, d19, d20, d21, d22, d23, d24, d25, d26, d27, d28, d29, d30, d31, rfl⟩ := list32 dig hdl
  obtain ⟨e0, e1, e2, e3, e4, e5, e6, e7, e8, e9, e10, e11, e12, e13, e14, e15, e16, e17, e18, e19, e20, e21, e22, e23, e24, e25, e26, e27, e28, e29, e30, e31, rfl⟩ := list32 dig' hdl'
  obtain ⟨bp, op, cp', hap, _, _⟩ := Sv.some_of hsv0 (fun e => by have := flat36 hpyl hx (j := 0) (by decide); rw [e] at this; simp [pyCells, byteCells] at this)
  simp only [Value.slice.injEq, true_and] at hap
  obtain ⟨rfl, rfl⟩ := hap
  obtain ⟨bq, oq, cq', haq, _, _⟩ := Sv.some_of hsv0' (fun e => by have := flat36 hpyl' hy (j := 0) (by decide); rw [e] at this; simp [pyCells, byteCells] at this)
  simp only [Value.slice.injEq, true_and] at haq
  obtain ⟨rfl, rfl⟩ := haq
  have hsg0 := hsg
  have hsg0' := hsg'
  obtain ⟨_, ga, gc, rfl, hg1, hg2, _, _⟩ := hsg
  obtain ⟨_, ha, hc', rfl, hg1', hg2', _, _⟩ := hsg'
  unfold maxLen at hg2 hg2'
  have old {a : Addr} {u : Value} (h : w.cell? a = some u) : w1.cell? a = some u := u01.cell h (by have := World.block_lt_of_cell? w _ h; omega)
  have hcx : ∀ j v, [Value.int .u8 (d0.toNat : Int), .int .u8 (d1.toNat : Int), .int .u8 (d2.toNat : Int), .int .u8 (d3.toNat : Int), .int .u8 (d4.toNat : Int), .int .u8 (d5.toNat : Int), .int .u8 (d6.toNat : Int), .int .u8 (d7.toNat : Int), .int .u8 (d8.toNat : Int), .int .u8 (d9.toNat : Int), .int .u8 (d10.toNat : Int), .int .u8 (d11.toNat : Int), .int .u8 (d12.toNat : Int), .int .u8 (d13.toNat : Int), .int .u8 (d14.toNat : Int), .int .u8 (d15.toNat : Int), .int .u8 (d16.toNat : Int), .int .u8 (d17.toNat : Int), .int .u8 (d18.toNat : Int), .int .u8 (d19.toNat : Int), .int .u8 (d20.toNat : Int), .int .u8 (d21.toNat : Int), .int .u8 (d22.toNat : Int), .int .u8 (d23.toNat : Int), .int .u8 (d24.toNat : Int), .int .u8 (d25.toNat : Int), .int .u8 (d26.toNat : Int), .int .u8 (d27.toNat : Int), .int .u8 (d28.toNat : Int), .int .u8 (d29.toNat : Int), .int .u8 (d30.toNat : Int), .int .u8 (d31.toNat : Int), .int .u32 psz, .int .u32 pbi, .slice ga gs.length gc, .int .i64 pca][j]? = some v → w1.cell? ⟨bp, op + (i : Int).toNat * 36 + j, none⟩ = some v := by
   intro j v hj
   have hj36 : j < 36 := (List.getElem?_eq_some_iff.1 hj).1
   have := flat36 hpyl hx hj36
   rw [show op + (i : Int).toNat * 36 + j = op + (i * 36 + j) by omega]
   exact old (Sv.cellN hsv0 (this.trans hj))
  have hcy : ∀ j v, [Value.int .u8 (e0.toNat : Int), .int .u8 (e1.toNat : Int), .int .u8 (e2.toNat : Int), .int .u8 (e3.toNat : Int), .int .u8 (e4.toNat : Int), .int .u8 (e5.toNat : Int), .int .u8 (e6.toNat : Int), .int .u8 (e7.toNat : Int), .int .u8 (e8.toNat : Int), .int .u8 (e9.toNat : Int), .int .u8 (e10.toNat : Int), .int .u8 (e11.toNat : Int), .int .u8 (e12.toNat : Int), .int .u8 (e13.toNat : Int), .int .u8 (e14.toNat : Int), .int .u8 (e15.toNat : Int), .int .u8 (e16.toNat : Int), .int .u8 (e17.toNat : Int), .int .u8 (e18.toNat : Int), .int .u8 (e19.toNat : Int), .int .u8 (e20.toNat : Int), .int .u8 (e21.toNat : Int), .int .u8 (e22.toNat : Int), .int .u8 (e23.toNat : Int), .int .u8 (e24.toNat : Int), .int .u8 (e25.toNat : Int), .int .u8 (e26.toNat : Int), .int .u8 (e27.toNat : Int), .int .u8 (e28.toNat : Int), .int .u8 (e29.toNat : Int), .int .u8 (e30.toNat : Int), .int .u8 (e31.toNat : Int), .int .u32 qsz, .int .u32 qbi, .slice ha hs.length hc', .int .i64 qca][j]? = some v → w1.cell? ⟨bq, oq + (i : Int).toNat * 36 + j, none⟩ = some v := by
   intro j v hj
   have hj36 : j < 36 := (List.getElem?_eq_some_iff.1 hj).1
   have := flat36 hpyl' hy hj36
   rw [show oq + (i : Int).toNat * 36 + j = oq + (i * 36 + j) by omega]
   exact old (Sv.cellN hsv0' (this.trans hj))
  repeat' first | refine Wl.move rfl rfl ?_ | refine Wl.fieldAddrZ rfl rfl ?_ | (apply Wl.loadO; exact rfl; exact rfl; (assumption); (repeat (first | exact trivial | refine ⟨by first | assumption | omega, ?_⟩))) | refine Wl.lss rfl rfl rfl ?_ | refine Wl.len rfl rfl ?_ | apply Wl.nil | apply St.region | apply St.skip | apply Gt.next | (apply St.seqK (k := 6); exact rfl) | (apply St.seqKS (k := 6); exact rfl) | (apply St.condP; exact rfl; all_goals (intros; try (exfalso; omega)))
  apply St.seq
  apply St.block
  refine St.cut (σ := Nat × Nat) (fun τ => w1.heap.size ≤ τ.1 ∧ w1.heap.size ≤ τ.2 ∧ τ.1 ≠ τ.2) (fun τ => [(2, .pointer (some ⟨c2, 0, none⟩)), (3, .pointer (some ⟨c3, 0, none⟩)), (5, .int .i64 i), (6, .pointer (some ⟨τ.1, 0, none⟩)), (7, .pointer (some ⟨τ.2, 0, none⟩))])
   (fun τ => Hp w1 [⟨τ.1, [Value.int .u8 (d0.toNat : Int), .int .u8 (d1.toNat : Int), .int .u8 (d2.toNat : Int), .int .u8 (d3.toNat : Int), .int .u8 (d4.toNat : Int), .int .u8 (d5.toNat : Int), .int .u8 (d6.toNat : Int), .int .u8 (d7.toNat : Int), .int .u8 (d8.toNat : Int), .int .u8 (d9.toNat : Int), .int .u8 (d10.toNat : Int), .int .u8 (d11.toNat : Int), .int .u8 (d12.toNat : Int), .int .u8 (d13.toNat : Int), .int .u8 (d14.toNat : Int), .int .u8 (d15.toNat : Int), .int .u8 (d16.toNat : Int), .int .u8 (d17.toNat : Int), .int .u8 (d18.toNat : Int), .int .u8 (d19.toNat : Int), .int .u8 (d20.toNat : Int), .int .u8 (d21.toNat : Int), .int .u8 (d22.toNat : Int), .int .u8 (d23.toNat : Int), .int .u8 (d24.toNat : Int), .int .u8 (d25.toNat : Int), .int .u8 (d26.toNat : Int), .int .u8 (d27.toNat : Int), .int .u8 (d28.toNat : Int), .int .u8 (d29.toNat : Int), .int .u8 (d30.toNat : Int), .int .u8 (d31.toNat : Int), .int .u32 psz, .int .u32 pbi, .slice ga gs.length gc, .int .i64 pca], 51⟩, ⟨τ.2, [Value.int .u8 (e0.toNat : Int), .int .u8 (e1.toNat : Int), .int .u8 (e2.toNat : Int), .int .u8 (e3.toNat : Int), .int .u8 (e4.toNat : Int), .int .u8 (e5.toNat : Int), .int .u8 (e6.toNat : Int), .int .u8 (e7.toNat : Int), .int .u8 (e8.toNat : Int), .int .u8 (e9.toNat : Int), .int .u8 (e10.toNat : Int), .int .u8 (e11.toNat : Int), .int .u8 (e12.toNat : Int), .int .u8 (e13.toNat : Int), .int .u8 (e14.toNat : Int), .int .u8 (e15.toNat : Int), .int .u8 (e16.toNat : Int), .int .u8 (e17.toNat : Int), .int .u8 (e18.toNat : Int), .int .u8 (e19.toNat : Int), .int .u8 (e20.toNat : Int), .int .u8 (e21.toNat : Int), .int .u8 (e22.toNat : Int), .int .u8 (e23.toNat : Int), .int .u8 (e24.toNat : Int), .int .u8 (e25.toNat : Int), .int .u8 (e26.toNat : Int), .int .u8 (e27.toNat : Int), .int .u8 (e28.toNat : Int), .int .u8 (e29.toNat : Int), .int .u8 (e30.toNat : Int), .int .u8 (e31.toNat : Int), .int .u32 qsz, .int .u32 qbi, .slice ha hs.length hc', .int .i64 qca], 51⟩]) ?_ ?_
  ·refine St.tree (Hp w1 []) mixed (fun _ h => ⟨Hp.drew h, Hp.drew h⟩) ?_
   refine Mt.pure 0 (by kernel_rfl) (by exact rfl) (by exact rfl) (by kernel_rfl) (by kernel_rfl) ?_
   repeat' first | refine Wl.fieldAddrZ rfl rfl ?_ | apply Wl.nilM
   apply Mt.back
   refine Mt.pure 1 (by kernel_rfl) (by exact rfl) (by exact rfl) (by kernel_rfl) (by kernel_rfl) ?_
   repeat' first | (apply Wl.loadO; exact rfl; exact rfl; (assumption); (repeat (first | exact trivial | refine ⟨by first | assumption | omega, ?_⟩))) | apply Wl.nilM
   apply Mt.back
   refine Mt.pure 2 (by kernel_rfl) (by exact rfl) (by exact rfl) (by kernel_rfl) (by kernel_rfl) ?_
   repeat' first | refine Wl.move rfl rfl ?_ | apply Wl.nilM
   apply Mt.back
   refine Mt.pure 3 (by kernel_rfl) (by exact rfl) (by exact rfl) (by kernel_rfl) (by kernel_rfl) ?_
   repeat' first | (refine Wl.indexAddr rfl rfl rfl ?_ ?_; constructor <;> omega) | apply Wl.nilM
   apply Mt.back
   refine Mt.pure 4 (by kernel_rfl) (by exact rfl) (by exact rfl) (by kernel_rfl) (by kernel_rfl) ?_
   repeat' first | (apply Wl.loadAP; exact rfl; exact rfl; exact hcx; exact trivial; exact rfl) | apply Wl.nilM
   apply Mt.back
   refine Mt.pure 5 (by kernel_rfl) (by exact rfl) (by exact rfl) (by kernel_rfl) (by kernel_rfl) ?_
   repeat' first | refine Wl.fieldAddrZ rfl rfl ?_ | apply Wl.nilM
   apply Mt.back
   refine Mt.pure 6 (by kernel_rfl) (by exact rfl) (by exact rfl) (by kernel_rfl) (by kernel_rfl) ?_
   repeat' first | (apply Wl.loadO; exact rfl; exact rfl; (assumption); (repeat (first | exact trivial | refine ⟨by first | assumption | omega, ?_⟩))) | apply Wl.nilM
   apply Mt.back
   refine Mt.pure 7 (by kernel_rfl) (by exact rfl) (by exact rfl) (by kernel_rfl) (by kernel_rfl) ?_
   repeat' first | refine Wl.move rfl rfl ?_ | apply Wl.nilM
   apply Mt.back
   refine Mt.pure 8 (by kernel_rfl) (by exact rfl) (by exact rfl) (by kernel_rfl) (by kernel_rfl) ?_
   repeat' first | (refine Wl.indexAddr rfl rfl rfl ?_ ?_; constructor <;> omega) | apply Wl.nilM
   apply Mt.back
   refine Mt.pure 9 (by kernel_rfl) (by exact rfl) (by exact rfl) (by kernel_rfl) (by kernel_rfl) ?_
   repeat' first | (apply Wl.loadAP; exact rfl; exact rfl; exact hcy; exact trivial; exact rfl) | apply Wl.nilM
   apply Mt.back
   repeat' first | (refine Mt.toGt (by decide +kernel) ?_) | (refine Mt.eff2 (i := 10) (j := 11) (by decide +kernel) (by exact rfl) (by exact rfl) ?_ ?_) | (refine Mt.eff1 (i := 10) (by decide +kernel) (by exact rfl) ?_) | (refine Mt.eff1 (i := 11) (by decide +kernel) (by exact rfl) ?_) | (refine Mt.eff1 (i := 12) (by decide +kernel) (by exact rfl) ?_) | (refine Mt.eff1 (i := 13) (by decide +kernel) (by exact rfl) ?_) | (refine Mt.backE (fun _ h => Hp.drop h (by simp; omega)) ?_) | (apply Wl.storeA; exact rfl; exact rfl; exact rfl; exact rfl; (focus repeat constructor); (repeat (first | apply LPut.s | apply LPut.z | apply LOver.nil | apply LOver.cons))) | (apply Wl.alloc; exact rfl; intro c hc ho) | apply Wl.nil
   all_goals rename_i c0 hc0 ho0
   all_goals first
    | (apply Gt.meet (c, c0)
       ·exact ⟨hc, hc0, fun e => ho.1 e.symm⟩
       ·exact .cons rfl (.cons rfl (.cons rfl (.cons rfl (.cons rfl .nil))))
       ·exact fun _ h => h)
    | (apply Gt.meet (c0, c)
       ·exact ⟨hc0, hc, ho.1⟩
       ·exact .cons rfl (.cons rfl (.cons rfl (.cons rfl (.cons rfl .nil))))
       ·exact fun _ h => Hp.swap2 h)
  rintro ⟨c6, c7⟩ ⟨h6, h7, h67⟩
  simp only at h6 h7 h67 ⊢
  repeat' first | (apply Wl.neqDig (p := [d0, d1, d2, d3, d4, d5, d6, d7, d8, d9, d10, d11, d12, d13, d14, d15, d16, d17, d18, d19, d20, d21, d22, d23, d24, d25, d26, d27, d28, d29, d30, d31]) (q := [e0, e1, e2, e3, e4, e5, e6, e7, e8, e9, e10, e11, e12, e13, e14, e15, e16, e17, e18, e19, e20, e21, e22, e23, e24, e25, e26, e27, e28, e29, e30, e31]); exact rfl; exact rfl; exact rfl; exact rfl; exact rfl) | refine Wl.move rfl rfl ?_ | refine Wl.assign rfl rfl ?_ | (apply Wl.on; exact rfl; exact rfl; (with_reducible first | rfl | assumption | decide)) | (apply Wl.off; exact rfl; exact rfl; exact rfl; (first | with_reducible rfl | (show _ = false; with_reducible assumption) | (show _ = true; with_reducible assumption) | decide)) | (apply Wl.pickT; exact rfl; exact rfl; (with_reducible first | rfl | assumption | decide); exact rfl) | (apply Wl.pickF; exact rfl; exact rfl; (with_reducible first | rfl | assumption | decide); exact rfl) | refine Wl.fieldAddr0 rfl rfl ?_ | refine Wl.fieldAddrZ rfl rfl ?_ | (apply Wl.loadH; exact rfl; exact rfl; (focus repeat constructor); exact rfl) | refine Wl.neq rfl rfl rfl ?_ | refine Wl.len rfl rfl ?_ | (apply Wl.loadAH; exact rfl; exact rfl; (focus repeat constructor); (focus repeat constructor)) | apply Wl.nil | apply St.region | (apply St.condT; exact rfl; (with_reducible first | rfl | assumption | decide)) | apply St.ret | apply St.skip | apply Gt.next | apply Gt.thenRet | apply Gt.inRet | (apply Gt.out1; exact rfl; exact rfl; intro w' hp) | (apply St.seqK (k := 9); exact rfl) | (apply St.seqKS (k := 9); exact rfl) | (apply Wl.splitP; exact rfl; exact rfl; all_goals (intros; try (exfalso; omega))) | (apply St.condP; exact rfl; all_goals (intros; try (exfalso; omega)))
  all_goals try (refine hno (fun e => ?_) _ _ hp (by simp; omega); obtain ⟨e1, e2, e3, e4, e5⟩ := Py.mk.inj e; have e6 := congrArg List.length e4; (first | omega | contradiction))
  have hdg : [d0, d1, d2, d3, d4, d5, d6, d7, d8, d9, d10, d11, d12, d13, d14, d15, d16, d17, d18, d19, d20, d21, d22, d23, d24, d25, d26, d27, d28, d29, d30, d31] = [e0, e1, e2, e3, e4, e5, e6, e7, e8, e9, e10, e11, e12, e13, e14, e15, e16, e17, e18, e19, e20, e21, e22, e23, e24, e25, e26, e27, e28, e29, e30, e31] := Decidable.byContradiction fun e => by contradiction
  have hgl : gs.length = hs.length := by omega
  repeat' first | refine Wl.assign rfl rfl ?_ | apply Wl.nil | apply St.seq | apply St.block | apply St.region | apply Gt.next
  refine St.loop (σ := Nat) (fun k => k ≤ gs.length ∧ gs.take k = hs.take k)
   (fun k => [(2, .pointer (some ⟨c2, 0, none⟩)), (3, .pointer (some ⟨c3, 0, none⟩)), (5, .int .i64 i), (6, .pointer (some ⟨c6, 0, none⟩)), (7, .pointer (some ⟨c7, 0, none⟩)), (8, .int .i64 k)])
   (fun _ => Hp w1 [⟨c6, [Value.int .u8 (d0.toNat : Int), .int .u8 (d1.toNat : Int), .int .u8 (d2.toNat : Int), .int .u8 (d3.toNat : Int), .int .u8 (d4.toNat : Int), .int .u8 (d5.toNat : Int), .int .u8 (d6.toNat : Int), .int .u8 (d7.toNat : Int), .int .u8 (d8.toNat : Int), .int .u8 (d9.toNat : Int), .int .u8 (d10.toNat : Int), .int .u8 (d11.toNat : Int), .int .u8 (d12.toNat : Int), .int .u8 (d13.toNat : Int), .int .u8 (d14.toNat : Int), .int .u8 (d15.toNat : Int), .int .u8 (d16.toNat : Int), .int .u8 (d17.toNat : Int), .int .u8 (d18.toNat : Int), .int .u8 (d19.toNat : Int), .int .u8 (d20.toNat : Int), .int .u8 (d21.toNat : Int), .int .u8 (d22.toNat : Int), .int .u8 (d23.toNat : Int), .int .u8 (d24.toNat : Int), .int .u8 (d25.toNat : Int), .int .u8 (d26.toNat : Int), .int .u8 (d27.toNat : Int), .int .u8 (d28.toNat : Int), .int .u8 (d29.toNat : Int), .int .u8 (d30.toNat : Int), .int .u8 (d31.toNat : Int), .int .u32 psz, .int .u32 pbi, .slice ga gs.length gc, .int .i64 pca], 51⟩, ⟨c7, [Value.int .u8 (e0.toNat : Int), .int .u8 (e1.toNat : Int), .int .u8 (e2.toNat : Int), .int .u8 (e3.toNat : Int), .int .u8 (e4.toNat : Int), .int .u8 (e5.toNat : Int), .int .u8 (e6.toNat : Int), .int .u8 (e7.toNat : Int), .int .u8 (e8.toNat : Int), .int .u8 (e9.toNat : Int), .int .u8 (e10.toNat : Int), .int .u8 (e11.toNat : Int), .int .u8 (e12.toNat : Int), .int .u8 (e13.toNat : Int), .int .u8 (e14.toNat : Int), .int .u8 (e15.toNat : Int), .int .u8 (e16.toNat : Int), .int .u8 (e17.toNat : Int), .int .u8 (e18.toNat : Int), .int .u8 (e19.toNat : Int), .int .u8 (e20.toNat : Int), .int .u8 (e21.toNat : Int), .int .u8 (e22.toNat : Int), .int .u8 (e23.toNat : Int), .int .u8 (e24.toNat : Int), .int .u8 (e25.toNat : Int), .int .u8 (e26.toNat : Int), .int .u8 (e27.toNat : Int), .int .u8 (e28.toNat : Int), .int .u8 (e29.toNat : Int), .int .u8 (e30.toNat : Int), .int .u8 (e31.toNat : Int), .int .u32 qsz, .int .u32 qbi, .slice ha hs.length hc', .int .i64 qca], 51⟩]) (fun k => gs.length - k) 0 ⟨Nat.zero_le _, rfl⟩ (by repeat constructor) (fun _ h => h) ?_
  rintro k ⟨hkn, hkt⟩
  by_cases hkl : k < gs.length
  ·obtain ⟨g, hg⟩ : ∃ g, gs[k]? = some g := ⟨_, List.getElem?_eq_getElem hkl⟩
   obtain ⟨o, ho'⟩ : ∃ o, hs[k]? = some o := ⟨_, List.getElem?_eq_getElem (by omega)⟩
   have hgV := hgrs g (List.mem_of_getElem? hg)
   have hoV := hgrs' o (List.mem_of_getElem? ho')
   obtain ⟨gb, go, gc', hga, _, _⟩ := Sv.some_of hsg0 (fun e => by have := flat3 grCells_len hg (j := 0) (by decide); rw [e] at this; simp [grCells] at this)
   simp only [Value.slice.injEq, true_and] at hga
   obtain ⟨rfl, rfl⟩ := hga
   obtain ⟨hb, ho2', hc2', hha, _, _⟩ := Sv.some_of hsg0' (fun e => by have := flat3 grCells_len ho' (j := 0) (by decide); rw [e] at this; simp [grCells] at this)
   simp only [Value.slice.injEq, true_and] at hha
   obtain ⟨rfl, rfl⟩ := hha
   have hge : ∀ j v, [Value.int .u32 g.start, .int .u32 g.size, .int .i64 g.rights][j]? = some v → w1.cell? ⟨gb, go + (k : Int).toNat * 3 + j, none⟩ = some v := by
    intro j v hj
    have hj3 : j < 3 := (List.getElem?_eq_some_iff.1 hj).1
    rw [show go + (k : Int).toNat * 3 + j = go + (k * 3 + j) by omega]
    exact old (Sv.cellN hsg0 ((flat3 grCells_len hg hj3).trans hj))
   have hoe : ∀ j v, [Value.int .u32 o.start, .int .u32 o.size, .int .i64 o.rights][j]? = some v → w1.cell? ⟨hb, ho2' + (k : Int).toNat * 3 + j, none⟩ = some v := by
    intro j v hj
    have hj3 : j < 3 := (List.getElem?_eq_some_iff.1 hj).1
    rw [show ho2' + (k : Int).toNat * 3 + j = ho2' + (k * 3 + j) by omega]
    exact old (Sv.cellN hsg0' ((flat3 grCells_len ho' hj3).trans hj))
   have hgb : gb < w1.heap.size := World.block_lt_of_cell? w1 _ (hge 0 _ rfl)
   have hhb : hb < w1.heap.size := World.block_lt_of_cell? w1 _ (hoe 0 _ rfl)
   have n1 : c6 ≠ gb := by omega
   have n2 : c7 ≠ gb := by omega
   have n3 : c6 ≠ hb := by omega
   have n4 : c7 ≠ hb := by omega
   repeat' first | (apply Wl.loadAP; exact rfl; exact rfl; exact hge; exact ⟨n1, n2, trivial⟩; exact rfl) | (apply Wl.loadAP; exact rfl; exact rfl; exact hoe; exact ⟨n3, n4, trivial⟩; exact rfl) | (apply Wl.neqGrant (p := g) (q := o); exact rfl; exact rfl; exact rfl; exact hgV; exact hoV) | refine Wl.move rfl rfl ?_ | refine Wl.assign rfl rfl ?_ | refine Wl.fieldAddrZ rfl rfl ?_ | (apply Wl.loadH; exact rfl; exact rfl; (focus repeat constructor); exact rfl) | refine Wl.lss rfl rfl rfl ?_ | (refine Wl.addI rfl rfl rfl ?_ ?_; constructor <;> omega) | refine Wl.len rfl rfl ?_ | (refine Wl.indexAddr rfl rfl rfl ?_ ?_; constructor <;> omega) | apply Wl.nil | apply Wl.nilQ | apply St.seq | apply St.block | apply St.region | (apply St.draw; exact mixed; (kernel_rfl); exact (fun _ h => Hp.drew h)) | apply St.ret | apply St.skip | apply Gt.next | apply Gt.thenRet | apply Gt.inNormal | apply Gt.inRet | (apply Gt.out1; exact rfl; exact rfl; intro w' hp) | (apply St.condP; exact rfl; all_goals (intros; try (exfalso; omega)))
   ·refine hno (fun e => ?_) _ _ hp (by simp; omega)
    obtain ⟨e1, e2, e3, e4, e5⟩ := Py.mk.inj e
    subst e4
    rw [hg] at ho'
    simp only [Option.some.injEq] at ho'
    subst ho'
    rename_i hh _
    exact absurd ⟨rfl, rfl, rfl⟩ hh
   ·apply Gt.round (k + 1)
    ·refine ⟨hkl, take_step hkt hg ho' ?_⟩
     rename_i hh _
     have hh' := Decidable.not_not.1 hh
     cases g
     cases o
     simp only at hh'
     rw [hh'.1, hh'.2.1, hh'.2.2]
    ·omega
    ·repeat constructor
    ·exact fun _ h => h
  ·have hk' : k = gs.length := by omega
   have hgh : gs = hs := by
    rw [hk', List.take_length, hgl, List.take_length] at hkt
    exact hkt
   repeat' first | refine Wl.move rfl rfl ?_ | refine Wl.assign rfl rfl ?_ | refine Wl.fieldAddrZ rfl rfl ?_ | (apply Wl.loadH; exact rfl; exact rfl; (focus repeat constructor); exact rfl) | refine Wl.lss rfl rfl rfl ?_ | (refine Wl.addI rfl rfl rfl ?_ ?_; constructor <;> omega) | refine Wl.len rfl rfl ?_ | apply Wl.nil | apply St.seq | apply St.region | apply St.exit | apply Gt.next | apply Gt.thenExit | apply Gt.inNormal | apply Gt.inExit | (apply St.condP; exact rfl; all_goals (intros; try (exfalso; omega)))
   apply Gt.round (i + 1)
   ·refine ⟨hlt, take_step htk hmx hmy ?_⟩
    rw [hdg, hgh, show psz = qsz by omega, show pbi = qbi by omega, show pca = qca by omega]
   ·omega
   ·repeat constructor
   ·exact fun u hu => Hp.drop hu (by simp; omega)
 ·have hin' : i = xs.length := by omega
  have hpe : m.pays = n.pays := by
   rw [hin', hlen, List.take_length, ← hlen, em3, hlen', List.take_length] at htk
   exact htk
  repeat' first | refine Wl.move rfl rfl ?_ | refine Wl.assign rfl rfl ?_ | refine Wl.fieldAddrZ rfl rfl ?_ | (apply Wl.loadO; exact rfl; exact rfl; (assumption); (repeat (first | exact trivial | refine ⟨by first | assumption | omega, ?_⟩))) | refine Wl.lss rfl rfl rfl ?_ | refine Wl.len rfl rfl ?_ | apply Wl.nil | apply St.seq | apply St.region | apply St.ret | apply St.exit | apply Gt.next | apply Gt.thenExit | apply Gt.inExit | (apply Gt.out1; exact rfl; exact rfl; intro w' hp) | (apply St.condP; exact rfl; all_goals (intros; try (exfalso; omega)))
  refine ⟨true, rfl, ⟨fun _ => ?_, fun _ => rfl⟩, u01.comp hp.upd fun _ _ hs => hs.elim id fun y => (y trivial).elim⟩
  cases m
  cases n
  simp only at em1 em2 hpe
  rw [em1, em2, hpe]
end Go.Proofs.YtmjlceimjlabpaaDoor
end
section
namespace Go.Proofs.YtmjlceimjlabpaaDoor
open Go.RowKit Go.Pt
set_option maxHeartbeats 1000000 in
theorem rright_any (v : Value) (m : Mf) (w : World) (hv : MfV w v m) :
  Calls Tryd.prog 45 #[v] w fun e w' => e = .returned (.int .i64 (rightOf m)) ∧ Upd (fun k => w.heap.size ≤ k) w w' := by
 obtain ⟨pv, xs, rfl, hxs, hsv, hpy, hcnt, hkey⟩ := hv
 unfold I64 at hkey
 have hlen : xs.length = m.pays.length := by rw [← hxs, List.length_map]
 have hsv0 := hsv
 obtain ⟨_, ap, cp, rfl, hp1, hp2, _, _⟩ := hsv
 unfold maxLen at hp2
 refine enter (args := [_]) (Γ := [(0, _)]) Tryd.func45 Tryd.ntmps45 rfl (of_decide_eq_true rfl) (.cons rfl .nil) ?_
 repeat' first | refine Wl.move rfl rfl ?_ | refine Wl.assign rfl rfl ?_ | (apply Wl.on; exact rfl; exact rfl; (with_reducible first | rfl | assumption | decide)) | (apply Wl.off; exact rfl; exact rfl; exact rfl; (first | with_reducible rfl | (show _ = false; with_reducible assumption) | (show _ = true; with_reducible assumption) | decide)) | (apply Wl.pickT; exact rfl; exact rfl; (with_reducible first | rfl | assumption | decide); exact rfl) | (apply Wl.pickF; exact rfl; exact rfl; (with_reducible first | rfl | assumption | decide); exact rfl) | refine Wl.fieldAddrZ rfl rfl ?_ | (apply Wl.loadH; exact rfl; exact rfl; (focus repeat constructor); exact rfl) | refine Wl.eql rfl rfl rfl ?_ | refine Wl.lss rfl rfl rfl ?_ | refine Wl.gtr rfl rfl rfl ?_ | refine Wl.len rfl rfl ?_ | (apply Wl.boxA; exact rfl; exact rfl; intro c hc ho) | apply Wl.nil | apply St.seq | apply St.block | apply St.region | (apply St.condT; exact rfl; (with_reducible first | rfl | assumption | decide)) | apply St.ret | apply St.skip | apply Gt.next | apply Gt.thenRet | (apply Gt.out1; exact rfl; exact rfl; intro w' hp) | (apply Wl.splitP; exact rfl; exact rfl; all_goals (intros; try (exfalso; omega))) | (apply St.condP; exact rfl; all_goals (intros; try (exfalso; omega)))
 all_goals try exact ⟨by rw [show rightOf m = 3 from by unfold rightOf; rw [if_neg (by omega)]]; rfl, (hp.drop (by simp; omega)).upd.mono fun _ _ y => (y trivial).elim⟩
 have hmain : rightOf m = paysR [] m.pays := by unfold rightOf; rw [if_pos (by omega)]
 generalize c = bm at *
 apply St.reb (H' := [])
 intro wI hI
 refine ⟨trivial, trivial, ?_⟩
 have hbmI : wI.cell? ⟨bm, 2, none⟩ = some (.slice ap xs.length cp) := hI.cell (.head _) rfl
 have eI : Ext w wI := (hI.drop (by simp; omega)).ext
 have hbmlt : bm < wI.heap.size := hI.own.lt (.head _)
 have hbmw : w.heap.size ≤ bm := hc
 clear hI
 refine St.loop (σ := Nat × World × Value × List Gr)
  (fun τ => τ.1 ≤ xs.length ∧ Upd (fun k => w.heap.size ≤ k) w τ.2.1 ∧ τ.2.1.ownsRow w.heap.size 61 3 τ.2.2.1 τ.2.2.2.length (τ.2.2.2.flatMap grCells) ∧ rightOf m = paysR τ.2.2.2 (m.pays.drop τ.1) ∧ τ.2.2.2.length ≤ 4 * τ.1 ∧ (∀ g ∈ τ.2.2.2, GrV g) ∧ τ.2.1.cell? ⟨bm, 2, none⟩ = some (.slice ap xs.length cp) ∧ bm < τ.2.1.heap.size ∧ τ.2.2.1.ownBlock ≠ some bm)
  (fun τ => [(1, .pointer (some ⟨bm, 0, none⟩)), (3, τ.2.2.1), (4, .int .i64 τ.1)])
  (fun τ => Hp τ.2.1 [])
  (fun τ => xs.length - τ.1) (0, wI, .slice none 0 0, []) ⟨Nat.zero_le _, eI.mono fun _ _ y => y.elim, World.ownsRow_nil _ _ _ _, hmain, Nat.zero_le _, (fun g hg => by cases hg), hbmI, hbmlt, fun e => (by cases e)⟩ (by repeat constructor) (fun _ h => h) ?_
 clear hbmI eI hbmlt wI
 rintro ⟨i, w0, va, all⟩ ⟨hin, hu, hown, hri, hal, hgv, hbm, hbl, hbv⟩
 simp only at hin hu hown hri hal hgv hbm hbl hbv ⊢
 by_cases hlt : i < xs.length
 ·obtain ⟨x, hx⟩ : ∃ x, xs[i]? = some x := ⟨_, List.getElem?_eq_getElem hlt⟩
  obtain ⟨hsg, hdl, hsz, hbi, hca, hgrs, _⟩ := hpy x (List.mem_of_getElem? hx)
  have hdrop : m.pays.drop i = x.1 :: m.pays.drop (i + 1) := by
   have h1 : m.pays[i]? = some x.1 := by rw [← hxs, List.getElem?_map, hx]; rfl
   obtain ⟨h2, h3⟩ := List.getElem?_eq_some_iff.1 h1
   rw [List.drop_eq_getElem_cons h2, h3]
  have hpyl : ∀ x ∈ xs, (pyCells x).length = 36 := fun x hx => pyCells_len x (hpy x hx).2.1
  obtain ⟨⟨dig, psz, pbi, gs, pca⟩, gv⟩ := x
  simp only at hsg hdl hsz hbi hca hgrs hdrop
  unfold I64 at hca
  obtain ⟨d0, d1, d2, d3, d4, d5, d6, d7, d8, d9, d10, d11, d12, d13, d14, d15, d16, d17, d18, d19, d20, d21, d22, d23, d24, d25, d26, d27, d28, d29, d30, d31, rfl⟩ := list32 dig hdl
  obtain ⟨bp, op, cp', hap, _, _⟩ := Sv.some_of hsv0 (fun e => by have := flat36 hpyl hx (j := 0) (by decide); rw [e] at this; simp [pyCells, byteCells] at this)
  simp only [Value.slice.injEq, true_and] at hap
  obtain ⟨rfl, rfl⟩ := hap
  have hsg0 := hsg
  obtain ⟨_, ga, gc, rfl, hg1, hg2, _, _⟩ := hsg
  have hce : ∀ j v, [Value.int .u8 (d0.toNat : Int), .int .u8 (d1.toNat : Int), .int .u8 (d2.toNat : Int), .int .u8 (d3.toNat : Int), .int .u8 (d4.toNat : Int), .int .u8 (d5.toNat : Int), .int .u8 (d6.toNat : Int), .int .u8 (d7.toNat : Int), .int .u8 (d8.toNat : Int), .int .u8 (d9.toNat : Int), .int .u8 (d10.toNat : Int), .int .u8 (d11.toNat : Int), .int .u8 (d12.toNat : Int), .int .u8 (d13.toNat : Int), .int .u8 (d14.toNat : Int), .int .u8 (d15.toNat : Int), .int .u8 (d16.toNat : Int), .int .u8 (d17.toNat : Int), .int .u8 (d18.toNat : Int), .int .u8 (d19.toNat : Int), .int .u8 (d20.toNat : Int), .int .u8 (d21.toNat : Int), .int .u8 (d22.toNat : Int), .int .u8 (d23.toNat : Int), .int .u8 (d24.toNat : Int), .int .u8 (d25.toNat : Int), .int .u8 (d26.toNat : Int), .int .u8 (d27.toNat : Int), .int .u8 (d28.toNat : Int), .int .u8 (d29.toNat : Int), .int .u8 (d30.toNat : Int), .int .u8 (d31.toNat : Int), .int .u32 psz, .int .u32 pbi, .slice ga gs.length gc, .int .i64 pca][j]? = some v → w0.cell? ⟨bp, op + (i : Int).toNat * 36 + j, none⟩ = some v := by
   intro j v hj
   have hj36 : j < 36 := (List.getElem?_eq_some_iff.1 hj).1
   have := flat36 hpyl hx hj36
   rw [show op + (i : Int).toNat * 36 + j = op + (i * 36 + j) by omega]
   have hc := Sv.cellN hsv0 (this.trans hj)
   exact hu.cell hc (by have := World.block_lt_of_cell? w _ hc; simp only at this ⊢; omega)
  have t1 : (pbi : Int).tmod 4 = ((pbi % 4 : Nat) : Int) := rfl
  repeat' first | (apply Wl.loadAP; exact rfl; exact rfl; exact hce; exact trivial; exact rfl) | refine Wl.move rfl rfl ?_ | refine Wl.assign rfl rfl ?_ | (apply Wl.on; exact rfl; exact rfl; (with_reducible first | rfl | assumption | decide)) | (apply Wl.off; exact rfl; exact rfl; exact rfl; (first | with_reducible rfl | (show _ = false; with_reducible assumption) | (show _ = true; with_reducible assumption) | decide)) | (apply Wl.pickT; exact rfl; exact rfl; (with_reducible first | rfl | assumption | decide); exact rfl) | (apply Wl.pickF; exact rfl; exact rfl; (with_reducible first | rfl | assumption | decide); exact rfl) | refine Wl.fieldAddrZ rfl rfl ?_ | (apply Wl.loadH; exact rfl; exact rfl; (focus repeat constructor); exact rfl) | (apply Wl.loadO; exact rfl; exact rfl; (assumption); (repeat (first | exact trivial | refine ⟨by first | assumption | omega, ?_⟩))) | refine Wl.eql rfl rfl rfl ?_ | refine Wl.neq rfl rfl rfl ?_ | refine Wl.lss rfl rfl rfl ?_ | refine Wl.gtr rfl rfl rfl ?_ | (apply Wl.rem; exact rfl; exact rfl; exact rfl; (first | decide | omega)) | refine Wl.len rfl rfl ?_ | (apply Wl.storeA; exact rfl; exact rfl; exact rfl; exact rfl; (focus repeat constructor); (repeat (first | apply LPut.s | apply LPut.z | apply LOver.nil | apply LOver.cons))) | (apply Wl.alloc; exact rfl; intro c hc ho) | (refine Wl.indexAddr rfl rfl rfl ?_ ?_; constructor <;> omega) | apply Wl.nil | apply St.seq | apply St.block | apply St.region | (apply St.condT; exact rfl; (with_reducible first | rfl | assumption | decide)) | apply St.ret | apply St.skip | apply Gt.next | apply Gt.thenRet | apply Gt.inRet | (apply Gt.out1; exact rfl; exact rfl; intro w' hp) | (apply Wl.splitP; exact rfl; exact rfl; all_goals (intros; try (exfalso; omega))) | (apply St.condP; exact rfl; all_goals (intros; try (exfalso; omega)))
  all_goals try exact ⟨by rw [hri, hdrop]; simp only [paysR]; rw [if_neg (by unfold payB; simp only [decide_eq_true_eq]; omega)]; rfl, hu.comp (hp.drop (by simp; omega)).upd fun _ _ hs => hs.elim id fun y => (y trivial).elim⟩
  generalize c = c5 at *
  have hcw5 : w0.heap.size ≤ c5 := hc
  have hpay : payB (⟨[d0, d1, d2, d3, d4, d5, d6, d7, d8, d9, d10, d11, d12, d13, d14, d15, d16, d17, d18, d19, d20, d21, d22, d23, d24, d25, d26, d27, d28, d29, d30, d31], psz, pbi, gs, pca⟩ : Py) = true := by unfold payB; simp only [decide_eq_true_eq]; omega
  have hri' : rightOf m = if (grantsR all none gs).1 = 0 then paysR (grantsR all none gs).2 (m.pays.drop (i + 1)) else (grantsR all none gs).1 := by
   rw [hri, hdrop]; simp only [paysR]; rw [if_pos hpay]
  have hriE : ∀ e, (grantsR all none gs).1 = e → e ≠ 0 → rightOf m = e := fun e h1 h2 => by rw [hri', if_neg (by rw [h1]; exact h2), h1]
  have hriO : ∀ a', grantsR all none gs = (0, a') → rightOf m = paysR a' (m.pays.drop (i + 1)) := fun a' h1 => by rw [hri', if_pos (by rw [h1]), h1]
  clear hri'
  have hglen : gs.length ≤ 4 := by omega
  have hvs : ∀ k, va.ownBlock = some k → w.heap.size ≤ k ∧ k < w0.heap.size := fun k hk => hown.lt k hk
  apply St.reb (H' := [])
  intro w1 h1
  refine ⟨trivial, trivial, ?_⟩
  have hc5 : w1.cell? ⟨c5, 34, none⟩ = some (.slice ga gs.length gc) := h1.cell (.head _) rfl
  have u01 : Ext w0 w1 := (h1.drop (by simp; omega)).ext
  have hc1 : c5 < w1.heap.size := h1.own.lt (.head _)
  refine St.loop (σ := Nat × World × Value × List Gr)
   (fun τ => τ.1 ≤ gs.length ∧ Upd (fun k => w.heap.size ≤ k) w τ.2.1 ∧ τ.2.1.ownsRow w.heap.size 61 3 τ.2.2.1 τ.2.2.2.length (τ.2.2.2.flatMap grCells) ∧ grantsR all none gs = grantsR τ.2.2.2 (prevOf gs τ.1) (gs.drop τ.1) ∧
    τ.2.2.2.length = all.length + τ.1 ∧ (∀ g ∈ τ.2.2.2, GrV g) ∧ τ.2.1.cell? ⟨c5, 34, none⟩ = some (.slice ga gs.length gc) ∧ c5 < τ.2.1.heap.size ∧ τ.2.2.1.ownBlock ≠ some c5 ∧ τ.2.1.cell? ⟨bm, 2, none⟩ = some (.slice (some ⟨bp, op, none⟩) xs.length cp) ∧ bm < τ.2.1.heap.size ∧ τ.2.2.1.ownBlock ≠ some bm)
   (fun τ => [(1, .pointer (some ⟨bm, 0, none⟩)), (3, τ.2.2.1), (4, .int .i64 i), (5, .pointer (some ⟨c5, 0, none⟩)), (6, .int .i64 τ.1)])
   (fun τ => Hp τ.2.1 [])
   (fun τ => gs.length - τ.1) (0, w1, va, all) ⟨Nat.zero_le _, hu.comp u01 fun _ _ hs => hs.elim id False.elim, ownsRow_upd hown u01 fun _ _ y => y, by simp [prevOf], rfl, hgv, hc5, hc1, (fun e => by have := (hvs c5 e).2; omega), u01.cell hbm id, Nat.lt_of_lt_of_le hbl u01.size, hbv⟩ (by repeat constructor) (fun _ h => h) ?_
  clear hc5 u01 hc1 h1 w1
  rintro ⟨k, w1, vb, all'⟩ ⟨hkn, hu1, hown1, hgr, hal', hgv', hc5, hc1, hvc, hbm1, hbl1, hbv1⟩
  simp only at hkn hu1 hown1 hgr hal' hgv' hc5 hc1 hvc hbm1 hbl1 hbv1 ⊢
  by_cases hkl : k < gs.length
  ·obtain ⟨g, hg⟩ : ∃ g, gs[k]? = some g := ⟨_, List.getElem?_eq_getElem hkl⟩
   have hgd : gs.drop k = g :: gs.drop (k + 1) := by
    obtain ⟨h2, h3⟩ := List.getElem?_eq_some_iff.1 hg
    rw [List.drop_eq_getElem_cons h2, h3]
   have hgV := hgrs g (List.mem_of_getElem? hg)
   have hg32 := hgV.1
   have hgs32 := hgV.2.1
   obtain ⟨gb, go, gc', hga, _, _⟩ := Sv.some_of hsg0 (fun e => by have := flat3 grCells_len hg (j := 0) (by decide); rw [e] at this; simp [grCells] at this)
   simp only [Value.slice.injEq, true_and] at hga
   obtain ⟨rfl, rfl⟩ := hga
   have hcell : ∀ n j v q, gs[n]? = some q → (grCells q)[j]? = some v → j < 3 → w1.cell? ⟨gb, go + (n * 3 + j), none⟩ = some v := by
    intro n j v q hq hj hj3
    have hc := Sv.cellN hsg0 ((flat3 grCells_len hq hj3).trans hj)
    exact hu1.cell hc (by have := World.block_lt_of_cell? w _ hc; simp only at this ⊢; omega)
   have hge : ∀ j v, [Value.int .u32 g.start, .int .u32 g.size, .int .i64 g.rights][j]? = some v → w1.cell? ⟨gb, go + (k : Int).toNat * 3 + j, none⟩ = some v := by
    intro j v hj
    have hj3 : j < 3 := (List.getElem?_eq_some_iff.1 hj).1
    rw [show go + (k : Int).toNat * 3 + j = go + (k * 3 + j) by omega]
    exact hcell k j v g hg hj hj3
   have hgb : gb < w1.heap.size := World.block_lt_of_cell? w1 _ (hge 0 _ rfl)
   obtain ⟨_, ab, cb, rfl, hb1, hb2, _, _⟩ := Sv.ofOwn hown1
   repeat' first | refine Wl.move rfl rfl ?_ | refine Wl.fieldAddrZ rfl rfl ?_ | (apply Wl.loadO; exact rfl; exact rfl; (assumption); (repeat (first | exact trivial | refine ⟨by first | assumption | omega, ?_⟩))) | refine Wl.lss rfl rfl rfl ?_ | refine Wl.len rfl rfl ?_ | apply Wl.nil | apply St.region | apply St.skip | apply Gt.next | (apply St.seqK (k := 14); exact rfl) | (apply St.seqKS (k := 14); exact rfl) | (apply St.condP; exact rfl; all_goals (intros; try (exfalso; omega)))
   apply St.seq
   repeat' first | (apply Wl.loadAP; exact rfl; exact rfl; exact hge; exact trivial; exact rfl) | refine Wl.move rfl rfl ?_ | refine Wl.fieldAddrZ rfl rfl ?_ | (apply Wl.loadO; exact rfl; exact rfl; (assumption); (repeat (first | exact trivial | refine ⟨by first | assumption | omega, ?_⟩))) | (apply Wl.storeA; exact rfl; exact rfl; exact rfl; exact rfl; (focus repeat constructor); (repeat (first | apply LPut.s | apply LPut.z | apply LOver.nil | apply LOver.cons))) | (apply Wl.alloc; exact rfl; intro c hc ho) | (refine Wl.indexAddr rfl rfl rfl ?_ ?_; constructor <;> omega) | apply Wl.nil | apply St.block | apply St.region | apply Gt.next | (apply St.seqK (k := 14); exact rfl)
   generalize c = c7 at *
   have hcw7 : w1.heap.size ≤ c7 := hc
   refine St.cut (σ := Unit) (fun _ => fineB g = true ∧ notUp (prevOf gs k) g = false) (fun _ => [(1, .pointer (some ⟨bm, 0, none⟩)), (3, .slice ab all'.length cb), (4, .int .i64 i), (5, .pointer (some ⟨c5, 0, none⟩)), (6, .int .i64 k), (7, .pointer (some ⟨c7, 0, none⟩))])
    (fun _ => Hp w1 [⟨c7, grCells g, 61⟩]) ?_ ?_
   ·apply St.seq
    apply St.draw
    ·exact mixed
    ·kernel_rfl
    ·exact fun _ h => Hp.drew h
    have hten (h : (!fineB g || notUp (prevOf gs k) g) = true) (H : List Blk) (w' : World) (hp : Hp w1 H w') (hH : ∀ x ∈ H, w1.heap.size ≤ x.b) : Ending.returned (.int .i64 10) = Ending.returned (.int .i64 (rightOf m)) ∧ Upd (fun k => w.heap.size ≤ k) w w' := by
     refine ⟨?_, hu1.comp (hp.drop hH).upd fun _ _ hs => hs.elim id fun y => (y trivial).elim⟩
     rw [hriE 10 (by rw [hgr, hgd]; simp only [grantsR]; rw [if_pos h]) (by decide)]; rfl
    cases k with
    | zero =>
     repeat' first | (apply Wl.loadAH; exact rfl; exact rfl; (focus repeat constructor); (focus repeat constructor))
     apply Wl.callQQ
     exact rfl
     (focus repeat constructor)
     ·intro wq hq
      exact hq.q (fine_any g wq hgV)
     repeat' first | refine Wl.move rfl rfl ?_ | refine Wl.assign rfl rfl ?_ | (apply Wl.on; exact rfl; exact rfl; (with_reducible first | rfl | assumption | decide)) | (apply Wl.off; exact rfl; exact rfl; exact rfl; (first | with_reducible rfl | (show _ = false; with_reducible assumption) | (show _ = true; with_reducible assumption) | decide)) | refine Wl.offU rfl rfl rfl ?_ | (apply Wl.pickT; exact rfl; exact rfl; (with_reducible first | rfl | assumption | decide); exact rfl) | (apply Wl.pickF; exact rfl; exact rfl; (with_reducible first | rfl | assumption | decide); exact rfl) | refine Wl.not rfl rfl ?_ | refine Wl.gtr rfl rfl rfl ?_ | apply Wl.nil | apply Wl.nilQ | apply St.seq | apply St.region | (apply St.condT; exact rfl; (with_reducible first | rfl | assumption | decide)) | (apply St.condF; exact rfl; (with_reducible first | rfl | assumption | decide)) | apply St.ret | apply St.skip | apply Gt.next | apply Gt.thenRet | apply Gt.inRet | (apply Gt.out1; exact rfl; exact rfl; intro w' hp) | (apply Wl.splitB; exact rfl; exact rfl; all_goals intros)
     ·rename_i hnf
      exact hten (by rw [hnf]; rfl) _ _ hp (by simp; omega)
     ·rename_i hnf
      apply Gt.meet ()
      ·exact ⟨by simpa using hnf, rfl⟩
      ·repeat constructor
      ·exact fun _ h => h
    | succ k =>
     obtain ⟨q, hq⟩ : ∃ q, gs[k]? = some q := ⟨_, List.getElem?_eq_getElem (by omega)⟩
     have hpv : w1.cell? ⟨gb, go + (((k + 1 : Nat) : Int) - 1).toNat * 3, none⟩ = some (.int .u32 q.start) := by
      have := hcell k 0 _ q hq rfl (by decide)
      rw [show go + (((k + 1 : Nat) : Int) - 1).toNat * 3 = go + (k * 3 + 0) by omega]
      exact this
     repeat' first | (apply Wl.loadAH; exact rfl; exact rfl; (focus repeat constructor); (focus repeat constructor))
     apply Wl.callQQ
     exact rfl
     (focus repeat constructor)
     ·intro wq hq
      exact hq.q (fine_any g wq hgV)
     repeat' first | refine Wl.move rfl rfl ?_ | refine Wl.assign rfl rfl ?_ | (apply Wl.on; exact rfl; exact rfl; (with_reducible first | rfl | assumption | decide)) | (apply Wl.off; exact rfl; exact rfl; exact rfl; (first | with_reducible rfl | (show _ = false; with_reducible assumption) | (show _ = true; with_reducible assumption) | decide)) | refine Wl.offU rfl rfl rfl ?_ | (apply Wl.pickT; exact rfl; exact rfl; (with_reducible first | rfl | assumption | decide); exact rfl) | (apply Wl.pickF; exact rfl; exact rfl; (with_reducible first | rfl | assumption | decide); exact rfl) | refine Wl.not rfl rfl ?_ | refine Wl.fieldAddr0 rfl rfl ?_ | refine Wl.fieldAddrZ rfl rfl ?_ | (apply Wl.loadH; exact rfl; exact rfl; (focus repeat constructor); exact rfl) | (apply Wl.loadO; exact rfl; exact rfl; (assumption); (repeat (first | exact trivial | refine ⟨by first | assumption | omega, ?_⟩))) | refine Wl.gtr rfl rfl rfl ?_ | refine Wl.geq rfl rfl rfl ?_ | (refine Wl.subI rfl rfl rfl ?_ ?_; constructor <;> omega) | (refine Wl.indexAddr rfl rfl rfl ?_ ?_; constructor <;> omega) | apply Wl.nil | apply Wl.nilQ | apply St.seq | apply St.region | (apply St.condT; exact rfl; (with_reducible first | rfl | assumption | decide)) | apply St.ret | apply St.skip | apply Gt.next | apply Gt.thenRet | apply Gt.inRet | (apply Gt.out1; exact rfl; exact rfl; intro w' hp) | (apply Wl.splitP; exact rfl; exact rfl; all_goals (intros; try (exfalso; omega))) | (apply Wl.splitB; exact rfl; exact rfl; all_goals intros) | (apply St.condP; exact rfl; all_goals (intros; try (exfalso; omega)))
     ·rename_i hnf
      exact hten (by rw [hnf]; rfl) _ _ hp (by simp; omega)
     ·exact ⟨fun e => by have e' : c7 = c5 := e; omega, trivial⟩
     ·exact ⟨fun e => by have e' : c7 = gb := e; omega, trivial⟩
     ·refine hten ?_ _ _ hp (by simp; omega)
      rw [show notUp (prevOf gs (k + 1)) g = true from by simp only [prevOf, hq, notUp]; exact decide_eq_true (by omega)]
      simp
     ·rename_i hnf _ _ _ _
      apply Gt.meet ()
      ·exact ⟨by simpa using hnf, by simp only [prevOf, hq, notUp]; exact decide_eq_false (by omega)⟩
      ·repeat constructor
      ·exact fun _ h => h
   rintro _ ⟨hfine, hnu⟩
   repeat' first | refine Wl.assign rfl rfl ?_ | apply Wl.nil | apply St.seq | apply St.block | apply St.region | apply Gt.next
   refine St.loop (σ := Nat) (fun j => j ≤ all'.length ∧ ∀ o ∈ all'.take j, apG g o = true)
    (fun j => [(1, .pointer (some ⟨bm, 0, none⟩)), (3, .slice ab all'.length cb), (4, .int .i64 i), (5, .pointer (some ⟨c5, 0, none⟩)), (6, .int .i64 k), (7, .pointer (some ⟨c7, 0, none⟩)), (8, .int .i64 j)])
    (fun _ => Hp w1 [⟨c7, grCells g, 61⟩]) (fun j => all'.length - j) 0 ⟨Nat.zero_le _, fun o ho => by simp at ho⟩ (by repeat constructor) (fun _ h => h) ?_
   rintro j ⟨hjn, hja⟩
   by_cases hjl : j < all'.length
   ·obtain ⟨o, hoj⟩ : ∃ o, all'[j]? = some o := ⟨_, List.getElem?_eq_getElem hjl⟩
    obtain ⟨ho32, hos32, _⟩ := hgv' o (List.mem_of_getElem? hoj)
    obtain ⟨aq, ao, cb', hab, _, _⟩ := Sv.some_of (Sv.ofOwn hown1) (fun e => by have := flat3 grCells_len hoj (j := 0) (by decide); rw [e] at this; simp [grCells] at this)
    simp only [Value.slice.injEq, true_and] at hab
    obtain ⟨rfl, rfl⟩ := hab
    have hoe : ∀ n v, [Value.int .u32 o.start, .int .u32 o.size, .int .i64 o.rights][n]? = some v → w1.cell? ⟨aq, ao + (j : Int).toNat * 3 + n, none⟩ = some v := by
     intro n v hj
     have hj3 : n < 3 := (List.getElem?_eq_some_iff.1 hj).1
     rw [show ao + (j : Int).toNat * 3 + n = ao + (j * 3 + n) by omega]
     exact Sv.cellN (Sv.ofOwn hown1) ((flat3 grCells_len hoj hj3).trans hj)
    have haq : aq < w1.heap.size := World.block_lt_of_cell? w1 _ (hoe 0 _ rfl)
    have ho0 := hoe 0 _ rfl
    have ho1 := hoe 1 _ rfl
    repeat' first | refine Wl.move rfl rfl ?_ | refine Wl.fieldAddr0 rfl rfl ?_ | refine Wl.fieldAddrZ rfl rfl ?_ | refine Wl.fieldAddr rfl rfl ?_ | (apply Wl.loadH; exact rfl; exact rfl; (focus repeat constructor); exact rfl) | (apply Wl.loadO; exact rfl; exact rfl; (assumption); (repeat (first | exact trivial | refine ⟨by first | assumption | omega, ?_⟩))) | refine Wl.lss rfl rfl rfl ?_ | (refine Wl.convI64 rfl rfl ?_ ?_; constructor <;> omega) | refine Wl.len rfl rfl ?_ | (refine Wl.indexAddr rfl rfl rfl ?_ ?_; constructor <;> omega) | apply Wl.nil | apply St.seq | apply St.block | apply St.region | (apply St.draw; exact mixed; (kernel_rfl); exact (fun _ h => Hp.drew h)) | apply St.skip | apply Gt.next | (apply St.condP; exact rfl; all_goals (intros; try (exfalso; omega)))
    ·exact ⟨fun e => by have e' : c7 = aq := e; omega, trivial⟩
    ·exact ⟨fun e => by have e' : c7 = aq := e; omega, trivial⟩
    apply Wl.callQQ
    exact rfl
    (focus repeat constructor)
    ·intro wq hq
     exact hq.q (rapart_any g.start g.size o.start o.size wq (by unfold U32; omega) (by unfold U32; omega) (by unfold U32; omega) (by unfold U32; omega))
    repeat' first | refine Wl.move rfl rfl ?_ | refine Wl.assign rfl rfl ?_ | refine Wl.not rfl rfl ?_ | (refine Wl.addI rfl rfl rfl ?_ ?_; constructor <;> omega) | apply Wl.nil | apply Wl.nilQ | apply St.seq | apply St.region | apply St.ret | apply St.skip | apply Gt.next | apply Gt.thenRet | apply Gt.inNormal | apply Gt.inRet | (apply Gt.out1; exact rfl; exact rfl; intro w' hp) | (apply St.condB; exact rfl; all_goals intros)
    ·rename_i hna
     refine ⟨?_, hu1.comp (hp.drop (by simp; omega)).upd fun _ _ hs => hs.elim id fun y => (y trivial).elim⟩
     rw [hriE 11 (by
      rw [hgr, hgd]; simp only [grantsR]
      rw [if_neg (by rw [hfine, hnu]; simp), if_neg fun h => by
       have h1 := List.all_eq_true.1 h o (List.mem_of_getElem? hoj)
       unfold apG at h1
       rw [h1] at hna
       cases hna]) (by decide)]
     rfl
    ·rename_i hna
     apply Gt.round (j + 1)
     ·refine ⟨hjl, fun o' ho' => ?_⟩
      rw [List.take_add_one, hoj] at ho'
      rcases List.mem_append.1 ho' with ho' | ho'
      ·exact hja o' ho'
      ·simp only [Option.toList_some, List.mem_singleton] at ho'
       subst ho'
       unfold apG
       simpa using hna
     ·omega
     ·repeat constructor
     ·exact fun _ h => h
   ·have hj' : j = all'.length := by omega
    subst hj'
    rw [List.take_length] at hja
    have hapart : all'.all (apG g) = true := List.all_eq_true.2 hja
    repeat' first | refine Wl.move rfl rfl ?_ | refine Wl.lss rfl rfl rfl ?_ | refine Wl.len rfl rfl ?_ | (apply Wl.loadAH; exact rfl; exact rfl; (focus repeat constructor); (focus repeat constructor)) | (apply Wl.lit; exact rfl; (repeat (first | exact Parts.nil | apply Parts.cons rfl)); exact rfl; exact rfl; (repeat (first | apply CatP.nil | (apply CatP.one; exact rfl; exact rfl) | (apply CatP.agg; exact rfl) | apply LApp.nil | apply LApp.cons)); intro c hc ho) | apply Wl.nil | apply St.seq | apply St.region | apply St.exit | apply Gt.next | apply Gt.thenExit | apply Gt.inExit | (apply St.condP; exact rfl; all_goals (intros; try (exfalso; omega)))
    apply Wl.appendT
    ·exact rfl
    ·exact rfl
    ·exact rfl
    ·exact hc
    ·exact rfl
    ·exact hown1
    ·exact fun k hk => ⟨fun e => by have := (hown1.lt k hk).2; have e' : c7 = k := e; omega, trivial⟩
    ·exact rfl
    ·exact rfl
    ·decide
    ·unfold maxLen; omega
    ·omega
    ·exact hu1.size
    intro vb' w2 ho2 u2 _ hk2
    have u2' : Upd (fun k => (Value.slice ab all'.length cb).ownBlock = some k) w1 w2 := u2.mono fun k hk hs => hs.elim id fun y => (y ⟨fun e => by have e' : c7 = k := e; omega, trivial⟩).elim
    have hvsb : ∀ k, (Value.slice ab all'.length cb).ownBlock = some k → w.heap.size ≤ k ∧ k < w1.heap.size := fun k hk => hown1.lt k hk
    repeat' first | refine Wl.move rfl rfl ?_ | refine Wl.assign rfl rfl ?_ | (refine Wl.addI rfl rfl rfl ?_ ?_; constructor <;> omega) | apply Wl.nil | apply St.region | apply Gt.next | apply Gt.inNormal
    apply Gt.reb (H' := [])
    intro w3 h3
    refine ⟨trivial, trivial, ?_⟩
    have u3 : Upd (fun k => k = c7) w2 w3 := h3.upd.mono fun k _ y => Classical.byContradiction fun e => y ⟨fun e' => e e'.symm, trivial⟩
    apply Gt.round (k + 1, w3, vb', all' ++ [g])
    rotate_left
    ·simp only; omega
    ·refine .cons rfl (.cons rfl (.cons rfl (.cons rfl (.cons rfl .nil))))
    ·exact fun _ h => h
    refine ⟨hkl, (hu1.comp u2' (T := fun k => w.heap.size ≤ k) fun k _ hs => hs.elim id fun e => (hvsb k e).1).comp u3 fun k _ hs => hs.elim id fun e => by have := hu1.size; omega, ?_, ?_, by simp [hal']; omega, fun q hq => ?_, ?_, ?_, fun e => ?_, u3.cell (u2'.cell hbm1 hbv1) (fun e => by have e' : bm = c7 := e; omega), Nat.lt_of_lt_of_le hbl1 (Nat.le_trans u2'.size u3.size), fun e => ?_⟩
    ·simp only
     rw [List.length_append, List.flatMap_append]
     exact ownsRow_upd ho2 u3 fun k hk e => (hk2 k hk).1.1 e.symm
    ·simp only
     rw [hgr, hgd]
     simp only [grantsR]
     rw [if_neg (by rw [hfine, hnu]; simp), if_pos hapart]
     simp only [prevOf, hg]
    ·rcases List.mem_append.1 hq with hq | hq
     ·exact hgv' q hq
     ·rw [List.mem_singleton] at hq; subst hq; exact hgV
    ·exact u3.cell (u2'.cell hc5 hvc) (fun e => by have e' : c5 = c7 := e; omega)
    ·have := u2'.size; have := u3.size; simp only; omega
    ·rcases (hk2 c5 e).2 with e' | e'
     ·exact hvc e'
     ·omega
    ·rcases (hk2 bm e).2 with e' | e'
     ·exact hbv1 e'
     ·omega
  ·have hk' : k = gs.length := by omega
   subst hk'
   rw [List.drop_length] at hgr
   simp only [grantsR] at hgr
   repeat' first | refine Wl.move rfl rfl ?_ | refine Wl.assign rfl rfl ?_ | refine Wl.fieldAddrZ rfl rfl ?_ | (apply Wl.loadO; exact rfl; exact rfl; (assumption); (repeat (first | exact trivial | refine ⟨by first | assumption | omega, ?_⟩))) | refine Wl.lss rfl rfl rfl ?_ | (refine Wl.addI rfl rfl rfl ?_ ?_; constructor <;> omega) | refine Wl.len rfl rfl ?_ | apply Wl.nil | apply St.seq | apply St.region | apply St.exit | apply Gt.next | apply Gt.thenExit | apply Gt.inNormal | apply Gt.inExit | (apply St.condP; exact rfl; all_goals (intros; try (exfalso; omega)))
   apply Gt.round (i + 1, w1, vb, all')
   rotate_left
   ·simp only; omega
   ·repeat constructor
   ·exact fun _ h => h
   refine ⟨hlt, hu1, hown1, ?_, by simp only; omega, hgv', hbm1, hbl1, hbv1⟩
   simp only
   exact hriO _ hgr
 ·have hin' : i = xs.length := by omega
  subst hin'
  rw [hlen, List.drop_length] at hri
  repeat' first | refine Wl.move rfl rfl ?_ | refine Wl.assign rfl rfl ?_ | refine Wl.fieldAddrZ rfl rfl ?_ | (apply Wl.loadO; exact rfl; exact rfl; (assumption); (repeat (first | exact trivial | refine ⟨by first | assumption | omega, ?_⟩))) | refine Wl.lss rfl rfl rfl ?_ | refine Wl.len rfl rfl ?_ | apply Wl.nil | apply St.seq | apply St.region | apply St.ret | apply St.exit | apply Gt.next | apply Gt.thenExit | apply Gt.inExit | (apply Gt.out1; exact rfl; exact rfl; intro w' hp) | (apply St.condP; exact rfl; all_goals (intros; try (exfalso; omega)))
  exact ⟨by rw [hri]; rfl, hu.comp hp.upd fun _ _ hs => hs.elim id fun y => (y trivial).elim⟩
end Go.Proofs.YtmjlceimjlabpaaDoor
end
section
namespace Go.Pt
theorem Wl.appendG {P : Program} {N : Nat} {ops : Array Oper} {rest : List Oper} {Γ : Env} {Q : Exit → Act → World → Prop} {d : Nat} {ty : TypeId} {pos : String} {af : Array Edge} {w0 : World} {H : List Blk} {t e sz by_ n m cap c : Nat} {z : Value} {olds news : List Value} {b ad : Addr} {s x : Operand} [ht : TyD P t (.slice e)] [hs : TyS P e sz by_] [hz : TyZ P e z]
  (hd : Nat.blt d N = true) (hs' : ev Γ s = some (.slice (some b) n cap)) (hx : ev Γ x = some (.slice (some ad) m c)) (hlo : olds.length = n * sz) (holds : ∀ w, Hp w0 H w → ∀ j u, olds[j]? = some u → w.cell? (b.add j) = some u)
  (hl : news.length = m * sz) (hnews : ∀ w, Hp w0 H w → ∀ j u, news[j]? = some u → w.cell? (ad.add j) = some u) (hg : cap < n + m) (hzs : z.cells.size = sz) (hsz : 0 < sz) (h63 : n + m ≤ maxLen) (hb : (n + m) * by_ ≤ 140737488355328)
  (h : ∀ v' w1, w1.ownsRow w0.heap.size e sz v' (n + m) (olds ++ news) → Hp w0 H w1 → (∀ k, v'.ownBlock = some k → Off H k) → Wl rest P .seq ops N ((d, v') :: Γ) (Hp w1 H) Q) :
  Wl (⟨some d, .call { callee := .builtin .append, args := #[s, x], argTypes := #[t, t] }, ty, pos, af, none⟩ :: rest) P .seq ops N Γ (Hp w0 H) Q :=
 Wl.eff fun a w ha hw => by
  obtain ⟨i, hi, hsz'⟩ := Option.map_eq_some_iff.1 hs.out
  have hzi : i.zero = some z := by have := hz.out; rw [hi] at this; exact this
  simp only [Prod.mk.injEq] at hsz'
  obtain ⟨v', w', hrun, ho, hgr⟩ := run_append_arg_grows (P := P) w t ty e i z sz by_ ht.out hi hzi hsz'.1 hsz'.2 hzs hsz b n cap olds hlo (holds w hw) ad m c news hl (hnews w hw) hg h63 hb
  have u : Upd (fun _ => False) w w' := Upd.grown hgr fun k hk => by cases hk
  have hw' : Hp w0 H w' := hw.step u (fun _ _ x => x) fun _ _ x => x.elim
  have ho' : w'.ownsRow w0.heap.size e sz v' (n + m) (olds ++ news) := by
   obtain ⟨h1, h2⟩ := ho
   refine ⟨h1, ?_⟩
   rcases h2 with h2 | ⟨g, cap', cur, e1, hb', hx'⟩
   ·exact .inl h2
   ·exact .inr ⟨g, cap', cur, e1, Nat.le_trans hw.upd.size hb', hx'⟩
  refine ⟨v', w', .inl ?_, (h v' w' ho' hw' fun k hk => ?_).elim _ _ (ha.put hd _) hw'.rebase⟩
  ·simp [execOp, resolve, invoke, builtin, ha.ev hs', ha.ev hx, hrun]
  ·have := (ho.lt k hk).1
   exact Off.of fun y hy e => by have := hw.own.lt hy; omega
section
variable {P : Program} {md : Md} {N : Nat} {ops : Array Oper} {rest : List Oper} {Γ : Env} {C : World → Prop} {Q : Exit → Act → World → Prop} {d : Nat} {ty : TypeId} {pos : String} {af : Array Edge} {t e : TypeId} {x y : Operand} {u : TypeId}
end
end Go.Pt
end
section
namespace Go.Pt
open Go.RowKit
theorem Wl.sliceArr {P : Program} {md : Md} {N : Nat} {ops : Array Oper} {rest : List Oper} {Γ : Env} {C : World → Prop} {Q : Exit → Act → World → Prop} {d : Nat} {ty : TypeId} {pos : String} {af : Array Edge} {t e n sz by_ : TypeId} {x : Operand} {b o : Nat} [ht : TyD P t (.array n e)] [TyS P e sz by_]
  (hd : Nat.blt d N = true) (hx : ev Γ x = some (.pointer (some ⟨b, o, none⟩))) (hn : n ≠ 0) (h : Wl rest P md ops N ((d, .slice (some ⟨b, o, none⟩) n n) :: Γ) C Q) : Wl (⟨some d, .slice t x none none none, ty, pos, af, none⟩ :: rest) P md ops N Γ C Q :=
 Wl.val hd (fun a w ha _ => by
  simp [execOp, ha.ev hx, Instr.sliceAt, run_underlying ht.out, Instr.sliceBounds, Instr.sureAddr, Addr.add, run_size (P := P) (t := e), hn]) h
theorem Wl.convMarkS {P : Program} {N : Nat} {ops : Array Oper} {rest : List Oper} {Γ : Env} {Q : Exit → Act → World → Prop} {d T : Nat} {ty : TypeId} {pos : String} {af : Array Edge} {t : TypeId} {x : Operand} {w0 : World} {H : List Blk} {c : Nat} {l : List UInt8} [ht : TyD P t (.slice T)] [he : TyD P T (.int .u8)] (hd : Nat.blt d N = true)
  (hx : ev Γ x = some (.slice (some ⟨c, 0, none⟩) l.length l.length)) (hl : l.length ≤ maxLen) (hc0 : w0.heap.size ≤ c)
  (h : ∀ w1, Bs w1 (.slice (some ⟨c, 0, none⟩) l.length l.length) l → Upd (fun k => ¬ Off H k) w0 w1 → Own w1 H → Apart H → Off H c → Wl rest P .seq ops N ((d, .slice (some ⟨c, 0, none⟩) l.length l.length) :: Γ) (Hp w1 H) Q) :
  Wl (⟨some d, .convert t t x, ty, pos, af, none⟩ :: rest) P .seq ops N Γ (Hp w0 (⟨c, byteCells l, T⟩ :: H)) Q :=
 Wl.eff fun a w ha hw => by
  obtain ⟨w', fr', hr, hc, hu⟩ := run_conv_mark (P := P) (w := w) (t := t) (n := l.length) (m := l.length) ht.out he.out hw.own.1
  have hown : Own w' H := hw.own.2.upd hu fun y hy e => (hw.apart.1).at hy (by simpa using e)
  refine ⟨_, w', .inl ?_, (h w' (Bs.ofBlk hc hl) ?_ hown hw.apart.2 hw.apart.1).elim _ _ (ha.put hd _) ⟨Upd.refl _ _, hown, hw.apart.2⟩⟩
  ·simp only [execOp, ha.ev hx]
   simp [hr]
  ·exact hw.upd.comp hu fun k hk hs => hs.elim (fun y e => y ⟨fun e' => by simp only at e'; omega, e⟩) fun e => by have e' : k = c := e; exact absurd e' (by omega)
end Go.Pt
namespace Go.Proofs.YtmjlceimjlabpaaDoor
open Go.RowKit Go.Pt
set_option maxHeartbeats 400000 in
theorem p32_full (v : Value) (l : List UInt8) (x : Nat) (hx : x < 4294967296) (w : World) (a : Addr) (hv : v = .slice (some a) l.length l.length) (h : Bs w v l) (hl : l.length ≤ 1099511627776) :
  Calls Tryd.prog 27 #[v, .int .u32 x] w fun e w' => ∃ v', e = .returned v' ∧ Bo w' w.heap.size v' (l ++ leB 4 x) ∧ Upd (fun k => w.heap.size ≤ k) w w' := by
 subst hv
 refine enter (args := [_, _]) (Γ := [(0, _), (1, _)]) Tryd.func27 Tryd.ntmps27 rfl (of_decide_eq_true rfl) (.cons rfl (.cons rfl .nil)) ?_
 repeat' first | refine Wl.move rfl rfl ?_ | refine Wl.assign rfl rfl ?_ | (refine Wl.shr rfl rfl rfl ?_ ?_; omega) | refine Wl.convI rfl rfl ?_ | (apply Wl.lit; exact rfl; (repeat (first | exact Parts.nil | apply Parts.cons rfl)); exact rfl; exact rfl; (repeat (first | apply CatP.nil | (apply CatP.one; exact rfl; exact rfl) | (apply CatP.agg; exact rfl) | apply LApp.nil | apply LApp.cons)); intro c hc ho) | apply Wl.nil | apply St.seq | apply St.region | apply Gt.next
 apply Wl.appendG (olds := byteCells l) (news := [.int .u8 (IntKind.u8.wrap (x : Int)), .int .u8 (IntKind.u8.wrap ((x : Int).fdiv (2 ^ min (Int.toNat 8) IntKind.u32.bits))), .int .u8 (IntKind.u8.wrap ((x : Int).fdiv (2 ^ min (Int.toNat 16) IntKind.u32.bits))), .int .u8 (IntKind.u8.wrap ((x : Int).fdiv (2 ^ min (Int.toNat 24) IntKind.u32.bits)))])
 ·exact rfl
 ·exact rfl
 ·exact rfl
 ·rw [byteCells_length, Nat.mul_one]
 ·intro w' hw' j u hj
  obtain ⟨h1, h2⟩ := List.getElem?_eq_some_iff.1 hj
  rw [byteCells_length] at h1
  obtain ⟨g, og, e, hc'⟩ := h.cells (fun e => by rw [e] at h1; simp at h1)
  cases e
  rw [addLit]
  have hcj := hc' j h1
  refine hw'.old ?_ ⟨fun e => by have e' : c = g := e; have := World.block_lt_of_cell? w _ hcj; simp only at this; omega, trivial⟩
  rw [hcj, ← h2]
  simp [byteCells]
 ·exact rfl
 ·intro w' hw' j u hj
  rw [addLit]
  refine hw'.cell (.head _) ?_
  simpa using hj
 ·omega
 ·rfl
 ·decide
 ·unfold maxLen; omega
 ·omega
 intro v' w1 ho1 h1 hk1
 repeat' first | refine Wl.assign rfl rfl ?_ | apply Wl.nil | apply St.ret | apply Gt.next | (apply Gt.out1; exact rfl; exact rfl; intro w' hp)
 refine ⟨_, rfl, Bo.upd (Bo.of ho1 rfl ?_) hp.upd fun k hk y => y (hk1 k hk), ?_⟩
 ·simp only [byteCells, leB, List.map_cons, List.map_nil, wrap8]
  have e (k : Nat) : ((x : Int).fdiv (2 ^ k) % 256).toNat = x / 2 ^ k % 256 := by
   rw [Int.fdiv_eq_ediv_of_nonneg _ (Int.le_of_lt (Int.pow_pos (by decide)))]
   have : ((x : Int) / 2 ^ k % 256) = ((x / 2 ^ k % 256 : Nat) : Int) := by simp
   rw [this]; rfl
  simp only [e]
  simp [IntKind.bits, Nat.div_div_eq_div_mul]
  omega
 ·exact (h1.drop (by simp; omega)).upd.comp hp.upd fun k hk hs => hs.elim (fun y => (y trivial).elim) fun y => (y ⟨fun e => by have e' : c = k := e; omega, trivial⟩).elim
end Go.Proofs.YtmjlceimjlabpaaDoor
end
section
namespace Go.Proofs.YtmjlceimjlabpaaDoor
open Go.RowKit Go.Pt
theorem MfV.upd {S : Nat → Prop} {w w' : World} {v : Value} {m : Mf} (h : MfV w v m) (u : Upd S w w') (hs : ∀ k, k < w.heap.size → ¬ S k) : MfV w' v m := by
 obtain ⟨pv, xs, h1, h2, h3, h4, h5⟩ := h
 exact ⟨pv, xs, h1, h2, Sv.upd h3 u fun k _ hk _ => hs k hk, fun x hx => ⟨Sv.upd (h4 x hx).1 u fun k _ hk _ => hs k hk, (h4 x hx).2⟩, h5⟩
theorem Bo.neBlk {w : World} {base c T : Nat} {cs : Array Value} {fr : Nat × Nat} {v : Value} {l : List UInt8} (h : Bo w base v l) (hc : w.heap[c]? = some (.cells cs T fr)) (hT : T ≠ 5) : v.ownBlock ≠ some c := fun e => by
 obtain ⟨_, h⟩ := h
 rcases h with ⟨rfl, _⟩ | ⟨g, cap, cur, rfl, _, hh, _⟩
 ·cases e
 ·simp only [Value.ownBlock, Option.some.injEq] at e
  subst e
  rw [hh] at hc
  simp only [Option.some.injEq, Obj.cells.injEq] at hc
  exact hT hc.2.1.symm
theorem encPs_len {ps : List Py} (h : ∀ p ∈ ps, PyFit p) : (ps.flatMap encP).length ≤ 92 * ps.length := by
 induction ps with
 | nil => simp
 | cons p r ih =>
  obtain ⟨h1, _, _, _, _, h2, _⟩ := h p (by simp)
  rw [List.flatMap_cons, List.length_append, encP_length p h1, List.length_cons]
  have := ih fun q hq => h q (by simp [hq])
  omega
theorem u8n (x : Nat) (h : x < 256) : (Value.int .u8 (x : Int)) = .int .u8 (((UInt8.ofNat (x % 256)).toNat : Nat) : Int) := by
 congr 1
 simp
 omega
theorem flatMap_take_succ {α β : Type} (ls : List α) (f : α → List β) (i : Nat) (l : α) (h : ls[i]? = some l) : (ls.take (i + 1)).flatMap f = (ls.take i).flatMap f ++ f l := by
 rw [List.take_add_one, h]; simp
theorem Hp.undr {wB w0 w : World} {H : List Blk} (h : Hp w0 H w) (hu : Upd (fun k => wB.heap.size ≤ k) wB w0) (hH : ∀ x ∈ H, wB.heap.size ≤ x.b) : Hp wB H w :=
 ⟨hu.comp h.upd fun k hk hs => hs.elim (fun y => by omega) id, h.own, h.apart⟩
theorem mix_p32 {N d T c : Nat} {ops : Array Oper} {rest : List Oper} {Γ : Env} {Q : Exit → Act → World → Prop} {ty : TypeId} {pos : String} {af : Array Edge} {ts : Array TypeId} {xs : Array Operand} {w wb : World} {cs : List Value} {b : Value} {l : List UInt8} {x : Nat}
  (hd : Nat.blt d N = true) (hx : Evs Γ xs.toList [b, .int .u32 x]) (hbo : Bo wb w.heap.size b l) (hT : T ≠ 5) (hx32 : x < 4294967296) (hu : Upd (fun k => w.heap.size ≤ k) w wb) (hcw : w.heap.size ≤ c) (hcb : b.ownBlock ≠ some c) (hl : l.length ≤ 1000)
  (h : ∀ b' wr, Bo wr w.heap.size b' (l ++ leB 4 x) → Upd (fun k => w.heap.size ≤ k) w wr → b'.ownBlock ≠ some c → Wl rest Tryd.prog (.mix (Hp wr [⟨c, cs, T⟩])) ops N ((d, b') :: Γ) (Hp w [⟨c, cs, T⟩]) Q) :
  Wl (⟨some d, .call { callee := .value (.func 27), args := xs, argTypes := ts }, ty, pos, af, none⟩ :: rest) Tryd.prog (.mix (Hp wb [⟨c, cs, T⟩])) ops N Γ (Hp w [⟨c, cs, T⟩]) Q := by
 apply Wl.mixOf
 ·exact rfl
 apply Wl.callC
 ·exact hd
 ·exact hx
 intro wq hq
 have hoff : ∀ k, b.ownBlock = some k → Off [⟨c, cs, T⟩] k := fun k hk => ⟨fun e => hcb (by have e' : c = k := e; rw [e']; exact hk), trivial⟩
 have hboq : Bo wq w.heap.size b l := hbo.upd hq.upd fun k hk y => y (hoff k hk)
 have huq : Upd (fun k => w.heap.size ≤ k) w wq := hu.comp hq.upd fun k hk hs => hs.elim id fun y => (y ⟨fun e => by have e' : c = k := e; omega, trivial⟩).elim
 refine (p32_any w.heap.size b l x (by unfold U32; omega) wq hboq huq.size (by omega)).mono ?_
 rintro e wr ⟨b', rfl, hbo', hu'⟩
 have hownr : Own wr [⟨c, cs, T⟩] := hq.own.upd hu' fun y hy e => by
  rw [List.mem_singleton] at hy; subst hy; exact hcb e
 refine ⟨_, Hp wr [⟨c, cs, T⟩], rfl, ⟨Upd.refl _ _, hownr, hq.apart⟩, ?_⟩
 have hur : Upd (fun k => w.heap.size ≤ k) w wr := huq.comp hu' fun k _ hs => hs.elim id fun e => (hbo.lt k e).1
 apply Wl.mixEnd
 ·exact fun u hu'' => Hp.undr hu'' hur (by simp; omega)
 exact h b' wr (by rw [Int.toNat_natCast] at hbo'; exact hbo') hur (Bo.neBlk hbo' hownr.1 hT)
set_option maxHeartbeats 1000000 in
theorem encode_any (v : Value) (m : Mf) (w : World) (hv : MfV w v m) :
  Calls Tryd.prog 9 #[v] w fun e w' => Upd (fun k => w.heap.size ≤ k) w w' ∧ ((rightOf m ≠ 0 ∧ e = .returned (.slice none 0 0)) ∨ (rightOf m = 0 ∧ ∃ v', e = .returned v' ∧ Bo w' w.heap.size v' (encM m))) := by
 have hv0 := hv
 obtain ⟨pv, xs, rfl, hxs, hsv, hpy, hcnt, hkey⟩ := hv
 unfold I64 at hkey
 have hlen : xs.length = m.pays.length := by rw [← hxs, List.length_map]
 have hsv0 := hsv
 obtain ⟨_, ap, cp, rfl, hp1, hp2, _, _⟩ := hsv
 unfold maxLen at hp2
 refine enter (args := [_]) (Γ := [(0, _)]) Tryd.func9 Tryd.ntmps9 rfl (of_decide_eq_true rfl) (.cons rfl .nil) ?_
 repeat' first | refine Wl.assign rfl rfl ?_ | (apply Wl.loadAH; exact rfl; exact rfl; (focus repeat constructor); (focus repeat constructor)) | (apply Wl.boxA; exact rfl; exact rfl; intro c hc ho) | apply Wl.nil | apply St.seq | apply St.region | apply Gt.next
 generalize c = bm at *
 have hbw : w.heap.size ≤ bm := hc
 apply Wl.call
 exact rfl
 (focus repeat constructor)
 intro wq hq
 have eq : Ext w wq := (hq.drop (by simp; omega)).ext
 refine (right_any _ m wq (hv0.upd eq fun _ _ y => y)).mono ?_
 rintro e w1 ⟨rfl, hu⟩
 refine ⟨_, rfl, ?_⟩
 have hbq : bm < wq.heap.size := hq.own.lt (.head _)
 have e1 : Ext w w1 := Ext.trans _ _ _ eq (hu.mono fun k hk y => by omega)
 have hb0 : w1.cell? ⟨bm, 0, none⟩ = some (.int .u32 m.counter) := hu.cell (hq.cell (.head _) rfl) (by simp only; omega)
 have hb1 : w1.cell? ⟨bm, 1, none⟩ = some (.int .i64 m.key) := hu.cell (hq.cell (.head _) rfl) (by simp only; omega)
 have hb2 : w1.cell? ⟨bm, 2, none⟩ = some (.slice ap xs.length cp) := hu.cell (hq.cell (.head _) rfl) (by simp only; omega)
 have hbl : bm < w1.heap.size := Nat.lt_of_lt_of_le hbq hu.size
 clear hq hu eq wq hbq
 repeat' first | refine Wl.assign rfl rfl ?_ | refine Wl.neq rfl rfl rfl ?_ | (apply Wl.lit; exact rfl; (repeat (first | exact Parts.nil | apply Parts.cons rfl)); exact rfl; exact rfl; (repeat (first | apply CatP.nil | (apply CatP.one; exact rfl; exact rfl) | (apply CatP.agg; exact rfl) | apply LApp.nil | apply LApp.cons)); intro c hc ho) | apply Wl.nil | apply St.seq | apply St.region | apply St.ret | apply St.skip | apply Gt.next | apply Gt.thenRet | (apply Gt.out1; exact rfl; exact rfl; intro w' hp) | (apply St.condP; exact rfl; all_goals (intros; try (exfalso; omega)))
 ·exact ⟨(e1.comp hp.upd fun _ _ hs => hs.elim id fun y => y trivial).mono fun _ _ y => y.elim, .inl ⟨fun e => ‹((rightOf m : Nat) : Int) ≠ 0› (by rw [e]; rfl), rfl⟩⟩
 have hr0 : rightOf m = 0 := by have := ‹¬ ((rightOf m : Nat) : Int) ≠ 0›; omega
 have hfit : MfOk m := rightOf_fit hr0 hcnt fun p hp => by
  rw [← hxs] at hp
  obtain ⟨x, hx, rfl⟩ := List.mem_map.1 hp
  exact ⟨(hpy x hx).2.1, (hpy x hx).2.2.2.1⟩
 obtain ⟨_, hk0, hk255, hpl4, hpfit⟩ := hfit
 apply Wl.convMarkS (l := manMark)
 ·exact rfl
 ·exact rfl
 ·unfold maxLen; decide
 ·exact hc
 intro w2 hbs u2 _ _ _
 have e2 : Ext w1 w2 := u2.mono fun k _ y => y trivial
 have hb0 := e2.cell hb0 id
 have hb1 := e2.cell hb1 id
 have hb2 := e2.cell hb2 id
 have hbl := Nat.lt_of_lt_of_le hbl e2.size
 have e02 : Ext w w2 := Ext.trans _ _ _ e1 e2
 clear u2 e2 e1
 repeat' first | refine Wl.fieldAddr0 rfl rfl ?_ | (apply Wl.loadO; exact rfl; exact rfl; (assumption); (repeat (first | exact trivial | refine ⟨by first | assumption | omega, ?_⟩)))
 apply Wl.call
 exact rfl
 (focus repeat constructor)
 intro wq hq
 refine (p32_full _ manMark m.counter hcnt wq _ rfl (hbs.upd hq.upd fun _ _ _ _ y => y trivial) (by decide)).mono ?_
 rintro e w3 ⟨b3, rfl, hbo3, hu3⟩
 refine ⟨_, rfl, ?_⟩
 have e23 : Ext w2 w3 := bag_call hq hu3 (Hp.start w3)
 have hb3ne : b3.ownBlock ≠ some bm := fun e => by have := (hbo3.lt bm e).1; have := hq.ext.size; omega
 have hbo3 := Bo.less hbo3 (Nat.le_trans e02.size hq.ext.size)
 have hb0 := e23.cell hb0 id
 have hb1 := e23.cell hb1 id
 have hb2 := e23.cell hb2 id
 have hbl := Nat.lt_of_lt_of_le hbl e23.size
 have e03 : Ext w w3 := Ext.trans _ _ _ e02 e23
 have hl3 : (manMark ++ leB 4 m.counter).length = 12 := by rw [List.length_append, leB_length]; rfl
 repeat' first | refine Wl.move rfl rfl ?_ | refine Wl.assign rfl rfl ?_ | refine Wl.fieldAddrZ rfl rfl ?_ | (apply Wl.loadO; exact rfl; exact rfl; (assumption); (repeat (first | exact trivial | refine ⟨by first | assumption | omega, ?_⟩))) | (refine Wl.convU8 rfl rfl ?_ ?_; constructor <;> omega) | refine Wl.len rfl rfl ?_ | (apply Wl.lit; exact rfl; (repeat (first | exact Parts.nil | apply Parts.cons rfl)); exact rfl; exact rfl; (repeat (first | apply CatP.nil | (apply CatP.one; exact rfl; exact rfl) | (apply CatP.agg; exact rfl) | apply LApp.nil | apply LApp.cons)); intro c hc ho) | apply Wl.nil | apply St.seq | apply St.region | apply Gt.next
 apply Wl.appendT
 ·exact rfl
 ·exact rfl
 ·exact rfl
 ·exact hc
 ·exact rfl
 ·exact hbo3
 ·exact fun k _ => trivial
 ·exact rfl
 ·exact rfl
 ·decide
 ·unfold maxLen; omega
 ·omega
 ·exact e03.size
 intro b4 w4 ho4 u4 _ hk4
 have hkey' : m.key = ((m.key.toNat : Nat) : Int) := by omega
 have hbo4 : Bo w4 w.heap.size b4 (manMark ++ leB 4 m.counter ++ (leB 1 m.key.toNat ++ (leB 1 m.pays.length ++ leB 2 0))) := by
  refine Bo.of ho4 (by simp [leB_length]) ?_
  rw [hkey', hlen, u8n m.key.toNat (by omega), u8n m.pays.length (by omega)]
  simp [byteCells, leB]
 have u34 : Upd (fun k => b3.ownBlock = some k) w3 w4 := u4.mono fun k _ hs => hs.elim id fun y => (y trivial).elim
 have u04 : Upd (fun k => w.heap.size ≤ k) w w4 := e03.comp u34 fun k _ hs => hs.elim False.elim fun e => (hbo3.lt k e).1
 have hb2 := u34.cell hb2 hb3ne
 generalize hHD : manMark ++ leB 4 m.counter ++ (leB 1 m.key.toNat ++ (leB 1 m.pays.length ++ leB 2 0)) = HD at hbo4
 have hHDl : HD.length = 16 := by rw [← hHD]; simp [leB_length, manMark]
 repeat' first | refine Wl.move rfl rfl ?_ | refine Wl.assign rfl rfl ?_ | refine Wl.fieldAddrZ rfl rfl ?_ | (apply Wl.loadO; exact rfl; exact rfl; (assumption); (repeat (first | exact trivial | refine ⟨by first | assumption | omega, ?_⟩))) | refine Wl.len rfl rfl ?_ | apply Wl.nil | apply St.seq | apply St.block | apply St.region | apply Gt.next
 refine St.loop (σ := Nat × World × Value)
  (fun τ => τ.1 ≤ xs.length ∧ Upd (fun k => w.heap.size ≤ k) w τ.2.1 ∧ Bo τ.2.1 w.heap.size τ.2.2 (HD ++ (m.pays.take τ.1).flatMap encP))
  (fun τ => [(3, τ.2.2), (27, .slice ap xs.length cp), (28, .int .i64 xs.length), (29, .int .i64 τ.1)])
  (fun τ => Hp τ.2.1 [])
  (fun τ => xs.length - τ.1) (0, w4, b4) ⟨Nat.zero_le _, u04, by simpa using hbo4⟩ (by repeat constructor) (fun _ h => h) ?_
 clear hb2 hb1 hb0 hbl hbo4 u04 u34 hk4 u4 ho4
 rintro ⟨i, w0, b⟩ ⟨hin, hu, hbo⟩
 simp only at hin hu hbo ⊢
 have hbl' : (HD ++ (m.pays.take i).flatMap encP).length ≤ 400 := by
  have := encPs_len (ps := m.pays.take i) fun p hp => hpfit p (List.mem_of_mem_take hp)
  rw [List.length_append, hHDl]
  rw [List.length_take] at this
  omega
 by_cases hlt : i < xs.length
 ·obtain ⟨x, hx⟩ : ∃ x, xs[i]? = some x := ⟨_, List.getElem?_eq_getElem hlt⟩
  obtain ⟨hsg, hdl, hsz, hbi, hca, hgrs, _⟩ := hpy x (List.mem_of_getElem? hx)
  have hpi : m.pays[i]? = some x.1 := by rw [← hxs, List.getElem?_map, hx]; rfl
  obtain ⟨_, _, _, hca0, hca1, hgl4, hgok⟩ := hpfit x.1 (List.mem_of_getElem? hpi)
  have hpyl : ∀ x ∈ xs, (pyCells x).length = 36 := fun x hx => pyCells_len x (hpy x hx).2.1
  obtain ⟨⟨dig, psz, pbi, gs, pca⟩, gv⟩ := x
  simp only at hsg hdl hsz hbi hca hgrs hpi hca0 hca1 hgl4 hgok
  obtain ⟨d0, d1, d2, d3, d4, d5, d6, d7, d8, d9, d10, d11, d12, d13, d14, d15, d16, d17, d18, d19, d20, d21, d22, d23, d24, d25, d26, d27, d28, d29, d30, d31, hdig⟩ := list32 dig hdl
  obtain ⟨bp, op, cp', hap, _, _⟩ := Sv.some_of hsv0 (fun e => by have := flat36 hpyl hx (j := 33) (by decide); rw [e] at this; simp [pyCells, byteCells, hdl] at this)
  simp only [Value.slice.injEq, true_and] at hap
  obtain ⟨rfl, rfl⟩ := hap
  have hsg0 := hsg
  obtain ⟨_, ga, gc, rfl, hg1, hg2, _, _⟩ := hsg
  unfold maxLen at hg2
  have hce : ∀ j v, [Value.int .u8 (d0.toNat : Int), .int .u8 (d1.toNat : Int), .int .u8 (d2.toNat : Int), .int .u8 (d3.toNat : Int), .int .u8 (d4.toNat : Int), .int .u8 (d5.toNat : Int), .int .u8 (d6.toNat : Int), .int .u8 (d7.toNat : Int), .int .u8 (d8.toNat : Int), .int .u8 (d9.toNat : Int), .int .u8 (d10.toNat : Int), .int .u8 (d11.toNat : Int), .int .u8 (d12.toNat : Int), .int .u8 (d13.toNat : Int), .int .u8 (d14.toNat : Int), .int .u8 (d15.toNat : Int), .int .u8 (d16.toNat : Int), .int .u8 (d17.toNat : Int), .int .u8 (d18.toNat : Int), .int .u8 (d19.toNat : Int), .int .u8 (d20.toNat : Int), .int .u8 (d21.toNat : Int), .int .u8 (d22.toNat : Int), .int .u8 (d23.toNat : Int), .int .u8 (d24.toNat : Int), .int .u8 (d25.toNat : Int), .int .u8 (d26.toNat : Int), .int .u8 (d27.toNat : Int), .int .u8 (d28.toNat : Int), .int .u8 (d29.toNat : Int), .int .u8 (d30.toNat : Int), .int .u8 (d31.toNat : Int), .int .u32 psz, .int .u32 pbi, .slice ga gs.length gc, .int .i64 pca][j]? = some v → w0.cell? ⟨bp, op + (i : Int).toNat * 36 + j, none⟩ = some v := by
   intro j v hj
   have hj36 : j < 36 := (List.getElem?_eq_some_iff.1 hj).1
   have := flat36 hpyl hx hj36
   rw [show op + (i : Int).toNat * 36 + j = op + (i * 36 + j) by omega]
   have hc := Sv.cellN hsv0 (this.trans (by subst hdig; exact hj))
   exact hu.cell hc (by have := World.block_lt_of_cell? w _ hc; simp only at this ⊢; omega)
  repeat' first | (apply Wl.loadAP; exact rfl; exact rfl; exact hce; exact trivial; exact rfl) | (apply Wl.sliceArr; exact rfl; exact rfl; decide) | refine Wl.move rfl rfl ?_ | refine Wl.fieldAddr0 rfl rfl ?_ | refine Wl.lss rfl rfl rfl ?_ | (apply Wl.storeA; exact rfl; exact rfl; exact rfl; exact rfl; (focus repeat constructor); (repeat (first | apply LPut.s | apply LPut.z | apply LOver.nil | apply LOver.cons))) | (apply Wl.alloc; exact rfl; intro c hc ho) | (refine Wl.indexAddr rfl rfl rfl ?_ ?_; constructor <;> omega) | apply Wl.nil | apply St.seq | apply St.block | apply St.region | apply St.skip | apply Gt.next | (apply St.condP; exact rfl; all_goals (intros; try (exfalso; omega)))
  generalize c = c5 at *
  have hcw5 : w0.heap.size ≤ c5 := hc
  have hbc5 : b.ownBlock ≠ some c5 := fun e => by have := (hbo.lt c5 e).2; omega
  apply Wl.append (news := byteCells dig)
  ·exact rfl
  ·exact rfl
  ·exact rfl
  ·exact hbo
  ·rw [byteCells_length, hdl]
  ·intro w' hw' j u hj
   rw [addLit]
   refine hw'.cell (.head _) ?_
   rw [Nat.zero_add]
   have hj32 : j < 32 := by have := (List.getElem?_eq_some_iff.1 hj).1; rw [byteCells_length, hdl] at this; exact this
   rw [hdig] at hj
   have h1 : (byteCells [d0, d1, d2, d3, d4, d5, d6, d7, d8, d9, d10, d11, d12, d13, d14, d15, d16, d17, d18, d19, d20, d21, d22, d23, d24, d25, d26, d27, d28, d29, d30, d31] ++ [Value.int .u32 psz, .int .u32 pbi, .slice ga gs.length gc, .int .i64 pca])[j]? = some u := by
    rw [List.getElem?_append_left (by rw [byteCells_length]; exact hj32)]; exact hj
   exact h1
  ·exact fun k hk => ⟨fun e => hbc5 (by have e' : c5 = k := e; rw [e']; exact hk), trivial⟩
  ·exact byteCells_all dig
  ·exact rfl
  ·decide
  ·unfold maxLen; omega
  ·omega
  ·exact hu.size
  intro b5 w5 ho5 u5 _ hk5
  have hbo5 : Bo w5 w.heap.size b5 (HD ++ (m.pays.take i).flatMap encP ++ dig) := Bo.of ho5 (by rw [hdl]) rfl
  have u05 : Upd (fun k => w.heap.size ≤ k) w w5 := hu.comp u5 fun k hk hs => hs.elim id fun hs => hs.elim (fun e => (hbo.lt k e).1) fun y => (y ⟨fun e => by have e' : c5 = k := e; have := hu.size; omega, trivial⟩).elim
  have hb5c : b5.ownBlock ≠ some c5 := fun e => (hk5 c5 e).1.1 rfl
  have hl5 : (HD ++ (m.pays.take i).flatMap encP ++ dig).length ≤ 500 := by rw [List.length_append, hdl]; omega
  have hcw : w.heap.size ≤ c5 := by have := hu.size; omega
  repeat' first | refine Wl.assign rfl rfl ?_ | apply Wl.nil | apply St.seq | apply Gt.next
  apply St.mix [0, 1, 2, 4, 5, 3, 6, 7] (Hp w [⟨c5, [Value.int .u8 (d0.toNat : Int), .int .u8 (d1.toNat : Int), .int .u8 (d2.toNat : Int), .int .u8 (d3.toNat : Int), .int .u8 (d4.toNat : Int), .int .u8 (d5.toNat : Int), .int .u8 (d6.toNat : Int), .int .u8 (d7.toNat : Int), .int .u8 (d8.toNat : Int), .int .u8 (d9.toNat : Int), .int .u8 (d10.toNat : Int), .int .u8 (d11.toNat : Int), .int .u8 (d12.toNat : Int), .int .u8 (d13.toNat : Int), .int .u8 (d14.toNat : Int), .int .u8 (d15.toNat : Int), .int .u8 (d16.toNat : Int), .int .u8 (d17.toNat : Int), .int .u8 (d18.toNat : Int), .int .u8 (d19.toNat : Int), .int .u8 (d20.toNat : Int), .int .u8 (d21.toNat : Int), .int .u8 (d22.toNat : Int), .int .u8 (d23.toNat : Int), .int .u8 (d24.toNat : Int), .int .u8 (d25.toNat : Int), .int .u8 (d26.toNat : Int), .int .u8 (d27.toNat : Int), .int .u8 (d28.toNat : Int), .int .u8 (d29.toNat : Int), .int .u8 (d30.toNat : Int), .int .u8 (d31.toNat : Int), .int .u32 psz, .int .u32 pbi, .slice ga gs.length gc, .int .i64 pca], 51⟩])
  ·exact mixed
  ·kernel_rfl
  ·(repeat (first | exact Pick.nil | apply Pick.cons rfl))
  ·rfl
  ·kernel_rfl
  ·intro u hu'
   exact ⟨Hp.drew hu', Hp.undr (Hp.drew hu') u05 (by simp; omega)⟩
  repeat' first | refine Wl.move rfl rfl ?_ | refine Wl.fieldAddrZ rfl rfl ?_ | (apply Wl.loadH; exact rfl; exact rfl; (focus repeat constructor); exact rfl)
  apply mix_p32 (l := HD ++ (m.pays.take i).flatMap encP ++ dig)
  ·exact rfl
  ·repeat constructor
  ·exact hbo5
  ·decide
  ·exact hsz
  ·exact u05
  ·exact hcw
  ·exact hb5c
  ·omega
  intro b6 w6 hbo6 u06 hb6c
  have hl6 : (HD ++ (m.pays.take i).flatMap encP ++ dig ++ leB 4 psz).length ≤ 504 := by rw [List.length_append, leB_length]; omega
  repeat' first | (apply Wl.splitP; exact rfl; exact rfl; all_goals (intros; try (exfalso; omega))) | (apply Wl.splitB; exact rfl; exact rfl; all_goals intros) | (apply St.condP; exact rfl; all_goals (intros; try (exfalso; omega))) | (apply St.condB; exact rfl; all_goals intros)
  apply mix_p32 (l := HD ++ (m.pays.take i).flatMap encP ++ dig ++ leB 4 psz)
  ·exact rfl
  ·repeat constructor
  ·exact hbo6
  ·decide
  ·exact hbi
  ·exact u06
  ·exact hcw
  ·exact hb6c
  ·omega
  intro b7 w7 hbo7 u07 hb7c
  have hl7 : (HD ++ (m.pays.take i).flatMap encP ++ dig ++ leB 4 psz ++ leB 4 pbi).length ≤ 508 := by rw [List.length_append, leB_length]; omega
  apply Wl.assign
  ·exact rfl
  ·exact rfl
  apply Wl.nilM
  apply Gt.next
  repeat' first | refine Wl.move rfl rfl ?_ | refine Wl.fieldAddrZ rfl rfl ?_ | (apply Wl.loadH; exact rfl; exact rfl; (focus repeat constructor); exact rfl) | (refine Wl.convU8 rfl rfl ?_ ?_; constructor <;> omega) | refine Wl.len rfl rfl ?_ | (apply Wl.lit; exact rfl; (repeat (first | exact Parts.nil | apply Parts.cons rfl)); exact rfl; exact rfl; (repeat (first | apply CatP.nil | (apply CatP.one; exact rfl; exact rfl) | (apply CatP.agg; exact rfl) | apply LApp.nil | apply LApp.cons)); intro c hc ho) | apply St.seq | apply St.region
  apply Wl.appendT
  ·exact rfl
  ·exact rfl
  ·exact rfl
  ·exact hc
  ·exact rfl
  ·exact hbo7
  ·exact fun k hk => ⟨fun e => hb7c (by have e' : c5 = k := e; rw [e']; exact hk), trivial⟩
  ·exact rfl
  ·exact rfl
  ·decide
  ·unfold maxLen; omega
  ·omega
  ·exact u07.size
  intro b8 w8 ho8 u8 _ hk8
  obtain ⟨pc, rfl⟩ := Int.eq_ofNat_of_zero_le hca0
  have hbo8 : Bo w8 w.heap.size b8 (HD ++ (m.pays.take i).flatMap encP ++ dig ++ leB 4 psz ++ leB 4 pbi ++ (leB 1 pc ++ (leB 1 gs.length ++ leB 2 0))) := by
   refine Bo.of ho8 (by simp [leB_length]) ?_
   rw [u8n pc (by omega), u8n gs.length (by omega)]
   simp [byteCells, leB]
  have u08 : Upd (fun k => w.heap.size ≤ k) w w8 := u07.comp u8 fun k hk hs => hs.elim id fun hs => hs.elim (fun e => (hbo7.lt k e).1) fun y => Classical.byContradiction fun e => y ⟨fun e' => by have e2 : c5 = k := e'; omega, trivial⟩
  generalize hL8 : HD ++ (m.pays.take i).flatMap encP ++ dig ++ leB 4 psz ++ leB 4 pbi ++ (leB 1 pc ++ (leB 1 gs.length ++ leB 2 0)) = L8 at hbo8
  have hl8 : L8.length ≤ 512 := by rw [← hL8]; simp only [List.length_append, leB_length] at hl7 ⊢; omega
  repeat' first | refine Wl.move rfl rfl ?_ | refine Wl.assign rfl rfl ?_ | refine Wl.fieldAddrZ rfl rfl ?_ | (apply Wl.loadH; exact rfl; exact rfl; (focus repeat constructor); exact rfl) | refine Wl.len rfl rfl ?_ | apply Wl.nil | apply St.seq | apply St.block | apply St.region | apply Gt.next
  apply St.reb (H' := [])
  intro w9 h9
  refine ⟨trivial, trivial, ?_⟩
  have hb8c : b8.ownBlock ≠ some c5 := fun e => (hk8 c5 e).1.1 rfl
  have u89 : Upd (fun k => k = c5) w8 w9 := h9.upd.mono fun k _ y => Classical.byContradiction fun e => y ⟨fun e' => e e'.symm, trivial⟩
  refine St.loop (σ := Nat × World × Value)
   (fun τ => τ.1 ≤ gs.length ∧ Upd (fun k => w.heap.size ≤ k) w τ.2.1 ∧ Bo τ.2.1 w.heap.size τ.2.2 (L8 ++ (gs.take τ.1).flatMap encG))
   (fun τ => [(3, τ.2.2), (27, .slice (some ⟨bp, op, none⟩) xs.length cp), (28, .int .i64 xs.length), (29, .int .i64 i), (55, .slice ga gs.length gc), (56, .int .i64 gs.length), (57, .int .i64 τ.1)])
   (fun τ => Hp τ.2.1 [])
   (fun τ => gs.length - τ.1) (0, w9, b8) ⟨Nat.zero_le _, u08.comp u89 fun k _ hs => hs.elim id fun e => by omega, by simpa using hbo8.upd u89 fun k hk e => hb8c (by rw [← e]; exact hk)⟩ (by repeat constructor) (fun _ h => h) ?_
  clear u89 hb8c h9 w9 u08 hbo8 hk8 u8 ho8 hb7c u07 hbo7 hb6c u06 hbo6 hb5c u05 hbo5 hk5 u5 ho5
  rintro ⟨k, w1, bb⟩ ⟨hkn, hu1, hbb⟩
  simp only at hkn hu1 hbb ⊢
  have hlk : (L8 ++ (gs.take k).flatMap encG).length ≤ 600 := by
   rw [List.length_append, encGs_length, List.length_take]; omega
  by_cases hkl : k < gs.length
  ·obtain ⟨g, hg⟩ : ∃ g, gs[k]? = some g := ⟨_, List.getElem?_eq_getElem hkl⟩
   obtain ⟨hg1', hg2', hg3', hg4'⟩ := hgok g (List.mem_of_getElem? hg)
   have hstep := flatMap_take_succ gs encG k g hg
   obtain ⟨gb, go, gc', hga, _, _⟩ := Sv.some_of hsg0 (fun e => by have := flat3 grCells_len hg (j := 0) (by decide); rw [e] at this; simp [grCells] at this)
   simp only [Value.slice.injEq, true_and] at hga
   obtain ⟨rfl, rfl⟩ := hga
   obtain ⟨gst, gsz, gri⟩ := g
   simp only at hg1' hg2' hg3' hg4'
   obtain ⟨gr, rfl⟩ := Int.eq_ofNat_of_zero_le hg3'
   have hge : ∀ j v, [Value.int .u32 gst, .int .u32 gsz, .int .i64 (gr : Int)][j]? = some v → w1.cell? ⟨gb, go + (k : Int).toNat * 3 + j, none⟩ = some v := by
    intro j v hj
    have hj3 : j < 3 := (List.getElem?_eq_some_iff.1 hj).1
    rw [show go + (k : Int).toNat * 3 + j = go + (k * 3 + j) by omega]
    have hc := Sv.cellN hsg0 ((flat3 grCells_len hg hj3).trans hj)
    exact hu1.cell hc (by have := World.block_lt_of_cell? w _ hc; simp only at this ⊢; omega)
   repeat' first | (apply Wl.loadAP; exact rfl; exact rfl; exact hge; exact trivial; exact rfl) | refine Wl.lss rfl rfl rfl ?_ | (apply Wl.storeA; exact rfl; exact rfl; exact rfl; exact rfl; (focus repeat constructor); (repeat (first | apply LPut.s | apply LPut.z | apply LOver.nil | apply LOver.cons))) | (apply Wl.alloc; exact rfl; intro c hc ho) | (refine Wl.indexAddr rfl rfl rfl ?_ ?_; constructor <;> omega) | apply Wl.nil | apply St.seq | apply St.block | apply St.region | apply St.skip | apply Gt.next | (apply St.condP; exact rfl; all_goals (intros; try (exfalso; omega)))
   generalize c = c7 at *
   have hcw7 : w1.heap.size ≤ c7 := hc
   have hcw' : w.heap.size ≤ c7 := by have := hu1.size; omega
   have hbc7 : bb.ownBlock ≠ some c7 := fun e => by have := (hbb.lt c7 e).2; omega
   apply St.mix [0, 1, 2, 4, 5, 7, 8, 9, 3, 6, 10, 11] (Hp w [⟨c7, [Value.int .u32 gst, .int .u32 gsz, .int .i64 (gr : Int)], 61⟩])
   ·exact mixed
   ·kernel_rfl
   ·(repeat (first | exact Pick.nil | apply Pick.cons rfl))
   ·rfl
   ·kernel_rfl
   ·intro u hu'
    exact ⟨Hp.drew hu', Hp.undr (Hp.drew hu') hu1 (by simp; omega)⟩
   repeat' first | refine Wl.move rfl rfl ?_ | refine Wl.fieldAddr0 rfl rfl ?_ | refine Wl.fieldAddrZ rfl rfl ?_ | (apply Wl.loadH; exact rfl; exact rfl; (focus repeat constructor); exact rfl) | (refine Wl.convU32 rfl rfl ?_ ?_; constructor <;> omega)
   apply mix_p32 (l := L8 ++ (gs.take k).flatMap encG)
   ·exact rfl
   ·repeat constructor
   ·exact hbb
   ·decide
   ·exact hg1'
   ·exact hu1
   ·exact hcw'
   ·exact hbc7
   ·omega
   intro b9 w9 hbo9 u9 hb9c
   repeat' first | (apply Wl.splitP; exact rfl; exact rfl; all_goals (intros; try (exfalso; omega))) | (apply Wl.splitB; exact rfl; exact rfl; all_goals intros) | (apply St.condP; exact rfl; all_goals (intros; try (exfalso; omega))) | (apply St.condB; exact rfl; all_goals intros)
   apply mix_p32 (l := L8 ++ (gs.take k).flatMap encG ++ leB 4 gst)
   ·exact rfl
   ·repeat constructor
   ·exact hbo9
   ·decide
   ·exact hg2'
   ·exact u9
   ·exact hcw'
   ·exact hb9c
   ·rw [List.length_append, leB_length]; omega
   intro b10 w10 hbo10 u10 hb10c
   repeat' first | (apply Wl.splitP; exact rfl; exact rfl; all_goals (intros; try (exfalso; omega))) | (apply Wl.splitB; exact rfl; exact rfl; all_goals intros) | (apply St.condP; exact rfl; all_goals (intros; try (exfalso; omega))) | (apply St.condB; exact rfl; all_goals intros)
   apply mix_p32 (l := L8 ++ (gs.take k).flatMap encG ++ leB 4 gst ++ leB 4 gsz)
   ·exact rfl
   ·repeat constructor
   ·exact hbo10
   ·decide
   ·omega
   ·exact u10
   ·exact hcw'
   ·exact hb10c
   ·rw [List.length_append, List.length_append, leB_length, leB_length]; omega
   intro b11 w11 hbo11 u11 hb11c
   apply Wl.assign
   ·exact rfl
   ·exact rfl
   apply Wl.nilM
   repeat' first | refine Wl.move rfl rfl ?_ | (refine Wl.addI rfl rfl rfl ?_ ?_; constructor <;> omega) | apply Wl.nil | apply St.region | apply Gt.next | apply Gt.inNormal
   apply Gt.reb (H' := [])
   intro w12 h12
   refine ⟨trivial, trivial, ?_⟩
   have u12 : Upd (fun k => k = c7) w11 w12 := h12.upd.mono fun k _ y => Classical.byContradiction fun e => y ⟨fun e' => e e'.symm, trivial⟩
   apply Gt.round (k + 1, w12, b11)
   rotate_left
   ·simp only; omega
   ·repeat constructor
   ·exact fun _ h => h
   refine ⟨hkl, u11.comp u12 fun k _ hs => hs.elim id fun e => by omega, ?_⟩
   simp only
   rw [hstep]
   have := hbo11.upd u12 fun k hk e => hb11c (by rw [← e]; exact hk)
   simpa [encG] using this
  ·have hk' : k = gs.length := by omega
   subst hk'
   rw [List.take_length] at hbb
   repeat' first | refine Wl.move rfl rfl ?_ | refine Wl.lss rfl rfl rfl ?_ | (refine Wl.addI rfl rfl rfl ?_ ?_; constructor <;> omega) | apply Wl.nil | apply St.seq | apply St.region | apply St.exit | apply Gt.next | apply Gt.thenExit | apply Gt.inNormal | apply Gt.inExit | (apply St.condP; exact rfl; all_goals (intros; try (exfalso; omega)))
   apply Gt.round (i + 1, w1, bb)
   rotate_left
   ·simp only; omega
   ·repeat constructor
   ·exact fun _ h => h
   refine ⟨hlt, hu1, ?_⟩
   simp only
   rw [flatMap_take_succ m.pays encP i _ hpi]
   have : L8 ++ gs.flatMap encG = HD ++ ((m.pays.take i).flatMap encP ++ encP ⟨dig, psz, pbi, gs, (pc : Int)⟩) := by rw [← hL8]; simp [encP]
   rw [this] at hbb
   exact hbb
 ·have hin' : i = xs.length := by omega
  subst hin'
  rw [hlen, List.take_length] at hbo
  repeat' first | refine Wl.move rfl rfl ?_ | refine Wl.assign rfl rfl ?_ | refine Wl.lss rfl rfl rfl ?_ | apply Wl.nil | apply St.seq | apply St.region | apply St.ret | apply St.exit | apply Gt.next | apply Gt.thenExit | apply Gt.inExit | (apply Gt.out1; exact rfl; exact rfl; intro w' hp) | (apply St.condP; exact rfl; all_goals (intros; try (exfalso; omega)))
  refine ⟨hu.comp hp.upd fun _ _ hs => hs.elim id fun y => (y trivial).elim, .inr ⟨hr0, _, rfl, ?_⟩⟩
  have : HD ++ m.pays.flatMap encP = encM m := by rw [← hHD]; simp [encM]
  rw [this] at hbo
  exact hbo.upd hp.upd fun _ _ y => y trivial
end Go.Proofs.YtmjlceimjlabpaaDoor
end
section
namespace Go.Pt
open Go.RowKit
theorem run_copy_at {P : Program} (w : World) {dT sT ty elem : TypeId} {c n cap m cap' bt : Nat} {a : Addr} {cs xs : List Value} (hu : P.underlying dT = some (.slice elem)) (hs : (P.info? elem).map (·.size) = some 1) (hm : xs.length = m) (hmn : m ≤ n) (hnc : n ≤ cs.length)
  (hsrc : ∀ j v, xs[j]? = some v → w.cell? (a.add j) = some v) (hb : w.heap[c]? = some (.cells cs.toArray bt (0, 0))) (h1 : ∀ v ∈ xs, v.oneCell' = true) :
  (Builtin.copy_ #[dT, sT] ty #[.slice (some ⟨c, 0, none⟩) n cap, .slice (some a) m cap']).run P w = .ok (goInt xs.length) (w.setRow c (xs ++ cs.drop xs.length).toArray) := by
 have hl := run_loadCells_list (P := P) w a xs hsrc
 have hst := run_storeCells_at P c 0 bt xs 0 cs.toArray w hb (by simp; omega) h1
 simp only [Nat.add_zero] at hst
 have hmin : Nat.min m n = xs.length := by rw [hm]; exact Nat.min_eq_left hmn
 cases hq : P.info? elem with
 | none => simp [hq] at hs
 | some i =>
  have hi : i.size = 1 := by simpa [hq] using hs
  simp [Builtin.copy_, run_underlying hu, Builtin.lenOf, Builtin.firstCells, sizeOf, typeInfo, hq, hi, hmin, hl]
  simp at hst
  rw [hst]
  simp
theorem Wl.copyB {P : Program} {N : Nat} {ops : Array Oper} {rest : List Oper} {Γ : Env} {Q : Exit → Act → World → Prop} {w0 : World} {H H' : List Blk} {d : Nat} {ty : TypeId} {pos : String} {af : Array Edge} {dT sT e by_ c n cap bt : Nat} {y : Value} {l : List UInt8} {cs cs' : List Value} {p q : Operand} [ht : TyD P dT (.slice e)] [hz : TyS P e 1 by_]
  (hd : Nat.blt d N = true) (hx : ev Γ p = some (.slice (some ⟨c, 0, none⟩) n cap)) (hy : ev Γ q = some y) (hs : HSet c cs cs' bt H H') (he : byteCells l ++ cs.drop l.length = cs') (hl : l.length ≤ n) (hn : n ≤ cs.length) (hb : ∀ w, Hp w0 H w → Bs w y l)
  (h : Wl rest P .seq ops N ((d, .int .i64 l.length) :: Γ) (Hp w0 H') Q) : Wl (⟨some d, .call { callee := .builtin .copy, args := #[p, q], argTypes := #[dT, sT] }, ty, pos, af, none⟩ :: rest) P .seq ops N Γ (Hp w0 H) Q :=
 Wl.eff fun a w ha hw => by
  subst he
  obtain ⟨ad, cap', rfl, h1, h2⟩ := (hb w hw).shape
  have hsz : (P.info? e).map (·.size) = some 1 := by
   have := hz.out
   cases hq : P.info? e with
   | none => simp [hq] at this
   | some i => simp [hq] at this ⊢; exact this.1
  have hcell := hw.own.at hs.mem
  by_cases hne : l = []
  ·subst hne
   have hr := run_copy_none (P := P) w dT sT ty e (some ⟨c, 0, none⟩) ad n cap 0 cap' ht.out hsz (Nat.zero_min n)
   refine ⟨.int .i64 0, w, .inl ?_, h.elim _ _ (ha.put hd _) (hw.hset hs (Upd.refl _ _) ?_)⟩
   ·simp only [execOp, resolve, invoke, builtin, ha.ev hx, ha.ev hy]
    simp [ha.ev hx, ha.ev hy] 
    simp [hr, goInt]
   ·simpa [byteCells] using hcell
  ·obtain ⟨g, og, e', hc'⟩ := (hb w hw).cells hne
   cases e'
   have hr := run_copy_at (P := P) w (dT := dT) (sT := sT) (ty := ty) (elem := e) (c := c) (n := n) (cap := cap) (m := l.length) (cap' := cap') (bt := bt) (a := ⟨g, og, none⟩) (cs := cs) (xs := byteCells l) ht.out hsz (byteCells_length l) hl hn (fun j v hj => by
    obtain ⟨h1, h2⟩ := List.getElem?_eq_some_iff.1 hj
    rw [byteCells_length] at h1
    rw [addLit, hc' j h1, ← h2]
    simp [byteCells]) hcell (fun v hv => by
    simp only [byteCells, List.mem_map] at hv
    obtain ⟨b, _, rfl⟩ := hv
    rfl)
   rw [byteCells_length] at hr
   refine ⟨.int .i64 l.length, w.setRow c (byteCells l ++ cs.drop l.length).toArray, .inl ?_, h.elim _ _ (ha.put hd _) (hw.hset hs ⟨rfl, rfl, rfl, by simp, fun k hk hne => ?_⟩ ?_)⟩
   ·simp only [execOp, resolve, invoke, builtin, ha.ev hx, ha.ev hy]
    simp [ha.ev hx, ha.ev hy]
    simp [hr, goInt]
   ·exact setRow_other w c k _ hne
   ·exact setRow_heap w c _ _ bt _ hcell
end Go.Pt
namespace Go.Proofs.YtmjlceimjlabpaaDoor
open Go.RowKit Go.Pt
def oneM : Mf := ⟨3, 0, [⟨List.replicate 32 0, 0, 2147487744, [⟨2147487744, 4096, 5⟩, ⟨2147491840, 4096, 3⟩], 255⟩]⟩
set_option maxHeartbeats 1000000 in
theorem one_any (w : World) : Calls Tryd.prog 10 #[] w fun e w' => ∃ v, e = .returned v ∧ MfV w' v oneM ∧ Upd (fun k => w.heap.size ≤ k) w w' := by
 refine enter (args := []) (Γ := []) Tryd.func10 Tryd.ntmps10 rfl (of_decide_eq_true rfl) .nil ?_
 repeat' first | (apply Gt.outC'; exact rfl; infer_instance; exact rfl; (focus repeat constructor); (focus repeat constructor); intro w' hp) | (apply Wl.storeA; exact rfl; exact rfl; exact rfl; exact rfl; (focus repeat constructor); (repeat (first | apply LPut.s | apply LPut.z | apply LOver.nil | apply LOver.cons))) | (apply Wl.buildS; exact rfl; (repeat (first | exact Parts.nil | apply Parts.cons rfl)); (repeat (first | apply Fills.nil | (apply Fills.one; exact rfl; exact rfl; (repeat (first | apply LSet.z | apply LSet.s))) | (apply Fills.agg; exact rfl; exact rfl; (repeat (first | apply LPut.s | apply LPut.z | apply LOver.nil | apply LOver.cons)))))) | (apply Wl.lit; exact rfl; (repeat (first | exact Parts.nil | apply Parts.cons rfl)); exact rfl; exact rfl; (repeat (first | apply CatP.nil | (apply CatP.one; exact rfl; exact rfl) | (apply CatP.agg; exact rfl) | apply LApp.nil | apply LApp.cons)); intro c hc ho) | (apply Wl.alloc; exact rfl; intro c hc ho) | apply Wl.nil | apply St.seq | apply St.region | apply St.ret | apply Gt.next
 rename_i c0 hc0 ho0 c1 hc1 ho1
 have hu : Upd (fun k => w.heap.size ≤ k) w w' := (hp.drop (by simp; omega)).upd.mono fun _ _ y => (y trivial).elim
 refine ⟨_, rfl, ⟨_, [(⟨List.replicate 32 0, 0, 2147487744, [⟨2147487744, 4096, 5⟩, ⟨2147491840, 4096, 3⟩], 255⟩, .slice (some ⟨c1, 0, none⟩) 2 2)], rfl, rfl, ?_, ?_, by decide, by unfold I64; decide⟩, hu⟩
 ·refine ⟨rfl, _, 1, rfl, Nat.le_refl _, by decide, fun e => (by cases e), fun _ => ⟨c, 0, rfl, fun i h => ?_⟩⟩
  rw [Nat.zero_add]
  refine hp.cell (.head _) ?_
  rw [← List.getElem?_eq_getElem h]
  rfl
 ·intro x hx
  rw [List.mem_singleton] at hx
  subst hx
  refine ⟨⟨rfl, _, 2, rfl, Nat.le_refl _, by decide, fun e => (by cases e), fun _ => ⟨c1, 0, rfl, fun i h => ?_⟩⟩, rfl, by simp only; omega, by simp only; omega, by unfold I64; simp only; omega, ?_, by simp⟩
  ·rw [Nat.zero_add]
   refine hp.cell (.tail _ (.head _)) ?_
   rw [← List.getElem?_eq_getElem h]
   rfl
  ·intro g hg
   simp only [List.mem_cons, List.not_mem_nil, or_false] at hg
   rcases hg with rfl | rfl <;> exact ⟨by decide, by decide, by unfold I64; decide⟩
end Go.Proofs.YtmjlceimjlabpaaDoor
end
