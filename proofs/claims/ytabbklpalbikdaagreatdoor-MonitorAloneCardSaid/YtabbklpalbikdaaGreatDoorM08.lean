/-
 5 texts,one behind the other;each says what it proves. Conditions: as each text says.
-/
import Derived.Test.YtabbklpalbikdaaGreatDoorM07
import Derived.Test.YtabbklpalbikdaaGreatDoorM03
import Derived.Test.YtabbklpalbikdaaGreatDoorM05
set_option linter.unusedVariables false
set_option linter.unusedSimpArgs false
section
namespace Go.Proofs.YtabbklpalbikdaaGreatDoor
open Go.RowKit Go.Pt
def RW (w : World) (base c n : Nat) : Prop := ∃ rv xs,w.heap[c]? = some (.cells #[rv,.slice none 0 0] 167 (0,0)) ∧ w.ownsRow base 169 36 rv n xs
theorem RW.upd {w w' : World} {base c n : Nat} {S : Nat → Prop} (h : RW w base c n) (u : Upd S w w') (hc : ¬ S c) (hs : ∀ k,base ≤ k → k < w.heap.size → ¬ S k) : RW w' base c n := by
 obtain ⟨rv,xs,h1,h2⟩ := h
 exact ⟨rv,xs,u.heap h1 hc,ownsRow_upd h2 u fun k hk => hs k (h2.ge k hk).1 (h2.ge k hk).2⟩
set_option maxHeartbeats 8000000 in
theorem rwNew (a : Option Addr) (n cap : Nat) (p : Nat → Int) (w : World) (hn : n ≤ 4) (hA : WordF w a n p) :
  Calls Tryz.prog 107 #[.slice a n cap] w fun e w' => ∃ c,e = .returned (.pointer (some ⟨c,0,none⟩)) ∧ RW w' w.heap.size c n ∧ w.heap.size ≤ c ∧ Upd (fun k => w.heap.size ≤ k) w w' := by
 refine enter (args := [_]) (Γ := [(0,_)]) Tryz.func107 Tryz.ntmps107 rfl (of_decide_eq_true rfl) (.cons rfl .nil) ?_
 repeat' first | refine Wl.assign rfl rfl ?_ | (apply Wl.buildS;exact rfl;exact ki;exact kc) | (apply Wl.boxA;exact rfl;exact rfl;intro c hc ho) | apply Wl.nil | apply St.seq | apply St.block | apply St.region | apply Gt.next
 generalize c = c3 at *
 have hc3 : w.heap.size ≤ c3 := by assumption
 refine St.loop (σ := Nat × World × Value × List Value) (fun τ => τ.1 ≤ n ∧ Upd (fun k => w.heap.size ≤ k) w τ.2.1 ∧ τ.2.1.ownsRow w.heap.size 169 36 τ.2.2.1 τ.1 τ.2.2.2 ∧ ∀ k,τ.2.2.1.ownBlock = some k → k ≠ c3)
  (fun τ => [(0,.slice a n cap),(3,.pointer (some ⟨c3,0,none⟩)),(4,.int .i64 (τ.1 : Int))]) (fun τ => Hp τ.2.1 [⟨c3,[τ.2.2.1,.slice none 0 0],167⟩]) (fun τ => n - τ.1) (0,w,.slice none 0 0,[]) ⟨Nat.zero_le _,Upd.refl _ _,World.ownsRow_nil w _ _ _,fun k hk => by cases hk⟩ kv (fun _ h => h) ?_
 rintro ⟨i,w0,v,xs⟩ ⟨hi,hu0,hv,hoff⟩
 simp only at hi hu0 hv hoff ⊢
 have s0 := hu0.size
 by_cases hlt : i < n
 ·have hd : decide ((i : Int) < (n : Int)) = true := decide_eq_true ky
  obtain ⟨b,o,rfl,hc,_⟩ := hA i hlt
  have hbl : b < w.heap.size := World.block_lt_of_cell? w _ hc
  have hb : w0.cell? ⟨b,o + (i : Int).toNat,none⟩ = some (.int .u32 (p i)) := by
   rw [Int.toNat_natCast]
   exact hu0.cell hc (Nat.not_le.2 hbl)
  repeat' first | refine Wl.move rfl rfl ?_ | refine Wl.lss rfl rfl rfl ?_ | refine Wl.len rfl rfl ?_ | apply Wl.nil | apply St.seq | apply St.block | apply St.region | (apply St.condT;exact rfl;exact ka) | apply St.skip | apply Gt.next
  refine St.tree (fun w' => w'.cell? ⟨b,o + (i : Int).toNat,none⟩ = some (.int .u32 (p i))) mixed (fun _ h' => ⟨Hp.drew h',(Hp.drew h').upd.cell hb fun y => y ⟨by simp only;omega,trivial⟩⟩) ?_
  refine Mt.pm 0 ?_
  refine Mt.pm 1 ?_
  refine Mt.pm 5 ?_
  refine Mt.pm 6 ?_
  refine Mt.pm 7 ?_
  refine Mt.pn 2 ?_
  refine Mt.pu 8 ?_
  repeat' first | (refine Wl.indexAddr1 rfl rfl rfl ?_ ?_;constructor <;> omega) | apply Wl.nilB
  refine Mt.pf 3 ?_
  refine Mt.pu 9 ?_
  repeat' first | (apply Wl.loadF;exact rfl;exact rfl;(intro w' h';exact h')) | apply Wl.nilB
  refine Mt.pu 10 ?_
  repeat' first | (apply Wl.buildS;exact rfl;exact ki;exact kc) | apply Wl.nilB
  refine Mt.pu 11 ?_
  repeat' first | (apply Wl.buildS;exact rfl;exact ki;exact kc) | apply Wl.nilB
  refine Mt.eff2 (i := 4) (j := 12) kg zd zd ?_ ?_
  ·repeat' first | (apply Wl.loadH;exact rfl;exact rfl;exact ke;exact rfl) | apply Wl.nil
   refine Mt.backE (fun _ h' => by first | exact h'.upd.cell hb (fun y => y ⟨by simp only;omega,trivial⟩) | exact h'.upd.cell hb (fun y => y ⟨by simp only;omega,by simp only;omega,trivial⟩) | exact h'.upd.cell (u1.cell hb (fun y => y.elim (fun h => by have := (hv.ge _ h).1;simp only at this;omega) fun y => y ⟨by simp only;omega,trivial⟩)) (fun y => y ⟨by simp only;omega,trivial⟩)) ?_
   refine Mt.eff1 (i := 12) kg zd ?_
   repeat' first | (apply Wl.lit;exact rfl;exact ki;exact rfl;exact rfl;exact kh;intro c hc ho) | apply Wl.nil
   refine Mt.backE (fun _ h' => by first | exact h'.upd.cell hb (fun y => y ⟨by simp only;omega,trivial⟩) | exact h'.upd.cell hb (fun y => y ⟨by simp only;omega,by simp only;omega,trivial⟩) | exact h'.upd.cell (u1.cell hb (fun y => y.elim (fun h => by have := (hv.ge _ h).1;simp only at this;omega) fun y => y ⟨by simp only;omega,trivial⟩)) (fun y => y ⟨by simp only;omega,trivial⟩)) ?_
   refine Mt.eff1 (i := 13) kg zd ?_
   apply Wl.appendT (base := w.heap.size) (n := i) (m := 1) (sz := 36) (e := 169) (xs := xs)
   ·exact rfl
   ·exact rfl
   ·exact rfl
   ·assumption
   ·exact rfl
   ·exact hv
   ·exact fun k hk => ⟨fun e => hoff k hk e.symm,trivial⟩
   ·exact rfl
   ·exact rfl
   ·decide
   ·unfold maxLen;omega
   ·omega
   ·exact s0
   intro v' w1 ho1 u1 _ hoff1
   have hov := ho1.one
   have s1 := u1.size
   repeat' first | apply Wl.nil
   refine Mt.backE (fun _ h' => by first | exact h'.upd.cell hb (fun y => y ⟨by simp only;omega,trivial⟩) | exact h'.upd.cell hb (fun y => y ⟨by simp only;omega,by simp only;omega,trivial⟩) | exact h'.upd.cell (u1.cell hb (fun y => y.elim (fun h => by have := (hv.ge _ h).1;simp only at this;omega) fun y => y ⟨by simp only;omega,trivial⟩)) (fun y => y ⟨by simp only;omega,trivial⟩)) ?_
   refine Mt.pn 14 ?_
   refine Mt.pf 15 ?_
   refine Mt.eff1 (i := 16) kg zd ?_
   apply Wl.store
   ·exact rfl
   ·exact rfl
   ·first | exact hov | exact rfl
   ·repeat constructor
   ·(repeat (first | apply LSet.z | apply LSet.s))
   repeat' first | apply Wl.nil
   refine Mt.backE (fun _ h' => by first | exact h'.upd.cell hb (fun y => y ⟨by simp only;omega,trivial⟩) | exact h'.upd.cell hb (fun y => y ⟨by simp only;omega,by simp only;omega,trivial⟩) | exact h'.upd.cell (u1.cell hb (fun y => y.elim (fun h => by have := (hv.ge _ h).1;simp only at this;omega) fun y => y ⟨by simp only;omega,trivial⟩)) (fun y => y ⟨by simp only;omega,trivial⟩)) ?_
   refine Mt.toGt kg ?_
   repeat' first | refine Wl.move rfl rfl ?_ | refine Wl.assign rfl rfl ?_ | (refine Wl.addI rfl rfl rfl ?_ ?_;constructor <;> omega) | apply Wl.nil | apply St.region | apply Gt.next | apply Gt.inNormal
   obtain ⟨ys,hys⟩ : ∃ ys,w1.ownsRow w.heap.size 169 36 v' (i + 1) ys := ⟨_,ho1⟩
   refine Gt.round (i + 1,w1,v',ys) ⟨by simp only;omega,?_,hys,?_⟩ qf kv (fun _ h => h)
   ·refine hu0.comp u1 fun k hk hs => ?_
    rcases hs with y | y | y
    ·exact y
    ·exact (hv.ge k y).1
    ·exact Classical.byContradiction fun hn => y ⟨fun e => hn qq,trivial⟩
   ·exact fun k hk e => (hoff1 k hk).1.1 e.symm
  ·repeat' first | (apply Wl.lit;exact rfl;exact ki;exact rfl;exact rfl;exact kh;intro c hc ho) | apply Wl.nil
   refine Mt.backE (fun _ h' => by first | exact h'.upd.cell hb (fun y => y ⟨by simp only;omega,trivial⟩) | exact h'.upd.cell hb (fun y => y ⟨by simp only;omega,by simp only;omega,trivial⟩) | exact h'.upd.cell (u1.cell hb (fun y => y.elim (fun h => by have := (hv.ge _ h).1;simp only at this;omega) fun y => y ⟨by simp only;omega,trivial⟩)) (fun y => y ⟨by simp only;omega,trivial⟩)) ?_
   refine Mt.eff1 (i := 4) kg zd ?_
   repeat' first | (apply Wl.loadH;exact rfl;exact rfl;exact ke;exact rfl) | apply Wl.nil
   refine Mt.backE (fun _ h' => by first | exact h'.upd.cell hb (fun y => y ⟨by simp only;omega,trivial⟩) | exact h'.upd.cell hb (fun y => y ⟨by simp only;omega,by simp only;omega,trivial⟩) | exact h'.upd.cell (u1.cell hb (fun y => y.elim (fun h => by have := (hv.ge _ h).1;simp only at this;omega) fun y => y ⟨by simp only;omega,trivial⟩)) (fun y => y ⟨by simp only;omega,trivial⟩)) ?_
   refine Mt.eff1 (i := 13) kg zd ?_
   apply Wl.appendT (base := w.heap.size) (n := i) (m := 1) (sz := 36) (e := 169) (xs := xs)
   ·exact rfl
   ·exact rfl
   ·exact rfl
   ·assumption
   ·exact rfl
   ·exact hv
   ·exact fun k hk => ⟨fun e => hoff k hk e.symm,trivial⟩
   ·exact rfl
   ·exact rfl
   ·decide
   ·unfold maxLen;omega
   ·omega
   ·exact s0
   intro v' w1 ho1 u1 _ hoff1
   have hov := ho1.one
   have s1 := u1.size
   repeat' first | apply Wl.nil
   refine Mt.backE (fun _ h' => by first | exact h'.upd.cell hb (fun y => y ⟨by simp only;omega,trivial⟩) | exact h'.upd.cell hb (fun y => y ⟨by simp only;omega,by simp only;omega,trivial⟩) | exact h'.upd.cell (u1.cell hb (fun y => y.elim (fun h => by have := (hv.ge _ h).1;simp only at this;omega) fun y => y ⟨by simp only;omega,trivial⟩)) (fun y => y ⟨by simp only;omega,trivial⟩)) ?_
   refine Mt.pn 14 ?_
   refine Mt.pf 15 ?_
   refine Mt.eff1 (i := 16) kg zd ?_
   apply Wl.store
   ·exact rfl
   ·exact rfl
   ·first | exact hov | exact rfl
   ·repeat constructor
   ·(repeat (first | apply LSet.z | apply LSet.s))
   repeat' first | apply Wl.nil
   refine Mt.backE (fun _ h' => by first | exact h'.upd.cell hb (fun y => y ⟨by simp only;omega,trivial⟩) | exact h'.upd.cell hb (fun y => y ⟨by simp only;omega,by simp only;omega,trivial⟩) | exact h'.upd.cell (u1.cell hb (fun y => y.elim (fun h => by have := (hv.ge _ h).1;simp only at this;omega) fun y => y ⟨by simp only;omega,trivial⟩)) (fun y => y ⟨by simp only;omega,trivial⟩)) ?_
   refine Mt.toGt kg ?_
   repeat' first | refine Wl.move rfl rfl ?_ | refine Wl.assign rfl rfl ?_ | (refine Wl.addI rfl rfl rfl ?_ ?_;constructor <;> omega) | apply Wl.nil | apply St.region | apply Gt.next | apply Gt.inNormal
   obtain ⟨ys,hys⟩ : ∃ ys,w1.ownsRow w.heap.size 169 36 v' (i + 1) ys := ⟨_,ho1⟩
   refine Gt.round (i + 1,w1,v',ys) ⟨by simp only;omega,?_,hys,?_⟩ qf kv (fun _ h => h)
   ·refine hu0.comp u1 fun k hk hs => ?_
    rcases hs with y | y | y
    ·exact y
    ·exact (hv.ge k y).1
    ·exact Classical.byContradiction fun hn => y ⟨fun e => hn qq,trivial⟩
   ·exact fun k hk e => (hoff1 k hk).1.1 e.symm
 ·obtain rfl : i = n := by omega
  have hd : decide ((i : Int) < (i : Int)) = false := decide_eq_false ky
  repeat' first | refine Wl.move rfl rfl ?_ | refine Wl.assign rfl rfl ?_ | refine Wl.lss rfl rfl rfl ?_ | refine Wl.len rfl rfl ?_ | apply Wl.nil | apply St.seq | apply St.region | (apply St.condF;exact rfl;exact ka) | apply St.ret | apply St.exit | apply Gt.next | apply Gt.thenExit | apply Gt.inExit | (apply Gt.out1;exact rfl;exact rfl;intro w' hp)
  refine ⟨c3,rfl,⟨v,xs,hp.own.at (.head _),ownsRow_upd hv hp.upd fun k hk y => y ⟨fun e => hoff k hk e.symm,trivial⟩⟩,hc3,hu0.comp hp.upd fun k hk hs => hs.elim id fun y => Classical.byContradiction fun hn => y ⟨fun e => hn qq,trivial⟩⟩
theorem rwTurn (c n : Nat) (rv : Value) (xs : List Value) (base : Nat) (w : World) (h1 : w.heap[c]? = some (.cells #[rv,.slice none 0 0] 167 (0,0))) (h2 : w.ownsRow base 169 36 rv n xs) (hn : 0 < n) (hx : xs[0]? = some (.int .i64 0)) (hc : n < 100) :
  Calls Tryz.prog 86 #[.pointer (some ⟨c,0,none⟩)] w fun e w' => e = .returned (.int .i64 0) ∧ Hp w [] w' := by
 obtain ⟨g,cap,J,rfl,hge,hb⟩ := h2.blk hn
 have c0 : w.cell? ⟨c,0,none⟩ = some (.slice (some ⟨g,0,none⟩) n cap) := cell_of h1 rfl
 have g0 : w.cell? ⟨g,0 + Int.toNat 0 * 36,none⟩ = some (.int .i64 0) := cell_of hb (by rw [show 0 + Int.toNat 0 * 36 = 0 from rfl,List.getElem?_append_left (List.getElem?_eq_some_iff.1 hx).1];exact hx)
 have hd : decide ((n : Int) = 0) = false := decide_eq_false ky
 refine enter (args := [_]) (Γ := [(0,_)]) Tryz.func86 Tryz.ntmps86 rfl (of_decide_eq_true rfl) (.cons rfl .nil) ?_
 repeat' first | (apply Wl.loadO;exact rfl;exact rfl;exact zu;exact kj) | refine Wl.move rfl rfl ?_ | refine Wl.assign rfl rfl ?_ | refine Wl.nilCheck rfl rfl ?_ | refine Wl.fieldAddr0 rfl rfl ?_ | refine Wl.eql rfl rfl rfl ?_ | refine Wl.len rfl rfl ?_ | (refine Wl.indexAddr rfl rfl rfl ?_ ?_;constructor <;> omega) | apply Wl.nil | apply St.seq | apply St.region | (apply St.condF;exact rfl;exact ka) | apply St.ret | apply St.skip | apply Gt.next | (apply Gt.out1;exact rfl;exact rfl;intro w' hp)
 exact ⟨rfl,hp⟩
set_option maxHeartbeats 16000000 in
theorem rwSet (base cw n : Nat) (sv : Value) (L : List Sta) (w : World) (hR : RW w base cw n) (hb : base ≤ w.heap.size) (hn : 1 ≤ n ∧ n ≤ 4) (hL : L.length = n) (hS : Sv w 35 n sv (stas L).flatten) (hso : ∀ k,sv.ownBlock = some k → k ≠ cw) (hok : ∀ x ∈ L,StaOk x ∧ x.s = 0 ∧ x.c = 0 ∧ x.xs[0]? = some (.int .u32 0)) :
  Calls Tryz.prog 57 #[.pointer (some ⟨cw,0,none⟩),sv,.int .i64 0] w fun e w' => e = .returned (.int .i64 0) ∧ Upd (fun k => k = cw ∨ w.heap.size ≤ k) w w' := by
 obtain ⟨rv,rxs,hcw,hrow⟩ := hR
 have hcl := lt_of_block hcw
 have hst : ∀ x ∈ stas L,x.length = 35 := stas_len fun x hx => (hok x hx).1
 obtain ⟨_,sa,sc,rfl,h2,h3,h5,h4⟩ := hS
 obtain ⟨sb,so,rfl,hcells⟩ := h4 (by intro e;have h := congrArg List.length e;rw [flat_len hst] at h;simp [stas] at h;omega)
 have hd0 : decide ((n : Int) ≠ (n : Int) + 0) = false := by simp
 obtain ⟨ra,rc,hrv⟩ : ∃ ra rc,rv = .slice ra n rc := by
  rcases hrow.2 with ⟨rfl,h⟩ | ⟨g,cap,cur,rfl,_⟩
  ·exact ⟨none,0,by rw [h]⟩
  ·exact ⟨_,_,rfl⟩
 subst hrv
 have c0 : w.cell? ⟨cw,0,none⟩ = some (.slice ra n rc) := cell_of hcw rfl
 have c1 : w.cell? ⟨cw,1,none⟩ = some (.slice none 0 0) := cell_of hcw rfl
 refine enter (args := [_,_,_]) (Γ := [(0,_),(1,_),(2,_)]) Tryz.func57 Tryz.ntmps57 rfl (of_decide_eq_true rfl) (.cons rfl (.cons rfl (.cons rfl .nil))) ?_
 repeat' first | (apply Wl.loadO;exact rfl;exact rfl;exact zu;exact kj) | refine Wl.move rfl rfl ?_ | refine Wl.assign rfl rfl ?_ | refine Wl.nilCheck rfl rfl ?_ | refine Wl.fieldAddr0 rfl rfl ?_ | refine Wl.fieldAddrZ rfl rfl ?_ | refine Wl.neq rfl rfl rfl ?_ | (refine Wl.addI rfl rfl rfl ?_ ?_;constructor <;> omega) | refine Wl.len rfl rfl ?_ | (apply Wl.buildS;exact rfl;exact ki;exact kc) | (apply Wl.boxA;exact rfl;exact rfl;intro c hc ho) | apply Wl.nil | apply Wl.nilQ | apply St.seq | apply St.block | apply St.region | (apply St.draw;exact mixed;(kernel_rfl);exact (fun _ h => Hp.drew h)) | apply St.skip | apply Gt.next | (apply St.condP;exact rfl;all_goals (intros;try (exfalso;omega)))
 generalize c = c7 at *
 have hc7 : w.heap.size ≤ c7 := by assumption
 refine St.loop (σ := Nat × World × Value × List Value) (fun τ => τ.1 ≤ n ∧ Upd (fun k => w.heap.size ≤ k) w τ.2.1 ∧ τ.2.1.ownsRow w.heap.size 169 36 τ.2.2.1 τ.1 τ.2.2.2 ∧ (∀ k,τ.2.2.1.ownBlock = some k → k ≠ c7) ∧ (0 < τ.1 → τ.2.2.2[0]? = some (.int .i64 0)))
  (fun τ => [(0,.pointer (some ⟨cw,0,none⟩)),(1,.slice (some ⟨sb,so,none⟩) n sc),(2,.int .i64 0),(7,.pointer (some ⟨c7,0,none⟩)),(8,.int .i64 (τ.1 : Int))]) (fun τ => Hp τ.2.1 [⟨c7,[τ.2.2.1,.slice none 0 0],167⟩]) (fun τ => n - τ.1) (0,w,.slice none 0 0,[]) ⟨Nat.zero_le _,Upd.refl _ _,World.ownsRow_nil w _ _ _,fun k hk => (by cases hk),fun h => absurd h (Nat.lt_irrefl 0)⟩ kv (fun _ h => h) ?_
 rintro ⟨i,w0,v,xs⟩ ⟨hi,hu0,hv,hoff,hx0⟩
 simp only at hi hu0 hv hoff hx0 ⊢
 have s0 := hu0.size
 by_cases hlt : i < n
 ·have hd : decide ((i : Int) < (n : Int)) = true := decide_eq_true ky
  obtain ⟨x,hx⟩ : ∃ x,L[i]? = some x := ⟨_,List.getElem?_eq_getElem ky⟩
  obtain ⟨k1,k2,k3,k4⟩ := hok x (List.mem_of_getElem? hx)
  have hxl : x.cells.length = 35 := k1.len
  have hr1 : Int.tmod 0 (n : Int) = 0 := Int.zero_tmod _
  have hr2 : (0 + (i : Int)).tmod (n : Int) = (i : Int) := by rw [Int.zero_add,Int.tmod_eq_emod_of_nonneg ky];exact Int.emod_eq_of_lt ky ky
  have hcell : ∀ q v,x.cells[q]? = some v → w0.cell? ⟨sb,so + (i : Int).toNat * 35 + q,none⟩ = some v := fun q v hq => by
   rw [Int.toNat_natCast,Nat.add_assoc]
   have hql : q < 35 := by rw [← hxl];exact (List.getElem?_eq_some_iff.1 hq).1
   have hg := flat_get hst (stas_at hx) hql
   rw [hq] at hg
   obtain ⟨hlt',hval⟩ := List.getElem?_eq_some_iff.1 hg
   have hc' := hcells (i * 35 + q) hlt'
   rw [hval] at hc'
   exact hu0.cell hc' (Nat.not_le.2 (World.block_lt_of_cell? w _ hc'))
  have hsbl : sb < w0.heap.size := by have := World.block_lt_of_cell? w0 _ (hcell 0 _ rfl);exact this
  have hsb0 : sb < w.heap.size := by
   have hl : 0 < (stas L).flatten.length := by rw [flat_len hst];simp [stas];omega
   exact World.block_lt_of_cell? w _ (hcells 0 hl)
  have hx1 := k1.one
  have dx0 : decide ((0 : Int) ≠ 0) = false := by decide
  have ds1 : decide (x.s < 0) = false := decide_eq_false ky
  have ds2 : decide (x.s > 2) = false := decide_eq_false ky
  have ds3 : decide (x.s = 0) = true := decide_eq_true k2
  have ds4 : decide (x.c ≠ 0) = false := by rw [k3];decide
  have hx3 : x.cells[3]? = some (.int .u32 0) := k4
  repeat' first | (apply Wl.remIs (z := 0);exact rfl;exact rfl;exact rfl;omega;exact hr1) | (apply Wl.remIs (z := (i : Int));exact rfl;exact rfl;exact rfl;omega;exact hr2) | (apply Wl.loadAB (xs := x.cells);exact rfl;exact rfl;(intro j v hj;exact hcell j v hj);exact kj;exact hxl) | (apply Wl.storeA (xs := x.cells);exact rfl;exact rfl;exact hxl;exact hx1;exact ke;exact .z (LOver.whole (by rw [hxl];rfl))) | (apply Wl.loadH;exact rfl;exact rfl;exact ke;exact hx3) | refine Wl.move rfl rfl ?_ | refine Wl.assign rfl rfl ?_ | (apply Wl.on;exact rfl;exact rfl;exact ka) | (apply Wl.pickT;exact rfl;exact rfl;exact ka;exact rfl) | (apply Wl.pickF;exact rfl;exact rfl;exact ka;exact rfl) | refine Wl.fieldAddr0 rfl rfl ?_ | refine Wl.fieldAddrZ rfl rfl ?_ | (apply Wl.loadH;exact rfl;exact rfl;exact ke;exact rfl) | (apply Wl.eqlIs;exact rfl;exact rfl;exact rfl;exact kz) | (apply Wl.neqIs;exact rfl;exact rfl;exact rfl;exact kz) | refine Wl.lss rfl rfl rfl ?_ | refine Wl.gtr rfl rfl rfl ?_ | refine Wl.geq rfl rfl rfl ?_ | (refine Wl.addI rfl rfl rfl ?_ ?_;constructor <;> omega) | refine Wl.len rfl rfl ?_ | (apply Wl.alloc;exact rfl;intro c hc ho) | (refine Wl.indexAddr rfl rfl rfl ?_ ?_;constructor <;> omega) | (refine Wl.indexArr rfl rfl rfl ?_ ?_;constructor <;> omega) | apply Wl.nil | apply St.seq | apply St.block | apply St.region | (apply St.condT;exact rfl;exact ka) | (apply St.condF;exact rfl;exact ka) | apply St.skip | apply Gt.next
  generalize c = c10 at *
  have hc10 : w0.heap.size ≤ c10 := by assumption
  have h107 : c10 ≠ c7 := fun e => by have := ‹Off [⟨c7,_,_⟩] c10›;exact this.1 e.symm
  refine St.tree (fun w' => w'.heap[c10]? = some (.cells x.cells.toArray 44 (0,0))) mixed (fun _ h' => ⟨Hp.drew h',(Hp.drew h').own.at (.head _)⟩) ?_
  refine Mt.pm 0 ?_
  refine Mt.pm 1 ?_
  refine Mt.pm 5 ?_
  refine Mt.pu 6 ?_
  repeat' first | (apply Wl.loadAF (xs := x.cells);exact rfl;exact rfl;exact hxl;(intro w' h' j v hj;rw [addLit];exact cell_of h' (by rw [Nat.zero_add];exact hj))) | apply Wl.nilB
  refine Mt.pn 2 ?_
  refine Mt.pu 7 ?_
  repeat' first | (apply Wl.buildS (ps := [(0,.int .i64 (i : Int)),(1,.agg x.cells.toArray)]) (cs := .int .i64 (i : Int) :: x.cells);exact rfl;exact ki;(exact Fills.one rfl rfl .z (.agg rfl (by rw [hxl];rfl) (.s (.z (LOver.whole (by rw [hxl];rfl)))) .nil))) | apply Wl.nilB
  refine Mt.pf 3 ?_
  refine Mt.eff2 (i := 4) (j := 8) kg zd zd ?_ ?_
  ·repeat' first | (apply Wl.loadH;exact rfl;exact rfl;exact ke;exact rfl) | apply Wl.nil
   refine Mt.backE (fun _ h' => by first | exact h'.own.at (.head _) | exact h'.own.at (.tail _ (.head _))) ?_
   refine Mt.eff1 (i := 8) kg zd ?_
   apply Wl.lit (cs := .int .i64 (i : Int) :: x.cells)
   ·exact rfl
   ·(repeat (first | exact Parts.nil | apply Parts.cons rfl))
   ·exact rfl
   ·exact rfl
   ·exact CatP.agg (by show Nat.beq (x.cells.length + 1) 36 = true;rw [hxl];rfl) .nil (lappE _)
   intro c8 hc8 ho8
   repeat' first | apply Wl.nil
   refine Mt.backE (fun _ h' => by first | exact h'.own.at (.head _) | exact h'.own.at (.tail _ (.head _))) ?_
   refine Mt.eff1 (i := 9) kg zd ?_
   apply Wl.appendT (base := w.heap.size) (n := i) (m := 1) (sz := 36) (e := 169) (xs := xs)
   ·exact rfl
   ·exact rfl
   ·exact rfl
   ·assumption
   ·show Nat.beq (x.cells.length + 1) (1 * 36) = true;rw [hxl];rfl
   ·exact hv
   ·exact fun k hk => ⟨fun e => by have := (hv.ge k hk).2;simp only at e;omega,fun e => hoff k hk e.symm,trivial⟩
   ·show (x.cells.all Value.oneCell') = true;exact hx1
   ·exact rfl
   ·decide
   ·unfold maxLen;omega
   ·omega
   ·exact s0
   intro v' w1 ho1 u1 _ hoff1
   have hov := ho1.one
   have s1 := u1.size
   repeat' first | apply Wl.nil
   refine Mt.backE (fun _ h' => by first | exact h'.own.at (.head _) | exact h'.own.at (.tail _ (.head _))) ?_
   refine Mt.pn 10 ?_
   refine Mt.pf 11 ?_
   refine Mt.eff1 (i := 12) kg zd ?_
   apply Wl.store
   ·exact rfl
   ·exact rfl
   ·first | exact hov | exact rfl
   ·repeat constructor
   ·(repeat (first | apply LSet.z | apply LSet.s))
   repeat' first | apply Wl.nil
   refine Mt.backE (fun _ h' => by first | exact h'.own.at (.head _) | exact h'.own.at (.tail _ (.head _))) ?_
   refine Mt.toGt kg ?_
   repeat' first | refine Wl.move rfl rfl ?_ | refine Wl.assign rfl rfl ?_ | (refine Wl.addI rfl rfl rfl ?_ ?_;constructor <;> omega) | apply Wl.nil | apply St.region | apply Gt.next | apply Gt.inNormal
   refine Gt.reb (H' := [⟨c7,[v',.slice none 0 0],167⟩]) fun w2 h2 => ⟨⟨h2.own.at (.tail _ (.head _)),trivial⟩,⟨trivial,trivial⟩,?_⟩
   obtain ⟨ys,hys,hy0⟩ : ∃ ys,w2.ownsRow w.heap.size 169 36 v' (i + 1) ys ∧ ys[0]? = some (.int .i64 0) := by
    refine ⟨_,ownsRow_upd ho1 h2.upd fun k hk y => y (hoff1 k hk).1,?_⟩
    by_cases hi0 : i = 0
    ·subst hi0
     rw [show xs = [] from List.eq_nil_of_length_eq_zero (by have := hv.1;omega)]
     rfl
    ·have h := hx0 ky
     rw [List.getElem?_append_left (List.getElem?_eq_some_iff.1 h).1]
     exact h
   have key : ∀ k,¬ Off [⟨c10,[],0⟩,⟨c7,[],0⟩] k → w.heap.size ≤ k := fun k hn => Classical.byContradiction fun hc => hn ⟨fun e => by simp only at e;omega,fun e => by simp only at e;omega,trivial⟩
   refine Gt.round (i + 1,w2,v',ys) ⟨by simp only;omega,?_,hys,fun k hk e => (hoff1 k hk).1.2.1 e.symm,fun _ => hy0⟩ qf kv (fun _ h => h)
   refine hu0.comp (u1.comp h2.upd (T := fun k => w.heap.size ≤ k) fun k hk hs => ?_) fun k hk hs => hs.elim id id
   rcases hs with (y | y) | y
   ·exact (hv.ge k y).1
   ·exact key k y
   ·exact key k y
  ·apply Wl.lit (cs := .int .i64 (i : Int) :: x.cells)
   ·exact rfl
   ·(repeat (first | exact Parts.nil | apply Parts.cons rfl))
   ·exact rfl
   ·exact rfl
   ·exact CatP.agg (by show Nat.beq (x.cells.length + 1) 36 = true;rw [hxl];rfl) .nil (lappE _)
   intro c8 hc8 ho8
   repeat' first | apply Wl.nil
   refine Mt.backE (fun _ h' => by first | exact h'.own.at (.head _) | exact h'.own.at (.tail _ (.head _))) ?_
   refine Mt.eff1 (i := 4) kg zd ?_
   repeat' first | (apply Wl.loadH;exact rfl;exact rfl;exact ke;exact rfl) | apply Wl.nil
   refine Mt.backE (fun _ h' => by first | exact h'.own.at (.head _) | exact h'.own.at (.tail _ (.head _))) ?_
   refine Mt.eff1 (i := 9) kg zd ?_
   apply Wl.appendT (base := w.heap.size) (n := i) (m := 1) (sz := 36) (e := 169) (xs := xs)
   ·exact rfl
   ·exact rfl
   ·exact rfl
   ·assumption
   ·show Nat.beq (x.cells.length + 1) (1 * 36) = true;rw [hxl];rfl
   ·exact hv
   ·exact fun k hk => ⟨fun e => by have := (hv.ge k hk).2;simp only at e;omega,fun e => hoff k hk e.symm,trivial⟩
   ·show (x.cells.all Value.oneCell') = true;exact hx1
   ·exact rfl
   ·decide
   ·unfold maxLen;omega
   ·omega
   ·exact s0
   intro v' w1 ho1 u1 _ hoff1
   have hov := ho1.one
   have s1 := u1.size
   repeat' first | apply Wl.nil
   refine Mt.backE (fun _ h' => by first | exact h'.own.at (.head _) | exact h'.own.at (.tail _ (.head _))) ?_
   refine Mt.pn 10 ?_
   refine Mt.pf 11 ?_
   refine Mt.eff1 (i := 12) kg zd ?_
   apply Wl.store
   ·exact rfl
   ·exact rfl
   ·first | exact hov | exact rfl
   ·repeat constructor
   ·(repeat (first | apply LSet.z | apply LSet.s))
   repeat' first | apply Wl.nil
   refine Mt.backE (fun _ h' => by first | exact h'.own.at (.head _) | exact h'.own.at (.tail _ (.head _))) ?_
   refine Mt.toGt kg ?_
   repeat' first | refine Wl.move rfl rfl ?_ | refine Wl.assign rfl rfl ?_ | (refine Wl.addI rfl rfl rfl ?_ ?_;constructor <;> omega) | apply Wl.nil | apply St.region | apply Gt.next | apply Gt.inNormal
   refine Gt.reb (H' := [⟨c7,[v',.slice none 0 0],167⟩]) fun w2 h2 => ⟨⟨h2.own.at (.tail _ (.head _)),trivial⟩,⟨trivial,trivial⟩,?_⟩
   obtain ⟨ys,hys,hy0⟩ : ∃ ys,w2.ownsRow w.heap.size 169 36 v' (i + 1) ys ∧ ys[0]? = some (.int .i64 0) := by
    refine ⟨_,ownsRow_upd ho1 h2.upd fun k hk y => y (hoff1 k hk).1,?_⟩
    by_cases hi0 : i = 0
    ·subst hi0
     rw [show xs = [] from List.eq_nil_of_length_eq_zero (by have := hv.1;omega)]
     rfl
    ·have h := hx0 ky
     rw [List.getElem?_append_left (List.getElem?_eq_some_iff.1 h).1]
     exact h
   have key : ∀ k,¬ Off [⟨c10,[],0⟩,⟨c7,[],0⟩] k → w.heap.size ≤ k := fun k hn => Classical.byContradiction fun hc => hn ⟨fun e => by simp only at e;omega,fun e => by simp only at e;omega,trivial⟩
   refine Gt.round (i + 1,w2,v',ys) ⟨by simp only;omega,?_,hys,fun k hk e => (hoff1 k hk).1.2.1 e.symm,fun _ => hy0⟩ qf kv (fun _ h => h)
   refine hu0.comp (u1.comp h2.upd (T := fun k => w.heap.size ≤ k) fun k hk hs => ?_) fun k hk hs => hs.elim id id
   rcases hs with (y | y) | y
   ·exact (hv.ge k y).1
   ·exact key k y
   ·exact key k y
 ·obtain rfl : i = n := by omega
  have hd : decide ((i : Int) < (i : Int)) = false := decide_eq_false ky
  have dx0 : decide ((0 : Int) ≠ 0) = false := by decide
  repeat' first | refine Wl.move rfl rfl ?_ | refine Wl.lss rfl rfl rfl ?_ | refine Wl.len rfl rfl ?_ | apply Wl.nil | apply St.seq | apply St.region | (apply St.condF;exact rfl;exact ka) | apply St.exit | apply Gt.next | apply Gt.thenExit | apply Gt.inExit
  apply Wl.callC
  ·exact rfl
  ·repeat constructor
  intro wq hq
  refine (rwTurn c7 i v xs w.heap.size wq (hq.own.at (.head _)) (ownsRow_upd hv hq.upd fun k hk y => y ⟨fun e => hoff k hk e.symm,trivial⟩) ky (hx0 ky) ky).mono ?_
  rintro e wr ⟨rfl,hr⟩
  refine ⟨_,_,rfl,hq.keep hr,?_⟩
  clear hr hq wr wq
  have c0' : w0.heap[cw]? = some (.cells #[.slice ra i rc,.slice none 0 0] 167 (0,0)) := hu0.heap hcw (Nat.not_le.2 hcl)
  refine Wl.cls (fun _ h' => Hp.open h' c0' (by exact ⟨by simp only;omega,trivial⟩)) ?_
  repeat' first | (apply Wl.store;exact rfl;exact rfl;(first | exact hv.one | exact rfl);exact ke;exact kw) | refine Wl.move rfl rfl ?_ | refine Wl.assign rfl rfl ?_ | refine Wl.nilCheck rfl rfl ?_ | refine Wl.fieldAddr0 rfl rfl ?_ | refine Wl.fieldAddrZ rfl rfl ?_ | (apply Wl.loadH;exact rfl;exact rfl;exact ke;exact rfl) | (apply Wl.neqIs;exact rfl;exact rfl;exact rfl;exact kz) | apply Wl.nil | apply St.seq | apply St.region | (apply St.condF;exact rfl;exact ka) | apply St.ret | apply St.skip | apply Gt.next | (apply Gt.out1;exact rfl;exact rfl;intro w' hp)
  refine ⟨rfl,(hu0.mono fun k _ h => .inr h).comp hp.upd fun k hk hs => hs.elim id fun y => Classical.byContradiction fun hn => y ⟨fun e => hn qq,fun e => hn qq,trivial⟩⟩
end Go.Proofs.YtabbklpalbikdaaGreatDoor
end
section
namespace Go.Pt
open Go.RowKit
theorem Hp.ext {w w' : World} (h : Hp w [] w') : Ext w w' := h.upd.mono fun _ _ y => y trivial
theorem Gt.bagEnd {N : Nat} {Γ : Env} {C : World → Prop} {E : World → World → Prop} {d : Nat} {v : Value} {w1 : World} {R : Value → World → Prop} (hv : look Γ d = some v) (h : ∀ w',C w' → E w1 w' ∧ R v w') : Gt N .normal Γ C (BagPost E N w1 d R) := Gt.intro fun a w ha hw =>
 ⟨rfl,(h w hw).1,v,ha.sub (.cons hv .nil),(h w hw).2⟩
end Go.Pt
namespace Go.Proofs.YtabbklpalbikdaaGreatDoor
open Go.RowKit Go.Pt
def RM26 (w : World) (base : Nat) (v : Value) (n : Nat) : Prop := ∃ m c d,v = .pointer (some ⟨m,0,none⟩) ∧ w.heap[m]? = some (.cells #[.pointer (some ⟨c,0,none⟩),.pointer (some ⟨d,0,none⟩)] 91 (0,0)) ∧ RW w base c n ∧ base ≤ c ∧ base ≤ m ∧ m ≠ c
theorem RW.ext {w w' : World} {base c n : Nat} (h : RW w base c n) (e : Ext w w') : RW w' base c n := h.upd e (fun y => y) fun _ _ _ y => y
set_option maxHeartbeats 8000000 in
theorem r26New (a1 a2 a3 r : Option Addr) (n c1 c2 c3 : Nat) (p : Nat → Int) (w : World) (hn : 1 ≤ n ∧ n ≤ 4) (hA : WordF w a3 n p) :
  Calls Tryz.prog 56 #[.slice a1 n c1,.slice a2 n c2,.slice a3 n c3,.pointer r] w fun e w' => ∃ v,e = .returned v ∧ RM26 w' w.heap.size v n ∧ Upd (fun k => w.heap.size ≤ k) w w' := by
 refine enter (args := [_,_,_,_]) (Γ := [(0,_),(1,_),(2,_),(3,_)]) Tryz.func56 Tryz.ntmps56 rfl (of_decide_eq_true rfl) (.cons rfl (.cons rfl (.cons rfl (.cons rfl .nil)))) ?_
 repeat' first | refine Wl.move rfl rfl ?_ | refine Wl.assign rfl rfl ?_ | refine Wl.len rfl rfl ?_ | apply Wl.nil | apply St.seq | apply St.region | apply Gt.next
 apply St.sub (Γ' := [(0,.slice a1 n c1),(1,.slice a2 n c2),(2,.slice a3 n c3),(3,.pointer r),(9,.int .i64 (n : Int))])
 ·repeat constructor
 apply St.base
 intro w0 h0
 have hw0 : Ext w w0 := h0.upd.mono fun _ _ y => y trivial
 have hwn : ∀ w1,Ext w0 w1 → w.heap.size ≤ w1.heap.size := fun w1 e => Nat.le_trans hw0.size e.size
 apply St.bag (w0 := w0) Ext Ext.trans (fun w' h => Ext.start _ w' h) [fun v _ => v = .slice a3 n c3,fun v w' => ∃ c,v = .pointer (some ⟨c,0,none⟩) ∧ RW w' w.heap.size c n ∧ w.heap.size ≤ c,fun v _ => v = .slice a1 n c1,fun v _ => v = .slice a2 n c2,fun v _ => v = .pointer r,fun v _ => v = .int .i64 (n : Int),fun v _ => ∃ b,v = .slice (some ⟨b,0,none⟩) n n,fun v _ => ∃ b,v = .agg #[.slice (some ⟨b,0,none⟩) n n],fun v _ => ∃ b,v = .pointer (some ⟨b,0,none⟩),fun v _ => v = .int .i64 (n : Int),fun v _ => ∃ b,v = .slice (some ⟨b,0,none⟩) n n,fun v _ => ∃ b,v = .agg #[.slice none 0 0,.slice none 0 0,.slice (some ⟨b,0,none⟩) n n],fun v _ => ∃ b,v = .pointer (some ⟨b,0,none⟩),fun v _ => ∃ p q,v = .agg #[.slice a1 n c1,.slice a2 n c2,.pointer r,.pointer (some ⟨p,0,none⟩),.pointer (some ⟨q,0,none⟩)],fun v _ => ∃ b,v = .pointer (some ⟨b,0,none⟩),fun v w' => ∃ c d,v = .agg #[.pointer (some ⟨c,0,none⟩),.pointer (some ⟨d,0,none⟩)] ∧ RW w' w.heap.size c n ∧ w.heap.size ≤ c,fun v w' => RM26 w' w.heap.size v n,fun v w' => RM26 w' w.heap.size v n] [17]
 ·exact mixed
 ·kernel_rfl
 ·refine .cons ?_ (.cons ?_ (.cons ?_ (.cons ?_ (.cons ?_ (.cons ?_ (.cons ?_ (.cons ?_ (.cons ?_ (.cons ?_ (.cons ?_ (.cons ?_ (.cons ?_ (.cons ?_ (.cons ?_ (.cons ?_ (.cons ?_ (.cons ?_ .nil)))))))))))))))))
  all_goals intro v w1 w2 e h
  all_goals first | exact h | (obtain ⟨c,h1,h2,h3⟩ := h;exact ⟨c,h1,h2.ext e,h3⟩) | (obtain ⟨c,d,h1,h2,h3⟩ := h;exact ⟨c,d,h1,h2.ext e,h3⟩) | (obtain ⟨m,c,d,h1,h2,h3,h4⟩ := h;exact ⟨m,c,d,h1,e.heap h2 (fun y => y),h3.ext e,h4⟩)
 ·rfl
 ·apply BagOps.cons
  ·intro w1 e1
   change Wl [_] _ _ _ _ _ _ _
   repeat' first | refine Wl.move rfl rfl ?_ | apply Wl.nil
   apply Gt.bagEnd
   ·exact rfl
   ·exact fun w' h' => ⟨h'.upd.mono fun _ _ y => y trivial,rfl⟩
  apply BagOps.cons
  ·intro w1 e1 v0 h0
   change Wl [_] _ _ _ _ _ _ _
   have h0 : v0 = .slice a3 n c3 := h0
   subst h0
   apply Wl.callC
   ·exact rfl
   ·repeat constructor
   intro wq hq
   have zq := hq.upd.size
   have z1 := hwn w1 e1
   refine (rwNew a3 n c3 p wq ky (fun i hi => by obtain ⟨b,o,e,k1,k2⟩ := hA i hi;exact ⟨b,o,e,hq.upd.cell (e1.cell (hw0.cell k1 (fun y => y)) (fun y => y)) (fun y => y trivial),k2⟩)).mono ?_
   rintro e w2 ⟨c,rfl,hRc,hcg,u2⟩
   refine ⟨_,_,rfl,Hp.start w2,?_⟩
   repeat' first | apply Wl.nil
   apply Gt.bagEnd
   ·exact rfl
   ·refine fun w' h' => ⟨(hq.upd.comp u2 (T := fun _ => False) (fun k hk hs => hs.elim (fun y => y trivial) fun y => by omega)).comp h'.upd fun k hk hs => hs.elim id fun y => y trivial,c,rfl,?_,by omega⟩
    obtain ⟨rv,xs,k1,k2⟩ := hRc.upd h'.upd (fun y => y trivial) (fun _ _ _ y => y trivial)
    exact ⟨rv,xs,k1,k2.baseLe ky⟩
  apply BagOps.cons
  ·intro w1 e1
   change Wl [_] _ _ _ _ _ _ _
   repeat' first | refine Wl.move rfl rfl ?_ | apply Wl.nil
   apply Gt.bagEnd
   ·exact rfl
   ·exact fun w' h' => ⟨h'.upd.mono fun _ _ y => y trivial,rfl⟩
  apply BagOps.cons
  ·intro w1 e1
   change Wl [_] _ _ _ _ _ _ _
   repeat' first | refine Wl.move rfl rfl ?_ | apply Wl.nil
   apply Gt.bagEnd
   ·exact rfl
   ·exact fun w' h' => ⟨h'.upd.mono fun _ _ y => y trivial,rfl⟩
  apply BagOps.cons
  ·intro w1 e1
   change Wl [_] _ _ _ _ _ _ _
   repeat' first | refine Wl.move rfl rfl ?_ | apply Wl.nil
   apply Gt.bagEnd
   ·exact rfl
   ·exact fun w' h' => ⟨h'.upd.mono fun _ _ y => y trivial,rfl⟩
  apply BagOps.cons
  ·intro w1 e1
   change Wl [_] _ _ _ _ _ _ _
   repeat' first | refine Wl.move rfl rfl ?_ | apply Wl.nil
   apply Gt.bagEnd
   ·exact rfl
   ·exact fun w' h' => ⟨h'.upd.mono fun _ _ y => y trivial,rfl⟩
  apply BagOps.cons
  ·intro w1 e1 va ha v5 h5
   change Wl [_] _ _ _ _ _ _ _
   have h5 : v5 = .int .i64 (n : Int) := h5
   subst h5
   apply Wl.makeSlice (n := n)
   ·exact rfl
   ·exact rfl
   ·exact rfl
   ·exact Nat.ble_eq_true_of_le (Nat.le_trans (Nat.mul_le_mul_left _ hn.2) ze)
   ·omega
   intro c hc ho
   repeat' first | apply Wl.nil
   apply Gt.bagEnd
   ·exact rfl
   ·exact fun w' h' => ⟨(h'.drop zy).ext,c,rfl⟩
  apply BagOps.cons
  ·intro w1 e1 v6 h6
   change Wl [_] _ _ _ _ _ _ _
   have h6 : ∃ b,v6 = .slice (some ⟨b,0,none⟩) n n := h6
   obtain ⟨b,rfl⟩ := h6
   repeat' first | (apply Wl.buildS;exact rfl;exact ki;exact kc) | apply Wl.nil
   apply Gt.bagEnd
   ·exact rfl
   ·exact fun w' h' => ⟨h'.upd.mono fun _ _ y => y trivial,b,rfl⟩
  apply BagOps.cons
  ·intro w1 e1 v7 h7
   change Wl [_] _ _ _ _ _ _ _
   have h7 : ∃ b,v7 = .agg #[.slice (some ⟨b,0,none⟩) n n] := h7
   obtain ⟨b,rfl⟩ := h7
   repeat' first | (apply Wl.boxA;exact rfl;exact rfl;intro c hc ho) | apply Wl.nil
   apply Gt.bagEnd
   ·exact rfl
   ·exact fun w' h' => ⟨(h'.drop zy).ext,_,rfl⟩
  apply BagOps.cons
  ·intro w1 e1
   change Wl [_] _ _ _ _ _ _ _
   repeat' first | refine Wl.move rfl rfl ?_ | apply Wl.nil
   apply Gt.bagEnd
   ·exact rfl
   ·exact fun w' h' => ⟨h'.upd.mono fun _ _ y => y trivial,rfl⟩
  apply BagOps.cons
  ·intro w1 e1 va ha v9 h9
   change Wl [_] _ _ _ _ _ _ _
   have h9 : v9 = .int .i64 (n : Int) := h9
   subst h9
   apply Wl.makeSlice (n := n)
   ·exact rfl
   ·exact rfl
   ·exact rfl
   ·exact Nat.ble_eq_true_of_le (Nat.le_trans (Nat.mul_le_mul_left _ hn.2) ze)
   ·omega
   intro c hc ho
   repeat' first | apply Wl.nil
   apply Gt.bagEnd
   ·exact rfl
   ·exact fun w' h' => ⟨(h'.drop zy).ext,c,rfl⟩
  apply BagOps.cons
  ·intro w1 e1 v10 h10
   change Wl [_] _ _ _ _ _ _ _
   have h10 : ∃ b,v10 = .slice (some ⟨b,0,none⟩) n n := h10
   obtain ⟨b,rfl⟩ := h10
   repeat' first | (apply Wl.buildS;exact rfl;exact ki;exact kc) | apply Wl.nil
   apply Gt.bagEnd
   ·exact rfl
   ·exact fun w' h' => ⟨h'.upd.mono fun _ _ y => y trivial,b,rfl⟩
  apply BagOps.cons
  ·intro w1 e1 v11 h11
   change Wl [_] _ _ _ _ _ _ _
   have h11 : ∃ b,v11 = .agg #[.slice none 0 0,.slice none 0 0,.slice (some ⟨b,0,none⟩) n n] := h11
   obtain ⟨b,rfl⟩ := h11
   repeat' first | (apply Wl.boxA;exact rfl;exact rfl;intro c hc ho) | apply Wl.nil
   apply Gt.bagEnd
   ·exact rfl
   ·exact fun w' h' => ⟨(h'.drop zy).ext,_,rfl⟩
  apply BagOps.cons
  ·intro w1 e1 v2 h2 v3 h3 v4 h4 v8 h8 v12 h12
   change Wl [_] _ _ _ _ _ _ _
   have h2 : v2 = .slice a1 n c1 := h2
   have h3 : v3 = .slice a2 n c2 := h3
   have h4 : v4 = .pointer r := h4
   have h8 : ∃ b,v8 = .pointer (some ⟨b,0,none⟩) := h8
   have h12 : ∃ b,v12 = .pointer (some ⟨b,0,none⟩) := h12
   subst h2 h3 h4
   obtain ⟨p8,rfl⟩ := h8
   obtain ⟨q8,rfl⟩ := h12
   repeat' first | (apply Wl.buildS;exact rfl;exact ki;exact kc) | apply Wl.nil
   apply Gt.bagEnd
   ·exact rfl
   ·exact fun w' h' => ⟨h'.upd.mono fun _ _ y => y trivial,p8,q8,rfl⟩
  apply BagOps.cons
  ·intro w1 e1 v13 h13
   change Wl [_] _ _ _ _ _ _ _
   have h13 : ∃ p q,v13 = .agg #[.slice a1 n c1,.slice a2 n c2,.pointer r,.pointer (some ⟨p,0,none⟩),.pointer (some ⟨q,0,none⟩)] := h13
   obtain ⟨p8,q8,rfl⟩ := h13
   repeat' first | (apply Wl.boxA;exact rfl;exact rfl;intro c hc ho) | apply Wl.nil
   apply Gt.bagEnd
   ·exact rfl
   ·exact fun w' h' => ⟨(h'.drop zy).ext,_,rfl⟩
  apply BagOps.cons
  ·intro w1 e1 v1 h1 v14 h14
   change Wl [_] _ _ _ _ _ _ _
   have h1 : ∃ c,v1 = .pointer (some ⟨c,0,none⟩) ∧ RW w1 w.heap.size c n ∧ w.heap.size ≤ c := h1
   have h14 : ∃ b,v14 = .pointer (some ⟨b,0,none⟩) := h14
   obtain ⟨c,rfl,k1,k2⟩ := h1
   obtain ⟨d,rfl⟩ := h14
   repeat' first | (apply Wl.buildS;exact rfl;exact ki;exact kc) | apply Wl.nil
   apply Gt.bagEnd
   ·exact rfl
   ·exact fun w' h' => ⟨h'.upd.mono fun _ _ y => y trivial,c,d,rfl,k1.ext (h'.upd.mono fun _ _ y => y trivial),k2⟩
  apply BagOps.cons
  ·intro w1 e1 v15 h15
   change Wl [_] _ _ _ _ _ _ _
   have h15 : ∃ c d,v15 = .agg #[.pointer (some ⟨c,0,none⟩),.pointer (some ⟨d,0,none⟩)] ∧ RW w1 w.heap.size c n ∧ w.heap.size ≤ c := h15
   obtain ⟨cw,d,rfl,k1,k2⟩ := h15
   have z1 := hwn w1 e1
   have lc : cw < w1.heap.size := by obtain ⟨rv,xs,k3,_⟩ := k1;exact lt_of_block k3
   repeat' first | (apply Wl.boxA;exact rfl;exact rfl;intro c hc ho) | apply Wl.nil
   apply Gt.bagEnd
   ·exact rfl
   ·exact fun w' h' => ⟨(h'.drop zy).ext,_,cw,d,rfl,h'.own.at (.head _),k1.ext (h'.drop zy).ext,k2,by omega,by omega⟩
  apply BagOps.cons
  ·intro w1 e1
   repeat intro _
   rename_i v16 h16
   change Wl [_] _ _ _ _ _ _ _
   have h16 : RM26 w1 w.heap.size v16 n := h16
   repeat' first | refine Wl.assign rfl rfl ?_ | apply Wl.nil
   apply Gt.bagEnd
   ·exact rfl
   ·exact fun w' h' => by obtain ⟨m,cw,d,k0,k1,k2,k3⟩ := h16;exact ⟨h'.upd.mono fun _ _ y => y trivial,m,cw,d,k0,h'.upd.heap k1 (fun y => y trivial),k2.ext (h'.upd.mono fun _ _ y => y trivial),k3⟩
  exact .nil
 intro w1 e1 v h
 repeat' first | apply St.ret | apply Gt.next | (apply Gt.out1;exact rfl;exact rfl;intro w' hp)
 have h' : RM26 w1 w.heap.size v n := h
 obtain ⟨m,cw,d,k0,k1,k2,k3⟩ := h'
 refine ⟨v,rfl,⟨m,cw,d,k0,hp.upd.heap k1 (fun y => y trivial),k2.ext (hp.upd.mono fun _ _ y => y trivial),k3⟩,((hw0.comp e1 (T := fun k => w.heap.size ≤ k) fun k _ hs => hs.elim (fun y => y.elim) fun y => y.elim).comp hp.upd fun k _ hs => hs.elim id fun y => (y trivial).elim)⟩
end Go.Proofs.YtabbklpalbikdaaGreatDoor
end
section
namespace Go.Proofs.YtabbklpalbikdaaGreatDoor
open Go.RowKit Go.Pt
theorem refHasG (a n : Int) (w : World) (ha : -1000000 ≤ a ∧ a ≤ 4294967296000) (hn : 0 ≤ n ∧ n ≤ 5000) : Calls Tryz.prog 105 #[.int .i64 a,.int .i64 n] w fun e w' => (∃ z : Bool,e = .returned (.bool z)) ∧ Hp w [] w' := by
 refine enter (args := [_,_]) (Γ := [(0,_),(1,_)]) Tryz.func105 Tryz.ntmps105 rfl (of_decide_eq_true rfl) (.cons rfl (.cons rfl .nil)) ?_
 repeat' first | refine Wl.move rfl rfl ?_ | refine Wl.assign rfl rfl ?_ | (apply Wl.on;exact rfl;exact rfl;exact ka) | (apply Wl.off;exact rfl;exact rfl;exact rfl;exact kr) | (apply Wl.pickT;exact rfl;exact rfl;exact ka;exact rfl) | (apply Wl.pickF;exact rfl;exact rfl;exact ka;exact rfl) | refine Wl.leq rfl rfl rfl ?_ | refine Wl.geq rfl rfl rfl ?_ | (refine Wl.addI rfl rfl rfl ?_ ?_;constructor <;> omega) | apply Wl.nil | apply St.seq | apply St.region | apply St.ret | apply Gt.next | (apply Gt.out1;exact rfl;exact rfl;intro w' hp) | (apply Wl.splitP;exact rfl;exact rfl;all_goals (intros;try (exfalso;omega)))
 all_goals exact ⟨⟨_,rfl⟩,hp⟩
set_option maxHeartbeats 4000000 in
theorem ramPutG (c b n : Nat) (at_ : Int) (v : Value) (l : List UInt8) (w : World) (hR : RM w c b n) (hn : n < 1000000) (hl : l.length ≤ 5000) (hat : -1000000 ≤ at_ ∧ at_ ≤ 4294967296000) (hv : Bs w v l) (hvo : ∀ k,v.ownBlock = some k → l ≠ [] → k ≠ b) :
  Calls Tryz.prog 54 #[.pointer (some ⟨c,0,none⟩),.int .i64 at_,v] w fun e w' => (∃ z : Bool,e = .returned (.bool z)) ∧ RM w' c b (n + l.length) ∧ Upd (fun k => k = b) w w' := by
 have hlt := hR.lt
 obtain ⟨va,vc,rfl,_,hm⟩ := hv.shape
 unfold maxLen at hm
 have c0 : w.cell? ⟨c,0,none⟩ = some (.map (some b)) := cell_of hR.1 rfl
 have hcb : c ≠ b := by
  intro e
  obtain ⟨h1,D,es,clock,h2,_⟩ := hR
  rw [e] at h1
  rw [h1] at h2
  cases h2
 refine enter (args := [_,_,_]) (Γ := [(0,_),(1,_),(2,_)]) Tryz.func54 Tryz.ntmps54 rfl (of_decide_eq_true rfl) (.cons rfl (.cons rfl (.cons rfl .nil))) ?_
 repeat' first | refine Wl.move rfl rfl ?_ | refine Wl.assign rfl rfl ?_ | refine Wl.len rfl rfl ?_ | apply Wl.nil | apply St.seq | apply St.region | apply Gt.next
 apply Wl.callC
 ·exact rfl
 ·repeat constructor
 intro wq hq
 refine (refHasG _ _ wq hat ky).mono ?_
 rintro e wr ⟨⟨z,rfl⟩,hr⟩
 refine ⟨_,_,rfl,hq.keep hr,?_⟩
 clear hr hq wr wq
 cases z
 ·repeat' first | refine Wl.assign rfl rfl ?_ | refine Wl.not rfl rfl ?_ | apply Wl.nil | apply St.seq | apply St.region | (apply St.condT;exact rfl;exact ka) | apply St.ret | apply Gt.next | apply Gt.thenRet | (apply Gt.out1;exact rfl;exact rfl;intro w' hp)
  exact ⟨⟨_,rfl⟩,⟨hp.upd.heap hR.1 fun y => y trivial,by obtain ⟨D,hD⟩ := hR.2.upd hp.upd fun y => y trivial;exact ⟨D,hD.mono ky⟩⟩,hp.upd.mono fun _ _ y => (y trivial).elim⟩
 repeat' first | refine Wl.assign rfl rfl ?_ | refine Wl.not rfl rfl ?_ | apply Wl.nil | apply St.seq | apply St.block | apply St.region | (apply St.condF;exact rfl;exact ka) | apply St.skip | apply Gt.next
 refine St.loop (σ := Nat × World) (fun τ => τ.1 ≤ l.length ∧ RM τ.2 c b (n + τ.1) ∧ Upd (fun k => k = b) w τ.2)
  (fun τ => [(0,.pointer (some ⟨c,0,none⟩)),(1,.int .i64 at_),(2,.slice va l.length vc),(7,.int .i64 (τ.1 : Int))]) (fun τ => Hp τ.2 []) (fun τ => l.length - τ.1) (0,w) ⟨Nat.zero_le _,hR,Upd.refl _ _⟩ kv (fun _ h => h) ?_
 rintro ⟨i,w0⟩ ⟨hi,hR0,hu0⟩
 simp only at hi hR0 hu0 ⊢
 have c0' : w0.cell? ⟨c,0,none⟩ = some (.map (some b)) := cell_of hR0.1 rfl
 by_cases hlt2 : i < l.length
 ·have hd : decide ((i : Int) < (l.length : Int)) = true := decide_eq_true ky
  obtain ⟨vb,vo,rfl,hcells⟩ := hv.cells (fun e => by rw [e] at hlt2;simp at hlt2)
  have hb : w0.cell? ⟨vb,vo + (i : Int).toNat,none⟩ = some (.int .u8 (l[i].toNat : Int)) := by
   rw [Int.toNat_natCast]
   exact hu0.cell (hcells i hlt2) fun e => hvo vb rfl (fun e0 => by rw [e0] at hlt2;simp at hlt2) e
  have l1 := hR0.lt
  have l2 := World.block_lt_of_cell? w0 _ hb
  simp only at l2
  repeat' first | (apply St.bagX (i := 6) 11 [];exact mixed;(decide +kernel);kernel_rfl) | (apply Wl.loadO;exact rfl;exact rfl;(first | exact c0' | exact hb);(repeat (first | exact trivial | exact hX.off q6))) | apply OpsX.nil | (apply OpsX.v;(intro X hX;change Wl [_] _ _ _ _ _ _ _;apply Wl.catX;exact ke)) | (apply Gt.endX;exact rfl) | (apply EndX.on;exact rfl) | (apply EndX.off;exact rfl) | (apply EndX.nil';apply Wl.catE;exact ke) | refine Wl.move rfl rfl ?_ | refine Wl.nilCheck rfl rfl ?_ | refine Wl.fieldAddr0 rfl rfl ?_ | refine Wl.lss rfl rfl rfl ?_ | (refine Wl.addI rfl rfl rfl ?_ ?_;constructor <;> omega) | refine Wl.len rfl rfl ?_ | (refine Wl.indexAddr1 rfl rfl rfl ?_ ?_;constructor <;> omega) | apply Wl.nil | apply St.seq | apply St.block | apply St.region | (apply St.condT;exact rfl;exact ka) | apply St.skip | apply Gt.next
  apply Wl.storeMB (k := 3) (e := 5) (b := b) (n := n + i)
  ·exact rfl
  ·exact rfl
  ·exact rfl
  ·unfold I64;omega
  ·have := l[i].toNat_lt
   simp [Lit.wf,IntKind.min,IntKind.max,IntKind.signed,IntKind.bits]
   omega
  ·unfold maxLen;omega
  ·exact hR0.2
  ·exact trivial
  intro w1 hM hu1
  repeat' first | refine Wl.move rfl rfl ?_ | refine Wl.assign rfl rfl ?_ | (refine Wl.addI rfl rfl rfl ?_ ?_;constructor <;> omega) | apply Wl.nil | apply St.region | apply Gt.next | apply Gt.inNormal
  apply Gt.round (i + 1,w1)
  rotate_left
  ·simp only;omega
  ·repeat constructor
  ·exact fun _ h => h
  ·refine ⟨hlt2,⟨hu1.heap hR0.1 fun y => y.elim hcb fun y => y trivial,hM⟩,hu0.trans (hu1.mono fun k _ y => y.elim id fun y => (y trivial).elim)⟩
 ·obtain rfl : i = l.length := by omega
  have hd : decide ((l.length : Int) < (l.length : Int)) = false := decide_eq_false ky
  repeat' first | refine Wl.move rfl rfl ?_ | refine Wl.assign rfl rfl ?_ | refine Wl.lss rfl rfl rfl ?_ | refine Wl.len rfl rfl ?_ | apply Wl.nil | apply St.seq | apply St.region | (apply St.condF;exact rfl;exact ka) | apply St.ret | apply St.exit | apply Gt.next | apply Gt.thenExit | apply Gt.inExit | (apply Gt.out1;exact rfl;exact rfl;intro w' hp)
  exact ⟨⟨_,rfl⟩,⟨hp.upd.heap hR0.1 fun y => y trivial,by obtain ⟨D,hD⟩ := hR0.2.upd hp.upd fun y => y trivial;exact ⟨D,hD.mono ky⟩⟩,hu0.trans (hp.upd.mono fun _ _ y => (y trivial).elim)⟩
end Go.Proofs.YtabbklpalbikdaaGreatDoor
end
section
namespace Go.Proofs.YtabbklpalbikdaaGreatDoor
open Go.RowKit Go.Pt
structure LoadD where
 code : List Int
 data : List UInt8
 calls : Int
 regs : List (Int × Int)
def WordsV (w : World) (v : Value) (l : List Int) : Prop := ∃ a c,v = .slice a l.length c ∧ ∀ (i : Nat) x,l[i]? = some x → ∃ b o,a = some ⟨b,o,none⟩ ∧ w.cell? ⟨b,o + i,none⟩ = some (.int .u32 x) ∧ 0 ≤ x ∧ x < 4294967296
def PairsV (w : World) (v : Value) (l : List (Int × Int)) : Prop := ∃ a c,v = .slice a l.length c ∧ ∀ (i : Nat) x,l[i]? = some x → ∃ b o,a = some ⟨b,o,none⟩ ∧ (w.cell? ⟨b,o + i * 2,none⟩ = some (.int .u32 x.1) ∧ 0 ≤ x.1 ∧ x.1 < 4294967296) ∧ w.cell? ⟨b,o + i * 2 + 1,none⟩ = some (.int .u32 x.2) ∧ 0 ≤ x.2 ∧ x.2 < 4294967296
theorem WordsV.upd {w w' : World} {v : Value} {l : List Int} {S : Nat → Prop} (h : WordsV w v l) (u : Upd S w w') (hs : ∀ k,k < w.heap.size → ¬ S k) : WordsV w' v l := by
 obtain ⟨a,c,e,h⟩ := h
 refine ⟨a,c,e,fun i x hx => ?_⟩
 obtain ⟨b,o,e,h1,h2⟩ := h i x hx
 exact ⟨b,o,e,u.cell h1 (hs _ (cell_old h1)),h2⟩
theorem PairsV.upd {w w' : World} {v : Value} {l : List (Int × Int)} {S : Nat → Prop} (h : PairsV w v l) (u : Upd S w w') (hs : ∀ k,k < w.heap.size → ¬ S k) : PairsV w' v l := by
 obtain ⟨a,c,e,h⟩ := h
 refine ⟨a,c,e,fun i x hx => ?_⟩
 obtain ⟨b,o,e,⟨h1,h2⟩,h3,h4⟩ := h i x hx
 exact ⟨b,o,e,⟨u.cell h1 (hs _ (cell_old h1)),h2⟩,u.cell h3 (hs _ (cell_old h3)),h4⟩
structure LoadV (w : World) (x : LoadD) (v0 v1 v3 : Value) : Prop where
 code : WordsV w v0 x.code
 data : Bs w v1 x.data
 dlt : ∀ k,v1.ownBlock = some k → x.data ≠ [] → k < w.heap.size
 regs : PairsV w v3 x.regs
 len : x.code.length ≤ 1024 ∧ x.data.length ≤ 4096 ∧ x.regs.length ≤ 1500
 cal : I64 x.calls
def loadC (v0 v1 v3 : Value) (x : LoadD) : List Value := [v0,v1,.int .i64 x.calls,v3]
def LoadsF (w : World) (a : Option Addr) (l : List LoadD) : Prop := ∀ (i : Nat) x,l[i]? = some x → ∃ b o,a = some ⟨b,o,none⟩ ∧ ∃ v0 v1 v3,(∀ q v,(loadC v0 v1 v3 x)[q]? = some v → w.cell? ⟨b,o + i * 4 + q,none⟩ = some v) ∧ LoadV w x v0 v1 v3
theorem LoadV.upd {w w' : World} {x : LoadD} {v0 v1 v3 : Value} {S : Nat → Prop} (h : LoadV w x v0 v1 v3) (u : Upd S w w') (hs : ∀ k,k < w.heap.size → ¬ S k) : LoadV w' x v0 v1 v3 :=
 ⟨h.code.upd u hs,h.data.upd u fun k _ hk _ => hs k hk,fun k hk hne => Nat.lt_of_lt_of_le (h.dlt k hk hne) u.size,h.regs.upd u hs,h.len,h.cal⟩
def codeF (f : Nat → Int) (o : Nat) : List Int → Nat → (Nat → Int)
 | _,0 => f
 | l,k + 1 => storeX (codeF f o l k) (o + 4 * k) (l.getD k 0) 4
def loadF1 (f : Nat → Int) (i : Nat) (x : LoadD) : Nat → Int := putF (codeF f (4096 + 12288 * i) x.code x.code.length) (8192 + 12288 * i) x.data
def loadF (l : List LoadD) : Nat → (Nat → Int)
 | 0 => fun _ => 0
 | i + 1 => loadF1 (loadF l i) i (l.getD i ⟨[],[],0,[]⟩)
def caF (l : List LoadD) (i j : Nat) : Int := if j < i then bits .and .i64 ((l.getD j ⟨[],[],0,[]⟩).calls) 255 else 255
structure BegS (w w0 : World) (n i : Nat) (pb : Nat) (J : List Value) (gs : Nat → Nat) (ca : Nat → Int) (cM rb rm rn : Nat) (f : Nat → Int) (v6 v7 : Value) (eb ec : Nat → Nat) : Prop where
 pay : w0.heap[pb]? = some (.cells ((payRs gs ca n).flatten ++ J).toArray 116 (0,0))
 gr : ∀ j,j < n → w.heap.size ≤ gs j ∧ w0.heap[gs j]? = some (.cells (grC (biasI j)).toArray 180 (0,0))
 mem : memH w0 cM f
 ram : RM w0 rb rm rn
 ent : w0.ownsRow w.heap.size 65 1 v6 i ((List.range i).map fun j => .slice (some ⟨eb j,0,none⟩) 4 (ec j))
 enx : ∀ j,j < i → w.heap.size ≤ eb j ∧ ∃ cs : List Value,w0.heap[eb j]? = some (.cells cs.toArray 160 (0,0)) ∧ EntX w0 (some ⟨eb j,0,none⟩) 4 (en4 (biasI j))
 st : w0.ownsRow w.heap.size 25 1 v7 i ((List.range i).map fun j => .int .u32 (biasI j))
 up : Upd (fun k => w.heap.size ≤ k) w w0
 ge : w.heap.size ≤ pb ∧ w.heap.size ≤ cM ∧ w.heap.size ≤ rb ∧ w.heap.size ≤ rm
def BegF (n i pb : Nat) (gs : Nat → Nat) (cM rb rm : Nat) (v6 v7 : Value) (eb : Nat → Nat) (b : Nat) : Prop := b = pb ∨ (∃ j,j < n ∧ b = gs j) ∨ b = cM ∨ b = rb ∨ b = rm ∨ v6.ownBlock = some b ∨ (∃ j,j < i ∧ b = eb j) ∨ v7.ownBlock = some b
section
variable {w w0 w' : World} {n i pb cM rb rm rn : Nat} {J : List Value} {gs eb ec : Nat → Nat} {ca : Nat → Int} {f : Nat → Int} {v6 v7 : Value}
theorem BegS.lt (k : BegS w w0 n i pb J gs ca cM rb rm rn f v6 v7 eb ec) : ∀ b,BegF n i pb gs cM rb rm v6 v7 eb b → w.heap.size ≤ b ∧ b < w0.heap.size := by
 rintro b (rfl | ⟨j,hj,rfl⟩ | rfl | rfl | rfl | h | ⟨j,hj,rfl⟩ | h)
 ·exact ⟨k.ge.1,lt_of_block k.pay⟩
 ·exact ⟨(k.gr j hj).1,lt_of_block (k.gr j hj).2⟩
 ·exact ⟨k.ge.2.1,lt_of_block k.mem⟩
 ·exact ⟨k.ge.2.2.1,k.ram.lt.1⟩
 ·exact ⟨k.ge.2.2.2,k.ram.lt.2⟩
 ·exact k.ent.ge b h
 ·exact ⟨(k.enx j hj).1,by obtain ⟨cs,h,_⟩ := (k.enx j hj).2;exact lt_of_block h⟩
 ·exact k.st.ge b h
theorem BegS.off (k : BegS w w0 n i pb J gs ca cM rb rm rn f v6 v7 eb ec) {b t : Nat} {cs : Array Value} (hb : w0.heap[b]? = some (.cells cs t (0,0))) (ht : t ≠ 116 ∧ t ≠ 180 ∧ t ≠ 156 ∧ t ≠ 178 ∧ t ≠ 65 ∧ t ≠ 160 ∧ t ≠ 25) :
  ∀ x,BegF n i pb gs cM rb rm v6 v7 eb x → x ≠ b := by
 obtain ⟨t1,t2,t3,t4,t5,t6,t7⟩ := ht
 have key : ∀ {x t' : Nat} {cs' : Array Value},w0.heap[x]? = some (.cells cs' t' (0,0)) → t ≠ t' → x ≠ b := fun hx hn e => by rw [e,hb] at hx;cases hx;exact hn rfl
 rintro x (rfl | ⟨j,hj,rfl⟩ | rfl | rfl | rfl | h | ⟨j,hj,rfl⟩ | h)
 ·exact key k.pay t1
 ·exact key (k.gr j hj).2 t2
 ·exact key k.mem t3
 ·exact key k.ram.1 t4
 ·intro e
  obtain ⟨D,es,clock,h2,_⟩ := k.ram.2
  rw [e,hb] at h2
  cases h2
 ·exact (k.ent.heap h).elim fun _ hg => key hg t5
 ·obtain ⟨cs',h,_⟩ := (k.enx j hj).2;exact key h t6
 ·exact (k.st.heap h).elim fun _ hg => key hg t7
theorem BegS.upd {S : Nat → Prop} (k : BegS w w0 n i pb J gs ca cM rb rm rn f v6 v7 eb ec) (u : Upd S w0 w') (hs : ∀ b,BegF n i pb gs cM rb rm v6 v7 eb b → ¬ S b) (hn : ∀ b,b < w.heap.size → ¬ S b) : BegS w w' n i pb J gs ca cM rb rm rn f v6 v7 eb ec where
 pay := u.heap k.pay (hs _ (.inl rfl))
 gr := fun j hj => ⟨(k.gr j hj).1,u.heap (k.gr j hj).2 (hs _ (.inr (.inl ⟨j,hj,rfl⟩)))⟩
 mem := u.heap k.mem (hs _ (.inr (.inr (.inl rfl))))
 ram := k.ram.upd u (hs _ (.inr (.inr (.inr (.inl rfl))))) (hs _ (.inr (.inr (.inr (.inr (.inl rfl))))))
 ent := ownsRow_upd k.ent u fun b hb => hs _ (.inr (.inr (.inr (.inr (.inr (.inl hb))))))
 enx := fun j hj => by
  obtain ⟨h1,cs,h2,h3⟩ := k.enx j hj
  refine ⟨h1,cs,u.heap h2 (hs _ (.inr (.inr (.inr (.inr (.inr (.inr (.inl ⟨j,hj,rfl⟩)))))))),fun q hq => ?_⟩
  obtain ⟨b,o,e,c1,c2,c3⟩ := h3 q hq
  cases e
  have hh := hs (eb j) (.inr (.inr (.inr (.inr (.inr (.inr (.inl ⟨j,hj,rfl⟩)))))))
  exact ⟨_,_,rfl,u.cell c1 hh,u.cell c2 hh,u.cell c3 hh⟩
 st := ownsRow_upd k.st u fun b hb => hs _ (.inr (.inr (.inr (.inr (.inr (.inr (.inr hb)))))))
 up := ⟨u.os.trans k.up.os,u.tape.trans k.up.tape,u.output.trans k.up.output,Nat.le_trans k.up.size u.size,fun q hq hsq => (u.block q (Nat.lt_of_lt_of_le hq k.up.size) (hn q hq)).trans (k.up.block q hq hsq)⟩
 ge := k.ge
theorem BegS.new (k : BegS w w0 n i pb J gs ca cM rb rm rn f v6 v7 eb ec) (u : Upd (fun b => w0.heap.size ≤ b) w0 w') : BegS w w' n i pb J gs ca cM rb rm rn f v6 v7 eb ec :=
 k.upd u (fun b hb => Nat.not_le.2 (k.lt b hb).2) fun b hb => Nat.not_le.2 (Nat.lt_of_lt_of_le hb k.up.size)
theorem hne {w0 : World} {x b t t' : Nat} {cs cs' : Array Value} (hx : w0.heap[x]? = some (.cells cs' t' (0,0))) (hb : w0.heap[b]? = some (.cells cs t (0,0))) (hn : t ≠ t') : x ≠ b := fun e => by rw [e,hb] at hx;cases hx;exact hn rfl
theorem BegS.rmne (k : BegS w w0 n i pb J gs ca cM rb rm rn f v6 v7 eb ec) {b t : Nat} {cs : Array Value} (hb : w0.heap[b]? = some (.cells cs t (0,0))) : rm ≠ b := by
 intro e
 obtain ⟨D,es,clock,h2,_⟩ := k.ram.2
 rw [e,hb] at h2
 cases h2
theorem BegS.mem' {f' : Nat → Int} (k : BegS w w0 n i pb J gs ca cM rb rm rn f v6 v7 eb ec) (hm : memH w' cM f') (u : Upd (fun b => b = cM) w0 w') : BegS w w' n i pb J gs ca cM rb rm rn f' v6 v7 eb ec where
 pay := u.heap k.pay (hne k.pay k.mem ze)
 gr := fun j hj => ⟨(k.gr j hj).1,u.heap (k.gr j hj).2 (hne (k.gr j hj).2 k.mem ze)⟩
 mem := hm
 ram := k.ram.upd u (hne k.ram.1 k.mem ze) (k.rmne k.mem)
 ent := ownsRow_upd k.ent u fun b hb => (k.ent.heap hb).elim fun _ hg => hne hg k.mem ze
 enx := fun j hj => by
  obtain ⟨h1,cs,h2,h3⟩ := k.enx j hj
  have hh := hne h2 k.mem ze
  refine ⟨h1,cs,u.heap h2 hh,fun q hq => ?_⟩
  obtain ⟨b,o,e,c1,c2,c3⟩ := h3 q hq
  cases e
  exact ⟨_,_,rfl,u.cell c1 hh,u.cell c2 hh,u.cell c3 hh⟩
 st := ownsRow_upd k.st u fun b hb => (k.st.heap hb).elim fun _ hg => hne hg k.mem ze
 up := k.up.comp u fun b hb hs => hs.elim id fun e => e ▸ k.ge.2.1
 ge := k.ge
theorem BegS.ram' {rn' : Nat} (k : BegS w w0 n i pb J gs ca cM rb rm rn f v6 v7 eb ec) (hr : RM w' rb rm rn') (u : Upd (fun b => b = rm ∨ w0.heap.size ≤ b) w0 w') : BegS w w' n i pb J gs ca cM rb rm rn' f v6 v7 eb ec := by
 have key : ∀ {x t : Nat} {cs : Array Value},w0.heap[x]? = some (.cells cs t (0,0)) → ¬ (x = rm ∨ w0.heap.size ≤ x) := fun hx hs => hs.elim (fun e => k.rmne hx e.symm) fun h => absurd (lt_of_block hx) (Nat.not_lt.2 h)
 exact {
  pay := u.heap k.pay (key k.pay)
  gr := fun j hj => ⟨(k.gr j hj).1,u.heap (k.gr j hj).2 (key (k.gr j hj).2)⟩
  mem := u.heap k.mem (key k.mem)
  ram := hr
  ent := ownsRow_upd k.ent u fun b hb => (k.ent.heap hb).elim fun _ hg => key hg
  enx := fun j hj => by
   obtain ⟨h1,cs,h2,h3⟩ := k.enx j hj
   have hh := key h2
   refine ⟨h1,cs,u.heap h2 hh,fun q hq => ?_⟩
   obtain ⟨b,o,e,c1,c2,c3⟩ := h3 q hq
   cases e
   exact ⟨_,_,rfl,u.cell c1 hh,u.cell c2 hh,u.cell c3 hh⟩
  st := ownsRow_upd k.st u fun b hb => (k.st.heap hb).elim fun _ hg => key hg
  up := k.up.comp u fun b hb hs => hs.elim id fun e => e.elim (fun e => e ▸ k.ge.2.2.2) fun h => Nat.le_trans k.up.size h
  ge := k.ge }
theorem BegS.pay' {ca' : Nat → Int} (k : BegS w w0 n i pb J gs ca cM rb rm rn f v6 v7 eb ec) (hp : w'.heap[pb]? = some (.cells ((payRs gs ca' n).flatten ++ J).toArray 116 (0,0))) (u : Upd (fun b => b = pb ∨ w0.heap.size ≤ b) w0 w') : BegS w w' n i pb J gs ca' cM rb rm rn f v6 v7 eb ec := by
 have key : ∀ {x t : Nat} {cs : Array Value},w0.heap[x]? = some (.cells cs t (0,0)) → 116 ≠ t → ¬ (x = pb ∨ w0.heap.size ≤ x) := fun hx hn hs => hs.elim (hne hx k.pay hn) fun h => absurd (lt_of_block hx) (Nat.not_lt.2 h)
 exact {
  pay := hp
  gr := fun j hj => ⟨(k.gr j hj).1,u.heap (k.gr j hj).2 (key (k.gr j hj).2 ze)⟩
  mem := u.heap k.mem (key k.mem ze)
  ram := k.ram.upd u (key k.ram.1 ze) (fun hs => hs.elim (k.rmne k.pay) fun h => absurd k.ram.lt.2 (Nat.not_lt.2 h))
  ent := ownsRow_upd k.ent u fun b hb => (k.ent.heap hb).elim fun _ hg => key hg ze
  enx := fun j hj => by
   obtain ⟨h1,cs,h2,h3⟩ := k.enx j hj
   have hh := key h2 ze
   refine ⟨h1,cs,u.heap h2 hh,fun q hq => ?_⟩
   obtain ⟨b,o,e,c1,c2,c3⟩ := h3 q hq
   cases e
   exact ⟨_,_,rfl,u.cell c1 hh,u.cell c2 hh,u.cell c3 hh⟩
  st := ownsRow_upd k.st u fun b hb => (k.st.heap hb).elim fun _ hg => key hg ze
  up := k.up.comp u fun b hb hs => hs.elim id fun e => e.elim (fun e => e ▸ k.ge.1) fun h => Nat.le_trans k.up.size h
  ge := k.ge }
theorem BegS.rows {v6' v7' : Value} {eb' ec' : Nat → Nat} {S : Nat → Prop} (k : BegS w w0 n i pb J gs ca cM rb rm rn f v6 v7 eb ec)
  (h6 : w'.ownsRow w.heap.size 65 1 v6' (i + 1) ((List.range (i + 1)).map fun j => .slice (some ⟨eb' j,0,none⟩) 4 (ec' j))) (hx : ∀ j,j < i + 1 → w.heap.size ≤ eb' j ∧ ∃ cs : List Value,w'.heap[eb' j]? = some (.cells cs.toArray 160 (0,0)) ∧ EntX w' (some ⟨eb' j,0,none⟩) 4 (en4 (biasI j)))
  (h7 : w'.ownsRow w.heap.size 25 1 v7' (i + 1) ((List.range (i + 1)).map fun j => .int .u32 (biasI j))) (u : Upd S w0 w') (hs : ∀ b,BegF n i pb gs cM rb rm v6 v7 eb b → S b → v6.ownBlock = some b ∨ v7.ownBlock = some b) (hn0 : ∀ b,S b → w.heap.size ≤ b) : BegS w w' n (i + 1) pb J gs ca cM rb rm rn f v6' v7' eb' ec' := by
 have key : ∀ {x t : Nat} {cs : Array Value},BegF n i pb gs cM rb rm v6 v7 eb x → w0.heap[x]? = some (.cells cs t (0,0)) → 65 ≠ t → 25 ≠ t → ¬ S x := fun hF hx hn hn' h => (hs _ hF h).elim (fun h => (k.ent.heap h).elim fun _ hg => hne hx hg hn rfl) fun h => (k.st.heap h).elim fun _ hg => hne hx hg hn' rfl
 exact {
  pay := u.heap k.pay (key (.inl rfl) k.pay ze ze)
  gr := fun j hj => ⟨(k.gr j hj).1,u.heap (k.gr j hj).2 (key (.inr (.inl ⟨j,hj,rfl⟩)) (k.gr j hj).2 ze ze)⟩
  mem := u.heap k.mem (key (.inr (.inr (.inl rfl))) k.mem ze ze)
  ram := k.ram.upd u (key (.inr (.inr (.inr (.inl rfl)))) k.ram.1 ze ze) (fun h => (hs _ (.inr (.inr (.inr (.inr (.inl rfl))))) h).elim (fun h => (k.ent.heap h).elim fun _ hg => k.rmne hg rfl) fun h => (k.st.heap h).elim fun _ hg => k.rmne hg rfl)
  ent := h6
  enx := hx
  st := h7
  up := k.up.comp u fun b hb h => h.elim id fun h => hn0 b h
  ge := k.ge }
end
end Go.Proofs.YtabbklpalbikdaaGreatDoor
end
section
namespace Go.Proofs.YtabbklpalbikdaaGreatDoor
open Go.RowKit Go.Pt
theorem Hp.rest4 {S : Nat → Prop} {w0 w w' : World} {H : List Blk} (h : Hp w0 H w) (u : Upd S w w') (hs : ∀ x ∈ H,¬ S x.b) : Hp w' H w' := ⟨Upd.refl _ _,h.own.upd u hs,h.apart⟩
theorem MonF.with {I : Mi} {M : Mv2} {L : List Sta} {t : Int} {ins : List (List UInt8)} {sa b : Nat} (h : MonF {I with sa := sa} {M with L := L,t := t,ins := ins} b) : MonF I M b ∨ b = sa := by
 rcases h with h | h | h | h | h | h | h | h | h | h | h | h | h
 ·exact .inl (.inl h)
 ·exact .inl (.inr (.inl h))
 ·exact .inl (.inr (.inr (.inl h)))
 ·exact .inl (.inr (.inr (.inr (.inl h))))
 ·exact .inr h
 ·exact .inl (.inr (.inr (.inr (.inr (.inr (.inl h))))))
 ·exact .inl (.inr (.inr (.inr (.inr (.inr (.inr (.inl h)))))))
 ·exact .inl (.inr (.inr (.inr (.inr (.inr (.inr (.inr (.inl h))))))))
 ·exact .inl (.inr (.inr (.inr (.inr (.inr (.inr (.inr (.inr (.inl h)))))))))
 ·exact .inl (.inr (.inr (.inr (.inr (.inr (.inr (.inr (.inr (.inr (.inl h))))))))))
 ·exact .inl (.inr (.inr (.inr (.inr (.inr (.inr (.inr (.inr (.inr (.inr (.inl h)))))))))))
 ·exact .inl (.inr (.inr (.inr (.inr (.inr (.inr (.inr (.inr (.inr (.inr (.inr (.inl h))))))))))))
 ·exact .inl (.inr (.inr (.inr (.inr (.inr (.inr (.inr (.inr (.inr (.inr (.inr (.inr h))))))))))))
def wiM (pv ev : Value) (L : List Sta) (t : Int) (ins : List (List UInt8)) (f : Nat → Int) (cf : Nat) : Mv2 := ⟨pv,ev,.slice none 0 0,.slice none 0 0,0,[],L,t,fun _ => [],[],0,ins,f,xz,0,cf⟩
def insK (ins : List (List UInt8)) (k n : Nat) : List (List UInt8) := ins.take k ++ List.replicate (n - k) []
theorem insK_0 (ins : List (List UInt8)) (n : Nat) : insK ins 0 n = List.replicate n [] := by simp [insK]
theorem insK_n (ins : List (List UInt8)) {n : Nat} (h : ins.length = n) : insK ins n n = ins := by simp [insK,← h]
theorem insK_at (ins : List (List UInt8)) {k n : Nat} (hk : k < n) (hl : n ≤ ins.length) : (insK ins k n)[k]? = some [] := by
 unfold insK
 rw [List.getElem?_append_right (by rw [List.length_take];omega),List.getElem?_replicate,if_pos (by rw [List.length_take];omega)]
theorem insK_set {ins : List (List UInt8)} {k n : Nat} {s : List UInt8} (hk : k < n) (hs : ins[k]? = some s) : (insK ins k n).set k ([] ++ s) = insK ins (k + 1) n := by
 have hl := (List.getElem?_eq_some_iff.1 hs).1
 unfold insK
 rw [List.set_append_right _ _ (by rw [List.length_take];omega),List.take_add_one,hs,show n - k = (n - (k + 1)) + 1 by omega,List.replicate_succ,List.length_take,show k - min k ins.length = 0 by omega]
 simp
structure WiB (w w' : World) (I : Mi) (M : Mv2) (c : Nat) (cs : List Value) : Prop where
 mm : w'.heap[I.m]? = some (.cells #[.pointer (some ⟨I.h,0,none⟩),.pointer (some ⟨I.d,0,none⟩),.pointer (some ⟨I.wd,0,none⟩),M.seen] 130 (0,0))
 dd : w'.heap[I.d]? = some (.cells #[M.pv,M.ev,.pointer (some ⟨I.cM,0,none⟩),.pointer (some ⟨I.pp,0,none⟩),.pointer (some ⟨I.bd,0,none⟩)] 139 (0,0))
 cc : w'.heap[c]? = some (.cells cs.toArray 54 (0,0))
 u : Upd (fun k => w.heap.size ≤ k) w w'
theorem mZ0 : (madeCells (Value.int .u32 0).cells (0 * 1)).toList = List.replicate 0 (Value.int .u32 0) := by kernel_rfl
theorem mZ1 : (madeCells (Value.int .u32 0).cells (1 * 1)).toList = List.replicate 1 (Value.int .u32 0) := by kernel_rfl
theorem mZ2 : (madeCells (Value.int .u32 0).cells (2 * 1)).toList = List.replicate 2 (Value.int .u32 0) := by kernel_rfl
theorem mZ3 : (madeCells (Value.int .u32 0).cells (3 * 1)).toList = List.replicate 3 (Value.int .u32 0) := by kernel_rfl
theorem mZ4 : (madeCells (Value.int .u32 0).cells (4 * 1)).toList = List.replicate 4 (Value.int .u32 0) := by kernel_rfl
theorem mZ (n : Nat) (hn : n ≤ 4) : (madeCells (Value.int .u32 0).cells (n * 1)).toList = List.replicate n (Value.int .u32 0) := by
 have h : n = 0 ∨ n = 1 ∨ n = 2 ∨ n = 3 ∨ n = 4 := by omega
 rcases h with rfl | rfl | rfl | rfl | rfl
 ·exact mZ0
 ·exact mZ1
 ·exact mZ2
 ·exact mZ3
 ·exact mZ4
theorem wordZ {w : World} {b n t : Nat} (h : w.heap[b]? = some (.cells (List.replicate n (Value.int .u32 0)).toArray t (0,0))) : WordF w (some ⟨b,0,none⟩) n (fun _ => 0) := fun i hi =>
 ⟨b,0,rfl,cell_of h (by rw [Nat.zero_add,List.getElem?_replicate,if_pos hi]),Int.le_refl _,by show (0 : Int) < 4294967296;decide⟩
set_option maxHeartbeats 32000000 in
theorem mWith0 (base : Nat) (I : Mi) (M : Mv2) (L' : List Sta) (t' : Int) (a1 a2 la : Option Addr) (c1 c2 lc cM' : Nat) (sv iv bv : Value) (ins' : List (List UInt8)) (f' : Nat → Int) (w : World) (hM : MonS w base I M) (hb : base ≤ w.heap.size) (hpv : M.pv = .slice a1 M.L.length c1) (hev : M.ev = .slice a2 M.L.length c2)
  (hA : Sv w 35 M.L.length sv (stas L').flatten) (hl' : L'.length = M.L.length) (hok : ∀ x ∈ L',StaOk x ∧ StaV x) (ht : -1 ≤ t' ∧ t' < L'.length) (hany : anyR L' = decide (0 ≤ t')) (hr : ∀ x,0 ≤ t' → L'[t'.toNat]? = some x → x.s = 0)
  (hI : Sv w 1 M.L.length iv (ins'.map strV)) (hins : ∀ s ∈ ins',s.length ≤ 64) (hB : Sv w 1 M.L.length bv (List.replicate M.L.length (.slice none 0 0))) (hm' : memH w cM' f') :
  Calls Tryz.prog 29 #[.pointer (some ⟨I.m,0,none⟩),.agg #[.int .i64 t',sv,iv,bv,.slice la 0 lc,.pointer (some ⟨cM',0,none⟩)]] w fun e w' => ∃ I' M',e = .returned (.tuple #[.pointer (some ⟨I'.m,0,none⟩),.int .i64 0]) ∧ MonS w' w.heap.size I' M' ∧ M' = ⟨M.pv,M.ev,.slice none 0 0,.slice none 0 0,0,[],L',t',fun _ => [],[],0,ins',f',xz,0,M'.cf⟩ ∧ Upd (fun k => w.heap.size ≤ k) w w' := by
 have hM0 := hM
 have hn1 := hM.ward.2.2
 have hA0 := hA
 have hcnt := fun wq (k : MonS wq base I M) => wCount I.wd I.sa M.L M.t wq k.ward
 obtain ⟨_,sa0,sc0,rfl,_⟩ := hA
 obtain ⟨il,ia0,ic0,rfl,_,_,_,hi2⟩ := hI
 obtain ⟨_,ba0,bc0,rfl,_,_,_,hb2⟩ := hB
 obtain ⟨ib,io,rfl,hic⟩ := hi2 (fun e => by rw [e] at il;simp at il;omega)
 obtain ⟨bb,bo,rfl,hbc⟩ := hb2 (fun e => by have h := congrArg List.length e;rw [List.length_replicate] at h;change M.L.length = 0 at h;omega)
 clear hi2 hb2
 have hil : ins'.length = M.L.length := by simpa using il
 have q0 : w.cell? ⟨I.m,2,none⟩ = some (.pointer (some ⟨I.wd,0,none⟩)) := cell_of hM.mm rfl
 have l0 := (hM.lt I.m (.inl rfl)).2
 have lM' := lt_of_block hm'
 have hdd : ∀ w',MonS w' base I M → w'.heap[I.d]? = some (.cells #[.slice a1 M.L.length c1,.slice a2 M.L.length c2,.pointer (some ⟨I.cM,0,none⟩),.pointer (some ⟨I.pp,0,none⟩),.pointer (some ⟨I.bd,0,none⟩)] 139 (0,0)) := fun w' k => by
  have h := k.dd
  rw [hpv,hev] at h
  exact h
 have dl : decide ((M.L.length : Int) ≠ (M.L.length : Int)) = false := decide_eq_false ky
 refine enter (args := [_,_]) (Γ := [(0,_),(1,_)]) Tryz.func29 Tryz.ntmps29 rfl (of_decide_eq_true rfl) (.cons rfl (.cons rfl .nil)) ?_
 repeat' first | (apply Wl.loadO;exact rfl;exact rfl;exact zu;exact kj) | refine Wl.move rfl rfl ?_ | refine Wl.assign rfl rfl ?_ | refine Wl.nilCheck rfl rfl ?_ | refine Wl.fieldAddrZ rfl rfl ?_ | refine Wl.eqlPN rfl rfl rfl ?_ | (apply Wl.boxA;exact rfl;exact rfl;intro c hc ho) | apply Wl.nil | apply St.seq | apply St.region | (apply St.condF;exact rfl;exact ka) | apply St.skip | apply Gt.next
 apply Wl.callQ
 exact rfl
 (focus repeat constructor)
 ·intro wq hq
  exact hq.q (hcnt wq (hM.hp0 hM0 hq kb))
 repeat' first | refine Wl.move rfl rfl ?_ | refine Wl.assign rfl rfl ?_ | (apply Wl.on;exact rfl;exact rfl;exact ka) | (apply Wl.pickF;exact rfl;exact rfl;exact ka;exact rfl) | refine Wl.fieldAddrZ rfl rfl ?_ | (apply Wl.loadH;exact rfl;exact rfl;exact ke;exact rfl) | refine Wl.eqlPN rfl rfl rfl ?_ | (apply Wl.neqIs;exact rfl;exact rfl;exact rfl;exact kz) | refine Wl.len rfl rfl ?_ | apply Wl.nil | apply St.seq | apply St.region | (apply St.condF;exact rfl;exact ka) | apply St.skip | apply Gt.next
 apply Wl.makeSlice (n := M.L.length)
 ·exact rfl
 ·exact rfl
 ·exact rfl
 ·rw [Nat.ble_eq];omega
 ·omega
 intro st hst host
 have hst1 : w.heap.size ≤ st ∧ c ≠ st := ⟨hst,host.1⟩
 rw [mZ M.L.length ky]
 repeat' first | refine Wl.assign rfl rfl ?_ | apply Wl.nil | apply St.seq | apply Gt.next
 refine St.tree (fun w' => MonS w' base I M ∧ w'.heap[c]? = some (.cells #[.int .i64 t',.slice sa0 M.L.length sc0,.slice (some ⟨ib,io,none⟩) M.L.length ic0,.slice (some ⟨bb,bo,none⟩) M.L.length bc0,.slice la 0 lc,.pointer (some ⟨cM',0,none⟩)] 54 (0,0))) mixed (fun _ h' => ⟨Hp.drew h',hM.hp0 hM0 (Hp.drew h') kb,(Hp.drew h').own.at (.tail _ (.head _))⟩) ?_
 refine Mt.pm 0 ?_
 refine Mt.pm 7 ?_
 refine Mt.pm 14 ?_
 refine Mt.pz 15 ?_
 refine Mt.pn 1 ?_
 refine Mt.pn 8 ?_
 refine Mt.pu 16 ?_
 repeat' first | (apply Wl.loadF;exact rfl;exact rfl;(intro w' h';first | exact cell_of h'.1.mm rfl | exact cell_of (hdd _ h'.1) rfl | exact cell_of h'.2 rfl)) | apply Wl.nilB
 refine Mt.pz 2 ?_
 refine Mt.pz 9 ?_
 refine Mt.pu 3 ?_
 repeat' first | (apply Wl.loadF;exact rfl;exact rfl;(intro w' h';first | exact cell_of h'.1.mm rfl | exact cell_of (hdd _ h'.1) rfl | exact cell_of h'.2 rfl)) | apply Wl.nilB
 refine Mt.pu 10 ?_
 repeat' first | (apply Wl.loadF;exact rfl;exact rfl;(intro w' h';first | exact cell_of h'.1.mm rfl | exact cell_of (hdd _ h'.1) rfl | exact cell_of h'.2 rfl)) | apply Wl.nilB
 refine Mt.pn 4 ?_
 refine Mt.pn 11 ?_
 refine Mt.pf 5 ?_
 refine Mt.pz 12 ?_
 refine Mt.pu 6 ?_
 repeat' first | (apply Wl.loadF;exact rfl;exact rfl;(intro w' h';first | exact cell_of h'.1.mm rfl | exact cell_of (hdd _ h'.1) rfl | exact cell_of h'.2 rfl)) | apply Wl.nilB
 refine Mt.pu 13 ?_
 repeat' first | (apply Wl.loadF;exact rfl;exact rfl;(intro w' h';first | exact cell_of h'.1.mm rfl | exact cell_of (hdd _ h'.1) rfl | exact cell_of h'.2 rfl)) | apply Wl.nilB
 refine Mt.eff1 (i := 17) kg zd ?_
 apply Wl.callC
 ·exact rfl
 ·repeat constructor
 intro wq2 hq2
 have hMq := hM.hp0 hM0 hq2 kb
 have zq2 := hq2.upd.size
 have hltC : ∀ x : Blk,x ∈ _ → x.b < wq2.heap.size := fun x hx => hq2.own.lt hx
 simp only [List.mem_cons,List.not_mem_nil,or_false,forall_eq_or_imp,forall_eq] at hltC
 refine (mcopy cM' f' wq2 (hq2.upd.heap hm' fun y => y kj)).mono ?_
 rintro e wC ⟨cC,rfl,hcC,hmC,uC⟩
 have hqC := hq2.newer uC
 have zC := uC.size
 have hwC : Upd (fun k => w.heap.size ≤ k) w wC := hqC.on (Upd.refl _ _) kb
 have hM := hMq.new uC (Nat.le_refl _)
 have lmC := lt_of_block hmC
 refine ⟨_,_,rfl,hqC.rb,?_⟩
 clear hMq
 repeat' first | apply Wl.nil
 refine Mt.backE (fun _ h' => ⟨hM.hp0 hM0 h' kb,h'.own.at (.tail _ (.head _))⟩) ?_
 refine Mt.eff1 (i := 18) kg zd ?_
 apply Wl.callC
 ·exact rfl
 ·repeat constructor
 intro wq3 hq3
 have hMq := hM.hp0 hM0 hq3 kb
 have zq3 := hq3.upd.size
 have hltN : ∀ x : Blk,x ∈ _ → x.b < wq3.heap.size := fun x hx => hq3.own.lt hx
 simp only [List.mem_cons,List.not_mem_nil,or_false,forall_eq_or_imp,forall_eq] at hltN
 refine (monNew a1 a2 (some ⟨st,0,none⟩) M.L.length c1 c2 _ cC (fun _ => 0) f' wq3 hn1 (wordZ (hq3.own.at (.head _))) (hq3.upd.heap hmC fun y => y kj) w.heap.size ky ky).mono ?_
 rintro e wN ⟨I',M',rfl,hN,hNc,hNM,hNf,uN⟩
 have hqN := hq3.newer uN
 have zN := uN.size
 have hwN : Upd (fun k => w.heap.size ≤ k) w wN := hqN.on hwC kb
 have hM := hMq.new uN (Nat.le_refl _)
 refine ⟨_,_,rfl,hqN.rb,?_⟩
 clear hMq
 repeat' first | apply Wl.nil
 refine Mt.backE (fun _ h' => ⟨hM.hp0 hM0 h' kb,h'.own.at (.tail _ (.head _))⟩) ?_
 refine Mt.pm 19 ?_
 refine Mt.pu 20 ?_
 refine Wl.extract rfl rfl rfl (Wl.nilB ?_)
 refine Mt.pu 21 ?_
 refine Wl.extract rfl rfl rfl (Wl.nilB ?_)
 refine Mt.pu 22 ?_
 refine Wl.assign rfl rfl (Wl.nilB ?_)
 refine Mt.pu 23 ?_
 refine Wl.assign rfl rfl (Wl.nilB ?_)
 refine Mt.toGt kg ?_
 repeat' first | apply St.seq | apply Gt.next
 obtain ⟨pv',ev',seen',lv',sn',sx',L0,t0,bx',ll',used',ins0,f0,xs',pc',cf'⟩ := M'
 cases hNM
 have hof : ∀ b,MonF I' _ b → Off [⟨st,List.replicate M.L.length (Value.int .u32 0),25⟩,⟨c,[.int .i64 t',.slice sa0 M.L.length sc0,.slice (some ⟨ib,io,none⟩) M.L.length ic0,.slice (some ⟨bb,bo,none⟩) M.L.length bc0,.slice la 0 lc,.pointer (some ⟨cM',0,none⟩)],54⟩] b := fun b hb => by
  by_cases e : b = cC
  ·exact ⟨by simp only;omega,by simp only;omega,trivial⟩
  ·have := hNf b hb e;exact ⟨by simp only;omega,by simp only;omega,trivial⟩
 have hlN := hN.lts
 have lcN : c < wN.heap.size ∧ st < wN.heap.size := by omega
 clear hM hq2 hq3 hqC hqN
 skip
 refine St.tree (fun w' => WiB w w' I' ⟨.slice a1 M.L.length c1,.slice a2 M.L.length c2,.slice none 0 0,.slice none 0 0,0,[],newL (fun _ => 0) M.L.length,0,fun _ => [],[],0,List.replicate M.L.length [],f',xz,0,cf'⟩ c [.int .i64 t',.slice sa0 M.L.length sc0,.slice (some ⟨ib,io,none⟩) M.L.length ic0,.slice (some ⟨bb,bo,none⟩) M.L.length bc0,.slice la 0 lc,.pointer (some ⟨cM',0,none⟩)]) mixed (fun _ h' => ⟨Hp.drew h',have k := hN.upd (Hp.drew h').upd fun b hb y => y (hof b hb);⟨k.mm,k.dd,(Hp.drew h').own.at (.tail _ (.head _)),(Hp.drew h').on hwN kb⟩⟩) ?_
 refine Mt.pm 0 ?_
 refine Mt.pz 4 ?_
 refine Mt.pf 6 ?_
 refine Mt.pn 1 ?_
 refine Mt.pu 5 ?_
 repeat' first | (apply Wl.loadF;exact rfl;exact rfl;(intro w' h';first | exact cell_of h'.mm rfl | exact cell_of h'.dd rfl | exact cell_of h'.cc rfl)) | apply Wl.nilB
 refine Mt.pu 7 ?_
 repeat' first | (apply Wl.loadF;exact rfl;exact rfl;(intro w' h';first | exact cell_of h'.mm rfl | exact cell_of h'.dd rfl | exact cell_of h'.cc rfl)) | apply Wl.nilB
 refine Mt.pz 2 ?_
 refine Mt.pu 3 ?_
 repeat' first | (apply Wl.loadF;exact rfl;exact rfl;(intro w' h';first | exact cell_of h'.mm rfl | exact cell_of h'.dd rfl | exact cell_of h'.cc rfl)) | apply Wl.nilB
 refine Mt.eff1 (i := 8) kg zd ?_
 apply Wl.callC
 ·exact rfl
 ·repeat constructor
 intro wq4 hq4
 have hMq := hN.upd hq4.upd fun b hb y => y (hof b hb)
 have zq4 := hq4.upd.size
 have uq4 : Upd (fun k => w.heap.size ≤ k) w wq4 := hq4.on hwN kb
 refine (wSetOk I'.wd I'.sa _ L' _ t' _ wq4 hMq.ward (hl'.symm ▸ hA0.upd uq4 fun k _ hk _ => by omega) (by rw [hl'];exact (newL_len _ _).symm) hok ht hany hr).mono ?_
 rintro e wS ⟨sa',rfl,hWS,gS,uS⟩
 have zS := uS.size
 have hS := hMq.set hWS (by rw [hl'];exact (newL_len _ _).symm) ky (uS.mono fun k _ h => h)
 have hwS : Upd (fun k => w.heap.size ≤ k) w wS := uq4.comp uS fun k hk hs => by have := (hMq.lt I'.wd (.inr (.inr (.inr (.inl rfl))))).1;rcases hs with h | rfl | h <;> omega
 have hqS := Hp.rest4 hq4 uS (by simp only [List.mem_cons,List.not_mem_nil,or_false,forall_eq_or_imp,forall_eq];exact ⟨fun h => by rcases h with h | h;exact (hof I'.wd (.inr (.inr (.inr (.inl rfl))))).1 h;omega,fun h => by rcases h with h | h;exact (hof I'.wd (.inr (.inr (.inr (.inl rfl))))).2.1 h;omega⟩)
 have hof2 : ∀ b,MonF {I' with sa := sa'} {(⟨.slice a1 M.L.length c1,.slice a2 M.L.length c2,.slice none 0 0,.slice none 0 0,0,[],newL (fun _ => 0) M.L.length,0,fun _ => [],[],0,List.replicate M.L.length [],f',xz,0,cf'⟩ : Mv2) with L := L',t := t'} b → Off [⟨st,List.replicate M.L.length (Value.int .u32 0),25⟩,⟨c,[.int .i64 t',.slice sa0 M.L.length sc0,.slice (some ⟨ib,io,none⟩) M.L.length ic0,.slice (some ⟨bb,bo,none⟩) M.L.length bc0,.slice la 0 lc,.pointer (some ⟨cM',0,none⟩)],54⟩] b := fun b hb => (MonF.with hb).elim (hof b) fun e => ⟨by simp only;omega,by simp only;omega,trivial⟩
 refine ⟨_,_,rfl,hqS,?_⟩
 repeat' first | apply Wl.nil
 refine Mt.backE (fun _ h' => have k := hS.upd h'.upd fun b hb y => y (hof2 b hb);⟨k.mm,k.dd,h'.own.at (.tail _ (.head _)),h'.on hwS kb⟩) ?_
 refine Mt.pu 9 ?_
 repeat' first | (apply Wl.neqIs;exact rfl;exact rfl;exact rfl;exact kz) | apply Wl.nilB
 refine Mt.toGt kg ?_
 repeat' first | refine Wl.move rfl rfl ?_ | apply Wl.nil | apply St.seq | apply St.block | apply St.region | (apply St.condF;exact rfl;exact ka) | apply St.skip | apply Gt.next
 have hil0 : insK ins' 0 M.L.length = List.replicate M.L.length [] := insK_0 _ _
 have hSz : MonS wS w.heap.size {I' with sa := sa'} (wiM (.slice a1 M.L.length c1) (.slice a2 M.L.length c2) L' t' (insK ins' 0 M.L.length) f' cf') := by rw [hil0];exact hS
 clear hS hN hWS
 refine St.loop (σ := Nat × World) (fun τ => τ.1 ≤ M.L.length ∧ MonS τ.2 w.heap.size {I' with sa := sa'} (wiM (.slice a1 M.L.length c1) (.slice a2 M.L.length c2) L' t' (insK ins' τ.1 M.L.length) f' cf') ∧ Upd (fun k => w.heap.size ≤ k) w τ.2)
  (fun τ => [(3,.pointer (some ⟨c,0,none⟩)),(6,.int .i64 M.L.length),(8,.pointer (some ⟨I'.m,0,none⟩)),(80,.int .i64 M.L.length),(81,.int .i64 (τ.1 : Int))])
  (fun τ => Hp τ.2 [⟨st,List.replicate M.L.length (Value.int .u32 0),25⟩,⟨c,[.int .i64 t',.slice sa0 M.L.length sc0,.slice (some ⟨ib,io,none⟩) M.L.length ic0,.slice (some ⟨bb,bo,none⟩) M.L.length bc0,.slice la 0 lc,.pointer (some ⟨cM',0,none⟩)],54⟩]) (fun τ => M.L.length - τ.1) (0,wS) ⟨Nat.zero_le _,hSz,hwS⟩ kv (fun _ h => h) ?_
 clear hSz hwS hwN hwC
 rintro ⟨i,wc⟩ ⟨hi,hM,hwc⟩
 simp only at hi hM hwc ⊢
 have zwc := hwc.size
 by_cases hlt : i < M.L.length
 ·have hd : decide ((i : Int) < (M.L.length : Int)) = true := decide_eq_true ky
  obtain ⟨s,hs⟩ : ∃ s,ins'[i]? = some s := ⟨_,List.getElem?_eq_getElem ky⟩
  have hsl := hins s (List.mem_of_getElem? hs)
  have hsC : w.cell? ⟨ib,io + (i : Int).toNat,none⟩ = some (strV s) := by
   rw [Int.toNat_natCast,hic i (by rw [List.length_map];omega)]
   obtain ⟨hj,e⟩ := List.getElem?_eq_some_iff.1 hs
   rw [List.getElem_map,e]
  have hbC : w.cell? ⟨bb,bo + (i : Int).toNat,none⟩ = some (.slice none 0 0) := by
   rw [Int.toNat_natCast,hbc i (by rw [List.length_replicate];omega),List.getElem_replicate]
  have hib := World.block_lt_of_cell? w _ hsC
  have hbb := World.block_lt_of_cell? w _ hbC
  simp only at hib hbb
  repeat' first | refine Wl.move rfl rfl ?_ | refine Wl.assign rfl rfl ?_ | refine Wl.lss rfl rfl rfl ?_ | apply Wl.nil | apply St.seq | apply St.block | apply St.region | (apply St.condT;exact rfl;exact ka) | apply St.skip | apply Gt.next
  refine St.tree (fun w' => WiB w w' {I' with sa := sa'} (wiM (.slice a1 M.L.length c1) (.slice a2 M.L.length c2) L' t' (insK ins' i M.L.length) f' cf') c [.int .i64 t',.slice sa0 M.L.length sc0,.slice (some ⟨ib,io,none⟩) M.L.length ic0,.slice (some ⟨bb,bo,none⟩) M.L.length bc0,.slice la 0 lc,.pointer (some ⟨cM',0,none⟩)]) mixed (fun _ h' => ⟨Hp.drew h',have k := hM.upd (Hp.drew h').upd fun b hb y => y (hof2 b hb);⟨k.mm,k.dd,(Hp.drew h').own.at (.tail _ (.head _)),(Hp.drew h').on hwc kb⟩⟩) ?_
  refine Mt.pm 0 ?_
  refine Mt.pm 7 ?_
  refine Mt.pz 8 ?_
  refine Mt.pm 10 ?_
  refine Mt.pn 1 ?_
  refine Mt.pu 9 ?_
  repeat' first | (apply Wl.loadF;exact rfl;exact rfl;(intro w' h';first | exact cell_of h'.mm rfl | exact cell_of h'.dd rfl | exact cell_of h'.cc rfl | exact h'.u.cell hsC jc)) | apply Wl.nilB
  refine Mt.pz 2 ?_
  refine Mt.pu 11 ?_
  repeat' first | (refine Wl.indexAddr1 rfl rfl rfl ?_ ?_;constructor <;> omega) | apply Wl.nilB
  refine Mt.pu 3 ?_
  repeat' first | (apply Wl.loadF;exact rfl;exact rfl;(intro w' h';first | exact cell_of h'.mm rfl | exact cell_of h'.dd rfl | exact cell_of h'.cc rfl | exact h'.u.cell hsC jc)) | apply Wl.nilB
  refine Mt.pu 12 ?_
  repeat' first | (apply Wl.loadF;exact rfl;exact rfl;(intro w' h';first | exact cell_of h'.mm rfl | exact cell_of h'.dd rfl | exact cell_of h'.cc rfl | exact h'.u.cell hsC jc)) | apply Wl.nilB
  refine Mt.pn 4 ?_
  refine Mt.pz 5 ?_
  refine Mt.pu 6 ?_
  repeat' first | (apply Wl.loadF;exact rfl;exact rfl;(intro w' h';first | exact cell_of h'.mm rfl | exact cell_of h'.dd rfl | exact cell_of h'.cc rfl | exact h'.u.cell hsC jc)) | apply Wl.nilB
  refine Mt.eff1 (i := 13) kg zd ?_
  apply Wl.callC
  ·exact rfl
  ·repeat constructor
  intro wq5 hq5
  have hMq := hM.upd hq5.upd fun b hb y => y (hof2 b hb)
  have zq5 := hq5.upd.size
  have uq5 : Upd (fun k => w.heap.size ≤ k) w wq5 := hq5.on hwc kb
  refine (bFeed _ _ _ _ _ _ _ i [] s wq5 hMq.board (insK_at ins' hlt ky) (by simpa using hsl)).mono ?_
  rintro e wF ⟨rfl,hBF,uF⟩
  have zF := uF.size
  have hF0 := hMq.feed hBF (List.length_set ..) uF
  have hF : MonS wF w.heap.size {I' with sa := sa'} (wiM (.slice a1 M.L.length c1) (.slice a2 M.L.length c2) L' t' (insK ins' (i + 1) M.L.length) f' cf') := by rw [← insK_set ky hs];exact hF0
  have hwF : Upd (fun k => w.heap.size ≤ k) w wF := uq5.comp uF fun k hk hs => by have := (hMq.lt I'.ia (.inr (.inr (.inr (.inr (.inr (.inr (.inr (.inr (.inl rfl)))))))))).1;rcases hs with h | rfl;exact h;exact this
  have hqF := Hp.rest4 hq5 uF (by simp only [List.mem_cons,List.not_mem_nil,or_false,forall_eq_or_imp,forall_eq];exact ⟨(hof I'.ia (.inr (.inr (.inr (.inr (.inr (.inr (.inr (.inr (.inl rfl)))))))))).1,(hof I'.ia (.inr (.inr (.inr (.inr (.inr (.inr (.inr (.inr (.inl rfl)))))))))).2.1⟩)
  have hbF : wF.cell? ⟨bb,bo + (i : Int).toNat,none⟩ = some (.slice none 0 0) := hwF.cell hbC (by show ¬ w.heap.size ≤ bb;omega)
  refine ⟨_,_,rfl,hqF,?_⟩
  repeat' first | apply Wl.nil
  refine Mt.backE (fun _ h' => have k := hF.upd h'.upd fun b hb y => y (hof2 b hb);⟨k.mm,k.dd,h'.own.at (.tail _ (.head _)),h'.on hwF kb⟩) ?_
  refine Mt.pu 14 ?_
  repeat' first | (apply Wl.neqIs;exact rfl;exact rfl;exact rfl;exact kz) | apply Wl.nilB
  refine Mt.toGt kg ?_
  repeat' first | (apply Wl.loadO;exact rfl;exact rfl;exact zu;exact kj) | refine Wl.move rfl rfl ?_ | refine Wl.fieldAddrZ rfl rfl ?_ | (apply Wl.loadH;exact rfl;exact rfl;exact ke;exact rfl) | refine Wl.len rfl rfl ?_ | (refine Wl.indexAddr1 rfl rfl rfl ?_ ?_;constructor <;> omega) | apply Wl.nil | apply St.seq | apply St.block | apply St.region | (apply St.condF;exact rfl;exact ka) | apply St.skip | apply Gt.next
  refine St.loop (σ := Unit) (fun _ => True) (fun _ => [(3,.pointer (some ⟨c,0,none⟩)),(6,.int .i64 M.L.length),(8,.pointer (some ⟨I'.m,0,none⟩)),(80,.int .i64 M.L.length),(81,.int .i64 (i : Int)),(104,.int .i64 ((0 : Nat) : Int)),(105,.int .i64 0)]) (fun _ => Hp wF [⟨st,List.replicate M.L.length (Value.int .u32 0),25⟩,⟨c,[.int .i64 t',.slice sa0 M.L.length sc0,.slice (some ⟨ib,io,none⟩) M.L.length ic0,.slice (some ⟨bb,bo,none⟩) M.L.length bc0,.slice la 0 lc,.pointer (some ⟨cM',0,none⟩)],54⟩]) (fun _ => 0) () trivial kv (fun _ h => h) ?_
  intro _ _
  have hd2 : decide ((0 : Int) < ((0 : Nat) : Int)) = false := by decide
  repeat' first | refine Wl.move rfl rfl ?_ | refine Wl.lss rfl rfl rfl ?_ | (refine Wl.addI rfl rfl rfl ?_ ?_;constructor <;> omega) | apply Wl.nil | apply St.seq | apply St.region | (apply St.condF;exact rfl;exact ka) | apply St.exit | apply Gt.next | apply Gt.thenExit | apply Gt.inNormal | apply Gt.inExit
  apply Gt.round (i + 1,wF)
  rotate_left
  ·simp only;omega
  ·repeat constructor
  ·exact fun _ h' => h'
  ·exact ⟨hlt,hF,hwF⟩
 ·obtain rfl : i = M.L.length := by omega
  have hd : decide ((M.L.length : Int) < (M.L.length : Int)) = false := decide_eq_false ky
  rw [insK_n ins' hil] at hM
  repeat' first | refine Wl.move rfl rfl ?_ | refine Wl.fieldAddrZ rfl rfl ?_ | (apply Wl.loadH;exact rfl;exact rfl;exact ke;exact rfl) | refine Wl.lss rfl rfl rfl ?_ | refine Wl.len rfl rfl ?_ | apply Wl.nil | apply St.seq | apply St.block | apply St.region | (apply St.condF;exact rfl;exact ka) | apply St.exit | apply Gt.next | apply Gt.thenExit | apply Gt.inExit
  refine St.loop (σ := Unit) (fun _ => True) (fun _ => [(8,.pointer (some ⟨I'.m,0,none⟩)),(135,.int .i64 ((0 : Nat) : Int)),(136,.int .i64 0)]) (fun _ => Hp wc [⟨st,List.replicate M.L.length (Value.int .u32 0),25⟩,⟨c,[.int .i64 t',.slice sa0 M.L.length sc0,.slice (some ⟨ib,io,none⟩) M.L.length ic0,.slice (some ⟨bb,bo,none⟩) M.L.length bc0,.slice la 0 lc,.pointer (some ⟨cM',0,none⟩)],54⟩]) (fun _ => 0) () trivial kv (fun _ h => h) ?_
  intro _ _
  have hd2 : decide ((0 : Int) < ((0 : Nat) : Int)) = false := by decide
  repeat' first | refine Wl.move rfl rfl ?_ | refine Wl.assign rfl rfl ?_ | refine Wl.lss rfl rfl rfl ?_ | apply Wl.nil | apply St.seq | apply St.region | (apply St.condF;exact rfl;exact ka) | apply St.ret | apply St.exit | apply Gt.next | apply Gt.thenExit | apply Gt.inExit | (apply Gt.out2;exact rfl;exact rfl;exact rfl;intro w' hp)
  refine ⟨{I' with sa := sa'},wiM (.slice a1 M.L.length c1) (.slice a2 M.L.length c2) L' t' ins' f' cf',rfl,hM.upd hp.upd fun b hb y => y (hof2 b hb),?_,hp.on hwc kb⟩
  rw [hpv,hev]
  rfl
end Go.Proofs.YtabbklpalbikdaaGreatDoor
end
