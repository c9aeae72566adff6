/-
 22 texts,one behind the other;each says what it proves. Conditions: as each text says.
-/
import Derived.Test.YtabbklpalbikdaaGreatDoorM07
import Derived.Test.YtabbklpalbikdaaGreatDoorM02
import Derived.Test.YtabbklpalbikdaaGreatDoorM06
import Derived.Test.YtabbklpalbikdaaGreatDoorM03
import Derived.Test.YtabbklpalbikdaaGreatDoorMOpenL
set_option maxHeartbeats 32000000
set_option linter.unusedVariables false
set_option linter.unusedSimpArgs false
section
namespace Go.Proofs.YtabbklpalbikdaaGreatDoor
open Go.RowKit Go.Pt
theorem klStr {P : Program} {d t : Nat} {s : ByteArray} (ht : P.underlying t = some .string) (hs : s.size ≤ maxLen) : P.keyLits (d + 1) t [.string s] = some [.string s.data.toList] := by
 simp [Program.keyLits,ht,hs]
theorem linFld : (match Tryz.prog.underlying 111 with
  | some (.struct fs) => fs.all fun f => (f.name != "_") && ((Nat.beq f.type 3 && Nat.beq f.offset 0) || (Nat.beq f.type 9 && Nat.beq f.offset 1))
  | _ => false) = true := by kernel_rfl
theorem klLin {x : Int × List UInt8} (hx : IntKind.i64.min ≤ x.1 ∧ x.1 ≤ IntKind.i64.max) (hs : x.2.length ≤ maxLen) : ∃ la,Tryz.prog.keyLits 8 111 (lineC x) = some la := by
 have hF := linFld
 have hci : Tryz.prog.cellsOf 3 = 1 := by kernel_rfl
 have hcs : Tryz.prog.cellsOf 9 = 1 := by kernel_rfl
 have hcp : Tryz.prog.cellsOf 111 = 2 := by kernel_rfl
 have ui : Tryz.prog.underlying 3 = some (.int .i64) := by kernel_rfl
 have us : Tryz.prog.underlying 9 = some .string := by kernel_rfl
 cases hu : Tryz.prog.underlying 111 with
 | none => rw [hu] at hF;cases hF
 | some td =>
  rw [hu] at hF
  cases td <;> try (cases hF;done)
  rename_i fs
  simp only at hF
  show ∃ la,Tryz.prog.keyLits (7 + 1) _ _ = some la
  unfold Program.keyLits
  rw [hu]
  simp only
  have hall := Array.all_eq_true'.1 hF
  have hlen : (lineC x).length = Tryz.prog.cellsOf 111 := by rw [hcp];rfl
  have hnames : (fs.all fun f => f.name != "_") = true := by
   rw [Array.all_eq_true']
   intro f hf
   have := hall f hf
   rw [Bool.and_eq_true] at this
   exact this.1
  rw [if_pos ⟨hlen,hnames⟩]
  obtain ⟨ys,hys⟩ := mapM_exS (g := fun f => Tryz.prog.keyLits 7 f.type (((lineC x).drop f.offset).take (Tryz.prog.cellsOf f.type))) (l := fs.toList) (fun f hf => by
   have := hall f (by simpa using hf)
   rw [Bool.and_eq_true,Bool.or_eq_true,Bool.and_eq_true,Bool.and_eq_true] at this
   obtain ⟨_,ho⟩ := this
   rcases ho with ⟨ht,ho⟩ | ⟨ht,ho⟩
   ·rw [Nat.eq_of_beq_eq_true ht,hci,Nat.eq_of_beq_eq_true ho]
    exact ⟨_,klInt (d := 6) ui hx⟩
   ·rw [Nat.eq_of_beq_eq_true ht,hcs,Nat.eq_of_beq_eq_true ho]
    exact ⟨_,klStr (d := 6) us (by rw [strV_size];exact hs)⟩)
  rw [hys]
  exact ⟨_,rfl⟩
theorem formLin (x : Int × List UInt8) : (Value.agg (lineC x).toArray).formed Tryz.prog 111 = true := by
 have hF := linFld
 have hcp : Tryz.prog.cellsOf 111 = 2 := by kernel_rfl
 unfold Value.formed
 cases hu : Tryz.prog.underlying 111 with
 | none => rw [hu] at hF;cases hF
 | some td =>
  rw [hu] at hF
  cases td <;> try (cases hF;done)
  simp [hcp,lineC]
section
variable {md : Md} {N : Nat} {ops : Array Oper} {rest : List Oper} {Γ : Env} {C : World → Prop} {Q : Exit → Act → World → Prop} {d : Nat} {ty : TypeId} {pos : String} {af : Array Edge} {u : TypeId} {x y : Operand}
theorem Wl.neqLin {a : Int × List UInt8} (ha : IntKind.i64.min ≤ a.1 ∧ a.1 ≤ IntKind.i64.max) (hb : a.2.length ≤ maxLen) (hd : Nat.blt d N = true) (hx : ev Γ x = some (.agg (lineC a).toArray)) (hy : ev Γ y = some (.agg (lineC a).toArray))
  (h : Wl rest Tryz.prog md ops N ((d,.bool false) :: Γ) C Q) : Wl (⟨some d,.binOp .neq 111 x y u,ty,pos,af,none⟩ :: rest) Tryz.prog md ops N Γ C Q :=
 Wl.neqSame hd hx hy kt kt (formLin a) (klLin ha hb) h
end
theorem memL_congr {f g : Nat → Int} (h : ∀ j,j < 65536 → f j = g j) : memL f 0 65536 = memL g 0 65536 := by
 unfold memL
 refine List.map_congr_left fun j hj => ?_
 rw [Nat.zero_add,h j (List.mem_range.1 hj)]
theorem hpMore {wa w w1 : World} {H : List Blk} (hq : Hp wa H w) (u : Upd (fun k => w.heap.size ≤ k) w w1) : Hp w1 H w1 := ⟨Upd.refl _ _,hq.own.upd u (fun x hx h => by have := hq.own.lt hx;omega),hq.apart⟩
theorem runsE_len : ∀ (m : Nat) (r : List UInt8),(runsE m r).length ≤ 9 * r.length
 | 0,r => by simp [runsE]
 | m + 1,r => by
  by_cases h : r = []
  ·simp [runsE,h]
  ·have h1 := run_pos h
   have h2 : zN r ≤ r.length := tw_le _ r
   have h3 : nN (r.drop (zN r)) ≤ (r.drop (zN r)).length := tw_le _ _
   have h4 := runsE_len m (r.drop (zN r + nN (r.drop (zN r))))
   rw [List.length_drop] at h3 h4
   conv => lhs;unfold runsE
   rw [if_neg h]
   simp only [List.length_append,leB_length,List.length_take,List.length_drop]
   omega
theorem rowE_len {n : Nat} {x : Sta} {s : List UInt8} {l : List (Int × List UInt8)} (hx : x.xs.length = 32) (hs : s.length ≤ 64) (hl : l.length ≤ 4) (hf : LetFit n 16 l) : (rowE x s l).length ≤ 280 := by
 have h := letsE_len (m := 16) (l := l) fun y hy => (hf y hy).2.2
 simp only [rowE,List.length_append,List.length_cons,staE_len hx,txtE_len]
 omega
theorem rowsE_len {n : Nat} : ∀ (L : List Sta) (ins : List (List UInt8)) (bx : List (List (Int × List UInt8))),(∀ x ∈ L,x.xs.length = 32) → (∀ s ∈ ins,s.length ≤ 64) → (∀ l ∈ bx,l.length ≤ 4 ∧ LetFit n 16 l) → (rowsE L ins bx).length ≤ 280 * L.length
 | [],_,_,_,_,_ => by simp [rowsE]
 | _ :: _,[],_,_,_,_ => by simp [rowsE]
 | _ :: _,_ :: _,[],_,_,_ => by simp [rowsE]
 | x :: L,s :: ins,l :: bx,h1,h2,h3 => by
  have a := rowE_len (h1 x (.head _)) (h2 s (.head _)) (h3 l (.head _)).1 (h3 l (.head _)).2
  have b := rowsE_len L ins bx (fun y hy => h1 y (.tail _ hy)) (fun y hy => h2 y (.tail _ hy)) fun y hy => h3 y (.tail _ hy)
  simp only [rowsE,List.length_append,List.length_cons]
  omega
theorem encE_len {n : Nat} {t : Int} {L : List Sta} {ins : List (List UInt8)} {bx : List (List (Int × List UInt8))} {ll : List (Int × List UInt8)} {f : Nat → Int} (h : SnFit n t L ins bx ll f) : (encE n t L ins bx ll f).length ≤ 1000000 := by
 have h1 := rowsE_len L ins bx (fun x hx => (h.hL x hx).1.1.1) h.hi.2 h.hb.2
 have h2 := letsE_len (m := 64) (l := ll) fun y hy => (h.hl.1 y hy).2.2
 have h3 := runsE_len 65536 (memL f 0 65536)
 have h4 : (memL f 0 65536).length = 65536 := by simp [memL]
 have h5 : (magL).length = 8 := rfl
 have h6 := h.hl.2.2
 have h7 := h.hn
 simp only [encE,bodyE,headE,linesE,digE,List.length_append,List.length_cons,List.length_nil,leB_length,List.length_map,List.length_range,h5]
 omega
theorem newL_fit {p : Nat → Int} {n : Nat} (hp : ∀ j,j < n → 0 ≤ p j ∧ p j < 4294967296) : ∀ x ∈ newL p n,(StaOk x ∧ StaV x) ∧ x.s = 0 := by
 intro x hx
 obtain ⟨j,hj,rfl⟩ := List.mem_map.1 hx
 exact ⟨⟨⟨xz_rg,⟨by show (0 : Int) ≤ 0;decide,by show (0 : Int) < _;decide⟩,hp j (List.mem_range.1 hj)⟩,⟨⟨by show (0 : Int) ≤ 0;decide,by show (0 : Int) ≤ 2;decide⟩,rfl,fun _ => rfl⟩⟩,rfl⟩
theorem newL_set {p : Nat → Int} {n : Nat} (hp : ∀ j,j < n → 0 ≤ p j ∧ p j < 4294967296) (hn : 1 ≤ n) : SetOk (newL p n) 0 := by
 refine ⟨fun x hx => (newL_fit hp x hx).1,⟨by decide,by rw [newL_len];omega⟩,?_,fun x _ hx => (newL_fit hp x (List.mem_of_getElem? hx)).2⟩
 have e : anyR (newL p n) = true := by
  unfold anyR
  rw [List.any_eq_true]
  refine ⟨(newL p n)[0]'(by rw [newL_len];omega),List.getElem_mem _,?_⟩
  have := (newL_fit hp _ (List.getElem_mem (l := newL p n) (n := 0) (by rw [newL_len];omega))).2
  simp [this]
 rw [e]
 rfl
theorem biasI_rng {n : Nat} (hn : n ≤ 4) : ∀ j,j < n → 0 ≤ biasI j ∧ biasI j < 4294967296 := fun j hj => by unfold biasI;omega
theorem bxs_nil (n : Nat) : bxs (fun _ => []) n = List.replicate n [] := by
 refine List.ext_getElem? fun q => ?_
 by_cases h : q < n
 ·simp [bxs,h]
 ·simp [bxs,h,Nat.not_lt.1 h]
theorem getD_rep (n j : Nat) : (List.replicate n ([] : List (Int × List UInt8))).getD j [] = [] := by
 rw [List.getD_eq_getElem?_getD,List.getElem?_replicate]
 split <;> rfl
theorem first_fit {n : Nat} (hn : 1 ≤ n ∧ n ≤ 4) {ll : List (Int × List UInt8)} (h1 : LetFit n 64 ll) (h2 : usedN ll ≤ 256) (h3 : ll.length ≤ 1000) {f : Nat → Int} (hf : FB f) : SnFit n 0 (newL biasI n) (List.replicate n []) (bxs (fun _ => []) n) ll f where
 hn := ⟨newL_len _ _,by omega⟩
 ht := .inr ⟨by decide,by decide⟩
 hL := fun x hx => by
  obtain ⟨⟨q1,_⟩,q2⟩ := newL_fit (biasI_rng hn.2) x hx
  exact ⟨q1,by rw [q2];decide,by rw [q2];decide⟩
 hi := ⟨by simp,fun s hs => by rw [List.eq_of_mem_replicate hs];decide⟩
 hb := by
  rw [bxs_nil]
  exact ⟨by simp,fun l hl => by rw [List.eq_of_mem_replicate hl];exact ⟨by decide,fun x hx => by cases hx⟩⟩
 hl := ⟨h1,h2,h3⟩
 hf := hf
theorem MonS.cong {w : World} {base : Nat} {I : Mi} {M : Mv2} (h : MonS w base I M) {g : Nat → Int} (hg : ∀ j,j < 65536 → g j = M.f j) : MonS w base I {M with f := g} := by
 have e : memH w I.cM g := by
  have h1 := h.mem
  unfold memH at h1 ⊢
  rw [memC_congr hg]
  exact h1
 exact { h with mem := e }
def cutF (f : Nat → Int) : Nat → Int := fun j => if j < 65536 then f j else 0
theorem cutF_at (f : Nat → Int) : ∀ j,j < 65536 → cutF f j = f j := fun j h => if_pos h
theorem cutF_FB {f g : Nat → Int} (h : FB f) (e : ∀ j,j < 65536 → g j = f j) : FB (cutF g) := fun j => by
 unfold cutF
 split
 ·rename_i hj
  rw [e j hj]
  exact h j
 ·exact ⟨by decide,by decide⟩
theorem LetFit.snoc {n m : Nat} {l : List (Int × List UInt8)} {x : Int × List UInt8} (h : LetFit n m l) (hx : (0 ≤ x.1 ∧ x.1 < n) ∧ x.2 ≠ [] ∧ x.2.length ≤ m) : LetFit n m (l ++ [x]) := fun y hy => by
 rcases List.mem_append.1 hy with hy | hy
 ·exact h y hy
 ·rw [List.mem_singleton.1 hy];exact hx
theorem boxC_fit {n : Nat} : ∀ (k : Nat) (b : List (Int × List UInt8)) (c : Cu) (r : List (Int × List UInt8) × Cu),boxC n k b c = some r → LetFit n 16 b → r.1.length = b.length + k ∧ LetFit n 16 r.1
 | 0,b,c,r,h,hb => by
  cases h
  exact ⟨rfl,hb⟩
 | k + 1,b,c,r,h,hb => by
  unfold boxC at h
  split at h
  ·rename_i hc
   obtain ⟨h1,h2⟩ := boxC_fit k _ _ r h (hb.snoc ⟨⟨by simp only;omega,by simp only;omega⟩,hc.2.2,getC_len _ _⟩)
   exact ⟨by rw [h1,List.length_append,List.length_singleton];omega,h2⟩
  ·cases h
theorem rg_regs (c : Cu) : Rg (regV (regsC c 32).1) := by
 have hall : ∀ (k : Nat),∀ x ∈ (regsC c k).1,x < 4294967296 := by
  intro k
  induction k with
  | zero => intro x hx;cases hx
  | succ k ih =>
   intro x hx
   unfold regsC at hx
   rcases List.mem_append.1 hx with hx | hx
   ·exact ih x hx
   ·rw [List.mem_singleton.1 hx]
    have := Cu.u_lt (regsC c k).2 4 ku
    omega
 refine ⟨by unfold regV;rw [List.length_map,regsC_len],fun i hi => ?_⟩
 have hl : i < (regsC c 32).1.length := by rw [regsC_len];exact hi
 refine ⟨((regsC c 32).1[i] : Nat),?_,by omega,?_⟩
 ·unfold regV
  rw [List.getElem?_map,List.getElem?_eq_getElem hl]
  rfl
 ·have := hall 32 _ (List.getElem_mem hl)
  omega
attribute [local irreducible] regsC
theorem staC_fit (c : Cu) : StaFit (staC c) := by
 have h1 := Cu.u_lt c 1 ku
 have h2 := Cu.u_lt (cuA c) 4 ku
 have h3 := Cu.u_lt (cuB c) 4 ku
 have hr : Rg (staC c).xs := rg_regs (cuC c)
 have hs : (staC c).s = ((c.u 1).1 : Int) := rfl
 have hc : (staC c).c = (((cuA c).u 4).1 : Int) := rfl
 have hp : (staC c).p = (((cuB c).u 4).1 : Int) := rfl
 refine ⟨⟨hr,?_,?_⟩,?_⟩
 ·rw [hc];omega
 ·rw [hp];omega
 ·rw [hs];omega
theorem rowC_fit {n : Nat} {c : Cu} {r : (Sta × List UInt8 × List (Int × List UInt8)) × Cu} (h : rowC n c = some r) : StaFit r.1.1 ∧ r.1.2.1.length ≤ 64 ∧ r.1.2.2.length ≤ 4 ∧ LetFit n 16 r.1.2.2 := by
 unfold rowC at h
 split at h
 ·rename_i hc
  split at h
  ·rename_i x hx
   cases h
   obtain ⟨h1,h2⟩ := boxC_fit _ _ _ x hx (fun _ h => by cases h)
   refine ⟨staC_fit _,getC_len _ _,?_,h2⟩
   simp only
   rw [h1]
   have := hc.2
   simp
   exact this
  ·cases h
 ·cases h
structure RwsFit (n m : Nat) (r : Rws) : Prop where
 L : r.L.length = m ∧ ∀ x ∈ r.L,StaFit x
 i : r.ins.length = m ∧ ∀ s ∈ r.ins,s.length ≤ 64
 b : r.bx.length = m ∧ ∀ l ∈ r.bx,l.length ≤ 4 ∧ LetFit n 16 l
theorem rowsC_fit {n : Nat} : ∀ (k m : Nat) (r : Rws) (c : Cu) (x : Rws × Cu),rowsC n k r c = some x → RwsFit n m r → RwsFit n (m + k) x.1
 | 0,m,r,c,x,h,hr => by
  cases h
  exact hr
 | k + 1,m,r,c,x,h,hr => by
  cases hy : rowC n c with
  | none => rw [rowsC_no hy] at h;cases h
  | some y =>
   rw [rowsC_so hy] at h
   obtain ⟨f1,f2,f3,f4⟩ := rowC_fit hy
   have := rowsC_fit k (m + 1) _ _ x h ⟨⟨by simp [hr.L.1],fun z hz => by
     rcases List.mem_append.1 hz with hz | hz
     ·exact hr.L.2 z hz
     ·rw [List.mem_singleton.1 hz];exact f1⟩,⟨by simp [hr.i.1],fun z hz => by
     rcases List.mem_append.1 hz with hz | hz
     ·exact hr.i.2 z hz
     ·rw [List.mem_singleton.1 hz];exact f2⟩,⟨by simp [hr.b.1],fun z hz => by
     rcases List.mem_append.1 hz with hz | hz
     ·exact hr.b.2 z hz
     ·rw [List.mem_singleton.1 hz];exact ⟨f3,f4⟩⟩⟩
   rw [show m + (k + 1) = m + 1 + k by omega]
   exact this
theorem usedN_snoc : ∀ (l : List (Int × List UInt8)) (x : Int × List UInt8),usedN (l ++ [x]) = usedN l + x.2.length
 | [],x => by simp [usedN]
 | y :: l,x => by simp only [List.cons_append,usedN,usedN_snoc l x];omega
theorem linC_fit {n : Nat} : ∀ (k u : Nat) (l : List (Int × List UInt8)) (c : Cu) (r : List (Int × List UInt8) × Cu),linC n k u l c = some r → LetFit n 64 l → usedN l = u → u ≤ 256 → LetFit n 64 r.1 ∧ usedN r.1 ≤ 256
 | 0,u,l,c,r,h,hl,hu,h256 => by
  cases h
  exact ⟨hl,by show usedN l ≤ 256;omega⟩
 | k + 1,u,l,c,r,h,hl,hu,h256 => by
  unfold linC at h
  split at h
  ·rename_i hc
   refine linC_fit k _ _ _ r h (hl.snoc ⟨⟨by simp only;omega,by simp only;omega⟩,hc.2.2.1,getC_len _ _⟩) ?_ hc.2.2.2
   rw [usedN_snoc,hu]
  ·cases h
theorem used_len {n m : Nat} : ∀ {l : List (Int × List UInt8)},LetFit n m l → l.length ≤ usedN l
 | [],_ => Nat.le_refl _
 | x :: l,h => by
  have h1 := used_len (l := l) fun y hy => h y (.tail _ hy)
  have h2 := List.length_pos_iff.2 (h x (.head _)).2.1
  simp only [List.length_cons,usedN]
  omega
theorem unpC_FB : ∀ (m at_ : Nat) (f : Nat → Int) (c : Cu) (r : (Nat → Int) × Cu),unpC m at_ f c = some r → FB f → FB r.1
 | 0,at_,f,c,r,h,hf => by
  unfold unpC at h
  split at h
  ·cases h
  ·cases h;exact hf
 | m + 1,at_,f,c,r,h,hf => by
  unfold unpC at h
  split at h
  ·split at h
   ·split at h
    ·exact unpC_FB m _ _ _ r h (putF_FB hf _ _)
    ·cases h
   ·cases h
  ·cases h;exact hf
theorem stateC_fit {n : Nat} {c : Cu} {S : SnD} (hn : n ≤ 255) (h : stateC n c = some S) : SnFit n S.t S.r.L S.r.ins S.r.bx S.ll S.f ∧ S.r.bx.length = n := by
 unfold stateC at h
 split at h
 ·split at h
  ·cases h
  ·rename_i x hx
   have hr := rowsC_fit n 0 ⟨[],[],[]⟩ _ x hx ⟨⟨rfl,fun _ h => by cases h⟩,⟨rfl,fun _ h => by cases h⟩,⟨rfl,fun _ h => by cases h⟩⟩
   rw [Nat.zero_add] at hr
   unfold tailC at h
   split at h
   ·cases h
   ·rename_i y hy
    split at h
    ·cases h
    ·rename_i z hz
     split at h
     ·cases h
      obtain ⟨l1,l2⟩ := linC_fit _ _ _ _ y hy (fun _ h => by cases h) rfl ku
      have l3 := used_len l1
      have h1 := Cu.u_lt ((c.u 1).2) 1 ku
      refine ⟨⟨⟨hr.L.1,hn⟩,?_,hr.L.2,hr.i,hr.b,⟨l1,l2,by show y.1.length ≤ 1000;omega⟩,unpC_FB _ _ _ _ z hz (fun _ => ⟨by decide,by decide⟩)⟩,hr.b.1⟩
      show turnC ((c.u 1).2.u 1).1 = -1 ∨ (0 ≤ turnC ((c.u 1).2.u 1).1 ∧ turnC ((c.u 1).2.u 1).1 < 255)
      unfold turnC
      split
      ·exact .inl rfl
      ·exact .inr ⟨by omega,by omega⟩
     ·cases h
 ·cases h
theorem decC_state {n : Nat} {l : List UInt8} {S : SnD} (h : decC n l = some S) : ∃ c,stateC n c = some S := by
 unfold decC at h
 split at h
 ·cases h
 ·split at h
  ·cases h
  ·split at h
   ·cases h
   ·exact ⟨_,h⟩
end Go.Proofs.YtabbklpalbikdaaGreatDoor
end
section
namespace Go.Proofs.YtabbklpalbikdaaGreatDoor
open Go.RowKit Go.Pt
theorem letFld : (match Tryz.prog.underlying 78 with
  | some (.struct fs) => fs.all fun f => (f.name != "_") && ((Nat.beq f.type 3 && Nat.beq f.offset 0) || (Nat.beq f.type 9 && Nat.beq f.offset 1))
  | _ => false) = true := by kernel_rfl
theorem klLet {x : Int × List UInt8} (hx : IntKind.i64.min ≤ x.1 ∧ x.1 ≤ IntKind.i64.max) (hs : x.2.length ≤ maxLen) : ∃ la,Tryz.prog.keyLits 8 78 (lineC x) = some la := by
 have hF := letFld
 have hci : Tryz.prog.cellsOf 3 = 1 := by kernel_rfl
 have hcs : Tryz.prog.cellsOf 9 = 1 := by kernel_rfl
 have hcp : Tryz.prog.cellsOf 78 = 2 := by kernel_rfl
 have ui : Tryz.prog.underlying 3 = some (.int .i64) := by kernel_rfl
 have us : Tryz.prog.underlying 9 = some .string := by kernel_rfl
 cases hu : Tryz.prog.underlying 78 with
 | none => rw [hu] at hF;cases hF
 | some td =>
  rw [hu] at hF
  cases td <;> try (cases hF;done)
  rename_i fs
  simp only at hF
  show ∃ la,Tryz.prog.keyLits (7 + 1) _ _ = some la
  unfold Program.keyLits
  rw [hu]
  simp only
  have hall := Array.all_eq_true'.1 hF
  have hlen : (lineC x).length = Tryz.prog.cellsOf 78 := by rw [hcp];rfl
  have hnames : (fs.all fun f => f.name != "_") = true := by
   rw [Array.all_eq_true']
   intro f hf
   have := hall f hf
   rw [Bool.and_eq_true] at this
   exact this.1
  rw [if_pos ⟨hlen,hnames⟩]
  obtain ⟨ys,hys⟩ := mapM_exS (g := fun f => Tryz.prog.keyLits 7 f.type (((lineC x).drop f.offset).take (Tryz.prog.cellsOf f.type))) (l := fs.toList) (fun f hf => by
   have := hall f (by simpa using hf)
   rw [Bool.and_eq_true,Bool.or_eq_true,Bool.and_eq_true,Bool.and_eq_true] at this
   obtain ⟨_,ho⟩ := this
   rcases ho with ⟨ht,ho⟩ | ⟨ht,ho⟩
   ·rw [Nat.eq_of_beq_eq_true ht,hci,Nat.eq_of_beq_eq_true ho]
    exact ⟨_,klInt (d := 6) ui hx⟩
   ·rw [Nat.eq_of_beq_eq_true ht,hcs,Nat.eq_of_beq_eq_true ho]
    exact ⟨_,klStr (d := 6) us (by rw [strV_size];exact hs)⟩)
  rw [hys]
  exact ⟨_,rfl⟩
theorem formLet (x : Int × List UInt8) : (Value.agg (lineC x).toArray).formed Tryz.prog 78 = true := by
 have hF := letFld
 have hcp : Tryz.prog.cellsOf 78 = 2 := by kernel_rfl
 unfold Value.formed
 cases hu : Tryz.prog.underlying 78 with
 | none => rw [hu] at hF;cases hF
 | some td =>
  rw [hu] at hF
  cases td <;> try (cases hF;done)
  simp [hcp,lineC]
section
variable {md : Md} {N : Nat} {ops : Array Oper} {rest : List Oper} {Γ : Env} {C : World → Prop} {Q : Exit → Act → World → Prop} {d : Nat} {ty : TypeId} {pos : String} {af : Array Edge} {u : TypeId} {x y : Operand}
theorem Wl.neqLet {a : Int × List UInt8} (ha : IntKind.i64.min ≤ a.1 ∧ a.1 ≤ IntKind.i64.max) (hb : a.2.length ≤ maxLen) (hd : Nat.blt d N = true) (hx : ev Γ x = some (.agg (lineC a).toArray)) (hy : ev Γ y = some (.agg (lineC a).toArray))
  (h : Wl rest Tryz.prog md ops N ((d,.bool false) :: Γ) C Q) : Wl (⟨some d,.binOp .neq 78 x y u,ty,pos,af,none⟩ :: rest) Tryz.prog md ops N Γ C Q :=
 Wl.neqSame hd hx hy kt kt (formLet a) (klLet ha hb) h
end
theorem sSameL (ls : Nat → List (Int × List UInt8)) (b1 b2 : Nat) (I1 I2 : Mi) (M1 M2 : Mv2) (w : World) (h1 : MonS w b1 I1 M1) (h2 : MonS w b2 I2 M2) (hb1 : b1 ≤ w.heap.size) (hb2 : b2 ≤ w.heap.size) (hx1 : ∀ i,i < M1.L.length → M1.bx i = (ls i).map letV ∧ (ls i).length ≤ 4) (hx2 : ∀ i,i < M2.L.length → M2.bx i = (ls i).map letV ∧ (ls i).length ≤ 4) (hxr : ∀ i,i < M1.L.length → ∀ x ∈ ls i,x.2.length ≤ 64 ∧ 0 ≤ x.1 ∧ x.1 < 256) (hap : ∀ k,MonF I1 M1 k → k < b2) (hL : M2.L = M1.L) (ht : turnV M2.t = turnV M1.t) (hi : M2.ins = M1.ins) (hll : M2.ll = M1.ll) (hf : ∀ j,j < 65536 → M2.f j = M1.f j) (hF1 : FB M1.f) (hF2 : FB M2.f) (hln : M1.ll.length ≤ 1000) (hn16 : M1.L.length ≤ 16) (hsr : ∀ x ∈ M1.L,0 ≤ x.s ∧ x.s < 256) (hlr : ∀ x ∈ M1.ll,x.2.length ≤ 64 ∧ 0 ≤ x.1 ∧ x.1 < 256) :
  Calls Tryz.prog 48 #[.pointer (some ⟨I1.m,0,none⟩),.pointer (some ⟨I2.m,0,none⟩)] w fun e w' => e = .returned (.bool true) ∧ Upd (fun k => Zc I1 ls k ∨ Zc I2 ls k ∨ w.heap.size ≤ k) w w' ∧ MonS w' b1 I1 M1 ∧ MonS w' b2 I2 M2 := by
 have hz1 : ∀ k,Zc I1 ls k → MonF I1 M1 k := fun k h => .inr (.inr (.inr (.inr (.inr (.inr (.inr (.inr (.inr (.inr (.inl h.mem))))))))))
 have hz2 : ∀ k,Zc I2 ls k → MonF I2 M2 k := fun k h => .inr (.inr (.inr (.inr (.inr (.inr (.inr (.inr (.inr (.inr (.inl h.mem))))))))))
 have hl1 := fun k h => (h1.lt k h)
 have hl2 := fun k h => (h2.lt k h)
 have hok := h1.ward.2.1
 refine enter (args := [_,_]) (Γ := [(0,_),(1,_)]) Tryz.func48 Tryz.ntmps48 rfl odq (.cons rfl (.cons rfl .nil)) ?_
 repeat' first | refine Wl.move rfl rfl ?_ | refine Wl.assign rfl rfl ?_ | apply Wl.nil | apply St.seq | apply St.region | apply Gt.next
 apply Wl.callC
 ·exact rfl
 ·exact kd
 intro wq hq
 have zq := hq.upd.size
 refine (mStateL b1 I1 M1 ls wq (h1.upd hq.upd fun _ _ y => y trivial) kc (fun i hi => hx1 i hi) hln).mono ?_
 rintro e w1 ⟨sv,iv,bv,lv,cM,vs,rfl,hT,hcM,hA1,u1'⟩
 have u1 : Upd (fun k => Zc I1 ls k ∨ w.heap.size ≤ k) w w1 := Upd.comp (S := fun k => Zc I1 ls k ∨ w.heap.size ≤ k) (hq.upd.mono fun _ _ y => (y trivial).elim) u1' fun k _ h => h.elim id fun h => h.imp id fun h => by omega
 have hB1 : MonS w1 b2 I2 M2 := h2.upd u1 fun k hk h => h.elim (fun h => by have := hap k (hz1 k h);have := hl2 k hk;omega) fun h => by have := hl2 k hk;omega
 have z1 := u1'.size
 obtain ⟨aS,cs,rfl⟩ := svShape (Sv.ofOwn hT.s)
 obtain ⟨ai,ci,rfl⟩ := svShape (Sv.ofOwn hT.i)
 obtain ⟨ab,cb,rfl⟩ := svShape (Sv.ofOwn hT.b)
 obtain ⟨al,cl,rfl⟩ := svShape (Sv.ofOwn hT.l)
 clear hq
 refine ⟨_,_,rfl,Hp.start w1,?_⟩
 repeat' first | refine Wl.move rfl rfl ?_
 apply Wl.callC
 ·exact rfl
 ·exact kd
 intro wq hq
 have zq2 := hq.upd.size
 refine (mStateL b2 I2 M2 ls wq (hB1.upd hq.upd fun _ _ y => y trivial) kc (fun i hi => hx2 i hi) (by rw [hll];exact hln)).mono ?_
 rintro e w2 ⟨sv,iv,bv,lv,cM2,vs2,rfl,hT2,hcM2,hB2m,u2'⟩
 have u2 : Upd (fun k => Zc I2 ls k ∨ w1.heap.size ≤ k) w1 w2 := Upd.comp (S := fun k => Zc I2 ls k ∨ w1.heap.size ≤ k) (hq.upd.mono fun _ _ y => (y trivial).elim) u2' fun k _ h => h.elim id fun h => h.imp id fun h => by omega
 have hA2m : MonS w2 b1 I1 M1 := hA1.upd u2 fun k hk h => h.elim (fun h => by have := hap k hk;have := (hl2 k (hz2 k h)).1;omega) fun h => by have := (hA1.lt k hk).2;omega
 have z2 := u2'.size
 obtain ⟨aS2,cs2,rfl⟩ := svShape (Sv.ofOwn hT2.s)
 obtain ⟨ai2,ci2,rfl⟩ := svShape (Sv.ofOwn hT2.i)
 obtain ⟨ab2,cb2,rfl⟩ := svShape (Sv.ofOwn hT2.b)
 obtain ⟨al2,cl2,rfl⟩ := svShape (Sv.ofOwn hT2.l)
 have s2 := hT2.s
 have i2 := hT2.i
 have e2 := hT2.b
 have bl2 := hT2.bl
 have l2 := hT2.l
 have m2 := hT2.m
 rw [hL] at s2 i2 e2 bl2
 rw [hi] at i2
 rw [hll] at l2
 clear hq
 refine ⟨_,_,rfl,Hp.start w2,?_⟩
 rw [hL,hll,ht]
 repeat' first | refine Wl.fieldAddrZ rfl rfl ?_ | (apply Wl.loadH;exact rfl;exact rfl;exact kd;exact rfl) | (apply Wl.storeA;exact rfl;exact rfl;exact rfl;exact rfl;exact kd;exact kn) | (apply Wl.alloc;exact rfl;intro c hc ho) | apply Wl.nil | apply St.seq | apply St.region | apply Gt.next
 apply Wl.callC
 ·exact rfl
 ·exact kd
 intro wq hq
 rename_i c5 hc5 ho5
 generalize c = c6 at *
 have hc6 : w2.heap.size ≤ c6 := by assumption
 have k56 : ∀ {x1 t1 x2 t2} (k : Nat),¬ Off [(⟨c6,x1,t1⟩ : Blk),⟨c5,x2,t2⟩] k → k = c6 ∨ k = c5 := fun k y => by
  have := in_off y
  simpa only [List.map_cons,List.map_nil,List.mem_cons,List.not_mem_nil,or_false] using this
 have lq6 : c6 < wq.heap.size := lt_of_block (own_c hq.own (.head _))
 have lq5 : c5 < wq.heap.size := lt_of_block (own_c hq.own (.tail _ (.head _)))
 have uq : Upd (fun k => w2.heap.size ≤ k) w2 wq := hq.upd.mono fun k _ y => by have := k56 k y;omega
 have zw2 := uq.size
 have lcM := lt_of_block hT.m
 have lcM2 := lt_of_block m2
 have mq : memH wq cM M1.f := (uq.heap (u2.heap hT.m fun h => h.elim (fun h => by have := (hl2 _ (hz2 _ h)).2;omega) fun h => by omega) fun h => by omega)
 refine (mgetX cM M1.f (2147483648) 65536 wq mq hF1 ⟨by omega,by omega⟩ ⟨by omega,by omega⟩ (by unfold inM;omega)).mono ?_
 rintro e w3 ⟨v1,rfl,hB1,hv1,um1⟩
 have hH := hpMore hq um1
 have z3 := um1.size
 have U3 : Upd (fun k => w2.heap.size ≤ k) w2 w3 := uq.comp um1 fun k _ h => h.elim id fun h => by omega
 refine ⟨_,_,rfl,hH,?_⟩
 clear hq hH
 repeat' first | refine Wl.move rfl rfl ?_ | refine Wl.assign rfl rfl ?_ | refine Wl.extract rfl rfl rfl ?_ | refine Wl.fieldAddrZ rfl rfl ?_ | (apply Wl.loadH;exact rfl;exact rfl;exact kd;exact rfl) | apply Wl.nil | apply St.seq | apply St.region | apply Gt.next
 apply Wl.callC
 ·exact rfl
 ·exact kd
 intro wq3 hq
 have uq3 : Upd (fun k => k = c6 ∨ k = c5) w3 wq3 := hq.upd.mono fun k _ y => k56 k y
 have zw3 := uq3.size
 have mq3 : memH wq3 cM2 M2.f := uq3.heap (U3.heap m2 fun h => by omega) fun h => by omega
 refine (mgetX cM2 M2.f (2147483648) 65536 wq3 mq3 hF2 ⟨by omega,by omega⟩ ⟨by omega,by omega⟩ (by unfold inM;omega)).mono ?_
 rintro e w4 ⟨v2,rfl,hB2,hv2,um2⟩
 have em1 : memL M1.f ((2147483648 : Int) - 2147483648).toNat (65536 : Int).toNat = memL M1.f 0 65536 := rfl
 have em2 : memL M2.f ((2147483648 : Int) - 2147483648).toNat (65536 : Int).toNat = memL M1.f 0 65536 := memL_congr hf
 rw [em1] at hB1
 rw [em2] at hB2
 generalize memL M1.f 0 65536 = r0 at *
 have hH := hpMore hq um2
 have z4 := um2.size
 have hB1' : Bs w4 v1 r0 := (hB1.upd uq3 fun k hk _ _ h => by have := hv1 k hk;omega).upd um2 fun k hk hlt _ h => by omega
 have U4 : Upd (fun k => w2.heap.size ≤ k) w2 w4 := (U3.comp uq3 (T := fun k => w2.heap.size ≤ k) fun k _ h => h.elim id fun h => by omega).comp um2 fun k _ h => h.elim id fun h => by omega
 refine ⟨_,_,rfl,hH,?_⟩
 clear hq hH
 have d1 : decide (turnV M1.t ≠ turnV M1.t) = false := by simp
 have d2 : decide ((M1.L.length : Int) ≠ (M1.L.length : Int)) = false := by simp
 have d3 : decide ((M1.ll.length : Int) ≠ (M1.ll.length : Int)) = false := by simp
 have d4 : decide (r0 ≠ r0) = false := by simp
 repeat' first | (apply Wl.convBS (y := v1) (l := r0);exact rfl;exact rfl;(intro w' h';exact hB1'.upd h'.upd fun k hk _ _ y => by have := k56 k y;have := hv1 k hk;omega)) | (apply Wl.convBS (y := v2) (l := r0);exact rfl;exact rfl;(intro w' h';exact hB2.upd h'.upd fun k hk _ _ y => by have := k56 k y;have := hv2 k hk;omega)) | refine Wl.move rfl rfl ?_ | refine Wl.assign rfl rfl ?_ | (apply Wl.on;exact rfl;exact rfl;exact k5) | refine Wl.extract rfl rfl rfl ?_ | (apply Wl.pickF;exact rfl;exact rfl;exact k5;exact rfl) | refine Wl.fieldAddr0 rfl rfl ?_ | refine Wl.fieldAddrZ rfl rfl ?_ | (apply Wl.loadH;exact rfl;exact rfl;exact kd;exact rfl) | (apply Wl.neqIs;exact rfl;exact rfl;exact rfl;exact kx) | refine Wl.neqSB rfl rfl rfl ?_ | refine Wl.len rfl rfl ?_ | apply Wl.nil | apply St.seq | apply St.block | apply St.region | (apply St.condF;exact rfl;exact k5) | apply St.skip | apply Gt.next
 have hLn : M1.L ≠ [] := fun h => by have := h1.ward.2.2;rw [h] at this;simp at this
 have hlen := h1.len
 have nS : (stas M1.L).flatten ≠ [] := fun h => by
  have q1 : ((stas M1.L).flatten).length = 0 := by rw [h];rfl
  obtain ⟨x,r,e⟩ := List.exists_cons_of_ne_nil hLn
  rw [e] at q1
  simp [stas,Sta.cells] at q1
 have nI : M1.ins.map strV ≠ [] := fun h => by
  have q1 : (M1.ins.map strV).length = 0 := by rw [h];rfl
  obtain ⟨x,r,e⟩ := List.exists_cons_of_ne_nil hLn
  have := hlen.2
  rw [e] at this
  simp at q1
  rw [q1] at this
  simp at this
 have nB : ∀ {l : List Value},l.length = M1.L.length → l ≠ [] := fun hl h => by
  obtain ⟨x,r,e⟩ := List.exists_cons_of_ne_nil hLn
  rw [h,e] at hl
  simp at hl
 obtain ⟨gs,os,rfl,hgs,hsta⟩ := svCells (Sv.ofOwn hT.s) nS
 obtain ⟨gi,oi,rfl,hgi,hinp⟩ := svCells (Sv.ofOwn hT.i) nI
 obtain ⟨gb,ob,rfl,hgb,hbox⟩ := svCells (Sv.ofOwn hT.b) (nB hT.bl.1)
 obtain ⟨gs2,os2,rfl,hgs2,hsta2⟩ := svCells (Sv.ofOwn s2) nS
 obtain ⟨gi2,oi2,rfl,hgi2,hinp2⟩ := svCells (Sv.ofOwn i2) nI
 obtain ⟨gb2,ob2,rfl,hgb2,hbox2⟩ := svCells (Sv.ofOwn e2) (nB bl2.1)
 have V4 : Upd (fun k => k < w.heap.size ∨ w1.heap.size ≤ k) w1 w4 := u2.comp U4 fun k _ h => h.elim (fun h => h.elim (fun h => .inl (hl2 _ (hz2 _ h)).2) .inr) fun h => .inr kc
 have gsl := (hT.s.ge gs rfl).1
 have gil := (hT.i.ge gi rfl).1
 have gbl := (hT.b.ge gb rfl).1
 refine St.loop (σ := Nat) (fun k => k ≤ M1.L.length) (fun k => [(4,.bool false),(5,.pointer (some ⟨c5,0,none⟩)),(6,.pointer (some ⟨c6,0,none⟩)),(62,.int .i64 (M1.L.length : Int)),(63,.int .i64 (k : Int))]) (fun _ => Hp w4 [⟨c6,[.int .i64 (turnV M1.t),.slice (some ⟨gs2,os2,none⟩) M1.L.length cs2,.slice (some ⟨gi2,oi2,none⟩) M1.L.length ci2,.slice (some ⟨gb2,ob2,none⟩) M1.L.length cb2,.slice al2 M1.ll.length cl2,.pointer (some ⟨cM2,0,none⟩)],54⟩,⟨c5,[.int .i64 (turnV M1.t),.slice (some ⟨gs,os,none⟩) M1.L.length cs,.slice (some ⟨gi,oi,none⟩) M1.L.length ci,.slice (some ⟨gb,ob,none⟩) M1.L.length cb,.slice al M1.ll.length cl,.pointer (some ⟨cM,0,none⟩)],54⟩]) (fun k => M1.L.length - k) 0 (Nat.zero_le _) kq (fun _ h => h) ?_
 rintro k hk
 try simp only at hk ⊢
 by_cases hlt : k < M1.L.length
 ·have hdk : decide ((k : Int) < (M1.L.length : Int)) = true := decide_eq_true kc
  obtain ⟨x,hx⟩ : ∃ x,M1.L[k]? = some x := ⟨_,List.getElem?_eq_getElem hlt⟩
  obtain ⟨s,hs'⟩ : ∃ s,M1.ins[k]? = some s := ⟨_,List.getElem?_eq_getElem (by have := hlen.2;omega)⟩
  have hxo := hok x (List.mem_of_getElem? hx)
  have hxs : IntKind.i64.min ≤ x.s ∧ x.s ≤ IntKind.i64.max := by have := hsr x (List.mem_of_getElem? hx);constructor <;> simp [IntKind.min,IntKind.max,IntKind.bits,IntKind.signed] <;> omega
  obtain ⟨vk,ek,rk⟩ := hT.bl.2 k hlt
  obtain ⟨vk2,ek2,rk2⟩ := bl2.2 k hlt
  obtain ⟨ak,ck,rfl⟩ := svShape (Sv.ofOwn rk)
  obtain ⟨ak2,ck2,rfl⟩ := svShape (Sv.ofOwn rk2)
  have hat : ∀ q u,x.cells[q]? = some u → w4.cell? (Addr.add ⟨gs,os + (k : Int).toNat * 35,none⟩ q) = some u := fun q u hq => by
   have hq35 : q < 35 := by have := (List.getElem?_eq_some_iff.1 hq).1;rw [hxo.len] at this;exact this
   rw [addLit,Int.toNat_natCast,Nat.add_assoc]
   exact V4.cell (hsta (k * 35 + q) u qw) ky
  have hat2 : ∀ q u,x.cells[q]? = some u → w4.cell? (Addr.add ⟨gs2,os2 + (k : Int).toNat * 35,none⟩ q) = some u := fun q u hq => by
   have hq35 : q < 35 := by have := (List.getElem?_eq_some_iff.1 hq).1;rw [hxo.len] at this;exact this
   rw [addLit,Int.toNat_natCast,Nat.add_assoc]
   exact U4.cell (hsta2 (k * 35 + q) u qw) ky
  have hik : w4.cell? ⟨gi,oi + (k : Int).toNat,none⟩ = some (strV s) := V4.cell (by rw [Int.toNat_natCast];exact hinp k _ (by rw [List.getElem?_map,hs'];rfl)) ky
  have hik2 : w4.cell? ⟨gi2,oi2 + (k : Int).toNat,none⟩ = some (strV s) := U4.cell (by rw [Int.toNat_natCast];exact hinp2 k _ (by rw [List.getElem?_map,hs'];rfl)) ky
  have hbk : w4.cell? ⟨gb,ob + (k : Int).toNat,none⟩ = some (.slice ak (ls k).length ck) := V4.cell (by rw [Int.toNat_natCast];exact hbox k _ ek) ky
  have hbk2 : w4.cell? ⟨gb2,ob2 + (k : Int).toNat,none⟩ = some (.slice ak2 (ls k).length ck2) := U4.cell (by rw [Int.toNat_natCast];exact hbox2 k _ ek2) ky
  have ds : decide (s ≠ s) = false := by simp
  have d0 : decide (((ls k).length : Int) ≠ ((ls k).length : Int)) = false := by simp
  repeat' first | (apply Wl.loadAF (xs := x.cells);exact rfl;exact rfl;exact hxo.len;(intro w' h' q u hq';first | exact h'.old (hat q u hq') qg | exact h'.old (hat2 q u hq') qg)) | (apply Wl.neqSta hxo hxs;exact rfl;exact rfl;exact rfl) | (apply Wl.loadO;exact rfl;exact rfl;(first | exact hik | exact hik2 | exact hbk | exact hbk2);exact off_in zi) | refine Wl.move rfl rfl ?_ | refine Wl.assign rfl rfl ?_ | (apply Wl.on;exact rfl;exact rfl;exact k5) | (apply Wl.pickF;exact rfl;exact rfl;exact k5;exact rfl) | refine Wl.fieldAddrZ rfl rfl ?_ | (apply Wl.loadH;exact rfl;exact rfl;exact kd;exact rfl) | (apply Wl.neqIs;exact rfl;exact rfl;exact rfl;exact kx) | refine Wl.lss rfl rfl rfl ?_ | refine Wl.neqSB rfl rfl rfl ?_ | refine Wl.len rfl rfl ?_ | (refine Wl.indexAddr1 rfl rfl rfl ?_ ?_;constructor <;> omega) | (refine Wl.indexAddr rfl rfl rfl ?_ ?_;constructor <;> omega) | apply Wl.nil | apply Wl.nilQ | apply St.seq | apply St.block | apply St.region | (apply St.draw;exact mixed;(kernel_rfl);exact (fun _ h => Hp.drew h)) | (apply St.condT;exact rfl;exact k5) | (apply St.condF;exact rfl;exact k5) | apply St.skip | apply Gt.next
  have hl4 := (hx1 k hlt).2
  refine St.loop (σ := Nat) (fun i => i ≤ (ls k).length) (fun i => [(4,.bool false),(5,.pointer (some ⟨c5,0,none⟩)),(6,.pointer (some ⟨c6,0,none⟩)),(11,.int .i64 (k : Int)),(62,.int .i64 (M1.L.length : Int)),(63,.int .i64 (k : Int)),(110,.int .i64 ((ls k).length : Int)),(111,.int .i64 (i : Int))]) (fun _ => Hp w4 [⟨c6,[.int .i64 (turnV M1.t),.slice (some ⟨gs2,os2,none⟩) M1.L.length cs2,.slice (some ⟨gi2,oi2,none⟩) M1.L.length ci2,.slice (some ⟨gb2,ob2,none⟩) M1.L.length cb2,.slice al2 M1.ll.length cl2,.pointer (some ⟨cM2,0,none⟩)],54⟩,⟨c5,[.int .i64 (turnV M1.t),.slice (some ⟨gs,os,none⟩) M1.L.length cs,.slice (some ⟨gi,oi,none⟩) M1.L.length ci,.slice (some ⟨gb,ob,none⟩) M1.L.length cb,.slice al M1.ll.length cl,.pointer (some ⟨cM,0,none⟩)],54⟩]) (fun i => (ls k).length - i) 0 (Nat.zero_le _) kq (fun _ h => h) ?_
  rintro i hi'
  try simp only at hi' ⊢
  by_cases hil : i < (ls k).length
  ·have hdi : decide ((i : Int) < ((ls k).length : Int)) = true := decide_eq_true kc
   obtain ⟨y,hy⟩ : ∃ y,(ls k)[i]? = some y := ⟨_,List.getElem?_eq_getElem hil⟩
   have hyb := hxr k hlt y (List.mem_of_getElem? hy)
   have nL : ((ls k).map lineC).flatten ≠ [] := fun h => by
    obtain ⟨y0,r0,e0⟩ := List.exists_cons_of_ne_nil (l := ls k) (fun e => by rw [e] at hil;simp at hil)
    rw [e0] at h
    simp [lineC] at h
   obtain ⟨gl,ol,rfl,hgl,hlc⟩ := svCells (Sv.ofOwn rk) nL
   obtain ⟨gl2,ol2,rfl,hgl2,hlc2⟩ := svCells (Sv.ofOwn rk2) nL
   have gll := (rk.ge gl rfl).1
   have hay : ∀ q u,(lineC y)[q]? = some u → w4.cell? (Addr.add ⟨gl,ol + (i : Int).toNat * 2,none⟩ q) = some u := fun q u hq => by
    have hq2 : q < 2 := (List.getElem?_eq_some_iff.1 hq).1
    rw [addLit,Int.toNat_natCast,Nat.add_assoc]
    exact V4.cell (hlc (i * 2 + q) u zh) ky
   have hay2 : ∀ q u,(lineC y)[q]? = some u → w4.cell? (Addr.add ⟨gl2,ol2 + (i : Int).toNat * 2,none⟩ q) = some u := fun q u hq => by
    have hq2 : q < 2 := (List.getElem?_eq_some_iff.1 hq).1
    rw [addLit,Int.toNat_natCast,Nat.add_assoc]
    exact U4.cell (hlc2 (i * 2 + q) u zh) ky
   have hyr : IntKind.i64.min ≤ y.1 ∧ y.1 ≤ IntKind.i64.max := by constructor <;> simp [IntKind.min,IntKind.max,IntKind.bits,IntKind.signed] <;> omega
   have hym : y.2.length ≤ maxLen := by unfold maxLen;omega
   repeat' first | (apply Wl.loadAF (xs := lineC y);exact rfl;exact rfl;exact rfl;(intro w' h' q u hq';first | exact h'.old (hay q u hq') qg | exact h'.old (hay2 q u hq') qg)) | (apply Wl.neqLet hyr hym;exact rfl;exact rfl;exact rfl) | (apply Wl.loadO;exact rfl;exact rfl;(first | exact hbk | exact hbk2);(exact off_in zi)) | refine Wl.move rfl rfl ?_ | refine Wl.assign rfl rfl ?_ | refine Wl.fieldAddrZ rfl rfl ?_ | (apply Wl.loadH;exact rfl;exact rfl;exact kd;exact rfl) | refine Wl.lss rfl rfl rfl ?_ | (refine Wl.addI rfl rfl rfl ?_ ?_;constructor <;> omega) | (refine Wl.indexAddr1 rfl rfl rfl ?_ ?_;constructor <;> omega) | (refine Wl.indexAddr rfl rfl rfl ?_ ?_;constructor <;> omega) | apply Wl.nil | apply Wl.nilQ | apply St.seq | apply St.block | apply St.region | (apply St.draw;exact mixed;(kernel_rfl);exact (fun _ h => Hp.drew h)) | (apply St.condT;exact rfl;exact k5) | (apply St.condF;exact rfl;exact k5) | apply St.skip | apply Gt.next | apply Gt.inNormal
   exact Gt.round (i + 1) hil (by (try simp only);omega) kq (fun _ h => h)
  ·have hie : i = (ls k).length := by omega
   subst hie
   have hdi : decide (((ls k).length : Int) < ((ls k).length : Int)) = false := decide_eq_false kc
   repeat' first | refine Wl.move rfl rfl ?_ | refine Wl.lss rfl rfl rfl ?_ | (refine Wl.addI rfl rfl rfl ?_ ?_;constructor <;> omega) | apply Wl.nil | apply St.seq | apply St.region | (apply St.condF;exact rfl;exact k5) | apply St.exit | apply Gt.next | apply Gt.thenExit | apply Gt.inNormal | apply Gt.inExit
   exact Gt.round (k + 1) hlt (by (try simp only);omega) kq (fun _ h => h)
 ·have hke : k = M1.L.length := by omega
  subst hke
  have hdk : decide ((M1.L.length : Int) < (M1.L.length : Int)) = false := decide_eq_false kc
  repeat' first | refine Wl.move rfl rfl ?_ | refine Wl.fieldAddrZ rfl rfl ?_ | (apply Wl.loadH;exact rfl;exact rfl;exact kd;exact rfl) | refine Wl.lss rfl rfl rfl ?_ | refine Wl.len rfl rfl ?_ | apply Wl.nil | apply St.seq | apply St.block | apply St.region | (apply St.condF;exact rfl;exact k5) | apply St.exit | apply Gt.next | apply Gt.thenExit | apply Gt.inExit
  refine St.loop (σ := Nat) (fun i => i ≤ M1.ll.length) (fun i => [(4,.bool false),(5,.pointer (some ⟨c5,0,none⟩)),(6,.pointer (some ⟨c6,0,none⟩)),(135,.int .i64 (M1.ll.length : Int)),(136,.int .i64 (i : Int))]) (fun _ => Hp w4 [⟨c6,[.int .i64 (turnV M1.t),.slice (some ⟨gs2,os2,none⟩) M1.L.length cs2,.slice (some ⟨gi2,oi2,none⟩) M1.L.length ci2,.slice (some ⟨gb2,ob2,none⟩) M1.L.length cb2,.slice al2 M1.ll.length cl2,.pointer (some ⟨cM2,0,none⟩)],54⟩,⟨c5,[.int .i64 (turnV M1.t),.slice (some ⟨gs,os,none⟩) M1.L.length cs,.slice (some ⟨gi,oi,none⟩) M1.L.length ci,.slice (some ⟨gb,ob,none⟩) M1.L.length cb,.slice al M1.ll.length cl,.pointer (some ⟨cM,0,none⟩)],54⟩]) (fun i => M1.ll.length - i) 0 (Nat.zero_le _) kq (fun _ h => h) ?_
  rintro i hi'
  try simp only at hi' ⊢
  by_cases hil : i < M1.ll.length
  ·have hdi : decide ((i : Int) < (M1.ll.length : Int)) = true := decide_eq_true kc
   obtain ⟨y,hy⟩ : ∃ y,M1.ll[i]? = some y := ⟨_,List.getElem?_eq_getElem hil⟩
   have hyb := hlr y (List.mem_of_getElem? hy)
   have nL : (M1.ll.map lineC).flatten ≠ [] := fun h => by
    obtain ⟨y0,r0,e0⟩ := List.exists_cons_of_ne_nil (l := M1.ll) (fun e => by rw [e] at hil;simp at hil)
    rw [e0] at h
    simp [lineC] at h
   obtain ⟨gl,ol,rfl,hgl,hlc⟩ := svCells (Sv.ofOwn hT.l) nL
   obtain ⟨gl2,ol2,rfl,hgl2,hlc2⟩ := svCells (Sv.ofOwn l2) nL
   have gll := (hT.l.ge gl rfl).1
   have hay : ∀ q u,(lineC y)[q]? = some u → w4.cell? (Addr.add ⟨gl,ol + (i : Int).toNat * 2,none⟩ q) = some u := fun q u hq => by
    have hq2 : q < 2 := (List.getElem?_eq_some_iff.1 hq).1
    rw [addLit,Int.toNat_natCast,Nat.add_assoc]
    exact V4.cell (hlc (i * 2 + q) u zh) ky
   have hay2 : ∀ q u,(lineC y)[q]? = some u → w4.cell? (Addr.add ⟨gl2,ol2 + (i : Int).toNat * 2,none⟩ q) = some u := fun q u hq => by
    have hq2 : q < 2 := (List.getElem?_eq_some_iff.1 hq).1
    rw [addLit,Int.toNat_natCast,Nat.add_assoc]
    exact U4.cell (hlc2 (i * 2 + q) u zh) ky
   have hyr : IntKind.i64.min ≤ y.1 ∧ y.1 ≤ IntKind.i64.max := by constructor <;> simp [IntKind.min,IntKind.max,IntKind.bits,IntKind.signed] <;> omega
   have hym : y.2.length ≤ maxLen := by unfold maxLen;omega
   repeat' first | (apply Wl.loadAF (xs := lineC y);exact rfl;exact rfl;exact rfl;(intro w' h' q u hq';first | exact h'.old (hay q u hq') qg | exact h'.old (hay2 q u hq') qg)) | (apply Wl.neqLin hyr hym;exact rfl;exact rfl;exact rfl) | refine Wl.move rfl rfl ?_ | refine Wl.assign rfl rfl ?_ | refine Wl.fieldAddrZ rfl rfl ?_ | (apply Wl.loadH;exact rfl;exact rfl;exact kd;exact rfl) | refine Wl.lss rfl rfl rfl ?_ | (refine Wl.addI rfl rfl rfl ?_ ?_;constructor <;> omega) | (refine Wl.indexAddr rfl rfl rfl ?_ ?_;constructor <;> omega) | apply Wl.nil | apply Wl.nilQ | apply St.seq | apply St.block | apply St.region | (apply St.draw;exact mixed;(kernel_rfl);exact (fun _ h => Hp.drew h)) | (apply St.condT;exact rfl;exact k5) | (apply St.condF;exact rfl;exact k5) | apply St.skip | apply Gt.next | apply Gt.inNormal
   exact Gt.round (i + 1) hil (by (try simp only);omega) kq (fun _ h => h)
  ·have hie : i = M1.ll.length := by omega
   subst hie
   have hdi : decide ((M1.ll.length : Int) < (M1.ll.length : Int)) = false := decide_eq_false kc
   repeat' first | refine Wl.assign rfl rfl ?_ | refine Wl.lss rfl rfl rfl ?_ | apply Wl.nil | apply St.seq | apply St.region | (apply St.condF;exact rfl;exact k5) | apply St.ret | apply St.exit | apply Gt.next | apply Gt.thenExit | apply Gt.inExit | (apply Gt.out1;exact rfl;exact rfl;intro w' hp)
   have U6 : Upd (fun k => w2.heap.size ≤ k) w2 w' := U4.comp hp.upd fun k _ h => h.elim id fun y => by have := k56 k y;omega
   exact ⟨rfl,(u1.comp u2 (T := fun k => Zc I1 ls k ∨ Zc I2 ls k ∨ w.heap.size ≤ k) fun k _ h => h.elim (fun h => h.imp id .inr) fun h => .inr (h.imp id fun h => by omega)).comp U6 fun k _ h => h.elim id fun h => .inr (.inr kc),hA2m.new U6 (Nat.le_refl _),hB2m.new U6 (Nat.le_refl _)⟩
structure DecS (M M' : Mv2) (S : SnD) : Prop where
 L : M'.L = S.r.L ∧ M'.t = S.t ∧ M'.ins = S.r.ins ∧ M'.ll = S.ll
 b : ∀ i,i < M.L.length → M'.bx i = (S.r.bx.getD i []).map letV
 f : M'.f = S.f
 p : M'.pv = M.pv ∧ M'.ev = M.ev
theorem sDecodeAny (base : Nat) (I : Mi) (M : Mv2) (a1 a2 : Option Addr) (c1 c2 : Nat) (v : Value) (l : List UInt8) (w : World) (hM : MonS w base I M) (hb : base ≤ w.heap.size) (hn : M.L.length ≤ 255)
  (hpv : M.pv = .slice a1 M.L.length c1) (hev : M.ev = .slice a2 M.L.length c2) (hv : Bs w v l) (hvb : ∀ k,v.ownBlock = some k → l ≠ [] → k < w.heap.size) (hl : l.length ≤ 10000000) (hK : ArrAt w 1 0 .u32 64 Sha.K) :
  Calls Tryz.prog 47 #[v,.pointer (some ⟨I.m,0,none⟩)] w fun e w' => Upd (fun k => w.heap.size ≤ k) w w' ∧
   ((∃ z : Int,e = .returned (.tuple #[.pointer none,.int .i64 z]) ∧ ((decC M.L.length l = none ∧ z = codeD l) ∨ ((decC M.L.length l).isSome = true ∧ z = 3))) ∨
   (∃ S I' M' b',decC M.L.length l = some S ∧ SetOk S.r.L S.t ∧ SnFit M.L.length S.t S.r.L S.r.ins S.r.bx S.ll S.f ∧ e = .returned (.tuple #[.pointer (some ⟨I'.m,0,none⟩),.int .i64 0]) ∧ MonS w' b' I' M' ∧ (w.heap.size ≤ b' ∧ b' ≤ w'.heap.size) ∧ DecS M M' S)) := by
 refine (sDecodeZ (fun ws e w' => e = .returned (.tuple #[.pointer none,.int .i64 3]) ∨ ∃ S I' M',decC M.L.length l = some S ∧ SetOk S.r.L S.t ∧ SnFit M.L.length S.t S.r.L S.r.ins S.r.bx S.ll S.f ∧ e = .returned (.tuple #[.pointer (some ⟨I'.m,0,none⟩),.int .i64 0]) ∧ MonS w' ws.heap.size I' M' ∧ DecS M M' S) base I M v _ w hM kc hv hvb hl hK ?_).mono ?_
 ·intro S hS ws sv iv bv lv cM vs hT hcM uS hMs
  obtain ⟨c,hc⟩ := decC_state hS
  obtain ⟨hf,hbn⟩ := stateC_fit hn hc
  have hLl : S.r.L.length = M.L.length := hf.hn.1
  have hil : S.r.ins.length = M.L.length := hf.hi.1
  have hbl : S.r.bx.length = M.L.length := hf.hb.1
  have hget : ∀ j,j < M.L.length → ∃ l,S.r.bx[j]? = some l ∧ S.r.bx.getD j [] = l := fun j hj => ⟨_,List.getElem?_eq_getElem kc,by rw [List.getD_eq_getElem?_getD,List.getElem?_eq_getElem kc];rfl⟩
  have hA := Sv.ofOwn hT.s
  have hI := Sv.ofOwn hT.i
  have hB := Sv.ofOwn hT.b
  have hLn := Sv.ofOwn hT.l
  rw [hLl] at hA
  rw [hil] at hI
  rw [hbl] at hB
  refine (mWithL base I M S.r.L S.t a1 a2 c1 c2 cM sv iv bv lv vs S.r.ins (fun j => S.r.bx.getD j []) S.ll S.f ws hMs (by have := uS.size;omega) hpv hev hA hLl (fun x hx => (hf.hL x hx).1) (Classical.em _) hI (fun s hs => by have := hf.hi.2 s hs;omega) hB ?_ ?_ hLn ?_ (by rw [← usedN_eq];exact hf.hl.2.1) hf.hl.2.2 hT.m).mono ?_
  ·intro j hj
   obtain ⟨l,e1,e2⟩ := hget j hj
   obtain ⟨v',e3,e4⟩ := hT.bl.2 j l e1
   exact ⟨v',e3,by rw [e2];exact Sv.ofOwn e4⟩
  ·intro j hj
   obtain ⟨l,e1,e2⟩ := hget j hj
   obtain ⟨h1,h2⟩ := hf.hb.2 l (List.mem_of_getElem? e1)
   rw [e2]
   exact ⟨by omega,fun x hx => by obtain ⟨⟨q1,q2⟩,q3,q4⟩ := h2 x hx;exact ⟨⟨q1,by omega⟩,q4⟩⟩
  ·intro x hx
   obtain ⟨⟨q1,q2⟩,q3,q4⟩ := hf.hl.1 x hx
   exact ⟨⟨q1,by omega⟩,q3,q4⟩
  ·rintro e w' (⟨⟨hset,_⟩,I',M',rfl,hM',hMe,uW,_⟩ | ⟨_,rfl,uW⟩)
   ·refine ⟨⟨_,_,rfl⟩,uW,.inr ⟨S,I',M',hS,hset,hf,rfl,hM',?_⟩⟩
    rw [hMe]
    exact ⟨⟨rfl,rfl,rfl,rfl⟩,fun i hi => if_pos hi,rfl,rfl,rfl⟩
   ·exact ⟨⟨_,_,rfl⟩,uW,.inl rfl⟩
 ·rintro e w' (⟨h0,u,rfl⟩ | ⟨S,hS,ws,w1,u1,u2,hR,u3⟩)
  ·exact ⟨u,.inl ⟨_,rfl,.inl ⟨h0,rfl⟩⟩⟩
  ·have z1 := u1.size
   have z2 := u2.size
   have z3 := u3.size
   refine ⟨(u1.comp u2 (T := fun k => w.heap.size ≤ k) fun k _ h => h.elim id fun h => by omega).comp u3 fun k _ h => h.elim id fun h => h.1,?_⟩
   rcases hR with rfl | ⟨S',I',M',hS',hset,hf,rfl,hM',hD⟩
   ·exact .inl ⟨3,rfl,.inr ⟨by rw [hS];rfl,rfl⟩⟩
   ·exact .inr ⟨S',I',M',ws.heap.size,hS',hset,hf,rfl,hM'.upd u3 (fun b hb' hs => by have := (hM'.lt b hb').1;omega),⟨by omega,by omega⟩,hD⟩
def PO26 (w : World) (base p n : Nat) : Prop := ∃ la,w.heap[p]? = some (.cells #[.slice (some ⟨la,0,none⟩) n n] 175 (0,0)) ∧ w.heap[la]? = some (.cells (List.replicate n (Value.slice none 0 0)).toArray 172 (0,0)) ∧ base ≤ la ∧ base ≤ p
def BD26 (w : World) (base b n : Nat) : Prop := ∃ ia,w.heap[b]? = some (.cells #[.slice none 0 0,.slice none 0 0,.slice (some ⟨ia,0,none⟩) n n] 164 (0,0)) ∧ w.heap[ia]? = some (.cells (List.replicate n (Value.string ⟨#[]⟩)).toArray 9 (0,0)) ∧ base ≤ ia ∧ base ≤ b
def DK26 (w : World) (base d n : Nat) (a1 : Option Addr) (c1 : Nat) (a2 : Option Addr) (c2 : Nat) (r : Option Addr) : Prop := ∃ p b,w.heap[d]? = some (.cells #[.slice a1 n c1,.slice a2 n c2,.pointer r,.pointer (some ⟨p,0,none⟩),.pointer (some ⟨b,0,none⟩)] 87 (0,0)) ∧ PO26 w base p n ∧ BD26 w base b n ∧ base ≤ d
def RB26 (w : World) (base : Nat) (v : Value) (n : Nat) (a1 : Option Addr) (c1 : Nat) (a2 : Option Addr) (c2 : Nat) (r : Option Addr) : Prop := ∃ m c d,v = .pointer (some ⟨m,0,none⟩) ∧ w.heap[m]? = some (.cells #[.pointer (some ⟨c,0,none⟩),.pointer (some ⟨d,0,none⟩)] 91 (0,0)) ∧ RW w base c n ∧ base ≤ c ∧ base ≤ m ∧ m ≠ c ∧ DK26 w base d n a1 c1 a2 c2 r
section
variable {w w' : World} {base p n c1 c2 : Nat} {a1 a2 r : Option Addr} {v : Value}
theorem PO26.ext (h : PO26 w base p n) (e : Ext w w') : PO26 w' base p n := by obtain ⟨l,h1,h2,h3⟩ := h;exact ⟨l,e.heap h1 (fun y => y),e.heap h2 (fun y => y),h3⟩
theorem BD26.ext (h : BD26 w base p n) (e : Ext w w') : BD26 w' base p n := by obtain ⟨l,h1,h2,h3⟩ := h;exact ⟨l,e.heap h1 (fun y => y),e.heap h2 (fun y => y),h3⟩
theorem DK26.ext (h : DK26 w base p n a1 c1 a2 c2 r) (e : Ext w w') : DK26 w' base p n a1 c1 a2 c2 r := by obtain ⟨l,k,h1,h2,h3,h4⟩ := h;exact ⟨l,k,e.heap h1 (fun y => y),h2.ext e,h3.ext e,h4⟩
theorem RB26.ext (h : RB26 w base v n a1 c1 a2 c2 r) (e : Ext w w') : RB26 w' base v n a1 c1 a2 c2 r := by obtain ⟨m,c,d,h0,h1,h2,h3,h4,h5,h6⟩ := h;exact ⟨m,c,d,h0,e.heap h1 (fun y => y),h2.ext e,h3,h4,h5,h6.ext e⟩
end
theorem made_nil {n : Nat} (hn : 1 ≤ n ∧ n ≤ 4) : (madeCells (Value.slice none 0 0).cells (n * 1)).toList = List.replicate n (Value.slice none 0 0) := by
 rcases (show n = 1 ∨ n = 2 ∨ n = 3 ∨ n = 4 by omega) with h | h | h | h <;> (rw [h];kernel_rfl)
theorem made_str {n : Nat} (hn : 1 ≤ n ∧ n ≤ 4) : (madeCells (Value.string ⟨#[]⟩).cells (n * 1)).toList = List.replicate n (Value.string ⟨#[]⟩) := by
 rcases (show n = 1 ∨ n = 2 ∨ n = 3 ∨ n = 4 by omega) with h | h | h | h <;> (rw [h];kernel_rfl)
theorem r26NewB (a1 a2 a3 r : Option Addr) (n c1 c2 c3 : Nat) (p : Nat → Int) (w : World) (hn : 1 ≤ n ∧ n ≤ 4) (hA : WordF w a3 n p) :
  Calls Tryz.prog 56 #[.slice a1 n c1,.slice a2 n c2,.slice a3 n c3,.pointer r] w fun e w' => ∃ v,e = .returned v ∧ RB26 w' w.heap.size v n a1 c1 a2 c2 r ∧ Upd (fun k => w.heap.size ≤ k) w w' := by
 refine enter (args := [_,_,_,_]) (Γ := [(0,_),(1,_),(2,_),(3,_)]) Tryz.func56 Tryz.ntmps56 rfl odq (.cons rfl (.cons rfl (.cons rfl (.cons rfl .nil)))) ?_
 repeat' first | refine Wl.move rfl rfl ?_ | refine Wl.assign rfl rfl ?_ | refine Wl.len rfl rfl ?_ | apply Wl.nil | apply St.seq | apply St.region | apply Gt.next
 apply St.sub (Γ' := [(0,.slice a1 n c1),(1,.slice a2 n c2),(2,.slice a3 n c3),(3,.pointer r),(9,.int .i64 (n : Int))])
 ·exact kd
 apply St.base
 intro w0 h0
 have hw0 : Ext w w0 := h0.upd.mono fun _ _ y => y trivial
 have hwn : ∀ w1,Ext w0 w1 → w.heap.size ≤ w1.heap.size := fun w1 e => Nat.le_trans hw0.size e.size
 apply St.bag (w0 := w0) Ext Ext.trans (fun w' h => Ext.start _ w' h) [fun v _ => v = .slice a3 n c3,fun v w' => ∃ c,v = .pointer (some ⟨c,0,none⟩) ∧ RW w' w.heap.size c n ∧ w.heap.size ≤ c,fun v _ => v = .slice a1 n c1,fun v _ => v = .slice a2 n c2,fun v _ => v = .pointer r,fun v _ => v = .int .i64 (n : Int),fun v w' => ∃ b,v = .slice (some ⟨b,0,none⟩) n n ∧ w'.heap[b]? = some (.cells (List.replicate n (Value.slice none 0 0)).toArray 172 (0,0)) ∧ w.heap.size ≤ b,fun v w' => ∃ b,v = .agg #[.slice (some ⟨b,0,none⟩) n n] ∧ w'.heap[b]? = some (.cells (List.replicate n (Value.slice none 0 0)).toArray 172 (0,0)) ∧ w.heap.size ≤ b,fun v w' => ∃ b,v = .pointer (some ⟨b,0,none⟩) ∧ PO26 w' w.heap.size b n,fun v _ => v = .int .i64 (n : Int),fun v w' => ∃ b,v = .slice (some ⟨b,0,none⟩) n n ∧ w'.heap[b]? = some (.cells (List.replicate n (Value.string ⟨#[]⟩)).toArray 9 (0,0)) ∧ w.heap.size ≤ b,fun v w' => ∃ b,v = .agg #[.slice none 0 0,.slice none 0 0,.slice (some ⟨b,0,none⟩) n n] ∧ w'.heap[b]? = some (.cells (List.replicate n (Value.string ⟨#[]⟩)).toArray 9 (0,0)) ∧ w.heap.size ≤ b,fun v w' => ∃ b,v = .pointer (some ⟨b,0,none⟩) ∧ BD26 w' w.heap.size b n,fun v w' => ∃ p q,v = .agg #[.slice a1 n c1,.slice a2 n c2,.pointer r,.pointer (some ⟨p,0,none⟩),.pointer (some ⟨q,0,none⟩)] ∧ PO26 w' w.heap.size p n ∧ BD26 w' w.heap.size q n,fun v w' => ∃ b,v = .pointer (some ⟨b,0,none⟩) ∧ DK26 w' w.heap.size b n a1 c1 a2 c2 r,fun v w' => ∃ c d,v = .agg #[.pointer (some ⟨c,0,none⟩),.pointer (some ⟨d,0,none⟩)] ∧ RW w' w.heap.size c n ∧ w.heap.size ≤ c ∧ DK26 w' w.heap.size d n a1 c1 a2 c2 r,fun v w' => RB26 w' w.heap.size v n a1 c1 a2 c2 r,fun v w' => RB26 w' w.heap.size v n a1 c1 a2 c2 r] [17]
 ·exact mixed
 ·kernel_rfl
 ·refine .cons ?_ (.cons ?_ (.cons ?_ (.cons ?_ (.cons ?_ (.cons ?_ (.cons ?_ (.cons ?_ (.cons ?_ (.cons ?_ (.cons ?_ (.cons ?_ (.cons ?_ (.cons ?_ (.cons ?_ (.cons ?_ (.cons ?_ (.cons ?_ .nil)))))))))))))))))
  all_goals intro v w1 w2 e h
  all_goals first | exact h | (obtain ⟨c,h1,h2,h3⟩ := h;exact ⟨c,h1,h2.ext e,h3⟩) | (obtain ⟨c,h1,h2,h3⟩ := h;exact ⟨c,h1,e.heap h2 (fun y => y),h3⟩) | (obtain ⟨c,h1,h2⟩ := h;exact ⟨c,h1,h2.ext e⟩) | (obtain ⟨c,d,h1,h2,h3⟩ := h;exact ⟨c,d,h1,h2.ext e,h3.ext e⟩) | (obtain ⟨c,d,h1,h2,h3,h4⟩ := h;exact ⟨c,d,h1,h2.ext e,h3,h4.ext e⟩) | exact RB26.ext h e
 ·rfl
 ·apply BagOps.cons
  ·intro w1 e1
   change Wl [_] _ _ _ _ _ _ _
   repeat' first | refine Wl.move rfl rfl ?_ | apply Wl.nil
   apply Gt.bagEnd
   ·exact rfl
   ·exact fun w' h' => ⟨h'.upd.mono fun _ _ y => y trivial,rfl⟩
  apply BagOps.cons
  ·intro w1 e1 v0 h0
   change Wl [_] _ _ _ _ _ _ _
   have h0 : v0 = .slice a3 n c3 := h0
   subst h0
   apply Wl.callC
   ·exact rfl
   ·exact kd
   intro wq hq
   have zq := hq.upd.size
   have z1 := hwn w1 e1
   refine (rwNew a3 n c3 p wq kc (fun i hi => by obtain ⟨b,o,e,k1,k2⟩ := hA i hi;exact ⟨b,o,e,hq.upd.cell (e1.cell (hw0.cell k1 (fun y => y)) (fun y => y)) nt0,k2⟩)).mono ?_
   rintro e w2 ⟨c,rfl,hRc,hcg,u2⟩
   refine ⟨_,_,rfl,Hp.start w2,?_⟩
   apply Wl.nil
   apply Gt.bagEnd
   ·exact rfl
   ·refine fun w' h' => ⟨(hq.upd.comp u2 (T := fun _ => False) (fun k hk hs => hs.elim nt0 fun y => by omega)).comp h'.upd fun k hk hs => hs.elim id fun y => y trivial,c,rfl,?_,by omega⟩
    obtain ⟨rv,xs,k1,k2⟩ := hRc.upd h'.upd nt0 (fun _ _ _ y => y trivial)
    exact ⟨rv,xs,k1,k2.baseLe kc⟩
  apply BagOps.cons
  ·intro w1 e1
   change Wl [_] _ _ _ _ _ _ _
   repeat' first | refine Wl.move rfl rfl ?_ | apply Wl.nil
   apply Gt.bagEnd
   ·exact rfl
   ·exact fun w' h' => ⟨h'.upd.mono fun _ _ y => y trivial,rfl⟩
  apply BagOps.cons
  ·intro w1 e1
   change Wl [_] _ _ _ _ _ _ _
   repeat' first | refine Wl.move rfl rfl ?_ | apply Wl.nil
   apply Gt.bagEnd
   ·exact rfl
   ·exact fun w' h' => ⟨h'.upd.mono fun _ _ y => y trivial,rfl⟩
  apply BagOps.cons
  ·intro w1 e1
   change Wl [_] _ _ _ _ _ _ _
   repeat' first | refine Wl.move rfl rfl ?_ | apply Wl.nil
   apply Gt.bagEnd
   ·exact rfl
   ·exact fun w' h' => ⟨h'.upd.mono fun _ _ y => y trivial,rfl⟩
  apply BagOps.cons
  ·intro w1 e1
   change Wl [_] _ _ _ _ _ _ _
   repeat' first | refine Wl.move rfl rfl ?_ | apply Wl.nil
   apply Gt.bagEnd
   ·exact rfl
   ·exact fun w' h' => ⟨h'.upd.mono fun _ _ y => y trivial,rfl⟩
  apply BagOps.cons
  ·intro w1 e1 va ha v5 h5
   change Wl [_] _ _ _ _ _ _ _
   have h5 : v5 = .int .i64 (n : Int) := h5
   subst h5
   have z1 := hwn w1 e1
   apply Wl.makeSlice (n := n)
   ·exact rfl
   ·exact rfl
   ·exact rfl
   ·exact Nat.ble_eq_true_of_le (Nat.le_trans (Nat.mul_le_mul_left _ hn.2) ku)
   ·omega
   intro c hc ho
   rw [made_nil hn]
   apply Wl.nil
   apply Gt.bagEnd
   ·exact rfl
   ·exact fun w' h' => ⟨(h'.drop zi).ext,c,rfl,h'.own.at (.head _),by omega⟩
  apply BagOps.cons
  ·intro w1 e1 v6 h6
   change Wl [_] _ _ _ _ _ _ _
   have h6 : ∃ b,v6 = .slice (some ⟨b,0,none⟩) n n ∧ w1.heap[b]? = some (.cells (List.replicate n (Value.slice none 0 0)).toArray 172 (0,0)) ∧ w.heap.size ≤ b := h6
   obtain ⟨b,rfl,k1,k2⟩ := h6
   repeat' first | (apply Wl.buildS;exact rfl;exact kj;exact ka) | apply Wl.nil
   apply Gt.bagEnd
   ·exact rfl
   ·exact fun w' h' => ⟨h'.upd.mono fun _ _ y => y trivial,b,rfl,h'.upd.heap k1 nt0,k2⟩
  apply BagOps.cons
  ·intro w1 e1 v7 h7
   change Wl [_] _ _ _ _ _ _ _
   have h7 : ∃ b,v7 = .agg #[.slice (some ⟨b,0,none⟩) n n] ∧ w1.heap[b]? = some (.cells (List.replicate n (Value.slice none 0 0)).toArray 172 (0,0)) ∧ w.heap.size ≤ b := h7
   obtain ⟨b,rfl,k1,k2⟩ := h7
   have z1 := hwn w1 e1
   repeat' first | (apply Wl.boxA;exact rfl;exact rfl;intro c hc ho) | apply Wl.nil
   apply Gt.bagEnd
   ·exact rfl
   ·exact fun w' h' => ⟨(h'.drop zi).ext,_,rfl,b,h'.own.at (.head _),(h'.drop zi).ext.heap k1 (fun y => y),k2,by omega⟩
  apply BagOps.cons
  ·intro w1 e1
   change Wl [_] _ _ _ _ _ _ _
   repeat' first | refine Wl.move rfl rfl ?_ | apply Wl.nil
   apply Gt.bagEnd
   ·exact rfl
   ·exact fun w' h' => ⟨h'.upd.mono fun _ _ y => y trivial,rfl⟩
  apply BagOps.cons
  ·intro w1 e1 va ha v9 h9
   change Wl [_] _ _ _ _ _ _ _
   have h9 : v9 = .int .i64 (n : Int) := h9
   subst h9
   have z1 := hwn w1 e1
   apply Wl.makeSlice (n := n)
   ·exact rfl
   ·exact rfl
   ·exact rfl
   ·exact Nat.ble_eq_true_of_le (Nat.le_trans (Nat.mul_le_mul_left _ hn.2) ku)
   ·omega
   intro c hc ho
   rw [made_str hn]
   apply Wl.nil
   apply Gt.bagEnd
   ·exact rfl
   ·exact fun w' h' => ⟨(h'.drop zi).ext,c,rfl,h'.own.at (.head _),by omega⟩
  apply BagOps.cons
  ·intro w1 e1 v10 h10
   change Wl [_] _ _ _ _ _ _ _
   have h10 : ∃ b,v10 = .slice (some ⟨b,0,none⟩) n n ∧ w1.heap[b]? = some (.cells (List.replicate n (Value.string ⟨#[]⟩)).toArray 9 (0,0)) ∧ w.heap.size ≤ b := h10
   obtain ⟨b,rfl,k1,k2⟩ := h10
   repeat' first | (apply Wl.buildS;exact rfl;exact kj;exact ka) | apply Wl.nil
   apply Gt.bagEnd
   ·exact rfl
   ·exact fun w' h' => ⟨h'.upd.mono fun _ _ y => y trivial,b,rfl,h'.upd.heap k1 nt0,k2⟩
  apply BagOps.cons
  ·intro w1 e1 v11 h11
   change Wl [_] _ _ _ _ _ _ _
   have h11 : ∃ b,v11 = .agg #[.slice none 0 0,.slice none 0 0,.slice (some ⟨b,0,none⟩) n n] ∧ w1.heap[b]? = some (.cells (List.replicate n (Value.string ⟨#[]⟩)).toArray 9 (0,0)) ∧ w.heap.size ≤ b := h11
   obtain ⟨b,rfl,k1,k2⟩ := h11
   have z1 := hwn w1 e1
   repeat' first | (apply Wl.boxA;exact rfl;exact rfl;intro c hc ho) | apply Wl.nil
   apply Gt.bagEnd
   ·exact rfl
   ·exact fun w' h' => ⟨(h'.drop zi).ext,_,rfl,b,h'.own.at (.head _),(h'.drop zi).ext.heap k1 (fun y => y),k2,by omega⟩
  apply BagOps.cons
  ·intro w1 e1 v2 h2 v3 h3 v4 h4 v8 h8 v12 h12
   change Wl [_] _ _ _ _ _ _ _
   have h2 : v2 = .slice a1 n c1 := h2
   have h3 : v3 = .slice a2 n c2 := h3
   have h4 : v4 = .pointer r := h4
   have h8 : ∃ b,v8 = .pointer (some ⟨b,0,none⟩) ∧ PO26 w1 w.heap.size b n := h8
   have h12 : ∃ b,v12 = .pointer (some ⟨b,0,none⟩) ∧ BD26 w1 w.heap.size b n := h12
   subst h2 h3 h4
   obtain ⟨p8,rfl,k8⟩ := h8
   obtain ⟨q8,rfl,k12⟩ := h12
   repeat' first | (apply Wl.buildS;exact rfl;exact kj;exact ka) | apply Wl.nil
   apply Gt.bagEnd
   ·exact rfl
   ·exact fun w' h' => ⟨h'.upd.mono fun _ _ y => y trivial,p8,q8,rfl,k8.ext (h'.upd.mono fun _ _ y => y trivial),k12.ext (h'.upd.mono fun _ _ y => y trivial)⟩
  apply BagOps.cons
  ·intro w1 e1 v13 h13
   change Wl [_] _ _ _ _ _ _ _
   have h13 : ∃ p q,v13 = .agg #[.slice a1 n c1,.slice a2 n c2,.pointer r,.pointer (some ⟨p,0,none⟩),.pointer (some ⟨q,0,none⟩)] ∧ PO26 w1 w.heap.size p n ∧ BD26 w1 w.heap.size q n := h13
   obtain ⟨p8,q8,rfl,k8,k12⟩ := h13
   have z1 := hwn w1 e1
   repeat' first | (apply Wl.boxA;exact rfl;exact rfl;intro c hc ho) | apply Wl.nil
   apply Gt.bagEnd
   ·exact rfl
   ·exact fun w' h' => ⟨(h'.drop zi).ext,_,rfl,p8,q8,h'.own.at (.head _),k8.ext (h'.drop zi).ext,k12.ext (h'.drop zi).ext,by omega⟩
  apply BagOps.cons
  ·intro w1 e1 v1 h1 v14 h14
   change Wl [_] _ _ _ _ _ _ _
   have h1 : ∃ c,v1 = .pointer (some ⟨c,0,none⟩) ∧ RW w1 w.heap.size c n ∧ w.heap.size ≤ c := h1
   have h14 : ∃ b,v14 = .pointer (some ⟨b,0,none⟩) ∧ DK26 w1 w.heap.size b n a1 c1 a2 c2 r := h14
   obtain ⟨c,rfl,k1,k2⟩ := h1
   obtain ⟨d,rfl,k3⟩ := h14
   repeat' first | (apply Wl.buildS;exact rfl;exact kj;exact ka) | apply Wl.nil
   apply Gt.bagEnd
   ·exact rfl
   ·exact fun w' h' => ⟨h'.upd.mono fun _ _ y => y trivial,c,d,rfl,k1.ext (h'.upd.mono fun _ _ y => y trivial),k2,k3.ext (h'.upd.mono fun _ _ y => y trivial)⟩
  apply BagOps.cons
  ·intro w1 e1 v15 h15
   change Wl [_] _ _ _ _ _ _ _
   have h15 : ∃ c d,v15 = .agg #[.pointer (some ⟨c,0,none⟩),.pointer (some ⟨d,0,none⟩)] ∧ RW w1 w.heap.size c n ∧ w.heap.size ≤ c ∧ DK26 w1 w.heap.size d n a1 c1 a2 c2 r := h15
   obtain ⟨cw,d,rfl,k1,k2,k4⟩ := h15
   have z1 := hwn w1 e1
   have lc : cw < w1.heap.size := by obtain ⟨rv,xs,k3,_⟩ := k1;exact lt_of_block k3
   repeat' first | (apply Wl.boxA;exact rfl;exact rfl;intro c hc ho) | apply Wl.nil
   apply Gt.bagEnd
   ·exact rfl
   ·exact fun w' h' => ⟨(h'.drop zi).ext,_,cw,d,rfl,h'.own.at (.head _),k1.ext (h'.drop zi).ext,k2,by omega,by omega,k4.ext (h'.drop zi).ext⟩
  apply BagOps.cons
  ·intro w1 e1
   repeat intro _
   rename_i v16 h16
   change Wl [_] _ _ _ _ _ _ _
   have h16 : RB26 w1 w.heap.size v16 n a1 c1 a2 c2 r := h16
   repeat' first | refine Wl.assign rfl rfl ?_ | apply Wl.nil
   apply Gt.bagEnd
   ·exact rfl
   ·exact fun w' h' => ⟨h'.upd.mono fun _ _ y => y trivial,h16.ext (h'.upd.mono fun _ _ y => y trivial)⟩
  exact .nil
 intro w1 e1 v h
 repeat' first | apply St.ret | apply Gt.next | (apply Gt.out1;exact rfl;exact rfl;intro w' hp)
 have h' : RB26 w1 w.heap.size v n a1 c1 a2 c2 r := h
 exact ⟨v,rfl,h'.ext (hp.upd.mono fun _ _ y => y trivial),((hw0.comp e1 (T := fun k => w.heap.size ≤ k) fun k _ hs => hs.elim (fun y => y.elim) fun y => y.elim).comp hp.upd fun k _ hs => hs.elim id fun y => (y trivial).elim)⟩
theorem rFeed0 (bd ia n cap : Nat) (xs : List Value) (w : World) (h1 : w.cell? ⟨bd,2,none⟩ = some (.slice (some ⟨ia,0,none⟩) n cap)) (h2 : w.heap[ia]? = some (.cells (Value.string ⟨#[]⟩ :: xs).toArray 9 (0,0))) (hn : 1 ≤ n) (hb : bd ≠ ia) :
  Calls Tryz.prog 33 #[.pointer (some ⟨bd,0,none⟩),.int .i64 0,.string ⟨#[]⟩] w fun e w' => (∃ z,e = .returned z) ∧ Upd (fun k => k = ia) w w' := by
 have d1 : decide ((0 : Int) < 0) = false := by decide
 have d2 : decide ((0 : Int) ≥ (n : Int)) = false := decide_eq_false kc
 have h3 : w.cell? ⟨ia,0 + (0 : Int).toNat,none⟩ = some (.string ⟨#[]⟩) := cell_of h2 rfl
 have h0 : (0 : Int) ≤ 0 ∧ (0 : Int) < n := ⟨by omega,by omega⟩
 refine enter (args := [_,_,_]) (Γ := [(0,_),(1,_),(2,_)]) Tryz.func33 Tryz.ntmps33 rfl odq (.cons rfl (.cons rfl (.cons rfl .nil))) ?_
 repeat' first | (apply Wl.loadO;exact rfl;exact rfl;(first | exact h1 | exact h3);trivial) | refine Wl.move rfl rfl ?_ | refine Wl.assign rfl rfl ?_ | (apply Wl.on;exact rfl;exact rfl;exact k5) | refine Wl.nilCheck rfl rfl ?_ | (apply Wl.pickF;exact rfl;exact rfl;exact k5;exact rfl) | refine Wl.fieldAddrZ rfl rfl ?_ | refine Wl.lss rfl rfl rfl ?_ | refine Wl.gtr rfl rfl rfl ?_ | refine Wl.geq rfl rfl rfl ?_ | refine Wl.add rfl rfl rfl ?_ | refine Wl.len rfl rfl ?_ | refine Wl.lenS rfl rfl ?_ | (refine Wl.indexAddr1 rfl rfl rfl ?_ ?_;constructor <;> omega) | apply Wl.nil | apply St.seq | apply St.region | (apply St.condF;exact rfl;exact k5) | apply St.skip | apply Gt.next
 refine Wl.cls (fun _ h' => Hp.open h' h2 trivial) ?_
 apply Wl.addS (a := []) (b := [])
 ·exact rfl
 ·exact rfl
 ·exact rfl
 ·decide
 repeat' first | (apply Wl.store;exact rfl;exact rfl;exact rfl;exact kd;exact .z) | refine Wl.assign rfl rfl ?_ | (refine Wl.indexAddr1 rfl rfl rfl ?_ ?_;constructor <;> omega) | apply Wl.nil | apply St.seq | apply St.region | apply St.ret | apply Gt.next | (apply Gt.out1;exact rfl;exact rfl;intro w' hp)
 exact ⟨⟨_,rfl⟩,Hp.turned hp⟩
theorem FB0 : FB (fun _ => 0) := fun _ => ⟨by show (0 : Int) ≤ 0;decide,by show (0 : Int) < 256;decide⟩
theorem codeF_FB {f : Nat → Int} (h : FB f) (o : Nat) (l : List Int) : ∀ k,FB (codeF f o l k)
 | 0 => h
 | k + 1 => storeX_FB (codeF_FB h o l k) _ _ _
theorem loadF_FB (l : List LoadD) : ∀ i,FB (loadF l i)
 | 0 => FB0
 | i + 1 => putF_FB (codeF_FB (loadF_FB l i) _ _ _) _ _
theorem mFeed (base : Nat) (I : Mi) (M : Mv2) (i : Nat) (s z : List UInt8) (w : World) (hM : MonS w base I M) (hi : M.ins[i]? = some s) (hz : s.length + z.length ≤ 64) :
  Calls Tryz.prog 28 #[.pointer (some ⟨I.m,0,none⟩),.int .i64 (i : Int),strV z] w fun e w' => e = .returned (.int .i64 0) ∧ MonS w' base I {M with ins := M.ins.set i (s ++ z)} ∧ Upd (fun k => k = I.ia) w w' := by
 have q1 : w.cell? ⟨I.m,1,none⟩ = some (.pointer (some ⟨I.d,0,none⟩)) := cell_of hM.mm rfl
 have q2 : w.cell? ⟨I.d,4,none⟩ = some (.pointer (some ⟨I.bd,0,none⟩)) := cell_of hM.dd rfl
 refine enter (args := [_,_,_]) (Γ := [(0,_),(1,_),(2,_)]) Tryz.func28 Tryz.ntmps28 rfl odq (.cons rfl (.cons rfl (.cons rfl .nil))) ?_
 repeat' first | (apply Wl.loadO;exact rfl;exact rfl;exact zx;exact km) | refine Wl.move rfl rfl ?_ | refine Wl.assign rfl rfl ?_ | refine Wl.nilCheck rfl rfl ?_ | refine Wl.fieldAddrZ rfl rfl ?_ | refine Wl.eqlPN rfl rfl rfl ?_ | apply Wl.nil | apply St.seq | apply St.region | (apply St.condF;exact rfl;exact k5) | apply St.skip | apply Gt.next
 apply Wl.callC
 ·exact rfl
 ·exact kd
 intro wq hq
 have hq0 := hM.upd hq.upd fun b hb y => y trivial
 refine (bFeed _ _ _ _ _ _ _ i s z wq hq0.board hi hz).mono ?_
 rintro e w1 ⟨rfl,hB,u⟩
 have h1 := hq0.feed hB (List.length_set ..) u
 refine ⟨_,_,rfl,Hp.start w1,?_⟩
 repeat' first | refine Wl.assign rfl rfl ?_ | apply Wl.nil | apply St.ret | apply Gt.next | (apply Gt.out1;exact rfl;exact rfl;intro w' hp)
 exact ⟨rfl,h1.upd hp.upd (fun b hb y => y trivial),((hq.upd.mono fun _ _ y => (y trivial).elim).comp u fun k _ hs => hs.elim id id).comp hp.upd fun k _ hs => hs.elim id fun y => (y trivial).elim⟩
def stC (n i : Nat) : List Value := (List.range n).map fun j => .int .u32 (if j < i then biasI j else 0)
theorem stC_len (n i : Nat) : (stC n i).length = n := by simp [stC]
theorem stC_set {n i : Nat} (h : i < n) : LSet (stC n i) i (.int .u32 (biasI i)) (stC n (i + 1)) := by
 have e : stC n (i + 1) = (stC n i).set i (.int .u32 (biasI i)) := by
  refine List.ext_getElem? fun q => ?_
  rw [List.getElem?_set]
  by_cases hq : i = q
  ·subst hq
   rw [if_pos rfl,if_pos (by rw [stC_len];exact h)]
   simp [stC,h]
  ·rw [if_neg hq]
   by_cases hn : q < n
   ·have h1 : (q < i + 1) = (q < i) := by apply propext;omega
    simp [stC,hn,h1]
   ·rw [List.getElem?_eq_none (by rw [stC_len];omega),List.getElem?_eq_none (by rw [stC_len];omega)]
 rw [e]
 exact LSet.get (by rw [stC_len];exact h)
theorem BegS.payN {w w0 w' : World} {n pb cM rb rm rn z : Nat} {J : List Value} {gs : Nat → Nat} {ca ca' : Nat → Int} {f : Nat → Int} (k : BegS w w0 n 0 pb J gs ca cM rb rm rn f (.slice none 0 0) (.slice none 0 0) (fun _ => 0) (fun _ => 0)) (hz : ∀ b,BegF n 0 pb gs cM rb rm (.slice none 0 0) (.slice none 0 0) (fun _ => 0) b → b < z) (hw : w.heap.size ≤ z)
  (hp : w'.heap[pb]? = some (.cells ((payRs gs ca' n).flatten ++ J).toArray 116 (0,0))) (u : Upd (fun b => b = pb ∨ z ≤ b) w0 w') : BegS w w' n 0 pb J gs ca' cM rb rm rn f (.slice none 0 0) (.slice none 0 0) (fun _ => 0) (fun _ => 0) := by
 have key : ∀ {x t : Nat} {cs : Array Value},w0.heap[x]? = some (.cells cs t (0,0)) → 116 ≠ t → x < z → ¬ (x = pb ∨ z ≤ x) := fun hx hn hl hs => hs.elim (hne hx k.pay hn) fun h => absurd hl (Nat.not_lt.2 h)
 exact {
  pay := hp
  gr := fun j hj => ⟨(k.gr j hj).1,u.heap (k.gr j hj).2 (key (k.gr j hj).2 ku (hz _ (.inr (.inl ⟨j,hj,rfl⟩))))⟩
  mem := u.heap k.mem (key k.mem ku (hz _ (.inr (.inr (.inl rfl)))))
  ram := k.ram.upd u (key k.ram.1 ku (hz _ (.inr (.inr (.inr (.inl rfl)))))) (fun hs => hs.elim (k.rmne k.pay) fun h => absurd (hz rm (.inr (.inr (.inr (.inr (.inl rfl)))))) (Nat.not_lt.2 h))
  ent := World.ownsRow_nil _ _ _ _
  enx := fun j hj => (Nat.not_lt_zero _ hj).elim
  st := World.ownsRow_nil _ _ _ _
  up := k.up.comp u fun b hb hs => hs.elim id fun e => e.elim (fun e => e ▸ k.ge.1) fun h => Nat.le_trans hw h
  ge := k.ge }
theorem two27 (a : Option Addr) (n cl : Nat) (l : List LoadD) (w : World) (hl : l.length = n) (hn : 1 ≤ n ∧ n ≤ 3) (hL : LoadsF w a l) (hT : tabOk w) :
  Calls Tryz.prog 43 #[.slice a n cl,.slice none 0 0,.string ⟨#[]⟩] w fun e w' => ∃ base I M a1 a2 c1 c2 rv,e = .returned (.tuple #[.pointer (some ⟨I.m,0,none⟩),rv]) ∧ MonS w' base I M ∧ (w.heap.size ≤ base ∧ base ≤ w'.heap.size) ∧ Upd (fun k => w.heap.size ≤ k) w w' ∧
   M.pv = .slice a1 n c1 ∧ M.ev = .slice a2 n c2 ∧ M.L = newL biasI n ∧ M.t = 0 ∧ (∀ i,M.bx i = []) ∧ M.ll = [] ∧ M.ins = List.replicate n [] ∧ FB M.f := by
 have hT0 := hT.lt
 refine enter (args := [_,_,_]) (Γ := [(0,_),(1,_),(2,_)]) Tryz.func43 Tryz.ntmps43 rfl odq (.cons rfl (.cons rfl (.cons rfl .nil))) ?_
 repeat' first | refine Wl.move rfl rfl ?_ | refine Wl.assign rfl rfl ?_ | refine Wl.len rfl rfl ?_ | apply Wl.nil | apply St.seq | apply St.region | apply Gt.next
 apply Wl.callC
 ·exact rfl
 ·exact kd
 intro wq hq
 have zq := hq.upd.size
 refine (payloads n kc wq).mono ?_
 rintro e w1 ⟨v,gs,rfl,hrow,hgr,u1⟩
 obtain ⟨pb,pcap,J,rfl,hpb,hblk⟩ := hrow.blk kc
 have U1 : Upd (fun k => w.heap.size ≤ k) w w1 := Upd.comp (S := fun k => w.heap.size ≤ k) (hq.upd.mono fun _ _ y => (y trivial).elim) u1 fun k _ hs => hs.elim id fun h => Nat.le_trans zq h
 have z1 := U1.size
 refine ⟨_,_,rfl,Hp.start w1,?_⟩
 clear hq
 repeat' first | refine Wl.assign rfl rfl ?_ | apply Wl.nil | apply St.seq | apply St.region | apply Gt.next
 apply Wl.callC
 ·exact rfl
 ·exact kd
 intro wr hr
 have zr := hr.upd.size
 refine (newMem wr).mono ?_
 rintro e w2 ⟨cM,rfl,hM2,hcM⟩
 have u2 : Upd (fun k => w1.heap.size ≤ k) w1 w2 := Hp.on1 hM2 (hr.upd.mono fun _ _ y => (y trivial).elim) ky
 have z2 := u2.size
 have m2 : memH w2 cM fun _ => 0 := hM2.own.at (.head _)
 refine ⟨_,_,rfl,Hp.start w2,?_⟩
 clear hr
 apply Wl.callC
 ·exact rfl
 ·exact kd
 intro wr hr
 have zr2 := hr.upd.size
 refine (ramNew wr).mono ?_
 rintro e w3 ⟨rb,rm,rfl,hR3,hrm,hrb,u3'⟩
 have u3 : Upd (fun k => w2.heap.size ≤ k) w2 w3 := Upd.comp (S := fun k => w2.heap.size ≤ k) (hr.upd.mono fun _ _ y => (y trivial).elim) u3' fun k _ hs => hs.elim id fun h => Nat.le_trans zr2 h
 have lm2 := lt_of_block m2
 have lpb := lt_of_block hblk
 have v3 : Upd (fun k => w1.heap.size ≤ k) w1 w3 := u2.comp u3 fun k _ hs => hs.elim id fun h => Nat.le_trans z2 h
 have B3 : BegS w w3 n 0 pb J gs (caF l 0) cM rb rm 0 (loadF l 0) (.slice none 0 0) (.slice none 0 0) (fun _ => 0) (fun _ => 0) := {
  pay := v3.heap hblk kc
  gr := fun j hj => ⟨by have := (hgr j hj).1;omega,v3.heap (hgr j hj).2 (by have := lt_of_block (hgr j hj).2;omega)⟩
  mem := u3.heap m2 kc
  ram := hR3
  ent := World.ownsRow_nil _ _ _ _
  enx := fun j hj => by cases hj
  st := World.ownsRow_nil _ _ _ _
  up := U1.comp v3 fun k _ hs => hs.elim id fun h => Nat.le_trans z1 h
  ge := ⟨by omega,by omega,by omega,by omega⟩ }
 refine ⟨_,_,rfl,Hp.start w3,?_⟩
 clear hr u1 u2 u3 u3' v3 hM2 m2 hR3 hgr hrow hblk U1
 have hBF : ∀ b,BegF n 0 pb gs cM rb rm (.slice none 0 0) (.slice none 0 0) (fun _ => 0) b → b < w3.heap.size := fun b hb => (B3.lt b hb).2
 repeat' first | refine Wl.move rfl rfl ?_ | refine Wl.assign rfl rfl ?_ | refine Wl.len rfl rfl ?_ | apply Wl.nil | apply St.seq | apply St.region | apply Gt.next
 apply Wl.makeSlice
 ·exact rfl
 ·exact rfl
 ·exact rfl
 ·exact Nat.ble_eq_true_of_le kc
 ·omega
 intro c11 hc11 _
 repeat' first | refine Wl.move rfl rfl ?_ | refine Wl.assign rfl rfl ?_ | refine Wl.len rfl rfl ?_ | apply Wl.nil | apply St.seq | apply St.region | apply Gt.next
 apply Wl.makeSlice
 ·exact rfl
 ·exact rfl
 ·exact rfl
 ·exact Nat.ble_eq_true_of_le kc
 ·omega
 intro c12 hc12 ho12
 have hst0 : (madeCells (Value.int .u32 0).cells (n * 1)).toList = stC n 0 := by
  rcases (show n = 1 ∨ n = 2 ∨ n = 3 by omega) with h | h | h <;> (rw [h];kernel_rfl)
 have hys0 : ((madeCells (Value.slice none 0 0).cells (n * 1)).toList).length = n ∧ ((madeCells (Value.slice none 0 0).cells (n * 1)).toList).all Value.oneCell' = true := by
  rcases (show n = 1 ∨ n = 2 ∨ n = 3 by omega) with h | h | h <;> (rw [h];exact ⟨by kernel_rfl,by kernel_rfl⟩)
 rw [hst0]
 generalize (madeCells (Value.slice none 0 0).cells (n * 1)).toList = ys0 at *
 have n12 : c11 ≠ c12 := ho12.1
 repeat' first | refine Wl.assign rfl rfl ?_ | apply Wl.nil | apply Gt.next
 refine St.cut (σ := World × Nat × List Value) (fun τ => τ.2.1 ≤ 20000 * n ∧ BegS w τ.1 n 0 pb J gs (caF l n) cM rb rm τ.2.1 (loadF l n) (.slice none 0 0) (.slice none 0 0) (fun _ => 0) (fun _ => 0) ∧ τ.2.2.length = n ∧ τ.2.2.all Value.oneCell' = true)
  (fun _ => [(0,.slice a n cl),(1,.slice none 0 0),(2,.string ⟨#[]⟩),(6,.pointer none),(7,.pointer none),(8,.slice (some ⟨pb,0,none⟩) n pcap),(9,.pointer (some ⟨cM,0,none⟩)),(10,.pointer (some ⟨rb,0,none⟩)),(11,.slice (some ⟨c11,0,none⟩) n n),(12,.slice (some ⟨c12,0,none⟩) n n)]) (fun τ => Hp τ.1 [⟨c12,τ.2.2,65⟩,⟨c11,stC n n,25⟩]) ?_ ?_
 ·repeat' first | refine Wl.move rfl rfl ?_ | refine Wl.len rfl rfl ?_ | apply Wl.nil | apply St.seq | apply St.block | apply St.region | apply Gt.next
  refine St.loop (σ := Nat × World × Nat × List Value) (fun τ => τ.1 ≤ n ∧ τ.2.2.1 ≤ 20000 * τ.1 ∧ BegS w τ.2.1 n 0 pb J gs (caF l τ.1) cM rb rm τ.2.2.1 (loadF l τ.1) (.slice none 0 0) (.slice none 0 0) (fun _ => 0) (fun _ => 0) ∧ (τ.2.2.2.length = n ∧ τ.2.2.2.all Value.oneCell' = true) ∧ w3.heap.size ≤ τ.2.1.heap.size)
   (fun τ => [(0,.slice a n cl),(1,.slice none 0 0),(2,.string ⟨#[]⟩),(6,.pointer none),(7,.pointer none),(8,.slice (some ⟨pb,0,none⟩) n pcap),(9,.pointer (some ⟨cM,0,none⟩)),(10,.pointer (some ⟨rb,0,none⟩)),(11,.slice (some ⟨c11,0,none⟩) n n),(12,.slice (some ⟨c12,0,none⟩) n n),(34,.slice a n cl),(35,.int .i64 (n : Int)),(36,.int .i64 (τ.1 : Int))]) (fun τ => Hp τ.2.1 [⟨c12,τ.2.2.2,65⟩,⟨c11,stC n τ.1,25⟩]) (fun τ => n - τ.1)
   (0,w3,0,ys0) ⟨Nat.zero_le _,Nat.zero_le _,B3,hys0,Nat.le_refl _⟩ kq (fun _ h => h) ?_
  rintro ⟨i,w0,rn,ys⟩ ⟨hi,hrn,B0,hys,z30⟩
  try simp only at hi hrn B0 hys z30 ⊢
  have s0 := B0.size
  by_cases hlt : i < n
  ·have hd : decide ((i : Int) < (n : Int)) = true := decide_eq_true kc
   obtain ⟨x,hx⟩ : ∃ x,l[i]? = some x := ⟨_,List.getElem?_eq_getElem kc⟩
   have hgx : l.getD i ⟨[],[],0,[]⟩ = x := by rw [List.getD_eq_getElem?_getD,hx];rfl
   obtain ⟨lb,lo,rfl,v0,v1,v3,hcell,hV⟩ := hL i x hx
   have hlb : lb < w.heap.size := cell_old (hcell 0 _ rfl)
   have hcell' : ∀ q v,(loadC v0 v1 v3 x)[q]? = some v → w0.cell? ⟨lb,lo + (i : Int).toNat * 4 + q,none⟩ = some v := fun q v hq => by rw [Int.toNat_natCast];exact B0.up.cell (hcell q v hq) (Nat.not_le.2 hlb)
   obtain ⟨ca,cc,rfl,hcw⟩ := hV.code
   have ho1 : v1.oneCell' = true := by obtain ⟨va,vc,rfl,_⟩ := hV.data.shape;rfl
   have ho3 : v3.oneCell' = true := by obtain ⟨va,vc,rfl,_⟩ := hV.regs;rfl
   have hlo : (loadC (.slice ca x.code.length cc) v1 v3 x).all Value.oneCell' = true := by show (true && (v1.oneCell' && (true && (v3.oneCell' && true)))) = true;rw [ho1,ho3];rfl
   obtain ⟨hxl1,hxl2,hxl3⟩ := hV.len
   have hpbl := hBF pb (.inl rfl)
   have hpx : (payRs gs (caF l i) n)[i]? = some (payX i (gs i) (caF l i i)) := payRs_at gs _ hlt
   have hca : caF l (i + 1) i = bits .and .i64 x.calls 255 := by unfold caF;rw [if_pos (Nat.lt_succ_self i),hgx]
   have hset : LSet ((payRs gs (caF l i) n).flatten ++ J) (0 + (i : Int).toNat * 36 + 35) (.int .i64 (bits .and .i64 x.calls 255)) ((payRs gs (caF l (i + 1)) n).flatten ++ J) := by
    rw [Int.toNat_natCast,Nat.zero_add,← hca,← payRs_set gs (caF l i) (caF l (i + 1)) hlt (fun j hj => by unfold caF;by_cases h : j < i;rw [if_pos h,if_pos kc];rw [if_neg h,if_neg kc])]
    exact LSet.flat (payRs_len _ _ _) hpx ku
   have hst' : LSet (stC n i) (0 + (i : Int).toNat * 1) (.int .u32 (biasI i)) (stC n (i + 1)) := by rw [Int.toNat_natCast,Nat.mul_one,Nat.zero_add];exact stC_set hlt
   have hst'' : LSet (stC n i) (0 + (i : Int).toNat) (.int .u32 (biasI i)) (stC n (i + 1)) := by rw [Int.toNat_natCast,Nat.zero_add];exact stC_set hlt
   have hpl : ((payRs gs (caF l (i + 1)) n).flatten ++ J)[0 + (i : Int).toNat * 36 + 33]? = some (.int .u32 (biasI i)) := by
    have hf := flat_get (payRs_len gs (caF l (i + 1)) n) (payRs_at gs (caF l (i + 1)) hlt) (q := 33) ku
    rw [(payX_at i (gs i) (caF l (i + 1) i)).1] at hf
    rw [Int.toNat_natCast,Nat.zero_add,List.getElem?_append_left (List.getElem?_eq_some_iff.1 hf).1]
    exact hf
   refine St.cls (fun _ h' => Hp.open h' B0.pay ⟨by simp only;omega,by simp only;omega,trivial⟩) ?_
   repeat' first | (apply Wl.store;exact rfl;exact rfl;exact rfl;exact kd;(first | exact hset | exact hst' | exact hst'')) | (apply Wl.loadAB (xs := loadC (.slice ca x.code.length cc) v1 v3 x);exact rfl;exact rfl;(intro j v hj;exact hcell' j v hj);exact km;exact rfl) | (apply Wl.storeA (xs := loadC (.slice ca x.code.length cc) v1 v3 x);exact rfl;exact rfl;exact rfl;exact hlo;exact kd;exact .z (LOver.whole rfl)) | (apply Wl.loadH;exact rfl;exact rfl;exact kd;exact hpl) | refine Wl.move rfl rfl ?_ | refine Wl.assign rfl rfl ?_ | refine Wl.fieldAddrZ rfl rfl ?_ | refine Wl.fieldAddr rfl rfl ?_ | (apply Wl.loadH;exact rfl;exact rfl;exact kd;exact rfl) | refine Wl.lss rfl rfl rfl ?_ | refine Wl.and rfl rfl rfl ?_ | (apply Wl.alloc;exact rfl;intro c hc ho) | (refine Wl.indexAddr1 rfl rfl rfl ?_ ?_;constructor <;> omega) | (refine Wl.indexAddr rfl rfl rfl ?_ ?_;constructor <;> omega) | apply Wl.nil | apply St.seq | apply St.block | apply St.region | (apply St.condT;exact rfl;exact k5) | apply St.skip | apply Gt.next
   generalize c = c9 at *
   have hc9 : w0.heap.size ≤ c9 := by assumption
   refine St.reb (H' := [⟨c9,loadC (.slice ca x.code.length cc) v1 v3 x,30⟩,⟨c12,ys,65⟩,⟨c11,stC n (i + 1),25⟩]) fun w4 h4 => ⟨⟨h4.own.1,h4.own.2.2⟩,⟨h4.apart.1.2,h4.apart.2.2⟩,?_⟩
   have u4 : Upd (fun b => b = pb ∨ w3.heap.size ≤ b) w0 w4 := h4.upd.mono fun k _ y => (by
    have := in_off y
    simp only [List.map_cons,List.map_nil,List.mem_cons,List.not_mem_nil,or_false] at this
    omega)
   have zw3 := B3.up.size
   have B4 := B0.payN hBF zw3 (own_c h4.own (.tail _ (.head _))) u4
   have z4 := u4.size
   have lq9 : c9 < w4.heap.size := lt_of_block (own_c h4.own (.head _))
   have mv4 : ∀ {H : List Blk} {w' : World},Hp w4 H w' → (∀ y ∈ H,w3.heap.size ≤ y.b) → BegS w w' n 0 pb J gs (caF l (i + 1)) cM rb rm rn (loadF l i) (.slice none 0 0) (.slice none 0 0) (fun _ => 0) (fun _ => 0) := fun h' hH => B4.upd h'.upd (fun b hb hs => by
    obtain ⟨y,hy,e⟩ := List.mem_map.1 (in_off hs)
    have := hH y hy
    have := hBF b hb
    omega) (fun b hb hs => by
    obtain ⟨y,hy,e⟩ := List.mem_map.1 (in_off hs)
    have := hH y hy
    omega)
   have hH3 : ∀ y ∈ ([⟨c9,loadC (.slice ca x.code.length cc) v1 v3 x,30⟩,⟨c12,ys,65⟩,⟨c11,stC n (i + 1),25⟩] : List Blk),w3.heap.size ≤ y.b := by
    simp only [List.mem_cons,List.not_mem_nil,or_false,forall_eq_or_imp,forall_eq]
    omega
   refine St.tree (fun w' => w'.cell? ⟨pb,0 + (i : Int).toNat * 36 + 33,none⟩ = some (.int .u32 (biasI i))) mixed (fun _ h' => ⟨Hp.drew h',((mv4 (Hp.drew h') hH3).at hlt).1⟩) ?_
   refine Mt.pm 0 ?_
   refine Mt.pm 1 ?_
   refine Mt.pm 2 ?_
   refine Mt.pm 3 ?_
   refine Mt.pm 10 ?_
   refine Mt.pm 11 ?_
   refine Mt.pu 4 ?_
   refine Wl.indexAddr rfl rfl rfl ?_ ?_;constructor <;> omega;apply Wl.nilB
   refine Mt.pu 12 ?_
   refine Wl.indexAddr rfl rfl rfl ?_ ?_;constructor <;> omega;apply Wl.nilB
   refine Mt.pu 5 ?_
   refine Wl.fieldAddr rfl rfl (Wl.nilB ?_)
   refine Mt.pu 13 ?_
   refine Wl.fieldAddr rfl rfl (Wl.nilB ?_)
   refine Mt.pu 6 ?_
   apply Wl.loadF;exact rfl;exact rfl;(intro w' h';exact h');apply Wl.nilB
   refine Mt.pu 14 ?_
   apply Wl.loadF;exact rfl;exact rfl;(intro w' h';exact h');apply Wl.nilB
   refine Mt.pu 7 ?_
   refine Wl.shr rfl rfl rfl ?_ ?_;omega;apply Wl.nilB
   refine Mt.pu 15 ?_
   refine Wl.addN32 rfl rfl rfl (Wl.nilB ?_)
   refine Mt.pu 8 ?_
   refine Wl.or rfl rfl rfl (Wl.nilB ?_)
   refine Mt.pu 16 ?_
   refine Wl.shr rfl rfl rfl ?_ ?_;omega;apply Wl.nilB
   refine Mt.pu 9 ?_
   apply Wl.buildS;exact rfl;exact kj;exact ka;apply Wl.nilB
   refine Mt.pu 17 ?_
   refine Wl.or rfl rfl rfl (Wl.nilB ?_)
   refine Mt.pu 18 ?_
   apply Wl.buildS;exact rfl;exact kj;exact ka;apply Wl.nilB
   refine Mt.e1 19 ?_
   repeat' first | (apply Wl.lit;exact rfl;exact kj;exact rfl;exact rfl;exact ke;intro c hc ho) | apply Wl.nil
   refine Mt.backE (fun _ h' => ((mv4 h' (by
    simp only [List.mem_cons,List.not_mem_nil,or_false,forall_eq_or_imp,forall_eq]
    omega)).at hlt).1) ?_
   refine Mt.pu 20 ?_
   refine Wl.indexAddr1 rfl rfl rfl ?_ ?_;constructor <;> omega;apply Wl.nilB
   refine Mt.e1 21 ?_
   repeat' first | (apply Wl.store;exact rfl;exact rfl;exact rfl;exact kd;exact LSet.get (by simp only [Int.toNat_natCast];omega)) | apply Wl.nil
   refine Mt.backE (fun _ h' => ((mv4 h' (by
    simp only [List.mem_cons,List.not_mem_nil,or_false,forall_eq_or_imp,forall_eq]
    omega)).at hlt).1) ?_
   refine Mt.toGt kb ?_
   repeat' first | apply Gt.next
   have hys2 : ∀ v : Value,v.oneCell' = true → ∀ q,(ys.set q v).length = n ∧ (ys.set q v).all Value.oneCell' = true := fun v hv q => ⟨by rw [List.length_set];exact hys.1,by
    rw [List.all_eq_true]
    intro u hu
    rcases List.mem_or_eq_of_mem_set hu with h | h
    ·exact List.all_eq_true.1 hys.2 u h
    ·rw [h];exact hv⟩
   have hys3 := hys2 (.slice (some ⟨c,0,none⟩) 2 2) rfl (0 + (i : Int).toNat)
   generalize ys.set (0 + (i : Int).toNat) (.slice (some ⟨c,0,none⟩) 2 2) = ys2 at *
   refine St.reb (H' := [⟨c9,loadC (.slice ca x.code.length cc) v1 v3 x,30⟩,⟨c12,ys2,65⟩,⟨c11,stC n (i + 1),25⟩]) fun w5 h5 => ⟨h5.own.2,h5.apart.2,?_⟩
   have B5 := mv4 h5 (by
    simp only [List.mem_cons,List.not_mem_nil,or_false,forall_eq_or_imp,forall_eq]
    omega)
   have z5 := h5.upd.size
   have hH4 : ∀ y ∈ ([⟨c9,loadC (.slice ca x.code.length cc) v1 v3 x,30⟩,⟨c12,ys2,65⟩,⟨c11,stC n (i + 1),25⟩] : List Blk),w3.heap.size ≤ y.b := by
    simp only [List.mem_cons,List.not_mem_nil,or_false,forall_eq_or_imp,forall_eq]
    omega
   clear mv4 hset hpx h5 u4
   repeat' first | refine Wl.move rfl rfl ?_ | refine Wl.fieldAddr0 rfl rfl ?_ | (apply Wl.loadH;exact rfl;exact rfl;exact kd;exact rfl) | refine Wl.len rfl rfl ?_ | apply Wl.nil | apply St.seq | apply St.block | apply St.region | apply Gt.next
   refine St.loop (σ := Nat × World × Nat) (fun τ => τ.1 ≤ x.code.length ∧ τ.2.2 ≤ rn + 8 * τ.1 ∧ BegS w τ.2.1 n 0 pb J gs (caF l (i + 1)) cM rb rm τ.2.2 (codeF (loadF l i) (4096 + 12288 * i) x.code τ.1) (.slice none 0 0) (.slice none 0 0) (fun _ => 0) (fun _ => 0) ∧ w5.heap.size ≤ τ.2.1.heap.size)
    (fun τ => [(0,.slice (some ⟨lb,lo,none⟩) n cl),(1,.slice none 0 0),(2,.string ⟨#[]⟩),(6,.pointer none),(7,.pointer none),(8,.slice (some ⟨pb,0,none⟩) n pcap),(9,.pointer (some ⟨cM,0,none⟩)),(10,.pointer (some ⟨rb,0,none⟩)),(11,.slice (some ⟨c11,0,none⟩) n n),(12,.slice (some ⟨c12,0,none⟩) n n),(13,.int .i64 (i : Int)),(14,.pointer (some ⟨c9,0,none⟩)),(34,.slice (some ⟨lb,lo,none⟩) n cl),(35,.int .i64 (n : Int)),(36,.int .i64 (i : Int)),(78,.slice ca x.code.length cc),(79,.int .i64 (x.code.length : Int)),(80,.int .i64 (τ.1 : Int))]) (fun τ => Hp τ.2.1 [⟨c9,loadC (.slice ca x.code.length cc) v1 v3 x,30⟩,⟨c12,ys2,65⟩,⟨c11,stC n (i + 1),25⟩]) (fun τ => x.code.length - τ.1) (0,w5,rn) ⟨Nat.zero_le _,Nat.le_refl _,B5,Nat.le_refl _⟩ kq (fun _ h => h) ?_
   clear B5
   rintro ⟨k,w6,rn6⟩ ⟨hk,hrn6,B6,z56⟩
   try simp only at hk hrn6 B6 z56 ⊢
   have mv6 : ∀ {H : List Blk} {w' : World},Hp w6 H w' → (∀ y ∈ H,w3.heap.size ≤ y.b) → BegS w w' n 0 pb J gs (caF l (i + 1)) cM rb rm rn6 (codeF (loadF l i) (4096 + 12288 * i) x.code k) (.slice none 0 0) (.slice none 0 0) (fun _ => 0) (fun _ => 0) := fun h' hH => B6.upd h'.upd (fun b hb hs => by
    obtain ⟨y,hy,e⟩ := List.mem_map.1 (in_off hs)
    have := hH y hy
    have := hBF b hb
    omega) (fun b hb hs => by
    obtain ⟨y,hy,e⟩ := List.mem_map.1 (in_off hs)
    have := hH y hy
    omega)
   have hcMl := hBF cM (.inr (.inr (.inl rfl)))
   have hrml := hBF rm (.inr (.inr (.inr (.inr (.inl rfl)))))
   obtain ⟨pa1,pa2⟩ := B6.at hlt
   have hbi : biasI i = 2147487744 + 12288 * (i : Int) := rfl
   by_cases hkl : k < x.code.length
   ·have hdk : decide ((k : Int) < (x.code.length : Int)) = true := decide_eq_true kc
    obtain ⟨wo,hwo⟩ : ∃ wo,x.code[k]? = some wo := ⟨_,List.getElem?_eq_getElem hkl⟩
    obtain ⟨cb,co,rfl,hc5,hwr⟩ := hcw k wo hwo
    have hcb : cb < w.heap.size := cell_old hc5
    have hcc5 : w6.cell? ⟨cb,co + (k : Int).toNat,none⟩ = some (.int .u32 wo) := by rw [Int.toNat_natCast];exact B6.up.cell hc5 (Nat.not_le.2 hcb)
    have hat : IntKind.u32.wrap (biasI i + 4 * (k : Int)) = biasI i + 4 * k := by rw [IntKind.wrap_u32];unfold biasI;omega
    repeat' first | (apply Wl.loadO;exact rfl;exact rfl;exact zx;exact km) | refine Wl.move rfl rfl ?_ | refine Wl.assign rfl rfl ?_ | refine Wl.fieldAddr rfl rfl ?_ | refine Wl.lss rfl rfl rfl ?_ | (refine Wl.mulI rfl rfl rfl ?_ ?_;constructor <;> omega) | refine Wl.add rfl rfl rfl ?_ | (refine Wl.convU32 rfl rfl ?_ ?_;constructor <;> omega) | (refine Wl.indexAddr1 rfl rfl rfl ?_ ?_;constructor <;> omega) | (refine Wl.indexAddr rfl rfl rfl ?_ ?_;constructor <;> omega) | apply Wl.nil | apply St.seq | apply St.block | apply St.region | (apply St.condT;exact rfl;exact k5) | apply St.skip | apply Gt.next
    apply Wl.callC
    ·exact rfl
    ·exact kd
    intro wq hq
    have zq6 := hq.upd.size
    refine (mstore cM _ 4 wo _ wq (by rw [hat];constructor <;> omega) (.inr (.inr rfl)) (mv6 hq hH4).mem).mono ?_
    rintro e w7 ⟨⟨z,rfl⟩,hp7⟩
    have u7 := Hp.turned hp7
    have m7 := hp7.own.at (.head _)
    rw [hat,if_pos qx,show (biasI i + 4 * (k : Int) - 2147483648).toNat = 4096 + 12288 * i + 4 * k by omega,show Int.toNat 4 = 4 from rfl] at m7
    have B7 : BegS w w7 n 0 pb J gs (caF l (i + 1)) cM rb rm rn6 (codeF (loadF l i) (4096 + 12288 * i) x.code (k + 1)) (.slice none 0 0) (.slice none 0 0) (fun _ => 0) (fun _ => 0) := by
     refine (mv6 hq hH4).mem' ?_ u7
     unfold codeF
     rw [show x.code.getD k 0 = wo by rw [List.getD_eq_getElem?_getD,hwo];rfl]
     exact m7
    have z7 := u7.size
    have hq7 := Hp.restD hq u7 (fun y hy e => by have := hH4 y hy;omega)
    obtain ⟨pb1,pb2⟩ := B7.at hlt
    refine ⟨_,_,rfl,hq7,?_⟩
    clear hq hp7
    repeat' first | (apply Wl.loadO;exact rfl;exact rfl;exact zx;exact km) | refine Wl.move rfl rfl ?_ | refine Wl.fieldAddr rfl rfl ?_ | (refine Wl.addI rfl rfl rfl ?_ ?_;constructor <;> omega) | (refine Wl.mulI rfl rfl rfl ?_ ?_;constructor <;> omega) | (refine Wl.convI64 rfl rfl ?_ ?_;constructor <;> omega) | (refine Wl.indexAddr rfl rfl rfl ?_ ?_;constructor <;> omega) | apply Wl.nil | apply St.region | apply Gt.next
    apply Wl.callC
    ·exact rfl
    ·exact kd
    intro wr hr
    have zr7 := hr.upd.size
    have B7r : BegS w wr n 0 pb J gs (caF l (i + 1)) cM rb rm rn6 (codeF (loadF l i) (4096 + 12288 * i) x.code (k + 1)) (.slice none 0 0) (.slice none 0 0) (fun _ => 0) (fun _ => 0) := B7.upd hr.upd (fun b hb hs => by
     obtain ⟨y,hy,e⟩ := List.mem_map.1 (in_off hs)
     have := hH4 y hy
     have := hBF b hb
     omega) (fun b hb hs => by
     obtain ⟨y,hy,e⟩ := List.mem_map.1 (in_off hs)
     have := hH4 y hy
     omega)
    refine (ramStore rb rm rn6 _ _ wr B7r.ram kc qx).mono ?_
    rintro e w8 ⟨⟨z2,rfl⟩,hR8,u8⟩
    have B8 := B7r.ram' hR8 u8
    have z8 := u8.size
    have hq8 := Hp.restD hr u8 (fun y hy e => by
     have := hH4 y hy
     have := hr.own.lt hy
     omega)
    refine ⟨_,_,rfl,hq8,?_⟩
    clear hr
    repeat' first | refine Wl.move rfl rfl ?_ | (refine Wl.addI rfl rfl rfl ?_ ?_;constructor <;> omega) | apply Wl.nil | apply St.region | apply Gt.next | apply Gt.inNormal
    exact Gt.round (k + 1,w8,rn6 + 8) ⟨hkl,by simp only;omega,B8,by simp only;omega⟩ ky kq (fun _ h => h)
   ·obtain rfl : k = x.code.length := by omega
    have hdk : decide ((x.code.length : Int) < (x.code.length : Int)) = false := decide_eq_false kc
    repeat' first | refine Wl.lss rfl rfl rfl ?_ | apply Wl.nil | apply St.seq | apply St.region | (apply St.condF;exact rfl;exact k5) | apply St.exit | apply Gt.next | apply Gt.thenExit | apply Gt.inExit
    have hat2 : IntKind.u32.wrap (biasI i + 4096) = biasI i + 4096 := by rw [IntKind.wrap_u32];omega
    have hdl : ∀ wz : World,Upd (fun k => w.heap.size ≤ k) w wz → Bs wz v1 x.data := fun wz u => hV.data.upd u fun k _ hk _ h => by omega
    have hcMg := (B6.lt cM (.inr (.inr (.inl rfl)))).1
    have hrmg := (B6.lt rm (.inr (.inr (.inr (.inr (.inl rfl)))))).1
    refine St.tree (fun w' => w'.cell? ⟨pb,0 + (i : Int).toNat * 36 + 33,none⟩ = some (.int .u32 (biasI i)) ∧ w'.heap[c9]? = some (.cells (loadC (.slice ca x.code.length cc) v1 v3 x).toArray 30 (0,0))) mixed (fun _ h' => ⟨Hp.drew h',((mv6 (Hp.drew h') hH4).at hlt).1,own_c (Hp.drew h').own (.head _)⟩) ?_
    refine Mt.pm 0 ?_
    refine Mt.pm 1 ?_
    refine Mt.pm 2 ?_
    refine Mt.pu 3 ?_
    refine Wl.indexAddr rfl rfl rfl ?_ ?_;constructor <;> omega;apply Wl.nilB
    refine Mt.pz 7 ?_
    refine Mt.pu 4 ?_
    refine Wl.fieldAddr rfl rfl (Wl.nilB ?_)
    refine Mt.pu 8 ?_
    apply Wl.loadF;exact rfl;exact rfl;(intro w' h';first | exact h'.1 | exact cell_of h'.2 rfl);apply Wl.nilB
    refine Mt.pu 5 ?_
    apply Wl.loadF;exact rfl;exact rfl;(intro w' h';first | exact h'.1 | exact cell_of h'.2 rfl);apply Wl.nilB
    refine Mt.pu 6 ?_
    refine Wl.add rfl rfl rfl (Wl.nilB ?_)
    refine Mt.e1 9 ?_
    apply Wl.callC
    ·exact rfl
    ·exact kd
    intro wq hq
    have zq6 := hq.upd.size
    rw [hat2]
    refine (mputX1 cM _ (biasI i + 4096) v1 x.data wq (mv6 hq hH4).mem (hdl wq (mv6 hq hH4).up) (fun k hk hne e => by have := hV.dlt k hk hne;omega) qx qx kc).mono ?_
    rintro e w7 ⟨rfl,m7,u7⟩
    rw [at8192] at m7
    have B7 : BegS w w7 n 0 pb J gs (caF l (i + 1)) cM rb rm rn6 (loadF l (i + 1)) (.slice none 0 0) (.slice none 0 0) (fun _ => 0) (fun _ => 0) := by
     refine (mv6 hq hH4).mem' ?_ u7
     unfold loadF
     rw [hgx]
     exact m7
    have z7 := u7.size
    have hq7 := Hp.restD hq u7 (fun y hy e => by have := hH4 y hy;omega)
    have mv7 : ∀ {H : List Blk} {w' : World},Hp w7 H w' → (∀ y ∈ H,w3.heap.size ≤ y.b) → BegS w w' n 0 pb J gs (caF l (i + 1)) cM rb rm rn6 (loadF l (i + 1)) (.slice none 0 0) (.slice none 0 0) (fun _ => 0) (fun _ => 0) := fun h' hH => B7.upd h'.upd (fun b hb hs => by
     obtain ⟨y,hy,e⟩ := List.mem_map.1 (in_off hs)
     have := hH y hy
     have := hBF b hb
     omega) (fun b hb hs => by
     obtain ⟨y,hy,e⟩ := List.mem_map.1 (in_off hs)
     have := hH y hy
     omega)
    refine ⟨_,_,rfl,hq7,?_⟩
    clear hq
    apply Wl.nil
    refine Mt.backE (fun _ h' => ⟨((mv7 h' hH4).at hlt).1,own_c h'.own (.head _)⟩) ?_
    refine Mt.toGt kb ?_
    repeat' first | apply Gt.next
    refine St.tree (fun w' => w'.cell? ⟨pb,0 + (i : Int).toNat * 36 + 33,none⟩ = some (.int .u32 (biasI i)) ∧ w'.heap[c9]? = some (.cells (loadC (.slice ca x.code.length cc) v1 v3 x).toArray 30 (0,0))) mixed (fun _ h' => ⟨Hp.drew h',((mv7 (Hp.drew h') hH4).at hlt).1,own_c (Hp.drew h').own (.head _)⟩) ?_
    refine Mt.pm 0 ?_
    refine Mt.pm 1 ?_
    refine Mt.pm 2 ?_
    refine Mt.pu 3 ?_
    refine Wl.indexAddr rfl rfl rfl ?_ ?_;constructor <;> omega;apply Wl.nilB
    refine Mt.pz 8 ?_
    refine Mt.pu 4 ?_
    refine Wl.fieldAddr rfl rfl (Wl.nilB ?_)
    refine Mt.pu 9 ?_
    apply Wl.loadF;exact rfl;exact rfl;(intro w' h';first | exact h'.1 | exact cell_of h'.2 rfl);apply Wl.nilB
    refine Mt.pu 5 ?_
    apply Wl.loadF;exact rfl;exact rfl;(intro w' h';first | exact h'.1 | exact cell_of h'.2 rfl);apply Wl.nilB
    refine Mt.pu 6 ?_
    refine Wl.convI64 rfl rfl ?_ ?_;constructor <;> omega;apply Wl.nilB
    refine Mt.pu 7 ?_
    refine Wl.addI rfl rfl rfl ?_ ?_;constructor <;> omega;apply Wl.nilB
    refine Mt.e1 10 ?_
    apply Wl.callC
    ·exact rfl
    ·exact kd
    intro wr hr
    have zr7 := hr.upd.size
    refine (ramPutG rb rm rn6 _ v1 x.data wr (mv7 hr hH4).ram kc kc qx (hdl wr (mv7 hr hH4).up) (fun k hk hne e => by have := hV.dlt k hk hne;omega)).mono ?_
    rintro e w8 ⟨⟨z2,rfl⟩,hR8,u8⟩
    have B8 := (mv7 hr hH4).ram' hR8 (u8.mono fun b _ h => .inl h)
    have z8 := u8.size
    have hq8 := Hp.restD hr u8 (fun y hy e => by have := hH4 y hy;omega)
    have mv8 : ∀ {H : List Blk} {w' : World},Hp w8 H w' → (∀ y ∈ H,w3.heap.size ≤ y.b) → BegS w w' n 0 pb J gs (caF l (i + 1)) cM rb rm (rn6 + x.data.length) (loadF l (i + 1)) (.slice none 0 0) (.slice none 0 0) (fun _ => 0) (fun _ => 0) := fun h' hH => B8.upd h'.upd (fun b hb hs => by
     obtain ⟨y,hy,e⟩ := List.mem_map.1 (in_off hs)
     have := hH y hy
     have := hBF b hb
     omega) (fun b hb hs => by
     obtain ⟨y,hy,e⟩ := List.mem_map.1 (in_off hs)
     have := hH y hy
     omega)
    refine ⟨_,_,rfl,hq8,?_⟩
    clear hr
    apply Wl.nil
    refine Mt.backE (fun _ h' => ⟨((mv8 h' hH4).at hlt).1,own_c h'.own (.head _)⟩) ?_
    refine Mt.toGt kb ?_
    repeat' first | refine Wl.move rfl rfl ?_ | (refine Wl.addI rfl rfl rfl ?_ ?_;constructor <;> omega) | apply Wl.nil | apply St.region | apply Gt.next | apply Gt.inNormal
    refine Gt.reb (H' := [⟨c12,ys2,65⟩,⟨c11,stC n (i + 1),25⟩]) fun w9 h9 => ⟨h9.own.2,h9.apart.2,?_⟩
    have B9 := mv8 h9 hH4
    have z9 := h9.upd.size
    exact Gt.round (i + 1,w9,rn6 + x.data.length,ys2) ⟨hlt,by simp only;omega,B9,hys3,by simp only;omega⟩ ky kq (fun _ h => h)
  ·have hin : i = n := by omega
   subst hin
   have hd : decide ((i : Int) < (i : Int)) = false := decide_eq_false kc
   repeat' first | refine Wl.lss rfl rfl rfl ?_ | apply Wl.nil | apply St.seq | apply St.region | (apply St.condF;exact rfl;exact k5) | apply St.exit | apply Gt.next | apply Gt.thenExit | apply Gt.inExit
   exact Gt.meet (w0,rn,ys) ⟨hrn,B0,hys.1,hys.2⟩ kq (fun _ h => h)
 clear B3
 rintro ⟨w0,rn,ys⟩ ⟨hrn,B0,hy1,hy2⟩
 try simp only at hrn B0 hy1 hy2 ⊢
 have zw3 : w.heap.size ≤ w0.heap.size := B0.size
 repeat' first | refine Wl.move rfl rfl ?_ | apply St.seq | apply St.region
 refine Wl.reb (H' := []) fun wX hX => ⟨trivial,trivial,?_⟩
 have hHX : ∀ y ∈ ([⟨c12,ys,65⟩,⟨c11,stC n n,25⟩] : List Blk),w3.heap.size ≤ y.b := by
  simp only [List.mem_cons,List.not_mem_nil,or_false,forall_eq_or_imp,forall_eq]
  omega
 have zp3 := hBF pb (.inl rfl)
 have BX : BegS w wX n 0 pb J gs (caF l n) cM rb rm rn (loadF l n) (.slice none 0 0) (.slice none 0 0) (fun _ => 0) (fun _ => 0) := B0.upd hX.upd (fun b hb hs => by
  obtain ⟨y,hy,e⟩ := List.mem_map.1 (in_off hs)
  have := hHX y hy
  have := hBF b hb
  omega) (fun b hb hs => by
  obtain ⟨y,hy,e⟩ := List.mem_map.1 (in_off hs)
  have := hHX y hy
  have := B0.ge.1
  omega)
 have h11 := own_c hX.own (c := c11) (.tail _ (.head _))
 have hW0 : WordF wX (some ⟨c11,0,none⟩) n biasI := fun q hq => by
  refine ⟨c11,0,rfl,cell_of h11 ?_,?_⟩
  ·rw [Nat.zero_add]
   simp [stC,hq]
  ·unfold biasI;omega
 have zX := BX.up.size
 have hFB : FB (loadF l n) := loadF_FB l n
 apply Wl.callC
 ·exact rfl
 ·exact kd
 intro wq hq
 have zq := hq.upd.size
 refine (monNew (some ⟨pb,0,none⟩) (some ⟨c12,0,none⟩) (some ⟨c11,0,none⟩) n pcap n n cM biasI (loadF l n) wq kc (fun q hq' => by obtain ⟨b,o,e,h1,h2⟩ := hW0 q hq';exact ⟨b,o,e,hq.upd.cell h1 nt0,h2⟩) (hq.upd.heap BX.mem fun y => y trivial) w.heap.size BX.ge.2.1 (Nat.le_trans zX zq)).mono ?_
 rintro e w1 ⟨I,M,rfl,hM1,hIc,hMe,hMn,u1⟩
 have u01 : Upd (fun k => wX.heap.size ≤ k) wX w1 := Upd.comp (S := fun k => wX.heap.size ≤ k) (hq.upd.mono fun _ _ y => (y trivial).elim) u1 fun k _ hs => hs.elim id fun h => Nat.le_trans zq h
 have z1 := u01.size
 refine ⟨_,_,rfl,Hp.start w1,?_⟩
 clear hq u1
 repeat' first | refine Wl.move rfl rfl ?_ | refine Wl.assign rfl rfl ?_ | refine Wl.extract rfl rfl rfl ?_ | apply Wl.nil | apply St.seq | apply St.region | apply Gt.next
 apply Wl.callC
 ·exact rfl
 ·exact kd
 intro wr hr
 have zr := hr.upd.size
 refine (r26NewB (some ⟨pb,0,none⟩) (some ⟨c12,0,none⟩) (some ⟨c11,0,none⟩) (some ⟨rb,0,none⟩) n pcap n n biasI wr kc (fun q hq' => by obtain ⟨b,o,e,h1,h2⟩ := hW0 q hq';exact ⟨b,o,e,hr.upd.cell (u01.cell h1 (by have := cell_old h1;simp only at this ⊢;omega)) nt0,h2⟩)).mono ?_
 rintro e w2 ⟨rv,rfl,⟨rm2,rcw,rd,rfl,hrm2,hrw,hrcw,hrmg,hrmn,rpo,rbd,hrd,hpo,⟨ria,hrb,hria,hriag,hrbg⟩,hrdg⟩,u2⟩
 have u12 : Upd (fun k => w1.heap.size ≤ k) w1 w2 := Upd.comp (S := fun k => w1.heap.size ≤ k) (hr.upd.mono fun _ _ y => (y trivial).elim) u2 fun k _ hs => hs.elim id fun h => Nat.le_trans zr h
 have z2 := u12.size
 have hM2 := hM1.new u12 (Nat.le_refl _)
 refine ⟨_,_,rfl,Hp.start w2,?_⟩
 clear hr u2
 repeat' first | refine Wl.move rfl rfl ?_ | refine Wl.assign rfl rfl ?_ | refine Wl.leq rfl rfl rfl ?_ | refine Wl.lenS rfl rfl ?_ | apply Wl.nil | apply St.seq | apply St.region | (apply St.condT;exact rfl;exact k5) | apply Gt.next
 apply Wl.callC
 ·exact rfl
 ·exact kd
 intro wq hq
 have hins : M.ins = List.replicate n [] := by rw [hMe]
 have hi0 : M.ins[0]? = some [] := by rw [hins,List.getElem?_replicate,if_pos kc]
 have hset0 : M.ins.set 0 ([] ++ []) = M.ins := by
  refine List.ext_getElem? fun q => ?_
  rw [List.getElem?_set]
  split
  ·rename_i h
   subst h
   rw [if_pos (by rw [hins,List.length_replicate];omega),hi0]
   rfl
  ·rfl
 have zq2 := hq.upd.size
 refine (mFeed w.heap.size I M 0 [] [] wq (hM2.upd hq.upd fun _ _ y => y trivial) hi0 zd).mono ?_
 rintro e w3' ⟨rfl,hM3,u3⟩
 rw [hset0] at hM3
 have hIa := hMn I.ia (by unfold MonF;simp) (fun e => by
  have h1 := hM1.mem
  obtain ⟨cap,J',_,h3⟩ := hM1.board.1
  exact hne h3 h1 ku (e.trans hIc.symm))
 have lia := (hM1.lt I.ia (by unfold MonF;simp)).2
 have w13 : Upd (fun k => k = I.ia) w2 w3' := (hq.upd.mono fun _ _ y => (y trivial).elim).comp u3 fun k _ hs => hs.elim id fun h => h
 have f1 : w3'.heap[rm2]? = _ := w13.heap hrm2 kc
 have f2 : w3'.heap[rd]? = _ := w13.heap hrd kc
 have f3 : w3'.heap[rbd]? = _ := w13.heap hrb kc
 have f4 : w3'.heap[ria]? = _ := w13.heap hria kc
 obtain ⟨n',hn'⟩ : ∃ n',n = n' + 1 := ⟨n - 1,by omega⟩
 rw [hn',List.replicate_succ] at f4
 have q1 : w3'.cell? ⟨rm2,1,none⟩ = some (.pointer (some ⟨rd,0,none⟩)) := cell_of f1 rfl
 have q2 : w3'.cell? ⟨rd,4,none⟩ = some (.pointer (some ⟨rbd,0,none⟩)) := cell_of f2 rfl
 have q3 : w3'.cell? ⟨rbd,2,none⟩ = some (.slice (some ⟨ria,0,none⟩) n n) := cell_of f3 rfl
 have hbi : rbd ≠ ria := hne f3 f4 ku
 have z3' := w13.size
 refine ⟨_,_,rfl,Hp.start w3',?_⟩
 clear hq
 repeat' first | (apply Wl.loadO;exact rfl;exact rfl;exact zx;exact km) | refine Wl.move rfl rfl ?_ | refine Wl.nilCheck rfl rfl ?_ | refine Wl.fieldAddrZ rfl rfl ?_ | apply Wl.nil | apply St.region | apply Gt.next
 apply Wl.callC
 ·exact rfl
 ·exact kd
 intro wr hr
 refine (rFeed0 rbd ria n n _ wr (hr.upd.cell q3 fun y => y trivial) (hr.upd.heap f4 fun y => y trivial) kc hbi).mono ?_
 rintro e w4 ⟨⟨zz,rfl⟩,u4⟩
 have w34 : Upd (fun k => k = ria) w3' w4 := (hr.upd.mono fun _ _ y => (y trivial).elim).comp u4 fun k _ hs => hs.elim id fun h => h
 have lria := lt_of_block f4
 have hM4 := hM3.upd w34 fun b hb h => by
  have := (hM1.lt b hb).2
  omega
 have zw4 := w34.size
 have U4 : Upd (fun k => w.heap.size ≤ k) w w4 := by
  have U2 := (BX.up.comp u01 (T := fun k => w.heap.size ≤ k) fun k _ hs => hs.elim id fun h => Nat.le_trans zX h).comp u12 (T := fun k => w.heap.size ≤ k) fun k _ hs => hs.elim id fun h => by omega
  exact (U2.comp w13 (T := fun k => w.heap.size ≤ k) fun k _ hs => hs.elim id fun h => by omega).comp w34 fun k _ hs => hs.elim id fun h => by omega
 refine ⟨_,_,rfl,Hp.start w4,?_⟩
 clear hr u4 u3
 have d0 : decide ((0 : Int) < ((0 : Nat) : Int)) = false := by decide
 repeat' first | refine Wl.move rfl rfl ?_ | refine Wl.len rfl rfl ?_ | apply Wl.nil | apply St.seq | apply St.block | apply St.region | apply Gt.next
 refine St.loop (σ := Unit) (fun _ => True) (fun _ => [(163,.int .i64 0),(162,.int .i64 ((0 : Nat) : Int)),(17,.pointer (some ⟨I.m,0,none⟩)),(19,.pointer (some ⟨rm2,0,none⟩))]) (fun _ => Hp w4 []) (fun _ => 0) () trivial kq (fun _ h => h) ?_
 intro _ _
 repeat' first | refine Wl.move rfl rfl ?_ | refine Wl.assign rfl rfl ?_ | refine Wl.lss rfl rfl rfl ?_ | apply Wl.nil | apply St.seq | apply St.region | (apply St.condF;exact rfl;exact k5) | apply St.ret | apply St.exit | apply Gt.next | apply Gt.thenExit | apply Gt.inExit | (apply Gt.out2;exact rfl;exact rfl;exact rfl;intro w' hp)
 have hE : ∀ {x : Mv2},x = {M with ins := M.ins} → x.pv = .slice (some ⟨pb,0,none⟩) n pcap ∧ x.ev = .slice (some ⟨c12,0,none⟩) n n ∧ x.L = newL biasI n ∧ x.t = 0 ∧ (∀ i,x.bx i = []) ∧ x.ll = [] ∧ x.ins = List.replicate n [] ∧ FB x.f := fun h => by
  rw [h,hMe]
  exact ⟨rfl,rfl,rfl,rfl,fun _ => rfl,rfl,rfl,hFB⟩
 obtain ⟨g1,g2,g3⟩ := hE rfl
 exact ⟨w.heap.size,I,_,some ⟨pb,0,none⟩,some ⟨c12,0,none⟩,pcap,n,.pointer (some ⟨rm2,0,none⟩),rfl,hM4.upd hp.upd fun _ _ y => y trivial,⟨Nat.le_refl _,by have := hp.upd.size;omega⟩,U4.comp hp.upd fun k _ hs => hs.elim id fun h => (h trivial).elim,g1,g2,g3⟩
end Go.Proofs.YtabbklpalbikdaaGreatDoor
end
section
namespace Go.Pt
open Go.RowKit
end Go.Pt
namespace Go.Proofs.YtabbklpalbikdaaGreatDoor
open Go.RowKit Go.Pt
theorem small26 (a : Option Addr) (cl : Nat) (l : List LoadD) (w : World) (hn : l.length ≤ 140737488355328) (hL : LoadsO w a l) :
  Calls Tryz.prog 19 #[.slice a l.length cl] w fun e w' => (∃ z : Bool,e = .returned (.bool z) ∧ (z = true → (1 ≤ l.length ∧ l.length ≤ 3) ∧ SmallD l)) ∧ Upd (fun k => w.heap.size ≤ k) w w' := by
 refine enter (args := [_]) (Γ := [(0,_)]) Tryz.func19 Tryz.ntmps19 rfl odq (.cons rfl .nil) ?_
 repeat' first | refine Wl.move rfl rfl ?_ | refine Wl.assign rfl rfl ?_ | refine Wl.len rfl rfl ?_ | apply Wl.nil | apply St.seq | apply St.block | apply St.region | apply Gt.next
 refine St.loop (σ := Nat × Int × World) (fun τ => τ.1 ≤ l.length ∧ (0 ≤ τ.2.1 ∧ τ.2.1 ≤ 1500) ∧ Upd (fun k => w.heap.size ≤ k) w τ.2.2 ∧ SmallD (l.take τ.1))
  (fun τ => [(3,.int .i64 τ.2.1),(6,.slice a l.length cl),(0,.slice a l.length cl),(7,.int .i64 (l.length : Int)),(8,.int .i64 (τ.1 : Int))]) (fun τ => Hp τ.2.2 []) (fun τ => l.length - τ.1) (0,0,w) ⟨Nat.zero_le _,⟨show (0 : Int) ≤ 0 by decide,show (0 : Int) ≤ 1500 by decide⟩,Upd.refl _ _,fun x hx => by cases hx⟩ kq (fun _ h => h) ?_
 rintro ⟨i,n,w0⟩ ⟨hi,hr,hu0,hS⟩
 simp only at hi hr hu0 hS ⊢
 by_cases hlt : i < l.length
 ·have hd : decide ((i : Int) < (l.length : Int)) = true := decide_eq_true kc
  obtain ⟨x,hx⟩ : ∃ x,l[i]? = some x := ⟨_,List.getElem?_eq_getElem hlt⟩
  obtain ⟨lb,lo,rfl,v0,v1,v3,hcell,hV⟩ := hL i x hx
  have hlb : lb < w.heap.size := cell_old (hcell 0 _ rfl)
  have hcell' : ∀ q v,(loadC v0 v1 v3 x)[q]? = some v → w0.cell? ⟨lb,lo + (i : Int).toNat * 4 + q,none⟩ = some v := fun q v hq => by rw [Int.toNat_natCast];exact hu0.cell (hcell q v hq) (Nat.not_le.2 hlb)
  obtain ⟨b0,b1,b3⟩ := hV.big
  obtain ⟨ca,cc,rfl,_⟩ := hV.code
  obtain ⟨xa,xc,rfl,_⟩ := hV.regs
  obtain ⟨da,dc,rfl,_⟩ := hV.data.shape
  have hlo : (loadC (.slice ca x.code.length cc) (.slice da x.data.length dc) (.slice xa x.regs.length xc) x).all Value.oneCell' = true := rfl
  have hq4 : ((x.data.length : Int)).tdiv 4 = ((x.data.length / 4 : Nat) : Int) := by rw [Int.tdiv_eq_ediv_of_nonneg kc];omega
  have hqz : IntKind.i64.wrap (((x.data.length : Int)).tdiv 4) = ((x.data.length / 4 : Nat) : Int) := by rw [hq4,IntKind.wrap_i64];omega
  have l1 := hu0.size
  have hnext : x.code.length ≤ 1024 → x.data.length ≤ 4096 → x.regs.length ≤ 1500 → SmallD (l.take (i + 1)) := fun h1 h2 h3 y hy => by
   rw [List.take_add_one,hx] at hy
   rcases List.mem_append.1 hy with hy | hy
   ·exact hS y hy
   ·obtain rfl : y = x := by simpa using hy
    exact ⟨h1,h2,h3⟩
  have hd1 : decide (1500 < n + (1 + (x.code.length : Int) + ((x.data.length / 4 : Nat) : Int) + (x.regs.length : Int))) = decide (¬ (n + (1 + (x.code.length : Int) + ((x.data.length / 4 : Nat) : Int) + (x.regs.length : Int)) ≤ 1500)) := decide_eq_decide.2 kc
  repeat' first | (apply Wl.loadAB (xs := loadC (.slice ca x.code.length cc) (.slice da x.data.length dc) (.slice xa x.regs.length xc) x);exact rfl;exact rfl;(intro j v hj;exact hcell' j v hj);exact km;exact rfl) | (apply Wl.storeA (xs := loadC (.slice ca x.code.length cc) (.slice da x.data.length dc) (.slice xa x.regs.length xc) x);exact rfl;exact rfl;exact rfl;exact hlo;exact kd;exact .z (LOver.whole rfl)) | (refine Wl.addI rfl rfl rfl ?_ ?_;constructor <;> omega) | refine Wl.move rfl rfl ?_ | refine Wl.assign rfl rfl ?_ | (apply Wl.on;exact rfl;exact rfl;exact k5) | (apply Wl.off;exact rfl;exact rfl;exact rfl;exact kh) | (apply Wl.pickT;exact rfl;exact rfl;exact k5;exact rfl) | (apply Wl.pickF;exact rfl;exact rfl;exact k5;exact rfl) | refine Wl.fieldAddr0 rfl rfl ?_ | refine Wl.fieldAddrZ rfl rfl ?_ | (apply Wl.loadH;exact rfl;exact rfl;exact kd;exact rfl) | refine Wl.lss rfl rfl rfl ?_ | refine Wl.gtr rfl rfl rfl ?_ | (apply Wl.quo;exact rfl;exact rfl;exact rfl;exact j0) | refine Wl.len rfl rfl ?_ | (apply Wl.alloc;exact rfl;intro c hc ho) | (refine Wl.indexAddr rfl rfl rfl ?_ ?_;constructor <;> omega) | apply Wl.nil | apply St.seq | apply St.block | apply St.region | (apply St.condT;exact rfl;exact k5) | apply St.ret | apply St.skip | apply Gt.next | apply Gt.thenRet | apply Gt.inNormal | apply Gt.inRet | (apply Gt.out1;exact rfl;exact rfl;intro w' hp) | (apply Wl.splitP;exact rfl;exact rfl;all_goals (intros;try (exfalso;omega))) | (apply St.condP;exact rfl;all_goals (intros;try (exfalso;omega)))
  iterate 3
   refine ⟨⟨_,rfl,fun h => by cases h⟩,hu0.comp (hp.drop q9).upd fun k _ hs => hs.elim id fun y => (y trivial).elim⟩
  ·refine Gt.reb (H' := []) fun w3 h3 => ⟨trivial,trivial,?_⟩
   have u3 : Upd (fun k => w.heap.size ≤ k) w0 w3 := Hp.on1 h3 (Upd.refl _ _) ky
   refine Gt.round (i + 1,n + (1 + (x.code.length : Int) + IntKind.i64.wrap (((x.data.length : Int)).tdiv 4) + (x.regs.length : Int)),w3) ⟨by simp only;omega,⟨by simp only;omega,by simp only;omega⟩,hu0.comp u3 fun k _ hs => hs.elim id id,hnext kc kc kc⟩ ky kq (fun _ h => h)
 ·obtain rfl : i = l.length := by omega
  have hd : decide ((l.length : Int) < (l.length : Int)) = false := decide_eq_false kc
  by_cases h1 : 1 ≤ l.length
  ·have d1 : decide ((l.length : Int) ≥ 1) = true := decide_eq_true kc
   have d1' : decide ((1 : Int) ≤ (l.length : Int)) = true := decide_eq_true kc
   by_cases h3 : l.length ≤ 3
   ·have d3 : decide ((l.length : Int) ≤ 3) = true := decide_eq_true kc
    repeat' first | refine Wl.move rfl rfl ?_ | refine Wl.assign rfl rfl ?_ | (apply Wl.on;exact rfl;exact rfl;exact k5) | (apply Wl.pickT;exact rfl;exact rfl;exact k5;exact rfl) | refine Wl.lss rfl rfl rfl ?_ | refine Wl.leq rfl rfl rfl ?_ | refine Wl.geq rfl rfl rfl ?_ | refine Wl.len rfl rfl ?_ | apply Wl.nil | apply St.seq | apply St.region | (apply St.condF;exact rfl;exact k5) | apply St.ret | apply St.exit | apply Gt.next | apply Gt.thenExit | apply Gt.inExit | (apply Gt.out1;exact rfl;exact rfl;intro w' hp)
    exact ⟨⟨_,rfl,fun _ => ⟨⟨h1,h3⟩,by rw [List.take_length] at hS;exact hS⟩⟩,hu0.comp hp.upd fun k _ hs => hs.elim id fun y => (y trivial).elim⟩
   ·have d3 : decide ((l.length : Int) ≤ 3) = false := decide_eq_false kc
    repeat' first | refine Wl.move rfl rfl ?_ | refine Wl.assign rfl rfl ?_ | (apply Wl.on;exact rfl;exact rfl;exact k5) | (apply Wl.pickT;exact rfl;exact rfl;exact k5;exact rfl) | refine Wl.lss rfl rfl rfl ?_ | refine Wl.leq rfl rfl rfl ?_ | refine Wl.geq rfl rfl rfl ?_ | refine Wl.len rfl rfl ?_ | apply Wl.nil | apply St.seq | apply St.region | (apply St.condF;exact rfl;exact k5) | apply St.ret | apply St.exit | apply Gt.next | apply Gt.thenExit | apply Gt.inExit | (apply Gt.out1;exact rfl;exact rfl;intro w' hp)
    exact ⟨⟨_,rfl,fun h => Bool.noConfusion (h.symm.trans d3)⟩,hu0.comp hp.upd fun k _ hs => hs.elim id fun y => (y trivial).elim⟩
  ·have d1 : decide ((l.length : Int) ≥ 1) = false := decide_eq_false kc
   have d1' : decide ((1 : Int) ≤ (l.length : Int)) = false := decide_eq_false kc
   repeat' first | refine Wl.move rfl rfl ?_ | refine Wl.assign rfl rfl ?_ | (apply Wl.off;exact rfl;exact rfl;exact rfl;exact kh) | (apply Wl.pickF;exact rfl;exact rfl;exact k5;exact rfl) | refine Wl.lss rfl rfl rfl ?_ | refine Wl.geq rfl rfl rfl ?_ | refine Wl.len rfl rfl ?_ | apply Wl.nil | apply St.seq | apply St.region | (apply St.condF;exact rfl;exact k5) | apply St.ret | apply St.exit | apply Gt.next | apply Gt.thenExit | apply Gt.inExit | (apply Gt.out1;exact rfl;exact rfl;intro w' hp)
   exact ⟨⟨_,rfl,fun h => by cases h⟩,hu0.comp hp.upd fun k _ hs => hs.elim id fun y => (y trivial).elim⟩
theorem LoadsO.upd {w w' : World} {a : Option Addr} {l : List LoadD} {S : Nat → Prop} (h : LoadsO w a l) (u : Upd S w w') (hs : ∀ k,k < w.heap.size → ¬ S k) : LoadsO w' a l := fun i x hx => by
 obtain ⟨b,o,e,v0,v1,v3,h1,h2⟩ := h i x hx
 exact ⟨b,o,e,v0,v1,v3,fun q v hq => u.cell (h1 q v hq) (hs _ (cell_old (h1 q v hq))),h2.code.upd u hs,h2.data.upd u fun k _ hk _ => hs k hk,h2.regs.upd u hs,h2.big,h2.cal⟩
structure FirstS (M : Mv2) (n : Nat) (ll : List (Int × List UInt8)) : Prop where
 L : M.L = newL biasI n
 t : M.t = 0
 bx : ∀ i,M.bx i = []
 ll : M.ll = ll
 ins : M.ins = List.replicate n []
 f : FB M.f
 pv : ∃ a c,M.pv = .slice a n c
 ev : ∃ a c,M.ev = .slice a n c
def LinFit (n : Nat) (ll : List (Int × List UInt8)) : Prop := LetFit n 64 ll ∧ usedN ll ≤ 256 ∧ ll.length ≤ 1000
theorem LinFit.nil (n : Nat) : LinFit n [] := ⟨fun _ h => by (cases h),by (show 0 ≤ 256);decide,by (show 0 ≤ 1000);decide⟩
theorem FirstS.len {M : Mv2} {n : Nat} {ll : List (Int × List UInt8)} (h : FirstS M n ll) : M.L.length = n := by rw [h.L,newL_len]
abbrev enc0 (n : Nat) (ll : List (Int × List UInt8)) (f : Nat → Int) : List UInt8 := encE n 0 (newL biasI n) (List.replicate n []) (bxs (fun _ => []) n) ll f
theorem encFirst (base : Nat) (I : Mi) (M : Mv2) (n : Nat) (ll : List (Int × List UInt8)) (w : World) (hM : MonS w base I M) (hb : base ≤ w.heap.size) (hF : FirstS M n ll) (hn : 1 ≤ n ∧ n ≤ 4) (hl : LinFit n ll) (hK : ArrAt w 1 0 .u32 64 Sha.K) :
  Calls Tryz.prog 44 #[.pointer (some ⟨I.m,0,none⟩)] w fun e w' => ∃ v,e = .returned v ∧ Bo w' w.heap.size v (enc0 n ll M.f) ∧ MonS w' base I M ∧ Upd (fun k => w.heap.size ≤ k) w w' := by
 have hlen := hF.len
 have hz : ∀ k,¬ Zc I (fun _ => []) k := fun k h => h.elim fun i h => h.2 rfl
 refine (sEncode base I M (fun _ => []) w hM hb (fun i _ => ⟨hF.bx i,by decide⟩) (by rw [hF.ll];exact hl.2.2) kc hF.f (fun s hs => by rw [hF.ins] at hs;rw [List.eq_of_mem_replicate hs];decide) (fun i _ x hx => by cases hx) (fun x hx => by rw [hF.ll] at hx;obtain ⟨q1,q2,q3⟩ := hl.1 x hx;exact ⟨q3,q1.1,by omega⟩)
  (fun x hx => by rw [hF.L] at hx;have := (newL_fit (biasI_rng hn.2) x hx).2;rw [this];decide) (by rw [hF.t];decide) hK (fun k h => (hz k h).elim)).mono ?_
 rintro e w' ⟨v,rfl,h1,h2,h3⟩
 rw [hlen,hF.t,hF.L,hF.ins,hF.ll,show turnV 0 = 0 from rfl] at h1
 exact ⟨v,rfl,h1,h2,h3.mono fun k _ h => h.elim (fun h => (hz k h).elim) id⟩
theorem decFirst (base : Nat) (I : Mi) (M : Mv2) (n n' : Nat) (ll ll' : List (Int × List UInt8)) (f : Nat → Int) (v : Value) (w : World) (hM : MonS w base I M) (hb : base ≤ w.heap.size) (hF : FirstS M n ll) (hn : 1 ≤ n ∧ n ≤ 4) (hn' : 1 ≤ n' ∧ n' ≤ 4) (hl : LinFit n' ll') (hf : FB f) (hv : Bs w v (enc0 n' ll' f)) (hvb : ∀ k,v.ownBlock = some k → k < w.heap.size) (hK : ArrAt w 1 0 .u32 64 Sha.K) :
  Calls Tryz.prog 47 #[v,.pointer (some ⟨I.m,0,none⟩)] w fun e w' => Upd (fun k => w.heap.size ≤ k) w w' ∧
   ((n' ≠ n ∧ ∃ z : Int,z ≠ 0 ∧ e = .returned (.tuple #[.pointer none,.int .i64 z])) ∨
   (n' = n ∧ ∃ I' M' b',e = .returned (.tuple #[.pointer (some ⟨I'.m,0,none⟩),.int .i64 0]) ∧ MonS w' b' I' M' ∧ (w.heap.size ≤ b' ∧ b' ≤ w'.heap.size) ∧ FirstS M' n ll' ∧ ∀ j,j < 65536 → M'.f j = f j)) := by
 have hlen := hF.len
 obtain ⟨a1,c1,hpv⟩ := hF.pv
 obtain ⟨a2,c2,hev⟩ := hF.ev
 have hfit : SnFit n' 0 (newL biasI n') (List.replicate n' []) (bxs (fun _ => []) n') ll' f := first_fit hn' hl.1 hl.2.1 hl.2.2 hf
 have hln := encE_len hfit
 refine (sDecEnc base I M a1 a2 c1 c2 v n' 0 _ _ _ ll' f w hM hb kc (by rw [hlen];exact hpv) (by rw [hlen];exact hev) hv hvb kc hfit (newL_set (biasI_rng hn'.2) hn'.1) hK).mono ?_
 rintro e w' ⟨u,h⟩
 refine ⟨u,h.imp (fun h => ⟨fun e => h.1 (e.trans hlen.symm),h.2⟩) ?_⟩
 rintro ⟨e1,I',M',b',rfl,hM',hb',hB⟩
 rw [hlen] at e1
 subst e1
 have hfj : ∀ j,j < 65536 → cutF M'.f j = f j := fun j hj => (cutF_at _ j hj).trans (hB.f j hj)
 refine ⟨rfl,I',{M' with f := cutF M'.f},b',rfl,hM'.cong (cutF_at M'.f),hb',⟨hB.L.1,hB.L.2.1,fun i => ?_,hB.L.2.2.2,hB.L.2.2.1,cutF_FB hf hB.f,⟨a1,c1,hB.p.1.trans hpv⟩,⟨a2,c2,hB.p.2.trans hev⟩⟩,hfj⟩
 show M'.bx i = []
 rw [hB.b]
 unfold bxK
 split
 ·try simp only
  rw [bxs_nil,getD_rep]
  rfl
 ·rfl
theorem LoadV.one {w : World} {g : Nat} {x : LoadD} (hx : x.data = [] ∧ x.regs = [] ∧ x.calls = 255) {a : Int} (hc : x.code = [a]) (ha : 0 ≤ a ∧ a < 4294967296) (hg : w.heap[g]? = some (.cells #[.int .u32 a] 25 (0,0))) : LoadV w x (.slice (some ⟨g,0,none⟩) 1 1) (.slice none 0 0) (.slice none 0 0) where
 code := ⟨some ⟨g,0,none⟩,1,by rw [hc];rfl,fun i y hy => by
  rw [hc] at hy
  refine ⟨g,0,rfl,?_⟩
  match i,hy with
  | 0,hy => cases hy;exact ⟨cell_of hg rfl,ha⟩⟩
 data := by rw [hx.1];exact Bs.nil w
 dlt := fun k hk _ => by cases hk
 regs := ⟨none,0,by rw [hx.2.1];rfl,fun i y hy => by rw [hx.2.1] at hy;cases hy⟩
 len := by rw [hc,hx.1,hx.2.1];exact ⟨by show 1 ≤ 1024;decide,by show 0 ≤ 4096;decide,by show 0 ≤ 1500;decide⟩
 cal := by rw [hx.2.2];exact ⟨by decide,by decide⟩
def ldO : LoadD := ⟨[19],[],255,[]⟩
theorem fit27 (w : World) (hT : tabOk w) (hK : ArrAt w 1 0 .u32 64 Sha.K) (hKw : 1 < w.heap.size) : Calls Tryz.prog 42 #[] w fun e w' => e = .returned (.bool true) ∧ Upd (fun k => w.heap.size ≤ k) w w' := by
 have hKu : ∀ {w' : World},Upd (fun k => w.heap.size ≤ k) w w' → ArrAt w' 1 0 .u32 64 Sha.K := fun u => hK.upd u (Nat.not_le.2 hKw)
 refine enter (args := []) (Γ := []) Tryz.func42 Tryz.ntmps42 rfl odq .nil ?_
 repeat' first | refine Wl.assign rfl rfl ?_ | (apply Wl.buildS;exact rfl;exact kj;exact ka) | (apply Wl.lit;exact rfl;exact kj;exact rfl;exact rfl;exact ke;intro c hc ho) | apply Wl.nil | apply St.seq | apply St.region | apply Gt.next
 apply Wl.callC
 ·exact rfl
 ·exact kd
 intro wq hq
 have zq := hq.upd.size
 rename_i g hg og
 generalize c = c2 at *
 have hc2 : w.heap.size ≤ c2 := by assumption
 have hu0 : Upd (fun k => w.heap.size ≤ k) w wq := Hp.on2 hq (Upd.refl _ _) ky ky
 refine (two27 (some ⟨c2,0,none⟩) 1 1 [ldO] wq rfl ku (fun i x hx => by
  match i,hx with
  | 0,hx =>
   cases hx
   exact ⟨c2,0,rfl,.slice (some ⟨g,0,none⟩) 1 1,.slice none 0 0,.slice none 0 0,fun q v hv => cell_of (hq.own.at (.head _)) (by rw [Nat.zero_mul,Nat.add_zero,Nat.zero_add];exact hv),LoadV.one ⟨rfl,rfl,rfl⟩ rfl ku (hq.own.at (.tail _ (.head _)))⟩) (hT.upd hu0 (Nat.not_le.2 hT.lt))).mono ?_
 rintro e w1 ⟨base,I,M,a1,a2,k1,k2,rv,rfl,hM1,hb1,u1,f1,f2,f3,f4,f5,f6,f7,f8⟩
 have hF1 : FirstS M 1 [] := ⟨f3,f4,f5,f6,f7,f8,⟨_,_,f1⟩,⟨_,_,f2⟩⟩
 have U1 : Upd (fun k => w.heap.size ≤ k) w w1 := hu0.comp u1 fun k _ hs => hs.elim id fun h => by omega
 refine ⟨_,_,rfl,Hp.start w1,?_⟩
 clear hq u1 f1 f2 f3 f4 f5 f6 f7 f8
 repeat' first | refine Wl.move rfl rfl ?_ | refine Wl.assign rfl rfl ?_ | refine Wl.extract rfl rfl rfl ?_ | apply Wl.nil | apply St.seq | apply St.region | apply Gt.next
 apply Wl.callC
 ·exact rfl
 ·exact kd
 intro wq hq
 have Uq := U1.comp hq.upd (T := fun k => w.heap.size ≤ k) fun k _ hs => hs.elim id fun y => (y trivial).elim
 refine (encFirst base I M 1 [] wq (hM1.upd hq.upd fun _ _ y => y trivial) (Nat.le_trans hb1.2 hq.upd.size) hF1 ku (LinFit.nil 1) (hKu Uq)).mono ?_
 rintro e w2 ⟨v,rfl,hv2,hM2,u2⟩
 have U2 := Uq.comp u2 (T := fun k => w.heap.size ≤ k) fun k _ hs => hs.elim id fun h => Nat.le_trans Uq.size h
 refine ⟨_,_,rfl,Hp.start w2,?_⟩
 have hb2 := u2.size
 have hb3 := hq.upd.size
 clear hq u2
 repeat' first | refine Wl.move rfl rfl ?_
 apply Wl.callC
 ·exact rfl
 ·exact kd
 intro wr hr
 have Ur := U2.comp hr.upd (T := fun k => w.heap.size ≤ k) fun k _ hs => hs.elim id fun y => (y trivial).elim
 refine (decFirst base I M 1 1 [] [] M.f v wr (hM2.upd hr.upd fun _ _ y => y trivial) (by have := hr.upd.size;omega) hF1 ku ku (LinFit.nil 1) hF1.f (hv2.bs.upd hr.upd fun k _ _ _ y => y trivial) (fun k hk => by have := (hv2.lt k hk).2;have := hr.upd.size;omega) (hKu Ur)).mono ?_
 rintro e w3 ⟨u3,⟨h0,_⟩ | ⟨_,I3,M3,b3,rfl,hM3,hbb,hF3,hf3⟩⟩
 ·exact (h0 rfl).elim
 have U3 := Ur.comp u3 (T := fun k => w.heap.size ≤ k) fun k _ hs => hs.elim id fun h => Nat.le_trans Ur.size h
 refine ⟨_,_,rfl,Hp.start w3,?_⟩
 clear hr u3
 have hl3 := hF3.len
 have hx3 : M3.L[0]? = some ⟨0,0,biasI 0,xz⟩ := by rw [hF3.L];rfl
 repeat' first | refine Wl.move rfl rfl ?_ | refine Wl.assign rfl rfl ?_ | (apply Wl.on;exact rfl;exact rfl;exact k5) | refine Wl.extract rfl rfl rfl ?_ | (apply Wl.eqlIs;exact rfl;exact rfl;exact rfl;exact kx) | apply Wl.nil | apply St.seq | apply St.region | apply Gt.next
 apply Wl.callQ
 exact rfl
 (focus repeat constructor)
 ·intro wq hq
  exact hq.q (mCount b3 I3 M3 wq (hM3.hp hq qu))
 have hdc : decide ((M3.L.length : Int) = 1) = true := decide_eq_true kc
 repeat' first | refine Wl.move rfl rfl ?_ | (apply Wl.on;exact rfl;exact rfl;exact k5) | (apply Wl.pickT;exact rfl;exact rfl;exact k5;exact rfl) | refine Wl.eql rfl rfl rfl ?_
 apply Wl.callQ
 exact rfl
 (focus repeat constructor)
 ·intro wq hq
  exact hq.q (mStatus b3 I3 M3 0 ⟨0,0,biasI 0,xz⟩ wq (hM3.hp hq qu) hx3)
 repeat' first | (apply Wl.fieldV (v := .int .u32 2147487744);exact rfl;exact rfl;exact rfl) | refine Wl.assign rfl rfl ?_ | (apply Wl.on;exact rfl;exact rfl;exact k5) | (apply Wl.pickT;exact rfl;exact rfl;exact k5;exact rfl) | (apply Wl.eqlIs;exact rfl;exact rfl;exact rfl;exact kx) | apply Wl.nil | apply St.ret | apply Gt.next | (apply Gt.out1;exact rfl;exact rfl;intro w' hp)
 exact ⟨rfl,Hp.on0 hp U3⟩
end Go.Proofs.YtabbklpalbikdaaGreatDoor
end
section
namespace Sha
open Go (j0 j3 k5 ka kb kc kd ke kf kh kj km kn kq kt ku kx ky q9 qg qs qu qw qx zd zh zi zx)
open Go.Pt (updN)
def inn (r a t : Nat → Nat) (j : Nat) : Nat → (Nat → Nat) × Nat
 | 0 => (t,0)
 | l + 1 =>
  let c1 := ((inn r a t j l).2 + ((inn r a t j l).1 (j + l) + r j * a l % 18446744073709551616) % 18446744073709551616) % 18446744073709551616
  (updN (inn r a t j l).1 (j + l) (c1 % 4294967296),c1 / 4294967296)
def rowF (r a t : Nat → Nat) (j : Nat) : Nat → Nat := updN (inn r a t j 2).1 (j + 2) (((inn r a t j 2).1 (j + 2) + (inn r a t j 2).2) % 18446744073709551616)
def rowsF (r a : Nat → Nat) : Nat → Nat → Nat
 | 0 => fun _ => 0
 | j + 1 => rowF r a (rowsF r a j) j
def aF (y : Nat) : Nat → Nat := fun j => if j = 0 then y % 4294967296 else if j = 1 then y / 4294967296 else 0
def oneF : Nat → Nat := fun j => if j = 0 then 1 else 0
def powF (y : Nat) : Nat → Nat → Nat
 | 0 => oneF
 | i + 1 => rowsF (powF y i) (aF y) 5
def abv (y p k : Nat) : Bool :=
 let R := powF y k
 ((List.range 6).any fun j => decide (k < j) && decide (0 < R j)) || (if R k = p then (List.range k).any fun j => decide (0 < R j) else decide (p < R k))
def rtF (p k : Nat) : Nat → Nat → Nat
 | 0,x => x
 | b + 1,x => rtF p k b (if abv (x + 2 ^ b) p k then x else x + 2 ^ b)
def root (p k : Nat) : Nat := rtF p k 36 0 % 4294967296
end Sha
namespace Go.Pt
open Go.RowKit
section
variable {P : Program} {md : Md} {N : Nat} {ops : Array Oper} {rest : List Oper} {Γ : Env} {C : World → Prop} {Q : Exit → Act → World → Prop} {d : Nat} {ty : TypeId} {pos : String} {af : Array Edge} {t u : TypeId} {x y : Operand} {m n : Nat}
theorem Wl.mulW (hd : Nat.blt d N = true) (hx : ev Γ x = some (.int .u64 (m : Int))) (hy : ev Γ y = some (.int .u64 (n : Int))) (h : Wl rest P md ops N ((d,.int .u64 ((m * n % 18446744073709551616 : Nat) : Int)) :: Γ) C Q) : Wl (⟨some d,.binOp .mul t x y u,ty,pos,af,none⟩ :: rest) P md ops N Γ C Q :=
 Wl.mul hd hx hy (by rw [← Int.natCast_mul,IntKind.wrap_u64];exact h)
theorem Wl.addW (hd : Nat.blt d N = true) (hx : ev Γ x = some (.int .u64 (m : Int))) (hy : ev Γ y = some (.int .u64 (n : Int))) (h : Wl rest P md ops N ((d,.int .u64 (((m + n) % 18446744073709551616 : Nat) : Int)) :: Γ) C Q) : Wl (⟨some d,.binOp .add t x y u,ty,pos,af,none⟩ :: rest) P md ops N Γ C Q :=
 Wl.add hd hx hy (by rw [← Int.natCast_add,IntKind.wrap_u64];exact h)
theorem Wl.indexS0 {t e by_ : TypeId} [ht : TyD P t (.slice e)] [TyS P e 1 by_] {x i : Operand} {b n c j : Nat} {k : IntKind} (hd : Nat.blt d N = true) (hx : ev Γ x = some (.slice (some ⟨b,0,none⟩) n c)) (hi : ev Γ i = some (.int k (j : Int)))
  (hj : j < n) (h : Wl rest P md ops N ((d,.pointer (some ⟨b,j,none⟩)) :: Γ) C Q) : Wl (⟨some d,.indexAddr t x i,ty,pos,af,none⟩ :: rest) P md ops N Γ C Q :=
 Wl.indexAddr hd hx hi ⟨by omega,by omega⟩ (by rw [Int.toNat_natCast,Nat.mul_one,Nat.zero_add];exact h)
theorem Wl.shlW {k' : IntKind} (hd : Nat.blt d N = true) (hx : ev Γ x = some (.int .u64 (m : Int))) (hy : ev Γ y = some (.int k' (n : Int))) (hn : n ≤ 64) (h : Wl rest P md ops N ((d,.int .u64 ((m * 2 ^ n % 18446744073709551616 : Nat) : Int)) :: Γ) C Q) : Wl (⟨some d,.binOp .shl t x y u,ty,pos,af,none⟩ :: rest) P md ops N Γ C Q :=
 Wl.shl hd hx hy kc (by
  rw [Int.toNat_natCast,show min n IntKind.u64.bits = n from Nat.min_eq_left hn,IntKind.wrap_u64]
  have e : (m : Int) * 2 ^ n % 18446744073709551616 = ((m * 2 ^ n % 18446744073709551616 : Nat) : Int) := by simp
  rw [e];exact h)
end
end Go.Pt
namespace Go.Proofs.YtabbklpalbikdaaGreatDoor
open Go.RowKit Go.Pt
theorem a6 (y : Nat) : [Value.int .u64 ((y % 4294967296 : Nat) : Int),.int .u64 ((y / 4294967296 : Nat) : Int),.int .u64 0,.int .u64 0,.int .u64 0,.int .u64 0] = cellsN .u64 6 (Sha.aF y) := by unfold cellsN;rfl
theorem one6 : [Value.int .u64 1,.int .u64 0,.int .u64 0,.int .u64 0,.int .u64 0,.int .u64 0] = cellsN .u64 6 Sha.oneF := by unfold cellsN;rfl
theorem z8w : (Value.agg #[.int .u64 0,.int .u64 0,.int .u64 0,.int .u64 0,.int .u64 0,.int .u64 0,.int .u64 0,.int .u64 0]).cells.toList = cellsN .u64 8 fun _ => 0 := by unfold cellsN;rfl
theorem refAbove (y p k : Nat) (w : World) (hk : k = 2 ∨ k = 3) (hy : y < 18446744073709551616) : Calls Tryz.prog 190 #[.int .u64 y,.int .u64 p,.int .i64 k] w fun e w' => e = .returned (.bool (Sha.abv y p k)) ∧ Hp w [] w' := by
 refine enter (args := [_,_,_]) (Γ := [(0,_),(1,_),(2,_)]) Tryz.func190 Tryz.ntmps190 rfl odq (.cons rfl (.cons rfl (.cons rfl .nil))) ?_
 repeat' first | (apply Wl.remN (n := 4294967296);exact rfl;exact rfl;exact rfl;(decide)) | (apply Wl.quoN (n := 4294967296);exact rfl;exact rfl;exact rfl;(decide);exact IntWalk.u64_in _ kc) | refine Wl.move rfl rfl ?_ | refine Wl.assign rfl rfl ?_ | (apply Wl.lit;exact rfl;exact kj;exact rfl;exact rfl;exact ke;intro c hc ho) | apply Wl.nil | apply St.seq | apply St.block | apply St.region | apply Gt.next
 rename_i ca hca hoa
 generalize c = cr at *
 rw [a6,one6]
 refine St.loop (σ := Nat) (fun i => i ≤ k) (fun i => [(1,.int .u64 p),(2,.int .i64 k),(6,.bool false),(7,.slice (some ⟨ca,0,none⟩) 6 6),(8,.slice (some ⟨cr,0,none⟩) 6 6),(9,.int .i64 i)])
  (fun i => Hp w [⟨cr,cellsN .u64 6 (Sha.powF y i),143⟩,⟨ca,cellsN .u64 6 (Sha.aF y),143⟩]) (fun i => k - i) 0 kc kq (fun _ h => h) ?_
 intro i hi
 by_cases hlt : i < k
 ·have hd : decide ((i : Int) < (k : Int)) = true := decide_eq_true kc
  generalize hR : Sha.powF y i = R
  generalize hA : Sha.aF y = A at *
  repeat' first | (apply Wl.allocN;exact rfl;exact z8w;intro c hc ho) | refine Wl.move rfl rfl ?_ | refine Wl.assign rfl rfl ?_ | refine Wl.lss rfl rfl rfl ?_ | apply Wl.nil | apply St.seq | apply St.block | apply St.region | (apply St.condT;exact rfl;exact k5) | apply St.skip | apply Gt.next
  refine St.loop (σ := Nat) (fun j => j ≤ 5) (fun j => [(1,.int .u64 p),(2,.int .i64 k),(6,.bool false),(7,.slice (some ⟨ca,0,none⟩) 6 6),(8,.slice (some ⟨cr,0,none⟩) 6 6),(9,.int .i64 i),(10,mp c),(11,.int .i64 j)])
   (fun j => Hp w [⟨c,cellsN .u64 8 (Sha.rowsF R A j),335⟩,⟨cr,cellsN .u64 6 R,143⟩,⟨ca,cellsN .u64 6 A,143⟩]) (fun j => 5 - j) 0 kc kq (fun _ h => h) ?_
  intro j hj
  by_cases hlj : j < 5
  ·generalize hT : Sha.rowsF R A j = T
   have hdj : decide ((j : Int) < 5) = true := decide_eq_true kc
   repeat' first | refine Wl.move rfl rfl ?_ | refine Wl.assign rfl rfl ?_ | refine Wl.lss rfl rfl rfl ?_ | apply Wl.nil | apply St.seq | apply St.block | apply St.region | (apply St.condT;exact rfl;exact k5) | apply St.skip | apply Gt.next
   refine St.loop (σ := Nat) (fun l => l ≤ 2) (fun l => [(1,.int .u64 p),(2,.int .i64 k),(6,.bool false),(7,.slice (some ⟨ca,0,none⟩) 6 6),(8,.slice (some ⟨cr,0,none⟩) 6 6),(9,.int .i64 i),(10,mp c),(11,.int .i64 j),(12,.int .u64 (Sha.inn R A T j l).2),(13,.int .i64 l)])
    (fun l => Hp w [⟨c,cellsN .u64 8 (Sha.inn R A T j l).1,335⟩,⟨cr,cellsN .u64 6 R,143⟩,⟨ca,cellsN .u64 6 A,143⟩]) (fun l => 2 - l) 0 kc kq (fun _ h => h) ?_
   intro l hl
   by_cases hll : l < 2
   ·have hdl : decide ((l : Int) < 2) = true := decide_eq_true kc
    have e1 : Sha.inn R A T j (l + 1) = (updN (Sha.inn R A T j l).1 (j + l) (((Sha.inn R A T j l).2 + ((Sha.inn R A T j l).1 (j + l) + R j * A l % 18446744073709551616) % 18446744073709551616) % 18446744073709551616 % 4294967296),((Sha.inn R A T j l).2 + ((Sha.inn R A T j l).1 (j + l) + R j * A l % 18446744073709551616) % 18446744073709551616) % 18446744073709551616 / 4294967296) := rfl
    generalize Sha.inn R A T j l = U at *
    repeat' first | (apply St.bagX 17 [];exact mixed;(decide +kernel);kernel_rfl) | apply OpsX.nil | (apply OpsX.v;(intro X hX;change Wl [_] _ _ _ _ _ _ _;apply Wl.catX;exact kd)) | (apply Gt.endX;exact rfl) | (apply EndX.on;exact rfl) | (apply EndX.off;exact rfl) | (apply EndX.nil';apply Wl.catE;exact kd) | (refine Wl.indexS0 rfl rfl rfl ?_ ?_;omega) | (refine Wl.indexA rfl rfl rfl ?_ ?_;omega) | refine Wl.mulW rfl rfl rfl ?_ | refine Wl.addW rfl rfl rfl ?_ | (refine Wl.addNI rfl rfl rfl ?_ ?_;omega) | (apply Wl.remN (n := 4294967296);exact rfl;exact rfl;exact rfl;(decide)) | (apply Wl.quoN (n := 4294967296);exact rfl;exact rfl;exact rfl;(decide);exact IntWalk.u64_in _ kc) | (apply Wl.loadN;exact rfl;exact rfl;exact kd;omega) | (apply Wl.storeN;exact rfl;exact rfl;exact kd;omega) | refine Wl.move rfl rfl ?_ | refine Wl.assign rfl rfl ?_ | refine Wl.lss rfl rfl rfl ?_ | (refine Wl.addI rfl rfl rfl ?_ ?_;constructor <;> omega) | apply Wl.nil | apply St.seq | apply St.block | apply St.region | (apply St.condT;exact rfl;exact k5) | apply St.skip | apply Gt.next | apply Gt.inNormal
    apply Gt.round (l + 1)
    rotate_left
    ·omega
    ·simp only [e1];exact kd
    ·exact fun _ h => by rw [e1];exact h
    ·omega
   have hl2 : l = 2 := by omega
   subst hl2
   have e2 : Sha.rowsF R A (j + 1) = updN (Sha.inn R A T j 2).1 (j + 2) (((Sha.inn R A T j 2).1 (j + 2) + (Sha.inn R A T j 2).2) % 18446744073709551616) := by rw [← hT];rfl
   generalize Sha.inn R A T j 2 = U at *
   repeat' first | (refine Wl.indexA rfl rfl rfl ?_ ?_;omega) | refine Wl.addW rfl rfl rfl ?_ | (apply Wl.addNI (n := 2);exact rfl;exact rfl;exact rfl;omega) | (apply Wl.loadN;exact rfl;exact rfl;exact kd;omega) | (apply Wl.storeN;exact rfl;exact rfl;exact kd;omega) | refine Wl.move rfl rfl ?_ | refine Wl.assign rfl rfl ?_ | refine Wl.lss rfl rfl rfl ?_ | (refine Wl.addI rfl rfl rfl ?_ ?_;constructor <;> omega) | apply Wl.nil | apply St.seq | apply St.region | (apply St.condF;exact rfl;exact k5) | apply St.exit | apply Gt.next | apply Gt.thenExit | apply Gt.inNormal | apply Gt.inExit
   apply Gt.round (j + 1)
   rotate_left
   ·omega
   ·exact kd
   ·exact fun _ h => by rw [e2];exact h
   ·omega
  have hj5 : j = 5 := by omega
  subst hj5
  have e3 : Sha.powF y (i + 1) = Sha.rowsF R A 5 := by rw [← hR,← hA];rfl
  generalize Sha.rowsF R A 5 = T at *
  repeat' first | refine Wl.move rfl rfl ?_ | refine Wl.assign rfl rfl ?_ | refine Wl.lss rfl rfl rfl ?_ | apply Wl.nil | apply St.seq | apply St.block | apply St.region | (apply St.condF;exact rfl;exact k5) | apply St.exit | apply Gt.next | apply Gt.thenExit | apply Gt.inExit
  refine St.loop (σ := Nat) (fun q => q ≤ 6) (fun q => [(1,.int .u64 p),(2,.int .i64 k),(6,.bool false),(7,.slice (some ⟨ca,0,none⟩) 6 6),(8,.slice (some ⟨cr,0,none⟩) 6 6),(9,.int .i64 i),(10,mp c),(14,.int .i64 q)])
   (fun q => Hp w [⟨c,cellsN .u64 8 T,335⟩,⟨cr,cellsN .u64 6 (fillN R T q),143⟩,⟨ca,cellsN .u64 6 A,143⟩]) (fun q => 6 - q) 0 kc kq (fun _ h => by rw [fillN_zero];exact h) ?_
  intro q hq
  by_cases hql : q < 6
  ·have hdq : decide ((q : Int) < 6) = true := decide_eq_true kc
   repeat' first | (refine Wl.indexS0 rfl rfl rfl ?_ ?_;omega) | (refine Wl.indexA rfl rfl rfl ?_ ?_;omega) | (apply Wl.loadN;exact rfl;exact rfl;exact kd;omega) | (apply Wl.storeN;exact rfl;exact rfl;exact kd;omega) | refine Wl.move rfl rfl ?_ | refine Wl.assign rfl rfl ?_ | refine Wl.lss rfl rfl rfl ?_ | (refine Wl.addI rfl rfl rfl ?_ ?_;constructor <;> omega) | apply Wl.nil | apply St.seq | apply St.block | apply St.region | (apply St.condT;exact rfl;exact k5) | apply St.skip | apply Gt.next | apply Gt.inNormal
   apply Gt.round (q + 1)
   rotate_left
   ·omega
   ·exact kd
   ·exact fun _ h => by rw [← fillN_step];exact h
   ·omega
  have hq6 : q = 6 := by omega
  subst hq6
  repeat' first | refine Wl.move rfl rfl ?_ | refine Wl.assign rfl rfl ?_ | refine Wl.lss rfl rfl rfl ?_ | (refine Wl.addI rfl rfl rfl ?_ ?_;constructor <;> omega) | apply Wl.nil | apply St.seq | apply St.region | (apply St.condF;exact rfl;exact k5) | apply St.exit | apply Gt.next | apply Gt.thenExit | apply Gt.inNormal | apply Gt.inExit
  apply Gt.round (i + 1)
  rotate_left
  ·omega
  ·exact kd
  ·exact fun _ h => by
    rw [e3]
    rw [show cellsN .u64 6 (fillN R T 6) = cellsN .u64 6 T from cellsN_congr fun j hj => by unfold fillN;rw [if_pos hj]] at h
    exact hpPop h ky
  ·omega
 have hik : i = k := by omega
 subst hik
 have hd : decide ((i : Int) < (i : Int)) = false := decide_eq_false kc
 have hab : Sha.abv y p i = (((List.range 6).any fun j => decide (i < j) && decide (0 < Sha.powF y i j)) || (if Sha.powF y i i = p then (List.range i).any fun j => decide (0 < Sha.powF y i j) else decide (p < Sha.powF y i i))) := rfl
 generalize Sha.powF y i = R at *
 rw [hab]
 clear hab hlt hi
 rcases hk with rfl | rfl
 all_goals (repeat' first | apply Gt.nextR | (apply St.loopN 600) | (apply StR.step;(repeat (first | apply Clean.nil | (apply Clean.skip;exact rfl) | (apply Clean.keep;exact rfl)))) | (apply Wl.loadN;exact rfl;exact rfl;exact kd;omega) | refine Wl.move rfl rfl ?_ | refine Wl.assign rfl rfl ?_ | refine Wl.neq rfl rfl rfl ?_ | refine Wl.lss rfl rfl rfl ?_ | refine Wl.gtr rfl rfl rfl ?_ | (refine Wl.addI rfl rfl rfl ?_ ?_;constructor <;> omega) | (refine Wl.subI rfl rfl rfl ?_ ?_;constructor <;> omega) | (refine Wl.indexAddr1 rfl rfl rfl ?_ ?_;constructor <;> omega) | apply Wl.nil | apply St.seq | apply St.block | apply St.region | (apply St.condT;exact rfl;exact k5) | (apply St.condF;exact rfl;exact k5) | apply St.ret | apply St.skip | apply St.exit | apply Gt.next | apply Gt.thenRet | apply Gt.thenExit | apply Gt.inNormal | apply Gt.inRet | apply Gt.inExit | (apply Gt.out1;exact rfl;exact rfl;intro w' hp) | (apply St.condP;exact rfl;all_goals (intros;try (exfalso;omega))))
 all_goals (refine ⟨?_,hp.drop zi⟩;congr 2;simp [List.range_succ] at *)
 all_goals (first | omega | (split <;> omega) | (rw [if_neg kc];simp [*]))
end Go.Proofs.YtabbklpalbikdaaGreatDoor
end
section
namespace Sha
open Go (j0 j3 k5 ka kb kc kd ke kf kh kj km kn kq kt ku kx ky q9 qg qs qu qw qx zd zh zi zx)
theorem rtF_succ (p k b x : Nat) : rtF p k (b + 1) x = rtF p k b (if abv (x + 2 ^ b) p k then x else x + 2 ^ b) := rfl
theorem rr_add {x n : Nat} (hx : x < 4294967296) (hn : n ≤ 32) : rr n x = (x / 2 ^ n + x * 2 ^ (32 - n)) % 4294967296 := by
 have hM : (4294967296 : Nat) = 2 ^ n * 2 ^ (32 - n) := by rw [← Nat.pow_add,show n + (32 - n) = 32 by omega]
 have h1 : x * 2 ^ (32 - n) % 4294967296 = 2 ^ (32 - n) * (x % 2 ^ n) := by
  rw [hM,Nat.mul_mod_mul_right,Nat.mul_comm]
 have h2 : x / 2 ^ n < 2 ^ (32 - n) := Nat.div_lt_of_lt_mul (by rw [← hM];exact hx)
 unfold rr O
 rw [h1,← Nat.two_pow_add_eq_or_of_lt h2,← Nat.add_mod_mod (x / 2 ^ n),h1,Nat.add_comm]
def isP (p : Nat) : Bool := decide (2 ≤ p) && (List.range 18).all fun q => decide (q < 2) || decide (p < q * q) || decide (0 < p % q)
def allB (p d : Nat) : Bool := (List.range d).all fun q => decide (q < 2) || decide (0 < p % q)
def pl (p : Nat) : List Nat := (List.range p).filter isP
def rl (p k : Nat) : List Nat := (pl p).map fun q => root q k
theorem allB_succ (p d : Nat) (hd : 2 ≤ d) : allB p (d + 1) = (allB p d && decide (0 < p % d)) := by
 unfold allB
 rw [List.range_succ,List.all_append]
 simp [show ¬ d < 2 by omega]
theorem allB_2 (p : Nat) : allB p 2 = true := by simp [allB,List.range_succ]
theorem allB_end0 : ((List.range 313).all fun p => (List.range 19).all fun d => !(decide (2 ≤ p) && decide (2 ≤ d) && (decide (d = 2) || decide ((d - 1) * (d - 1) ≤ p)) && decide (p < d * d)) || (allB p d == isP p)) = true := by decide +kernel
theorem allB_end (p : Nat) (hp : p < 313) (h2 : 2 ≤ p) (d : Nat) (hd : d < 19) (hd2 : 2 ≤ d) (h : d = 2 ∨ (d - 1) * (d - 1) ≤ p) (he : p < d * d) : allB p d = isP p := by
 have h1 := List.all_eq_true.1 (List.all_eq_true.1 allB_end0 p (List.mem_range.2 hp)) d (List.mem_range.2 hd)
 have h3 : (decide (d = 2) || decide ((d - 1) * (d - 1) ≤ p)) = true := by rcases h with h | h <;> simp [h]
 rw [decide_eq_true h2,decide_eq_true hd2,h3,decide_eq_true he] at h1
 simpa using h1
theorem pl_succ (p : Nat) : pl (p + 1) = if isP p then pl p ++ [p] else pl p := by
 unfold pl
 rw [List.range_succ,List.filter_append]
 by_cases h : isP p = true
 ·simp [h]
 ·simp [h]
theorem cnt64 : ∀ p,p < 312 → (pl p).length < 64 := by decide +kernel
theorem cnt8 : ∀ p,p < 20 → (pl p).length < 8 := by decide +kernel
theorem len64 : (pl 312).length = 64 := by decide +kernel
theorem len8 : (pl 20).length = 8 := by decide +kernel
end Sha
namespace Go.Proofs.YtabbklpalbikdaaGreatDoor
open Go.RowKit Go.Pt
theorem refRight (x n : Nat) (w : World) (hx : x < 4294967296) (hn : n ≤ 31) (hn0 : 0 < n) : Calls Tryz.prog 104 #[.int .u64 x,.int .u64 n] w fun e w' => e = .returned (.int .u64 (Sha.rr n x)) ∧ Hp w [] w' := by
 have hs : IntKind.u64.wrap (32 - (n : Int)) = ((32 - n : Nat) : Int) := by rw [IntKind.wrap_u64];omega
 have h1 : n ≤ IntKind.u64.bits := by show n ≤ 64;omega
 have h2 : 32 - n ≤ 64 := by omega
 refine enter (args := [_,_]) (Γ := [(0,_),(1,_)]) Tryz.func104 Tryz.ntmps104 rfl odq (.cons rfl (.cons rfl .nil)) ?_
 repeat' first | (apply Wl.subE;exact rfl;exact rfl;exact rfl;exact hs) | (apply Wl.shlW;exact rfl;exact rfl;exact rfl;exact h2) | (apply Wl.shrV;exact rfl;exact rfl;exact rfl;exact h1) | refine Wl.addW rfl rfl rfl ?_ | (apply Wl.remN (n := 4294967296);exact rfl;exact rfl;exact rfl;(decide)) | refine Wl.move rfl rfl ?_ | refine Wl.assign rfl rfl ?_ | apply Wl.nil | apply St.seq | apply St.region | apply St.ret | apply Gt.next | (apply Gt.out1;exact rfl;exact rfl;intro w' hp)
 refine ⟨?_,hp⟩
 rw [Sha.rr_add hx kc]
 have hlt : x * 2 ^ (32 - n) < 4294967296 * 2147483648 := Nat.mul_lt_mul_of_lt_of_le hx (Nat.le_trans (Nat.pow_le_pow_right ku (show 32 - n ≤ 31 by omega)) ku) ku
 have hd : x / 2 ^ n ≤ x := Nat.div_le_self _ _
 rw [Nat.mod_eq_of_lt (show x * 2 ^ (32 - n) < 18446744073709551616 by omega),Nat.mod_eq_of_lt (a := x / 2 ^ n + x * 2 ^ (32 - n)) (b := 18446744073709551616) kc]
theorem refRoot (p k : Nat) (w : World) (hk : k = 2 ∨ k = 3) : Calls Tryz.prog 144 #[.int .u64 p,.int .i64 k] w fun e w' => e = .returned (.int .u64 (Sha.root p k)) ∧ Hp w [] w' := by
 refine enter (args := [_,_]) (Γ := [(0,_),(1,_)]) Tryz.func144 Tryz.ntmps144 rfl odq (.cons rfl (.cons rfl .nil)) ?_
 repeat' first | refine Wl.assign rfl rfl ?_ | apply Wl.nil | apply St.seq | apply St.block | apply St.region | apply Gt.next
 refine St.loop (σ := Nat × Nat) (fun τ => τ.1 ≤ 36 ∧ τ.2 ≤ (36 - τ.1) * 34359738368 ∧ Sha.rtF p k τ.1 τ.2 = Sha.rtF p k 36 0) (fun τ => [(0,.int .u64 p),(1,.int .i64 k),(5,.int .u64 τ.2),(6,.int .i64 ((τ.1 : Int) - 1))])
  (fun _ => Hp w []) (fun τ => τ.1) (36,0) ⟨by simp,by simp,rfl⟩ kq (fun _ h => h) ?_
 rintro ⟨b,x⟩ ⟨hb,hx,hr⟩
 simp only at hb hx hr ⊢
 rcases Nat.eq_zero_or_pos b with h0 | h0
 ·subst h0
  have hd : decide (((0 : Nat) : Int) - 1 ≥ 0) = false := by decide
  have hd' : decide (0 ≤ ((0 : Nat) : Int) - 1) = false := by decide
  repeat' first | (apply Wl.remN (n := 4294967296);exact rfl;exact rfl;exact rfl;(decide)) | refine Wl.move rfl rfl ?_ | refine Wl.assign rfl rfl ?_ | refine Wl.geq rfl rfl rfl ?_ | apply Wl.nil | apply St.seq | apply St.region | (apply St.condF;exact rfl;exact k5) | apply St.ret | apply St.exit | apply Gt.next | apply Gt.thenExit | apply Gt.inExit | (apply Gt.out1;exact rfl;exact rfl;intro w' hp)
  refine ⟨?_,hp⟩
  unfold Sha.root
  rw [← hr];rfl
 ·obtain ⟨b',rfl⟩ : ∃ b',b = b' + 1 := ⟨b - 1,by omega⟩
  clear h0
  have e1 : ((b' + 1 : Nat) : Int) - 1 = (b' : Int) := by omega
  rw [e1]
  have hd : decide ((b' : Int) ≥ 0) = true := decide_eq_true kc
  have hd' : decide (0 ≤ (b' : Int)) = true := decide_eq_true kc
  have h64 : b' ≤ 64 := by omega
  have hpb : 2 ^ b' ≤ 34359738368 := Nat.le_trans (Nat.pow_le_pow_right ku (show b' ≤ 35 by omega)) ku
  have ey : (x + 1 * 2 ^ b' % 18446744073709551616) % 18446744073709551616 = x + 2 ^ b' := by
   rw [Nat.one_mul,Nat.mod_eq_of_lt (a := 2 ^ b') kc,Nat.mod_eq_of_lt kc]
  have hA := fun wq => refAbove (x + 2 ^ b') p k wq hk kc
  rw [← ey] at hA
  have hT : Sha.abv ((x + 1 * 2 ^ b' % 18446744073709551616) % 18446744073709551616) p k = true → Sha.rtF p k b' x = Sha.rtF p k 36 0 := fun hv => by
   rw [ey] at hv
   rw [← hr,Sha.rtF_succ,if_pos hv]
  have hN : Sha.abv ((x + 1 * 2 ^ b' % 18446744073709551616) % 18446744073709551616) p k = false → Sha.rtF p k b' ((x + 1 * 2 ^ b' % 18446744073709551616) % 18446744073709551616) = Sha.rtF p k 36 0 := fun hv => by
   rw [ey] at hv
   rw [← hr,Sha.rtF_succ,hv,ey]
   rfl
  generalize hF : Sha.rtF p k 36 0 = F at *
  cases hab : Sha.abv ((x + 1 * 2 ^ b' % 18446744073709551616) % 18446744073709551616) p k with
  | true =>
   rw [hab] at hA
   repeat' first | (apply Wl.shlW (m := 1);exact rfl;exact rfl;exact rfl;exact h64) | refine Wl.addW rfl rfl rfl ?_ | (apply Wl.callQ (f := 190);exact rfl;exact kd;(intro wq hq;exact hq.q (hA wq))) | refine Wl.move rfl rfl ?_ | refine Wl.assign rfl rfl ?_ | refine Wl.not rfl rfl ?_ | refine Wl.geq rfl rfl rfl ?_ | (refine Wl.subI rfl rfl rfl ?_ ?_;constructor <;> omega) | apply Wl.nil | apply St.seq | apply St.block | apply St.region | (apply St.condT;exact rfl;exact k5) | (apply St.condF;exact rfl;exact k5) | apply St.skip | apply Gt.next | apply Gt.inNormal
   apply Gt.round (b',x)
   rotate_left
   ·simp only;omega
   ·exact kd
   ·exact fun _ h => h
   ·have h3 := hT hab
    have h4 : x ≤ (36 - b') * 34359738368 := Nat.le_trans hx (Nat.mul_le_mul_right _ (Nat.sub_le_sub_left (Nat.le_succ b') 36))
    exact ⟨by simp only;omega,h4,h3⟩
  | false =>
   rw [hab] at hA
   repeat' first | (apply Wl.shlW (m := 1);exact rfl;exact rfl;exact rfl;exact h64) | refine Wl.addW rfl rfl rfl ?_ | (apply Wl.callQ (f := 190);exact rfl;exact kd;(intro wq hq;exact hq.q (hA wq))) | refine Wl.move rfl rfl ?_ | refine Wl.assign rfl rfl ?_ | refine Wl.not rfl rfl ?_ | refine Wl.geq rfl rfl rfl ?_ | (refine Wl.subI rfl rfl rfl ?_ ?_;constructor <;> omega) | apply Wl.nil | apply St.seq | apply St.block | apply St.region | (apply St.condT;exact rfl;exact k5) | apply St.skip | apply Gt.next | apply Gt.inNormal
   apply Gt.round (b',(x + 1 * 2 ^ b' % 18446744073709551616) % 18446744073709551616)
   rotate_left
   ·simp only;omega
   ·exact kd
   ·exact fun _ h => h
   ·exact ⟨by simp only;omega,by simp only;rw [ey];omega,hN hab⟩
end Go.Proofs.YtabbklpalbikdaaGreatDoor
end
section
namespace Sha
open Go (j0 j3 k5 ka kb kc kd ke kf kh kj km kn kq kt ku kx ky q9 qg qs qu qw qx zd zh zi zx)
open Go.Pt (updN)
def val (f : Nat → Nat) : Nat → Nat
 | 0 => 0
 | n + 1 => val f n + f n * 4294967296 ^ n
theorem val_congr {f g : Nat → Nat} : ∀ n,(∀ i,i < n → f i = g i) → val f n = val g n
 | 0,_ => rfl
 | n + 1,h => by unfold val;rw [val_congr n fun i hi => h i kc,h n kc]
theorem inn_two (r a t : Nat → Nat) (j : Nat) (ht : ∀ i,t i < 4294967296) (hr : r j < 4294967296) (ha : ∀ i,a i < 4294967296) (h2 : t (j + 2) = 0) :
  (∀ i,i < j → rowF r a t j i = t i) ∧ (∀ i,rowF r a t j i < 4294967296) ∧ (∀ i,j + 3 ≤ i → rowF r a t j i = t i) ∧
  rowF r a t j j + rowF r a t j (j + 1) * 4294967296 + rowF r a t j (j + 2) * 18446744073709551616 = t j + t (j + 1) * 4294967296 + r j * (a 0 + a 1 * 4294967296) := by
 have t0 := ht j
 have t1 := ht (j + 1)
 have a0 := ha 0
 have a1 := ha 1
 have m0 : r j * a 0 ≤ 4294967295 * 4294967295 := Nat.mul_le_mul kc kc
 have m1 : r j * a 1 ≤ 4294967295 * 4294967295 := Nat.mul_le_mul kc kc
 have e0 : inn r a t j 1 = (updN t j ((t j + r j * a 0) % 4294967296),(t j + r j * a 0) / 4294967296) := by
  unfold inn
  simp only [inn,Nat.add_zero,Nat.zero_add]
  rw [Nat.mod_eq_of_lt (a := r j * a 0) kc,Nat.mod_eq_of_lt (a := t j + r j * a 0) kc,Nat.mod_eq_of_lt (a := t j + r j * a 0) kc]
 have u1 : updN t j ((t j + r j * a 0) % 4294967296) (j + 1) = t (j + 1) := by unfold updN;rw [if_neg kc]
 have e1 : inn r a t j 2 = (updN (updN t j ((t j + r j * a 0) % 4294967296)) (j + 1) (((t j + r j * a 0) / 4294967296 + (t (j + 1) + r j * a 1)) % 4294967296),((t j + r j * a 0) / 4294967296 + (t (j + 1) + r j * a 1)) / 4294967296) := by
  have : inn r a t j 2 = (updN (inn r a t j 1).1 (j + 1) ((((inn r a t j 1).2 + ((inn r a t j 1).1 (j + 1) + r j * a 1 % 18446744073709551616) % 18446744073709551616) % 18446744073709551616) % 4294967296),(((inn r a t j 1).2 + ((inn r a t j 1).1 (j + 1) + r j * a 1 % 18446744073709551616) % 18446744073709551616) % 18446744073709551616) / 4294967296) := rfl
  rw [this,e0]
  simp only [u1]
  rw [Nat.mod_eq_of_lt (a := r j * a 1) kc,Nat.mod_eq_of_lt (a := t (j + 1) + r j * a 1) kc,Nat.mod_eq_of_lt (a := (t j + r j * a 0) / 4294967296 + (t (j + 1) + r j * a 1)) kc]
 generalize hc : (t j + r j * a 0) / 4294967296 + (t (j + 1) + r j * a 1) = c at *
 generalize hd : t j + r j * a 0 = d at *
 have u2 : updN (updN t j (d % 4294967296)) (j + 1) (c % 4294967296) (j + 2) = 0 := by unfold updN;rw [if_neg kc,if_neg kc];exact h2
 have e2 : rowF r a t j = updN (updN (updN t j (d % 4294967296)) (j + 1) (c % 4294967296)) (j + 2) (c / 4294967296) := by
  unfold rowF
  rw [e1]
  simp only [u2]
  rw [Nat.zero_add,Nat.mod_eq_of_lt (a := c / 4294967296) kc]
 rw [e2]
 refine ⟨fun i hi => ?_,fun i => ?_,fun i hi => ?_,?_⟩
 ·unfold updN;rw [if_neg kc,if_neg kc,if_neg kc]
 ·unfold updN
  split
  ·omega
  ·split
   ·omega
   ·split
    ·omega
    ·exact ht i
 ·unfold updN;rw [if_neg kc,if_neg kc,if_neg kc]
 ·have v0 : updN (updN (updN t j (d % 4294967296)) (j + 1) (c % 4294967296)) (j + 2) (c / 4294967296) j = d % 4294967296 := by unfold updN;rw [if_neg kc,if_neg kc,if_pos rfl]
  have v1 : updN (updN (updN t j (d % 4294967296)) (j + 1) (c % 4294967296)) (j + 2) (c / 4294967296) (j + 1) = c % 4294967296 := by unfold updN;rw [if_neg kc,if_pos rfl]
  have v2 : updN (updN (updN t j (d % 4294967296)) (j + 1) (c % 4294967296)) (j + 2) (c / 4294967296) (j + 2) = c / 4294967296 := by unfold updN;rw [if_pos rfl]
  rw [v0,v1,v2,Nat.mul_add,← Nat.mul_assoc]
  omega
theorem rows_val (r a : Nat → Nat) (hr : ∀ i,r i < 4294967296) (ha : ∀ i,a i < 4294967296) : ∀ j,(∀ i,rowsF r a j i < 4294967296) ∧ (∀ i,j + 2 ≤ i → rowsF r a j i = 0) ∧ val (rowsF r a j) (j + 2) = val r j * (a 0 + a 1 * 4294967296)
 | 0 => ⟨fun _ => by show 0 < _;decide,fun _ _ => rfl,by simp [val,rowsF]⟩
 | j + 1 => by
  obtain ⟨h1,h2,h3⟩ := rows_val r a hr ha j
  obtain ⟨k1,k2,k3,k4⟩ := inn_two r a (rowsF r a j) j h1 (hr j) ha (h2 (j + 2) kc)
  have e : rowsF r a (j + 1) = rowF r a (rowsF r a j) j := rfl
  rw [e]
  refine ⟨k2,fun i hi => by rw [k3 i kc];exact h2 i kc,?_⟩
  generalize rowF r a (rowsF r a j) j = T at *
  generalize rowsF r a j = t at *
  have hT : val T (j + 1 + 2) = val T j + T j * 4294967296 ^ j + T (j + 1) * 4294967296 ^ (j + 1) + T (j + 2) * 4294967296 ^ (j + 2) := rfl
  have ht : val t (j + 2) = val t j + t j * 4294967296 ^ j + t (j + 1) * 4294967296 ^ (j + 1) := rfl
  have hv : val r (j + 1) = val r j + r j * 4294967296 ^ j := rfl
  rw [hT,val_congr j k1,hv]
  rw [ht] at h3
  generalize hB : 4294967296 ^ j = B at *
  have p1 : 4294967296 ^ (j + 1) = B * 4294967296 := by rw [Nat.pow_succ,hB]
  have p2 : 4294967296 ^ (j + 2) = B * 18446744073709551616 := by rw [Nat.pow_add,hB]
  rw [p1] at h3
  rw [p1,p2,Nat.add_mul,← h3]
  have := congrArg (B * ·) k4
  simp only [Nat.mul_add] at this
  have q1 : T j * B = B * T j := Nat.mul_comm _ _
  have q2 : T (j + 1) * (B * 4294967296) = B * (T (j + 1) * 4294967296) := by rw [Nat.mul_left_comm]
  have q3 : T (j + 2) * (B * 18446744073709551616) = B * (T (j + 2) * 18446744073709551616) := by rw [Nat.mul_left_comm]
  have q4 : t j * B = B * t j := Nat.mul_comm _ _
  have q5 : t (j + 1) * (B * 4294967296) = B * (t (j + 1) * 4294967296) := by rw [Nat.mul_left_comm]
  have q6 : r j * B * (a 0 + a 1 * 4294967296) = B * (r j * (a 0 + a 1 * 4294967296)) := by rw [Nat.mul_comm (r j) B,Nat.mul_assoc]
  rw [q1,q2,q3,q4,q5,q6,Nat.mul_add (r j),Nat.mul_add B]
  omega
theorem aF_lt {y : Nat} (hy : y < 68719476736) (i : Nat) : aF y i < 4294967296 := by
 unfold aF
 split
 ·omega
 ·split <;> omega
theorem pow_val (y : Nat) (hy : y < 68719476736) : ∀ i,i ≤ 3 → (∀ j,powF y i j < 4294967296) ∧ val (powF y i) 6 = y ^ i
 | 0,_ => ⟨fun j => by unfold powF oneF;split <;> omega,by simp [val,powF,oneF]⟩
 | i + 1,hi => by
  obtain ⟨h1,h2⟩ := pow_val y hy i kc
  obtain ⟨k1,k2,k3⟩ := rows_val (powF y i) (aF y) h1 (aF_lt hy) 5
  have ea : aF y 0 + aF y 1 * 4294967296 = y := by unfold aF;simp;omega
  have e : powF y (i + 1) = rowsF (powF y i) (aF y) 5 := rfl
  rw [ea] at k3
  have hpw : y ^ i ≤ 68719476736 ^ 2 := Nat.le_trans (Nat.pow_le_pow_left (Nat.le_of_lt hy) i) (Nat.pow_le_pow_right ku kc)
  have v6 : val (powF y i) 6 = val (powF y i) 5 + powF y i 5 * 1461501637330902918203684832716283019655932542976 := rfl
  have r5 : powF y i 5 = 0 := by
   rw [h2] at v6
   have : (68719476736 : Nat) ^ 2 = 4722366482869645213696 := by decide
   omega
  rw [r5,Nat.zero_mul,Nat.add_zero] at v6
  rw [← v6,h2] at k3
  replace k3 : val (rowsF (powF y i) (aF y) 5) 7 = y ^ (i + 1) := k3.trans (Nat.pow_succ y i).symm
  have hpw3 : y ^ (i + 1) ≤ 68719476736 ^ 3 := Nat.le_trans (Nat.pow_le_pow_left (Nat.le_of_lt hy) (i + 1)) (Nat.pow_le_pow_right ku kc)
  have v7 : val (rowsF (powF y i) (aF y) 5) 7 = val (rowsF (powF y i) (aF y) 5) 6 + rowsF (powF y i) (aF y) 5 6 * 6277101735386680763835789423207666416102355444464034512896 := rfl
  have t6 : rowsF (powF y i) (aF y) 5 6 = 0 := by
   rw [k3] at v7
   have : (68719476736 : Nat) ^ 3 = 324518553658426726783156020576256 := by decide
   omega
  rw [v7,t6,Nat.zero_mul,Nat.add_zero] at k3
  exact ⟨k1,k3⟩
theorem abv_eq {y p k : Nat} (hk : k = 2 ∨ k = 3) (hy : y < 68719476736) (hp : p < 4294967296) : abv y p k = decide (p * 4294967296 ^ k < y ^ k) := by
 obtain ⟨h1,h2⟩ := pow_val y hy k kc
 have hv : val (powF y k) 6 = 0 + powF y k 0 * 1 + powF y k 1 * 4294967296 + powF y k 2 * 18446744073709551616 + powF y k 3 * 79228162514264337593543950336 + powF y k 4 * 340282366920938463463374607431768211456 + powF y k 5 * 1461501637330902918203684832716283019655932542976 := rfl
 rw [hv] at h2
 have g0 := h1 0
 have g1 := h1 1
 have g2 := h1 2
 have g3 := h1 3
 have g4 := h1 4
 have g5 := h1 5
 rw [← h2]
 unfold abv
 generalize powF y k = R at *
 clear hv h1 h2
 rcases hk with rfl | rfl
 ·rw [show (4294967296 : Nat) ^ 2 = 18446744073709551616 from by decide,Bool.eq_iff_iff]
  simp [List.range_succ]
  split <;> omega
 ·rw [show (4294967296 : Nat) ^ 3 = 79228162514264337593543950336 from by decide,Bool.eq_iff_iff]
  simp [List.range_succ]
  split <;> omega
def now {β : Type} (n : Nat) (k : Nat → β) : β := match n with
 | 0 => k 0
 | m + 1 => k (m + 1)
theorem now_eq {β : Type} (n : Nat) (k : Nat → β) : now n k = k n := by cases n <;> rfl
def rtE (p k : Nat) : Nat → Nat → Nat
 | 0,x => x
 | b + 1,x => now (bif Nat.blt (p * 4294967296 ^ k) ((x + 2 ^ b) ^ k) then x else x + 2 ^ b) fun x' => rtE p k b x'
theorem rtE_eq {p k : Nat} (hk : k = 2 ∨ k = 3) (hp : p < 4294967296) : ∀ b x,x + 2 ^ b ≤ 68719476736 → rtF p k b x = rtE p k b x
 | 0,x,_ => rfl
 | b + 1,x,h => by
  have h2 : 2 ^ (b + 1) = 2 ^ b + 2 ^ b := by rw [Nat.pow_succ];omega
  have hp2 : 0 < 2 ^ b := Nat.pow_pos ku
  have e : rtE p k (b + 1) x = now (bif Nat.blt (p * 4294967296 ^ k) ((x + 2 ^ b) ^ k) then x else x + 2 ^ b) fun x' => rtE p k b x' := rfl
  rw [e,now_eq,rtF_succ,abv_eq hk kc hp]
  by_cases hc : p * 4294967296 ^ k < (x + 2 ^ b) ^ k
  ·have hb : Nat.blt (p * 4294967296 ^ k) ((x + 2 ^ b) ^ k) = true := Nat.ble_eq_true_of_le hc
   rw [if_pos (decide_eq_true hc),hb]
   exact rtE_eq hk hp b x kc
  ·have hb : Nat.blt (p * 4294967296 ^ k) ((x + 2 ^ b) ^ k) = false := by
    cases h : Nat.blt (p * 4294967296 ^ k) ((x + 2 ^ b) ^ k)
    ·rfl
    ·exact absurd (Nat.le_of_ble_eq_true h) hc
   rw [if_neg (by simpa using hc),hb]
   exact rtE_eq hk hp b (x + 2 ^ b) kc
theorem root_eq {p k : Nat} (hk : k = 2 ∨ k = 3) (hp : p < 4294967296) : root p k = rtE p k 36 0 % 4294967296 := by unfold root;rw [rtE_eq hk hp 36 0 ku]
theorem pl_lt {p q : Nat} (h : q ∈ pl p) : q < p := by
 unfold pl at h
 exact List.mem_range.1 (List.mem_filter.1 h).1
theorem rl_eq (p k : Nat) (hk : k = 2 ∨ k = 3) (hp : p ≤ 312) : rl p k = (pl p).map fun q => rtE q k 36 0 % 4294967296 := by
 unfold rl
 refine List.map_congr_left fun q hq => root_eq hk ?_
 have := pl_lt hq
 omega
theorem k64 : ((pl 312).map fun q => rtE q 3 36 0 % 4294967296) = KL := by decide +kernel
theorem h8 : ((pl 20).map fun q => rtE q 2 36 0 % 4294967296) = (List.range 8).map H0 := by decide +kernel
theorem rl64 : rl 312 3 = KL := (rl_eq 312 3 (.inr rfl) ku).trans k64
theorem rl8 : rl 20 2 = (List.range 8).map H0 := (rl_eq 20 2 (.inl rfl) ku).trans h8
end Sha
end
section
namespace Sha
open Go (j0 j3 k5 ka kb kc kd ke kf kh kj km kn kq kt ku kx ky q9 qg qs qu qw qx zd zh zi zx)
open Go.Pt (updN fillN)
theorem X_lt (m n : Nat) : X m n < 4294967296 := Nat.mod_lt _ ku
theorem A_lt (m n : Nat) : A m n < 4294967296 := Nat.mod_lt _ ku
theorem O_lt (m n : Nat) : O m n < 4294967296 := Nat.mod_lt _ ku
theorem P_lt (m n : Nat) : P m n < 4294967296 := Nat.mod_lt _ ku
theorem rr_lt (r x : Nat) : rr r x < 4294967296 := O_lt _ _
theorem div_lt {x : Nat} (k : Nat) (h : x < 4294967296) : x / 2 ^ k < 4294967296 := Nat.lt_of_le_of_lt (Nat.div_le_self _ _) h
theorem X64 {m n : Nat} (hm : m < 4294967296) (hn : n < 4294967296) : (m ^^^ n) % 18446744073709551616 = X m n := by
 have : m ^^^ n < 2 ^ 32 := Nat.xor_lt_two_pow hm hn
 unfold X
 rw [Nat.mod_eq_of_lt kc,Nat.mod_eq_of_lt kc]
theorem A64 {m n : Nat} (hm : m < 4294967296) : (m &&& n) % 18446744073709551616 = A m n := by
 have : m &&& n ≤ m := Nat.and_le_left
 unfold A
 rw [Nat.mod_eq_of_lt (a := m &&& n) (b := 18446744073709551616) kc,Nat.mod_eq_of_lt kc]
theorem tbX (m n i : Nat) : (X m n).testBit i = (decide (i < 32) && (m.testBit i ^^ n.testBit i)) := by
 unfold X
 rw [show (4294967296 : Nat) = 2 ^ 32 from rfl,Nat.testBit_mod_two_pow,Nat.testBit_xor]
theorem tbA (m n i : Nat) : (A m n).testBit i = (decide (i < 32) && (m.testBit i && n.testBit i)) := by
 unfold A
 rw [show (4294967296 : Nat) = 2 ^ 32 from rfl,Nat.testBit_mod_two_pow,Nat.testBit_and]
theorem tbO (m n i : Nat) : (O m n).testBit i = (decide (i < 32) && (m.testBit i || n.testBit i)) := by
 unfold O
 rw [show (4294967296 : Nat) = 2 ^ 32 from rfl,Nat.testBit_mod_two_pow,Nat.testBit_or]
theorem ch_eq {e f g : Nat} (he : e < 4294967296) : X (A e f) (A (4294967295 - e) g) = ch e f g := by
 apply Nat.eq_of_testBit_eq
 intro i
 unfold ch
 have hn : (4294967295 - e).testBit i = (decide (i < 32) && !e.testBit i) := by
  rw [show 4294967295 - e = 2 ^ 32 - (e + 1) by omega]
  exact Nat.testBit_two_pow_sub_succ he i
 simp only [tbX,tbA,hn]
 cases decide (i < 32) <;> cases e.testBit i <;> cases f.testBit i <;> cases g.testBit i <;> rfl
theorem mj_eq (a b c : Nat) : X (X (A a b) (A a c)) (A b c) = mj a b c := by
 apply Nat.eq_of_testBit_eq
 intro i
 unfold mj
 simp only [tbX,tbA,tbO]
 cases decide (i < 32) <;> cases a.testBit i <;> cases b.testBit i <;> cases c.testBit i <;> rfl
theorem add2 (a b : Nat) : (a + b) % 18446744073709551616 % 4294967296 = P a b := by unfold P;omega
theorem add4 (a b c d : Nat) : (((a + b) % 18446744073709551616 + c) % 18446744073709551616 + d) % 18446744073709551616 % 4294967296 = P (P (P a b) c) d := by unfold P;omega
theorem add5 (a b c d e : Nat) : ((((a + b) % 18446744073709551616 + c) % 18446744073709551616 + d) % 18446744073709551616 + e) % 18446744073709551616 % 4294967296 = P (P (P (P a b) c) d) e := by unfold P;omega
theorem O8 {w c : Nat} (hw : w < 16777216) (hc : c < 256) : O (w * 2 ^ 8 % 4294967296) c = w * 256 + c := by
 unfold O
 rw [Nat.mod_eq_of_lt (a := w * 2 ^ 8) kc,Nat.mul_comm,← Nat.two_pow_add_eq_or_of_lt (by omega : c < 2 ^ 8),Nat.mod_eq_of_lt kc]
def word (p : Nat → Nat) (i : Nat) : Nat := ((p (4 * i) * 256 + p (4 * i + 1)) * 256 + p (4 * i + 2)) * 256 + p (4 * i + 3)
def wpart (p : Nat → Nat) (i : Nat) : Nat → Nat
 | 0 => 0
 | k + 1 => wpart p i k * 256 + p (4 * i + k)
theorem wpart_lt {p : Nat → Nat} (hp : ∀ j,p j < 256) (i : Nat) : ∀ k,wpart p i k < 256 ^ k
 | 0 => by unfold wpart;decide
 | k + 1 => by
  have := wpart_lt hp i k
  have := hp (4 * i + k)
  unfold wpart
  rw [Nat.pow_succ]
  omega
theorem wpart4 (p : Nat → Nat) (i : Nat) : wpart p i 4 = word p i := by unfold wpart word;simp [wpart]
theorem ldw_eq {p : Nat → Nat} (hp : ∀ j,p j < 256) : ∀ n j,ldw p n j = if j < n / 4 then word p j else if j = n / 4 then wpart p j (n % 4) else 0
 | 0,j => by
  unfold ldw
  rw [if_neg kc]
  split
  ·rfl
  ·rfl
 | n + 1,j => by
  have ih := ldw_eq hp n
  have e : ldw p (n + 1) = updN (ldw p n) (n / 4) (O (ldw p n (n / 4) * 2 ^ 8 % 4294967296) (p n)) := rfl
  rw [e]
  have hw : ldw p n (n / 4) = wpart p (n / 4) (n % 4) := by rw [ih,if_neg kc,if_pos rfl]
  have hlt : wpart p (n / 4) (n % 4) < 16777216 := Nat.lt_of_lt_of_le (wpart_lt hp (n / 4) (n % 4)) (Nat.le_trans (Nat.pow_le_pow_right ku (show n % 4 ≤ 3 by omega)) ku)
  have hn : 4 * (n / 4) + n % 4 = n := by omega
  have hnew : O (ldw p n (n / 4) * 2 ^ 8 % 4294967296) (p n) = wpart p (n / 4) (n % 4 + 1) := by
   rw [hw,O8 hlt (hp n)]
   show _ = wpart p (n / 4) (n % 4) * 256 + p (4 * (n / 4) + n % 4)
   rw [hn]
  rw [hnew]
  unfold updN
  by_cases hj : j = n / 4
  ·subst hj
   rw [if_pos rfl]
   by_cases h3 : n % 4 = 3
   ·rw [if_pos kc,h3,wpart4]
   ·rw [if_neg kc,if_pos kc,show (n + 1) % 4 = n % 4 + 1 by omega]
  ·rw [if_neg hj,ih]
   by_cases h1 : j < n / 4
   ·rw [if_pos h1,if_pos kc]
   ·rw [if_neg h1,if_neg hj,if_neg kc]
    split
    ·rw [show (n + 1) % 4 = 0 by omega];rfl
    ·rfl
theorem ldw64 {p : Nat → Nat} (hp : ∀ j,p j < 256) (j : Nat) : ldw p 64 j = if j < 16 then word p j else 0 := by
 rw [ldw_eq hp]
 split
 ·rfl
 ·split <;> rfl
theorem word_lt {p : Nat → Nat} (hp : ∀ j,p j < 256) (i : Nat) : word p i < 4294967296 := by
 have := wpart_lt hp i 4
 rw [wpart4] at this
 exact this
theorem sch_stay (f : Nat → Nat) (q d : Nat) {j : Nat} (h : j < 16 + q) : sch f (q + d) j = sch f q j := by
 induction d with
 | zero => rfl
 | succ d ih =>
  rw [← ih]
  show updN (sch f (q + d)) (16 + (q + d)) _ j = _
  unfold updN
  rw [if_neg kc]
theorem sch_at (f : Nat → Nat) {i : Nat} (h1 : 16 ≤ i) (h2 : i < 64) : sch f 48 i = sch1 (sch f 48) i := by
 obtain ⟨q,rfl⟩ : ∃ q,i = 16 + q := ⟨i - 16,by omega⟩
 have e : sch f (q + 1) (16 + q) = sch1 (sch f q) (16 + q) := by
  show updN (sch f q) (16 + q) _ (16 + q) = _
  unfold updN
  rw [if_pos rfl]
 have a : ∀ j,j < 16 + (q + 1) → sch f 48 j = sch f (q + 1) j := fun j hj => by
  have := sch_stay f (q + 1) (48 - (q + 1)) hj
  rw [show q + 1 + (48 - (q + 1)) = 48 by omega] at this
  exact this
 have b : ∀ j,j < 16 + q → sch f q j = sch f 48 j := fun j hj => by
  have := sch_stay f q (48 - q) hj
  rw [show q + (48 - q) = 48 by omega] at this
  exact this.symm
 rw [a _ kc,e]
 unfold sch1
 rw [b _ kc,b _ kc,b _ kc,b _ kc]
theorem sch_lo (f : Nat → Nat) {i : Nat} (h : i < 16) : sch f 48 i = f i := by
 have := sch_stay f 0 48 (j := i) kc
 rw [Nat.zero_add] at this
 exact this
theorem sch_lt {f : Nat → Nat} (hf : ∀ j,f j < 4294967296) {i : Nat} (h : i < 64) : sch f 48 i < 4294967296 := by
 rcases Nat.lt_or_ge i 16 with h1 | h1
 ·rw [sch_lo f h1];exact hf i
 ·rw [sch_at f h1 h];exact P_lt _ _
theorem v8_lt {a b c d e f g h : Nat} (ha : a < 4294967296) (hb : b < 4294967296) (hc : c < 4294967296) (hd : d < 4294967296) (he : e < 4294967296) (hf : f < 4294967296) (hg : g < 4294967296) (hh : h < 4294967296) (j : Nat) : v8 a b c d e f g h j < 4294967296 := by
 unfold v8
 split <;> assumption
theorem rnds_lt {K W v : Nat → Nat} (hv : ∀ j,j < 8 → v j < 4294967296) : ∀ i j,j < 8 → rnds K W v i j < 4294967296
 | 0,j,hj => hv j hj
 | i + 1,j,hj => by
  have ih := rnds_lt (K := K) (W := W) hv i
  have e : rnds K W v (i + 1) = rnd (rnds K W v i) (K i) (W i) := rfl
  rw [e]
  generalize rnds K W v i = u at *
  unfold rnd
  exact v8_lt (P_lt _ _) (ih 0 kc) (ih 1 kc) (ih 2 kc) (P_lt _ _) (ih 4 kc) (ih 5 kc) (ih 6 kc) j
theorem comp_lt (h p : Nat → Nat) (j : Nat) : comp h p j < 4294967296 := P_lt _ _
theorem H0_lt : ∀ j,j < 8 → H0 j < 4294967296 := by decide
theorem ldw_congr {p q : Nat → Nat} : ∀ n,(∀ j,j < n → p j = q j) → ldw p n = ldw q n
 | 0,_ => rfl
 | n + 1,h => by
  show updN (ldw p n) (n / 4) _ = updN (ldw q n) (n / 4) _
  rw [ldw_congr n fun j hj => h j kc,h n kc]
theorem comp_congr {h : Nat → Nat} {p q : Nat → Nat} (e : ∀ j,j < 64 → p j = q j) : comp h p = comp h q := by unfold comp;rw [ldw_congr 64 e]
def byteAt (l : List UInt8) (j : Nat) : Nat := (l.getD j 0).toNat
theorem byteAt_lt (l : List UInt8) (j : Nat) : byteAt l j < 256 := (l.getD j 0).toNat_lt
theorem byteAt_get {l : List UInt8} {j : Nat} (h : j < l.length) : byteAt l j = l[j].toNat := by unfold byteAt;rw [List.getD_eq_getElem?_getD,List.getElem?_eq_getElem h];rfl
def hN (h : Nat → Nat) (l : List UInt8) : Nat → Nat → Nat
 | 0 => h
 | k + 1 => comp (hN h l k) fun j => byteAt l (64 * k + j)
theorem wr_block (s : St) (l : List UInt8) (hn : s.n % 64 = 0) : ∀ i,i ≤ l.length → i ≤ 64 → i < 64 →
  (wrL s (l.take i)).h = s.h ∧ (∀ j,j < i → (wrL s (l.take i)).p j = byteAt l j)
 | 0,_,_,_ => ⟨rfl,fun _ h => by omega⟩
 | i + 1,hi,h64,hlt => by
  obtain ⟨h1,h2⟩ := wr_block s l hn i kc kc kc
  have hns : (wrL s (l.take i)).n = s.n + i := by rw [wrL_n,List.length_take,Nat.min_eq_left kc]
  have e : wrL s (l.take (i + 1)) = wr (wrL s (l.take i)) l[i].toNat := by
   rw [List.take_succ_eq_append_getElem kc,wrL_app];rfl
  rw [e]
  generalize wrL s (l.take i) = S at *
  have hm : S.n % 64 = i := by omega
  unfold wr
  rw [if_neg kc]
  refine ⟨h1,fun j hj => ?_⟩
  show updN S.p (S.n % 64) _ j = _
  rw [hm]
  unfold updN
  split
  ·rename_i he;subst he;rw [byteAt_get kc]
  ·exact h2 j kc
theorem wr_64 (s : St) (l : List UInt8) (hn : s.n % 64 = 0) (hl : l.length = 64) : (wrL s l).h = comp s.h (byteAt l) ∧ (wrL s l).n = s.n + 64 := by
 refine ⟨?_,by rw [wrL_n,hl]⟩
 obtain ⟨h1,h2⟩ := wr_block s l hn 63 kc kc kc
 have hns : (wrL s (l.take 63)).n = s.n + 63 := by rw [wrL_n,List.length_take,Nat.min_eq_left kc]
 have e : wrL s l = wr (wrL s (l.take 63)) l[63].toNat := by
  conv => lhs;rw [← List.take_of_length_le (show l.length ≤ 63 + 1 by omega),List.take_succ_eq_append_getElem kc,wrL_app]
  rfl
 rw [e]
 generalize wrL s (l.take 63) = S at *
 unfold wr
 rw [if_pos kc]
 show comp S.h _ = _
 rw [h1]
 apply comp_congr
 intro j hj
 show updN S.p (S.n % 64) _ j = _
 rw [show S.n % 64 = 63 by omega]
 unfold updN
 split
 ·rename_i he;subst he;rw [byteAt_get kc]
 ·exact h2 j kc
theorem hN_congr {h : Nat → Nat} {l m : List UInt8} : ∀ k,(∀ j,j < 64 * k → byteAt l j = byteAt m j) → hN h l k = hN h m k
 | 0,_ => rfl
 | k + 1,e => by
  show comp (hN h l k) _ = comp (hN h m k) _
  rw [hN_congr k fun j hj => e j kc]
  exact comp_congr fun j hj => e _ kc
theorem wr_N (s : St) (hn : s.n % 64 = 0) : ∀ k (l : List UInt8),l.length = 64 * k → (wrL s l).h = hN s.h l k ∧ (wrL s l).n = s.n + 64 * k
 | 0,l,hl => by
  have : l = [] := List.length_eq_zero_iff.1 kc
  subst this
  exact ⟨rfl,rfl⟩
 | k + 1,l,hl => by
  obtain ⟨h1,h2⟩ := wr_N s hn k (l.take (64 * k)) qs
  have e : wrL s l = wrL (wrL s (l.take (64 * k))) (l.drop (64 * k)) := by rw [← wrL_app,List.take_append_drop]
  obtain ⟨k1,k2⟩ := wr_64 (wrL s (l.take (64 * k))) (l.drop (64 * k)) kc j3
  rw [e,k1,k2,h1,h2]
  refine ⟨?_,by omega⟩
  show _ = comp (hN s.h l k) _
  rw [hN_congr (m := l) k fun j hj => by unfold byteAt;rw [List.getD_eq_getElem?_getD,List.getD_eq_getElem?_getD,List.getElem?_take_of_lt hj]]
  apply comp_congr
  intro j hj
  unfold byteAt
  rw [List.getD_eq_getElem?_getD,List.getD_eq_getElem?_getD,List.getElem?_drop]
def padded (l : List UInt8) : List UInt8 := l ++ pad l.length
theorem pad_len (n : Nat) : (pad n).length = 9 + (119 - n % 64) % 64 := by simp [pad,zeros,be8];omega
theorem padded_len (l : List UInt8) : (padded l).length = l.length + 9 + (119 - l.length % 64) % 64 := by unfold padded;rw [List.length_append,pad_len];omega
theorem of_eq (l : List UInt8) : of l = outB (hN H0 (padded l) ((padded l).length / 64)) := by
 unfold of sum
 have hn : (wrL ini l).n = l.length := by rw [wrL_n];exact Nat.zero_add _
 rw [hn,← wrL_app]
 have hl := padded_len l
 have := (wr_N ini rfl ((padded l).length / 64) (padded l) kc).1
 unfold padded at this
 rw [this]
 rfl
end Sha
end
section
namespace Go.Proofs.YtabbklpalbikdaaGreatDoor
open Go.RowKit Go.Pt
def u64s (l : List Nat) : List Value := l.map fun (x : Nat) => Value.int .u64 (x : Int)
theorem u64s_app (l m : List Nat) : u64s (l ++ m) = u64s l ++ u64s m := by unfold u64s;rw [List.map_append]
theorem pl2 : Sha.pl 2 = [] := by decide +kernel
theorem refRoots (n k E : Nat) (w : World) (hk : k = 2 ∨ k = 3) (hE : E ≤ 312) (h2 : 2 ≤ E) (hn : n < 1000) (hc : ∀ p,p < E → (Sha.pl p).length < n) (hl : (Sha.pl E).length = n) :
  Calls Tryz.prog 103 #[.int .i64 n,.int .i64 k] w fun e w' => ∃ v,e = .returned v ∧ w'.ownsRow w.heap.size 143 1 v n (u64s (Sha.rl E k)) ∧ Upd (fun k => w.heap.size ≤ k) w w' := by
 refine enter (args := [_,_]) (Γ := [(0,_),(1,_)]) Tryz.func103 Tryz.ntmps103 rfl odq (.cons rfl (.cons rfl .nil)) ?_
 repeat' first | refine Wl.assign rfl rfl ?_ | apply Wl.nil | apply St.seq | apply St.block | apply St.region | apply Gt.next
 refine St.loop (σ := Nat × World × Value) (fun τ => 2 ≤ τ.1 ∧ τ.1 ≤ E ∧ Upd (fun k => w.heap.size ≤ k) w τ.2.1 ∧ τ.2.1.ownsRow w.heap.size 143 1 τ.2.2 (Sha.pl τ.1).length (u64s (Sha.rl τ.1 k)))
  (fun τ => [(0,.int .i64 n),(1,.int .i64 k),(5,τ.2.2),(6,.int .u64 τ.1)]) (fun τ => Hp τ.2.1 []) (fun τ => E - τ.1) (2,w,.slice none 0 0) ⟨by simp,h2,Upd.refl _ _,by unfold Sha.rl;simp only [pl2];exact World.ownsRow_nil _ _ _ _⟩ kq (fun _ h => h) ?_
 rintro ⟨p,w0,v⟩ ⟨hp2,hpE,hu,hol⟩
 simp only at hp2 hpE hu hol ⊢
 obtain ⟨a,cap,rfl⟩ : ∃ a cap,v = .slice a (Sha.pl p).length cap := by
  rcases hol.2 with ⟨rfl,h0⟩ | ⟨g,cap,cur,rfl,_⟩
  ·exact ⟨none,0,by rw [h0]⟩
  ·exact ⟨_,_,rfl⟩
 generalize hL : (Sha.pl p).length = L at *
 by_cases hlt : p < E
 ·have hcp := hc p hlt
  rw [hL] at hcp
  have hd : decide ((L : Int) < (n : Int)) = true := decide_eq_true kc
  repeat' first | refine Wl.move rfl rfl ?_ | refine Wl.assign rfl rfl ?_ | refine Wl.lss rfl rfl rfl ?_ | refine Wl.len rfl rfl ?_ | apply Wl.nil | apply St.seq | apply St.block | apply St.region | (apply St.condT;exact rfl;exact k5) | apply St.skip | apply Gt.next
  refine St.loop (σ := Nat) (fun d => 2 ≤ d ∧ d ≤ 18 ∧ (d = 2 ∨ (d - 1) * (d - 1) ≤ p)) (fun d => [(0,.int .i64 n),(1,.int .i64 k),(5,.slice a L cap),(6,.int .u64 p),(7,.bool (Sha.allB p d)),(8,.int .u64 d)])
   (fun _ => Hp w0 []) (fun d => 18 - d) 2 ⟨by omega,by omega,.inl rfl⟩ (by rw [Sha.allB_2];exact kd) (fun _ h => h) ?_
  rintro d ⟨hd2,hd18,hdp⟩
  by_cases hlq : d * d ≤ p
  ·have hdd : d * d < 18446744073709551616 := by omega
   have hd17 : d ≤ 17 := by
    rcases Nat.lt_or_ge 17 d with h | h
    ·have := Nat.mul_le_mul h h
     omega
    ·exact h
   have hds : decide (((d * d : Nat) : Int) ≤ (p : Int)) = true := decide_eq_true kc
   have hsu := Sha.allB_succ p d hd2
   have hnx : (d + 1) - 1 = d := by omega
   have hdn : ((d : Int)) ≠ 0 := by omega
   have hp313 : (p % d) < 18446744073709551616 := by have := Nat.mod_lt p (show 0 < d by omega);omega
   cases hA : Sha.allB p d with
   | false =>
    rw [hA,Bool.false_and] at hsu
    repeat' first | (apply Wl.mulNU;exact rfl;exact rfl;exact rfl;exact hdd) | refine Wl.move rfl rfl ?_ | refine Wl.assign rfl rfl ?_ | (apply Wl.off;exact rfl;exact rfl;exact rfl;exact kh) | (apply Wl.pickF;exact rfl;exact rfl;exact k5;exact rfl) | refine Wl.leq rfl rfl rfl ?_ | (refine Wl.addU rfl rfl rfl ?_ ?_;constructor <;> omega) | apply Wl.nil | apply St.seq | apply St.block | apply St.region | (apply St.condT;exact rfl;exact k5) | apply St.skip | apply Gt.next | apply Gt.inNormal
    apply Gt.round (d + 1)
    rotate_left
    ·omega
    ·rw [hsu];exact kd
    ·exact fun _ h => h
    ·exact ⟨by omega,by omega,.inr (by rw [hnx];exact hlq)⟩
   | true =>
    rw [hA,Bool.true_and] at hsu
    have hgt : decide (((p % d : Nat) : Int) > 0) = decide (0 < p % d) := decide_eq_decide.2 kc
    repeat' first | (apply Wl.mulNU;exact rfl;exact rfl;exact rfl;exact hdd) | (refine Wl.remN rfl rfl rfl ?_ ?_;omega) | refine Wl.move rfl rfl ?_ | refine Wl.assign rfl rfl ?_ | (apply Wl.on;exact rfl;exact rfl;exact k5) | (apply Wl.pickT;exact rfl;exact rfl;exact k5;exact rfl) | refine Wl.leq rfl rfl rfl ?_ | refine Wl.gtr rfl rfl rfl ?_ | (refine Wl.addU rfl rfl rfl ?_ ?_;constructor <;> omega) | apply Wl.nil | apply St.seq | apply St.block | apply St.region | (apply St.condT;exact rfl;exact k5) | apply St.skip | apply Gt.next | apply Gt.inNormal
    rw [hgt,← hsu]
    apply Gt.round (d + 1)
    rotate_left
    ·omega
    ·exact kd
    ·exact fun _ h => h
    ·exact ⟨by omega,by omega,.inr (by rw [hnx];exact hlq)⟩
  have hfin := Sha.allB_end p kc hp2 d kc hd2 hdp kc
  have hds : decide (((d * d : Nat) : Int) ≤ (p : Int)) = false := decide_eq_false kc
  have hdd : d * d < 18446744073709551616 := by
   have := Nat.mul_le_mul hd18 hd18
   omega
  have hsu := Sha.pl_succ p
  rw [hfin]
  cases hP : Sha.isP p with
  | false =>
   rw [hP] at hsu
   repeat' first | (apply Wl.mulNU;exact rfl;exact rfl;exact rfl;exact hdd) | refine Wl.addW rfl rfl rfl ?_ | refine Wl.move rfl rfl ?_ | refine Wl.assign rfl rfl ?_ | refine Wl.leq rfl rfl rfl ?_ | apply Wl.nil | apply St.seq | apply St.region | (apply St.condF;exact rfl;exact k5) | apply St.skip | apply St.exit | apply Gt.next | apply Gt.thenExit | apply Gt.inNormal | apply Gt.inExit
   have hp64 : (p + 1) % 18446744073709551616 = p + 1 := Nat.mod_eq_of_lt kc
   try rw [hp64]
   apply Gt.round (p + 1,w0,.slice a L cap)
   rotate_left
   ·simp only;omega
   ·exact kd
   ·exact fun _ h => h
   ·refine ⟨by simp only;omega,by simp only;omega,hu,?_⟩
    simp only
    unfold Sha.rl
    rw [hsu,if_neg ku,hL]
    exact hol
  | true =>
   rw [hP,if_pos rfl] at hsu
   repeat' first | (apply Wl.mulNU;exact rfl;exact rfl;exact rfl;exact hdd) | refine Wl.move rfl rfl ?_ | refine Wl.leq rfl rfl rfl ?_ | apply Wl.nil | apply St.seq | apply St.region | (apply St.condT;exact rfl;exact k5) | (apply St.condF;exact rfl;exact k5) | apply St.exit | apply Gt.next | apply Gt.thenExit | apply Gt.inExit
   apply Wl.callQ
   exact rfl
   (focus repeat constructor)
   ·intro wq hq
    exact hq.q (refRoot p k wq hk)
   repeat' first | (apply Wl.lit;exact rfl;exact kj;exact rfl;exact rfl;exact ke;intro c hc ho)
   apply Wl.appendT
   ·exact rfl
   ·exact rfl
   ·exact rfl
   ·exact hc
   ·exact rfl
   ·exact hol
   ·exact fun k hk => trivial
   ·exact rfl
   ·exact rfl
   ·decide
   ·unfold maxLen;omega
   ·omega
   ·exact hu.size
   intro v' w1 ho1 u1 _ hoff1
   have hu1 : Upd (fun k => w.heap.size ≤ k) w w1 := hu.comp u1 fun k hk hs => hs.elim id fun hs => hs.elim (fun e => (hol.lt k e).1) fun y => (y trivial).elim
   repeat' first | refine Wl.addW rfl rfl rfl ?_ | refine Wl.move rfl rfl ?_ | refine Wl.assign rfl rfl ?_ | apply Wl.nil | apply St.region | apply Gt.next | apply Gt.inNormal
   have hp64 : (p + 1) % 18446744073709551616 = p + 1 := Nat.mod_eq_of_lt kc
   try rw [hp64]
   apply Gt.round (p + 1,w1,v')
   rotate_left
   ·simp only;omega
   ·exact kd
   ·exact fun _ h => h
   ·refine ⟨by simp only;omega,by simp only;omega,hu1,?_⟩
    simp only
    have e1 : u64s (Sha.rl (p + 1) k) = u64s (Sha.rl p k) ++ [Value.int .u64 (Sha.root p k : Nat)] := by
     unfold Sha.rl
     rw [hsu,List.map_append,u64s_app]
     rfl
    rw [e1,hsu,List.length_append,hL]
    exact ho1
 have hpe : p = E := by omega
 subst hpe
 have hLn : L = n := by omega
 subst hLn
 have hd : decide ((L : Int) < (L : Int)) = false := decide_eq_false kc
 repeat' first | refine Wl.move rfl rfl ?_ | refine Wl.assign rfl rfl ?_ | refine Wl.lss rfl rfl rfl ?_ | refine Wl.len rfl rfl ?_ | apply Wl.nil | apply St.seq | apply St.region | (apply St.condF;exact rfl;exact k5) | apply St.ret | apply St.exit | apply Gt.next | apply Gt.thenExit | apply Gt.inExit | (apply Gt.out1;exact rfl;exact rfl;intro w' hp)
 exact ⟨_,rfl,ownsRow_upd hol hp.upd (fun k _ y => y trivial),hu.comp hp.upd fun k _ hs => hs.elim id fun y => (y trivial).elim⟩
end Go.Proofs.YtabbklpalbikdaaGreatDoor
end
