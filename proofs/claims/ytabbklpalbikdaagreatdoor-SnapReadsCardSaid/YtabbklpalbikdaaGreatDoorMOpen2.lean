/-
 What an argument of whatever type is,read off the row's own reading: integers,structs,arrays and slices of them,one within another. Conditions: the argument reads.
-/
import Derived.Test.YtabbklpalbikdaaGreatDoorMOpen
import Derived.Deep.Slices
import Derived.SizedLaws
set_option linter.unusedVariables false
set_option linter.unusedSimpArgs false
namespace Go.Proofs.YtabbklpalbikdaaGreatDoor
open Go.RowKit Go.Pt Go.ChangeShapes Go.WideShapes Go.ChangeAt
/-- the cells cs read as a value of the type t -/
def Tr {H : Type} (enc : TypeId × Value → H) (P : Program) (w : World) (t : TypeId) (cs : List Value) : Prop := ∃ (fuel : Nat) (x : DataW H × List MemPlace),DataW.trod enc P w 0 (fun _ => true) true fuel t cs = some x ∧ ∀ n ∈ x.1.weights P t,n ≤ reachBytes
theorem weights_all {H : Type} {P : Program} {e : TypeId} {ds : List (DataW H)} {d : DataW H} (hd : d ∈ ds) {n : Nat} (hn : n ∈ d.weights P e) : n ∈ DataW.weightsAll P e ds := by
 induction ds with
 | nil => cases hd
 | cons x r ih =>
  simp only [DataW.weightsAll,List.mem_append]
  cases hd with
  | head => exact .inl hn
  | tail _ h => exact .inr (ih h)
section
variable {H : Type} {enc : TypeId × Value → H} {P : Program} {w : World} {t : TypeId} {cs : List Value}
theorem Tr.of {v : Value} {d : DataW H} {p : List MemPlace} (h : DataW.Trod enc P w 0 (fun _ => true) true t v d p) (hw : ∀ n ∈ d.weights P t,n ≤ reachBytes) : Tr enc P w t v.cells.toList := by
 obtain ⟨fuel,hf⟩ := h;exact ⟨fuel,_,hf,hw⟩
theorem Tr.ofEach {v : Value} {ts : List TypeId} {ds : List (DataW H)} (hw : (DataW.weightsEach P ts ds).all (· ≤ reachBytes) = true) {j : Nat} {d : DataW H} {p : List MemPlace} (ht : ts[j]? = some t) (hd : ds[j]? = some d)
  (h : DataW.Trod enc P w 0 (fun _ => true) true t v d p) : Tr enc P w t v.cells.toList :=
 Tr.of h fun n hn => by simpa using List.all_eq_true.1 hw n (DataW.weights_mem_each ht hd n hn)
theorem Tr.int {k : IntKind} (h : Tr enc P w t cs) (ht : P.underlying t = some (.int k)) : ∃ n,cs = [.int k n] ∧ k.min ≤ n ∧ n ≤ k.max := by
 obtain ⟨fuel,x,hf,_⟩ := h
 obtain ⟨n,h1,_,h2⟩ := DataW.trod_int ht hf
 exact ⟨n,h1,wf_int h2⟩
theorem Tr.field {fs : Array Field} (h : Tr enc P w t cs) (ht : P.underlying t = some (.struct fs)) (i : Nat) (f : Field) (hi : fs[i]? = some f) : Tr enc P w f.type ((cs.drop f.offset).take (P.cellsOf f.type)) := by
 obtain ⟨fuel,x,hf,hw⟩ := h
 obtain ⟨xs,n,_,rfl,_,hl,hg⟩ := DataW.trod_struct ht hf
 have := hg i f hi
 have hlt : i < xs.length := by rw [hl];exact (Array.getElem?_eq_some_iff.1 hi).1
 rw [List.getElem?_eq_getElem hlt] at this
 refine ⟨n,_,this,fun m hm => hw m ?_⟩
 simp only [DataW.weights,ht]
 refine DataW.weights_mem_each (j := i) (t := f.type) (d := xs[i].1) ?_ ?_ m hm
 ·rw [List.getElem?_map,Array.getElem?_toList,hi];rfl
 ·rw [List.getElem?_map,List.getElem?_eq_getElem hlt];rfl
/-- a field of one cell -/
theorem Tr.field1 {fs : Array Field} (h : Tr enc P w t cs) (ht : P.underlying t = some (.struct fs)) (i : Nat) {ft off : Nat} {c : Value} (hf : (fs[i]?).map (fun f => (f.type,f.offset)) = some (ft,off)) (hc : P.cellsOf ft = 1) (hcs : cs[off]? = some c) : Tr enc P w ft [c] := by
 obtain ⟨f,hf1,e⟩ := Option.map_eq_some_iff.1 hf
 simp only [Prod.mk.injEq] at e
 obtain ⟨rfl,rfl⟩ := e
 have := h.field ht i f hf1
 rw [hc] at this
 obtain ⟨h1,h2⟩ := List.getElem?_eq_some_iff.1 hcs
 have e2 : (cs.drop f.offset).take 1 = [c] := by rw [List.drop_eq_getElem_cons h1,h2];rfl
 rw [e2] at this
 exact this
theorem Tr.elem {n : Nat} {e : TypeId} (h : Tr enc P w t cs) (ht : P.underlying t = some (.array n e)) : cs.length = P.cellsOf t ∧ ∀ i,i < n → Tr enc P w e ((cs.drop (i * P.cellsOf e)).take (P.cellsOf e)) := by
 obtain ⟨fuel,x,hf,hw⟩ := h
 obtain ⟨xs,m,_,rfl,hl,hx,hg⟩ := DataW.trod_array ht hf
 refine ⟨hl,fun i hi => ?_⟩
 have := hg i hi
 rw [List.getElem?_eq_getElem kc] at this
 refine ⟨m,_,this,fun k hk => hw k ?_⟩
 simp only [DataW.weights,ht]
 exact weights_all (List.mem_map_of_mem (List.getElem_mem kc)) hk
theorem flatN {α : Type} {g : α → List Value} {m : Nat} (hg : ∀ x,(g x).length = m) {xs : List α} {i j : Nat} {x : α} (hi : xs[i]? = some x) (hj : j < m) : (xs.flatMap g)[i * m + j]? = (g x)[j]? := by
 induction xs generalizing i with
 | nil => simp at hi
 | cons y ys ih =>
  rw [List.flatMap_cons]
  cases i with
  | zero =>
   simp only [List.getElem?_cons_zero,Option.some.injEq] at hi
   subst hi
   rw [List.getElem?_append_left (by rw [hg];omega)]
   congr 1;omega
  | succ i =>
   rw [List.getElem?_append_right (by rw [hg,Nat.succ_mul];omega),hg]
   rw [List.getElem?_cons_succ] at hi
   rw [← ih hi]
   congr 1;rw [Nat.succ_mul];omega
/-- a slice: its elements one behind the other -/
theorem Tr.slice {e : TypeId} {sz : Nat} (h : Tr enc P w t cs) (ht : P.underlying t = some (.slice e)) (hsz : P.cellsOf e = sz) (hs : 0 < sz) :
  ∃ (es : List (List Value)) (v : Value),cs = [v] ∧ Sv w sz es.length v es.flatten ∧ (∀ c ∈ es,c.length = sz ∧ Tr enc P w e c) ∧ es.length * P.bytesOf e ≤ reachBytes := by
 obtain ⟨fuel,x,hf,hw⟩ := h
 subst hsz
 rcases Go.Deep.open_slice ht hf with ⟨rfl,_⟩ | ⟨a,len,cap,m,n,D,Pl,rfl,_,hl,hm,hmm,rfl,hx⟩
 ·exact ⟨[],_,rfl,Sv.nil w _,(fun c hc => by cases hc),by simp⟩
 ·simp only [if_true] at hmm
  subst hmm
  obtain ⟨CS,hCS⟩ := Go.Deep.choose_lt (α := List Value) hx
  have hlen : ∀ i,i < m → (CS i).length = P.cellsOf e := fun i hi => (World.cells?_some (hCS i hi).1).2.1
  simp only [DataW.weights,ht,List.mem_cons,List.mem_append] at hw
  refine ⟨(List.range len).map CS,_,rfl,?_,fun c hc => ?_,?_⟩
  ·have hfl : ((List.range len).map CS).flatten.length = len * P.cellsOf e := by
    clear hx hCS
    have : ∀ k,k ≤ len → ((List.range k).map CS).flatten.length = k * P.cellsOf e := by
     intro k hk
     induction k with
     | zero => simp
     | succ k ih => rw [List.range_succ,List.map_append,List.flatten_append,List.length_append,ih kc,Nat.succ_mul];simp [hlen k kc]
    exact this len (Nat.le_refl _)
   have hml : ((List.range len).map CS).length = len := by simp
   refine ⟨by rw [hml];exact hfl,some a,m,by rw [hml],by rw [hml];exact hl,hm,fun e => (by cases e),fun hne => ?_⟩
   have hpos : 0 < len := by
    rcases Nat.eq_zero_or_pos len with e | h
    ·subst e;simp at hne
    ·exact h
   have hcell : ∀ i j,i < len → j < P.cellsOf e → w.cell? (a.add (i * P.cellsOf e + j)) = (CS i)[j]? := fun i j hi hj => by
    have := (World.cells?_some (hCS i kc).1).2.2 j hj
    rw [Go.Deep.add_add] at this
    exact this
   obtain ⟨b,off,spot⟩ := a
   have h0 := hcell 0 0 hpos hs
   rw [List.getElem?_eq_getElem (by rw [hlen 0 kc];exact hs)] at h0
   have hsp : spot = none := by simpa [Addr.add] using World.cell?_spot h0
   subst hsp
   refine ⟨b,off,rfl,fun i hi => ?_⟩
   rw [hfl] at hi
   have hq : i / P.cellsOf e < len := by rw [Nat.div_lt_iff_lt_mul hs];exact hi
   have hr : i % P.cellsOf e < P.cellsOf e := Nat.mod_lt _ hs
   have := hcell _ _ hq hr
   have hi' : i / P.cellsOf e * P.cellsOf e + i % P.cellsOf e = i := Nat.div_add_mod' i (P.cellsOf e)
   rw [hi'] at this
   have hadd : (Addr.add ⟨b,off,none⟩ i : Addr) = ⟨b,off + i,none⟩ := by
    unfold Addr.add;by_cases e : i = 0 <;> simp [e]
   rw [hadd] at this
   rw [this]
   have hget : ((List.range len).map CS).flatten[i]? = (CS (i / P.cellsOf e))[i % P.cellsOf e]? := by
    clear hx hCS hcell h0 this hfl
    have key : ∀ k q r,k ≤ len → q < k → r < P.cellsOf e → ((List.range k).map CS).flatten[q * P.cellsOf e + r]? = (CS q)[r]? := by
     intro k
     induction k with
     | zero => intro q r _ hq;omega
     | succ k ih =>
      intro q r hk hq hr
      have hfk : ((List.range k).map CS).flatten.length = k * P.cellsOf e := by
       have : ∀ k,k ≤ len → ((List.range k).map CS).flatten.length = k * P.cellsOf e := by
        intro k hk
        induction k with
        | zero => simp
        | succ k ih => rw [List.range_succ,List.map_append,List.flatten_append,List.length_append,ih kc,Nat.succ_mul];simp [hlen k kc]
       exact this k kc
      rw [List.range_succ,List.map_append,List.flatten_append]
      by_cases e' : q = k
      ·subst e'
       rw [List.getElem?_append_right kc,hfk]
       simp only [List.map_cons,List.map_nil,List.flatten_cons,List.flatten_nil,List.append_nil]
       congr 1;omega
      ·have hqk : q + 1 ≤ k := by omega
       have : (q + 1) * P.cellsOf e ≤ k * P.cellsOf e := Nat.mul_le_mul_right _ hqk
       rw [Nat.succ_mul] at this
       rw [List.getElem?_append_left kc]
       exact ih q r kc kc hr
    have := key len _ _ (Nat.le_refl _) hq hr
    rw [hi'] at this
    exact this
   rw [← hget,List.getElem?_eq_getElem]
  ·obtain ⟨i,hi,rfl⟩ := List.mem_map.1 hc
   have hi' := List.mem_range.1 hi
   exact ⟨hlen i kc,n,_,(hCS i kc).2,fun k hk => hw k (.inr (.inl (weights_all (List.mem_map_of_mem (List.mem_range.2 hi')) hk)))⟩
  ·have := hw _ (.inl rfl)
   rw [List.length_map,List.length_range]
   rw [List.length_map,List.length_map,List.length_range,List.length_range] at this
   exact Nat.le_trans (Nat.mul_le_mul_right _ kc) this
/-- bytes -/
theorem Tr.bytes {e : TypeId} (h : Tr enc P w t cs) (ht : P.underlying t = some (.slice e)) (he : P.underlying e = some (.int .u8)) (hc : P.cellsOf e = 1) (hb : P.bytesOf e = 1) : ∃ v l,cs = [v] ∧ Bs w v l ∧ l.length ≤ reachBytes := by
 obtain ⟨es,v,rfl,hsv,hes,hbd⟩ := h.slice ht hc ku
 have : ∃ l : List UInt8,es.flatten = byteCells l ∧ es.length = l.length := by
  clear hsv hbd
  induction es with
  | nil => exact ⟨[],rfl,rfl⟩
  | cons c r ih =>
   obtain ⟨l,h1,h2⟩ := ih fun c hc => hes c (by simp [hc])
   obtain ⟨n,rfl,hn⟩ := (hes c zd).2.int he
   refine ⟨UInt8.ofNat n.toNat :: l,?_,by simp [h2]⟩
   have h0 : IntKind.u8.min = 0 := by decide
   have h3 : IntKind.u8.max = 255 := by decide
   rw [h0,h3] at hn
   simp only [List.flatten_cons,h1,byteCells,List.map_cons,List.singleton_append,UInt8.toNat_ofNat',List.cons.injEq,Value.int.injEq,true_and,and_true]
   omega
 obtain ⟨l,h1,h2⟩ := this
 refine ⟨v,l,rfl,?_,?_⟩
 ·rw [h1,h2] at hsv
  exact hsv
 ·rw [hb,h2] at hbd;omega
end
end Go.Proofs.YtabbklpalbikdaaGreatDoor
