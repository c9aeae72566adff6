/-
 The argument of the laws of the monitor,a slice of loads,read off the row's own reading. Conditions: the argument reads.
-/
import Derived.Test.YtabbklpalbikdaaGreatDoorM06
import Derived.Test.YtabbklpalbikdaaGreatDoorMOpen2
set_option linter.unusedVariables false
set_option linter.unusedSimpArgs false
namespace Go.Proofs.YtabbklpalbikdaaGreatDoor
open Go.RowKit Go.Pt Go.ChangeShapes Go.WideShapes Go.ChangeAt
theorem open_listL {α : Type} {H : Type} {enc : TypeId × Value → H} {P : Program} {w : World} {t e sz : Nat} {v : Value} (g : α → List Value) (ok : α → Prop) (ht : P.underlying t = some (.slice e)) (hc : P.cellsOf e = sz) (hs : 0 < sz)
  (hone : ∀ c,Tr enc P w e c → c.length = sz → ∃ x,c = g x ∧ ok x) (h : Tr enc P w t [v]) : ∃ l : List α,Sv w sz l.length v (l.flatMap g) ∧ (∀ x ∈ l,ok x) ∧ l.length * P.bytesOf e ≤ reachBytes := by
 obtain ⟨es,v',e,hsv,hes,hwt⟩ := h.slice ht hc hs
 simp only [List.cons.injEq,and_true] at e
 subst e
 have : ∃ ps : List α,es.flatten = ps.flatMap g ∧ es.length = ps.length ∧ ∀ p ∈ ps,ok p := by
  clear hsv hwt
  induction es with
  | nil => exact ⟨[],rfl,rfl,fun p hp => by cases hp⟩
  | cons c r ih =>
   obtain ⟨ps,h1,h2,h3⟩ := ih fun c hc => hes c (by simp [hc])
   obtain ⟨p,rfl,hp⟩ := hone c (hes c zd).2 (hes c zd).1
   exact ⟨p :: ps,by simp [h1],by simp [h2],fun q hq => by
    rcases List.mem_cons.1 hq with rfl | hq
    ·exact hp
    ·exact h3 q hq⟩
 obtain ⟨ps,h1,h2,h3⟩ := this
 rw [h1,h2] at hsv
 rw [h2] at hwt
 exact ⟨ps,hsv,h3,hwt⟩
theorem sv_atL {α : Type} {w : World} {g : α → List Value} {m n cap : Nat} {a : Option Addr} {l : List α} (hg : ∀ x,(g x).length = m) (h : Sv w m l.length (.slice a n cap) (l.flatMap g)) : n = l.length ∧ ∀ (i : Nat) (x : α),l[i]? = some x → 0 < m → ∃ b o,a = some ⟨b,o,none⟩ ∧ ∀ j v,(g x)[j]? = some v → w.cell? ⟨b,o + i * m + j,none⟩ = some v := by
 obtain ⟨hlen,a',cap',e,_,_,_,hc⟩ := h
 simp only [Value.slice.injEq] at e
 obtain ⟨rfl,rfl,rfl⟩ := e
 refine ⟨rfl,fun i x hx hm => ?_⟩
 have h1 : ∀ j v,(g x)[j]? = some v → (l.flatMap g)[i * m + j]? = some v := fun j v hj => by
  have hjm : j < m := by rw [← hg x];exact (List.getElem?_eq_some_iff.1 hj).1
  rw [flatN hg hx hjm];exact hj
 have hne : l.flatMap g ≠ [] := by
  intro e0
  have hx0 : (g x)[0]? = some ((g x)[0]'(by rw [hg];exact hm)) := List.getElem?_eq_getElem _
  have := h1 0 _ hx0
  rw [e0] at this
  cases this
 obtain ⟨b,o,rfl,hcc⟩ := hc hne
 refine ⟨b,o,rfl,fun j v hj => ?_⟩
 obtain ⟨l1,e1⟩ := List.getElem?_eq_some_iff.1 (h1 j v hj)
 rw [Nat.add_assoc,hcc _ l1,e1]
theorem u32rL {n : Int} (h : IntKind.u32.min ≤ n ∧ n ≤ IntKind.u32.max) : 0 ≤ n ∧ n < 4294967296 := by
 have h' : 0 ≤ n ∧ n ≤ 4294967295 := h
 omega
theorem reachL : reachBytes ≤ 140737488355328 := by decide
set_option maxRecDepth 100000 in
theorem Tr.two32L {H : Type} {enc : TypeId × Value → H} {w : World} (c : List Value) (h : Tr enc Tryz.prog w 124 c) (hl : c.length = 2) : ∃ p : Int × Int,c = [Value.int .u32 p.1,.int .u32 p.2] ∧ (0 ≤ p.1 ∧ p.1 < 4294967296) ∧ 0 ≤ p.2 ∧ p.2 < 4294967296 := by
 have h2 := (h.elem Tryz.underlying124).2
 have c1 : Tryz.prog.cellsOf 25 = 1 := by kernel_rfl
 match c,hl with
 | [a,b],_ =>
  have ha := h2 0 ku
  have hb := h2 1 ku
  rw [c1] at ha hb
  obtain ⟨x,e0,r0⟩ := ha.int Tryz.underlying25
  obtain ⟨y,e1,r1⟩ := hb.int Tryz.underlying25
  simp only [Nat.zero_mul,List.drop_zero,List.take_succ_cons,List.take_zero,Nat.one_mul,List.drop_succ_cons,List.cons.injEq,and_true] at e0 e1
  subst e0 e1
  exact ⟨(x,y),rfl,u32rL r0,u32rL r1⟩
theorem Tr.word32L {H : Type} {enc : TypeId × Value → H} {w : World} (c : List Value) (h : Tr enc Tryz.prog w 25 c) (hl : c.length = 1) : ∃ p : Int,c = [Value.int .u32 p] ∧ 0 ≤ p ∧ p < 4294967296 := by
 obtain ⟨x,e0,r0⟩ := h.int Tryz.underlying25
 exact ⟨x,e0,u32rL r0⟩
theorem open_wordsL {H : Type} {enc : TypeId × Value → H} {w : World} {v : Value} (h : Tr enc Tryz.prog w 26 [v]) : ∃ l,WordsV w v l ∧ l.length ≤ 140737488355328 := by
 obtain ⟨l,h1,hok,hb⟩ := open_listL (fun p : Int => [Value.int .u32 p]) (fun p => 0 ≤ p ∧ p < 4294967296) Tryz.underlying26 (sz := 1) kt ku Tr.word32L h
 obtain ⟨_,a,cap,e,_⟩ := id h1
 subst e
 obtain ⟨_,hat⟩ := sv_atL (m := 1) (fun _ => rfl) h1
 have hby : Tryz.prog.bytesOf 25 = 4 := by kernel_rfl
 rw [hby] at hb
 have := reachL
 refine ⟨l,⟨a,cap,rfl,fun i x hx => ?_⟩,by omega⟩
 obtain ⟨b,o,rfl,hc⟩ := hat i x hx ku
 have h0 := hc 0 _ rfl
 rw [Nat.mul_one,Nat.add_zero] at h0
 exact ⟨b,o,rfl,h0,hok _ (List.mem_of_getElem? hx)⟩
theorem open_pairsL {H : Type} {enc : TypeId × Value → H} {w : World} {v : Value} (h : Tr enc Tryz.prog w 28 [v]) : ∃ l,PairsV w v l ∧ l.length ≤ 140737488355328 := by
 obtain ⟨l,h1,hok,hb⟩ := open_listL (fun p : Int × Int => [Value.int .u32 p.1,.int .u32 p.2]) (fun p => (0 ≤ p.1 ∧ p.1 < 4294967296) ∧ 0 ≤ p.2 ∧ p.2 < 4294967296) Tryz.underlying28 (sz := 2) kt ku Tr.two32L h
 obtain ⟨_,a,cap,e,_⟩ := id h1
 subst e
 obtain ⟨_,hat⟩ := sv_atL (m := 2) (fun _ => rfl) h1
 have hby : Tryz.prog.bytesOf 124 = 8 := by kernel_rfl
 rw [hby] at hb
 have := reachL
 refine ⟨l,⟨a,cap,rfl,fun i x hx => ?_⟩,by omega⟩
 obtain ⟨b,o,rfl,hc⟩ := hat i x hx ku
 obtain ⟨k1,k2⟩ := hok _ (List.mem_of_getElem? hx)
 exact ⟨b,o,rfl,⟨hc 0 _ rfl,k1⟩,hc 1 _ rfl,k2⟩
theorem open_bytesL {H : Type} {enc : TypeId × Value → H} {w : World} {v : Value} (h : Tr enc Tryz.prog w 27 [v]) : ∃ l,Bs w v l ∧ l.length ≤ 140737488355328 := by
 obtain ⟨v',l,e,hb,hl⟩ := h.bytes Tryz.underlying27 Tryz.underlying5 kt kt
 simp only [List.cons.injEq,and_true] at e
 subst e
 exact ⟨l,hb,Nat.le_trans hl reachL⟩
theorem _root_.Go.Pt.Bs.inHL {w : World} {v : Value} {l : List UInt8} (h : Bs w v l) (hne : l ≠ []) : ∀ k,v.ownBlock = some k → k < w.heap.size := by
 obtain ⟨a,cap,rfl,_,_⟩ := h.shape
 obtain ⟨b,off,rfl,hc⟩ := h.cells hne
 intro k hk
 cases hk
 have := World.block_lt_of_cell? w _ (hc 0 (by cases l with | nil => exact (hne rfl).elim | cons x r => simp))
 exact this
structure LoadO (w : World) (x : LoadD) (v0 v1 v3 : Value) : Prop where
 code : WordsV w v0 x.code
 data : Bs w v1 x.data
 regs : PairsV w v3 x.regs
 big : x.code.length ≤ 140737488355328 ∧ x.data.length ≤ 140737488355328 ∧ x.regs.length ≤ 140737488355328
 cal : I64 x.calls
/-- a slice of loads,of any length -/
def LoadsO (w : World) (a : Option Addr) (l : List LoadD) : Prop := ∀ (i : Nat) x,l[i]? = some x → ∃ b o,a = some ⟨b,o,none⟩ ∧ ∃ v0 v1 v3,(∀ q v,(loadC v0 v1 v3 x)[q]? = some v → w.cell? ⟨b,o + i * 4 + q,none⟩ = some v) ∧ LoadO w x v0 v1 v3
def SmallD (l : List LoadD) : Prop := ∀ x ∈ l,x.code.length ≤ 1024 ∧ x.data.length ≤ 4096 ∧ x.regs.length ≤ 1500
theorem LoadsO.small {w : World} {a : Option Addr} {l : List LoadD} (h : LoadsO w a l) (hs : SmallD l) : LoadsF w a l := fun i x hx => by
 obtain ⟨b,o,e,v0,v1,v3,h1,h2⟩ := h i x hx
 exact ⟨b,o,e,v0,v1,v3,h1,h2.code,h2.data,fun k hk hne => Bs.inHL h2.data hne k hk,h2.regs,hs x (List.mem_of_getElem? hx),h2.cal⟩
structure LdV where
 x : LoadD
 v0 : Value
 v1 : Value
 v3 : Value
set_option maxRecDepth 100000 in
theorem Tr.loadL {H : Type} {enc : TypeId × Value → H} {w : World} (c : List Value) (h : Tr enc Tryz.prog w 30 c) (hl : c.length = 4) : ∃ p : LdV,c = loadC p.v0 p.v1 p.v3 p.x ∧ LoadO w p.x p.v0 p.v1 p.v3 := by
 have ht := Tryz.underlying30
 match c,hl with
 | [c0,c1,c2,c3],_ =>
  obtain ⟨lc,h0,b0⟩ := open_wordsL (h.field1 ht 0 (ft := 26) (off := 0) rfl kt rfl)
  obtain ⟨ld,h1,b1⟩ := open_bytesL (h.field1 ht 1 (ft := 27) (off := 1) rfl kt rfl)
  obtain ⟨k,e2,r2⟩ := (h.field1 ht 2 (ft := 3) (off := 2) rfl kt rfl).int Tryz.underlying3
  obtain ⟨lx,h3,b3⟩ := open_pairsL (h.field1 ht 3 (ft := 28) (off := 3) rfl kt rfl)
  simp only [List.cons.injEq,and_true] at e2
  subst e2
  exact ⟨⟨⟨lc,ld,k,lx⟩,c0,c1,c3⟩,rfl,h0,h1,h3,⟨b0,b1,b3⟩,r2⟩
theorem open_loads {H : Type} {enc : TypeId × Value → H} {w : World} {v : Value} (h : Tr enc Tryz.prog w 24 [v]) : ∃ a l cap,v = .slice a l.length cap ∧ LoadsO w a l ∧ l.length ≤ 140737488355328 := by
 obtain ⟨l,h1,hok,hb⟩ := open_listL (fun p : LdV => loadC p.v0 p.v1 p.v3 p.x) (fun p => LoadO w p.x p.v0 p.v1 p.v3) Tryz.underlying24 (sz := 4) kt ku Tr.loadL h
 obtain ⟨_,a,cap,e,_⟩ := id h1
 subst e
 obtain ⟨_,hat⟩ := sv_atL (m := 4) (fun _ => rfl) h1
 have hby : Tryz.prog.bytesOf 30 = 80 := by kernel_rfl
 rw [hby] at hb
 have := reachL
 refine ⟨a,l.map (·.x),cap,by rw [List.length_map],fun i x hx => ?_,by rw [List.length_map];omega⟩
 rw [List.getElem?_map] at hx
 obtain ⟨p,hp,rfl⟩ := Option.map_eq_some_iff.1 hx
 obtain ⟨b,o,e,hc⟩ := hat i p hp ku
 exact ⟨b,o,e,p.v0,p.v1,p.v3,hc,hok p (List.mem_of_getElem? hp)⟩
end Go.Proofs.YtabbklpalbikdaaGreatDoor
