/-
 14 texts,one behind the other;each says what it proves. Conditions: as each text says.
-/
import Derived.Test.YtabbklpalbikdaaGreatDoorM08
import Derived.Test.YtabbklpalbikdaaGreatDoorM07
import Derived.Test.YtabbklpalbikdaaGreatDoorM03
import Derived.Test.YtabbklpalbikdaaGreatDoorMOpenL
set_option linter.unusedVariables false
set_option linter.unusedSimpArgs false
section
namespace Go.Proofs.YtabbklpalbikdaaGreatDoor
open Go.RowKit Go.Pt
theorem and255 (x : Int) : 0 ≤ bits .and .i64 x 255 ∧ bits .and .i64 x 255 < 256 := by
 have e : bits .and .i64 x 255 = IntKind.i64.wrap (((BitVec.ofInt 64 x) &&& (BitVec.ofInt 64 255)).toNat : Int) := rfl
 have h : ((BitVec.ofInt 64 x) &&& (BitVec.ofInt 64 255)).toNat ≤ 255 := by
  rw [BitVec.toNat_and,show (BitVec.ofInt 64 255).toNat = 255 from rfl]
  exact Nat.and_le_right
 rw [e,IntKind.wrap_i64]
 omega
theorem caF_rng (l : List LoadD) (i j : Nat) : 0 ≤ caF l i j ∧ caF l i j < 256 := by
 unfold caF
 split
 ·exact and255 _
 ·exact ⟨by decide,by decide⟩
theorem at8192 (i : Nat) : (biasI i + 4096 - 2147483648).toNat = 8192 + 12288 * i := by unfold biasI;omega
theorem payX_at (i g : Nat) (ca : Int) : (payX i g ca)[33]? = some (.int .u32 (biasI i)) ∧ (payX i g ca)[34]? = some (.slice (some ⟨g,0,none⟩) 3 3) ∧ (payX i g ca)[35]? = some (.int .i64 ca) := by
 have h : (byteCells (dgL i)).length = 32 := by rw [byteCells_length,dgL_len]
 unfold payX
 refine ⟨?_,?_,?_⟩ <;> (rw [List.getElem?_append_right ky,h];rfl)
theorem payRs_len (gs : Nat → Nat) (ca : Nat → Int) (n : Nat) : ∀ x ∈ payRs gs ca n,x.length = 36 := by
 intro x hx
 unfold payRs at hx
 obtain ⟨j,_,rfl⟩ := List.mem_map.1 hx
 exact payX_len _ _ _
theorem payRs_at (gs : Nat → Nat) (ca : Nat → Int) {n j : Nat} (h : j < n) : (payRs gs ca n)[j]? = some (payX j (gs j) (ca j)) := by simp [payRs,h]
theorem payRs_set (gs : Nat → Nat) (ca ca' : Nat → Int) {n i : Nat} (h : i < n) (h' : ∀ j,j ≠ i → ca j = ca' j) : (payRs gs ca n).set i ((payX i (gs i) (ca i)).set 35 (.int .i64 (ca' i))) = payRs gs ca' n := by
 refine List.ext_getElem? fun q => ?_
 rw [List.getElem?_set]
 by_cases e : i = q
 ·subst e
  rw [if_pos rfl,if_pos (by simp [payRs];exact h),payRs_at _ _ h]
  unfold payX
  rw [List.set_append_right _ _ (by rw [byteCells_length,dgL_len];omega),byteCells_length,dgL_len]
  rfl
 ·rw [if_neg e]
  by_cases hq : q < n
  ·rw [payRs_at _ _ hq,payRs_at _ _ hq,h' q (fun e' => e e'.symm)]
  ·rw [List.getElem?_eq_none (by simp [payRs];omega),List.getElem?_eq_none (by simp [payRs];omega)]
section
variable {w w0 w' : World} {n i pb cM rb rm rn : Nat} {J : List Value} {gs eb ec : Nat → Nat} {ca : Nat → Int} {f : Nat → Int} {v6 v7 : Value}
theorem BegS.at (k : BegS w w0 n i pb J gs ca cM rb rm rn f v6 v7 eb ec) {j : Nat} (hj : j < n) : w0.cell? ⟨pb,0 + (j : Int).toNat * 36 + 33,none⟩ = some (.int .u32 (biasI j)) ∧ w0.cell? ⟨pb,0 + (j : Int).toNat * 36 + 34,none⟩ = some (.slice (some ⟨gs j,0,none⟩) 3 3) := by
 obtain ⟨h1,h2,h3⟩ := payX_at j (gs j) (ca j)
 have key : ∀ q v,q < 36 → (payX j (gs j) (ca j))[q]? = some v → w0.cell? ⟨pb,0 + (j : Int).toNat * 36 + q,none⟩ = some v := fun q v hq hv => by
  have hf := flat_get (payRs_len gs ca n) (payRs_at gs ca hj) hq
  rw [hv] at hf
  refine cell_of k.pay ?_
  rw [Int.toNat_natCast,Nat.zero_add,List.getElem?_append_left (List.getElem?_eq_some_iff.1 hf).1]
  exact hf
 exact ⟨key _ _ ze h1,key _ _ ze h2⟩
theorem BegS.size (k : BegS w w0 n i pb J gs ca cM rb rm rn f v6 v7 eb ec) : w.heap.size ≤ w0.heap.size := k.up.size
end
def regsF (xs : List Value) : List (Int × Int) → Nat → List Value
 | _,0 => xs
 | l,k + 1 => if 0 < bits .and .u32 (l.getD k (0,0)).1 31 then (regsF xs l k).set (bits .and .u32 (l.getD k (0,0)).1 31).toNat (.int .u32 (l.getD k (0,0)).2) else regsF xs l k
def ldD (l : List LoadD) (j : Nat) : LoadD := l.getD j ⟨[],[],0,[]⟩
def staB (l : List LoadD) (j : Nat) : Sta := ⟨0,0,biasI j,regsF xz (ldD l j).regs (ldD l j).regs.length⟩
theorem regsF_rg {xs : List Value} (h : Rg xs) (l : List (Int × Int)) (hl : ∀ x ∈ l,0 ≤ x.2 ∧ x.2 < 4294967296) : ∀ k,Rg (regsF xs l k)
 | 0 => h
 | k + 1 => by
  unfold regsF
  split
  ·refine (regsF_rg h l hl k).st ?_
   rw [List.getD_eq_getElem?_getD]
   cases e : l[k]? with
   | none => exact ⟨by decide,by decide⟩
   | some x => exact hl x (List.mem_of_getElem? e)
  ·exact regsF_rg h l hl k
theorem regsF_0 {xs : List Value} {v : Value} (h : xs[0]? = some v) (l : List (Int × Int)) : ∀ k,(regsF xs l k)[0]? = some v
 | 0 => h
 | k + 1 => by
  unfold regsF
  split
  ·rename_i hb
   rw [List.getElem?_set,if_neg ky]
   exact regsF_0 h l k
  ·exact regsF_0 h l k
def staL (l : List LoadD) (j k : Nat) : List Sta := (List.range l.length).map fun q => ⟨0,0,biasI q,if q < j then regsF xz (ldD l q).regs (ldD l q).regs.length else if q = j then regsF xz (ldD l q).regs k else xz⟩
theorem staL_len (l : List LoadD) (j k : Nat) : (staL l j k).length = l.length := by simp [staL]
theorem staL_0 (l : List LoadD) : staL l 0 0 = newL biasI l.length := by
 unfold staL newL
 refine List.map_congr_left fun q hq => ?_
 rw [if_neg ky]
 split <;> rfl
theorem staL_next (l : List LoadD) (j : Nat) : staL l j (ldD l j).regs.length = staL l (j + 1) 0 := by
 unfold staL
 refine List.map_congr_left fun q hq => ?_
 by_cases h : q < j
 ·rw [if_pos h,if_pos ky]
 ·by_cases e : q = j
  ·subst e;rw [if_neg h,if_pos rfl,if_pos ky]
  ·rw [if_neg h,if_neg e,if_neg ky]
   split <;> rfl
theorem staL_end (l : List LoadD) : staL l l.length 0 = (List.range l.length).map (staB l) := by
 unfold staL
 refine List.map_congr_left fun q hq => ?_
 rw [if_pos (List.mem_range.1 hq)]
 rfl
theorem staL_at (l : List LoadD) {j k q : Nat} (h : q < l.length) : (staL l j k)[q]? = some ⟨0,0,biasI q,if q < j then regsF xz (ldD l q).regs (ldD l q).regs.length else if q = j then regsF xz (ldD l q).regs k else xz⟩ := by simp [staL,h]
theorem staL_set (l : List LoadD) {j k : Nat} (hj : j < l.length) : (stas (staL l j k)).set j (Sta.cells ⟨0,0,biasI j,regsF xz (ldD l j).regs (k + 1)⟩) = stas (staL l j (k + 1)) := by
 unfold stas
 rw [← List.map_set]
 refine congrArg (List.map Sta.cells) (List.ext_getElem? fun q => ?_)
 rw [List.getElem?_set]
 by_cases e : j = q
 ·subst e
  rw [if_pos rfl,if_pos (by rw [staL_len];exact hj),staL_at l hj,if_neg ky,if_pos rfl]
 ·rw [if_neg e]
  by_cases hq : q < l.length
  ·rw [staL_at l hq,staL_at l hq]
   by_cases h : q < j
   ·rw [if_pos h,if_pos h]
   ·rw [if_neg h,if_neg (fun e' => e e'.symm),if_neg h,if_neg (fun e' => e e'.symm)]
  ·rw [List.getElem?_eq_none (by rw [staL_len];omega),List.getElem?_eq_none (by rw [staL_len];omega)]
def begP (l : List LoadD) : PS := ⟨(List.range l.length).map (staB l),0,⟨loadF l l.length,fun _ => [],[],0,List.replicate l.length []⟩⟩
def begE (l : List LoadD) : Pays := ⟨dgL,fun _ => 0,biasI,caF l l.length,fun _ => 3,fun i => gr3 (biasI i),fun _ => 4,fun i => en4 (biasI i)⟩
def EnvF (lo : Nat) (w : World) (base n : Nat) (pv ev : Value) (E : Pays) : Prop := ∀ (S : Nat → Prop) (w' : World),Upd S w w' → (∀ b,lo ≤ b → b < base → ¬ S b) → ¬ S 0 → EnvS w' base n pv ev E
structure BegT where
 (i : Nat) (w0 : World) (rn : Nat) (v6 v7 : Value) (eb ec : Nat → Nat)
set_option maxHeartbeats 32000000 in
theorem begin26F (a : Option Addr) (n cl : Nat) (l : List LoadD) (w : World) (hl : l.length = n) (hn : 1 ≤ n ∧ n ≤ 3) (hL : LoadsF w a l) (hT : tabOk w) :
  Calls Tryz.prog 15 #[.slice a n cl] w fun e w' => ∃ p base I pv ev cf rv,e = .returned (.pointer (some ⟨p,0,none⟩)) ∧ w'.heap[p]? = some (.cells #[.pointer (some ⟨I.m,0,none⟩),rv] 39 (0,0)) ∧ MonS w' base I ((begP l).mv pv ev (.slice none 0 0) (.slice none 0 0) [] xz 0 cf) ∧
   EnvF w.heap.size w' base n pv ev (begE l) ∧ (w.heap.size ≤ base ∧ base ≤ w'.heap.size) ∧ w.heap.size ≤ p ∧ Upd (fun k => w.heap.size ≤ k) w w' := by
 have hT0 := hT.lt
 have hst0 := caF
 refine enter (args := [_]) (Γ := [(0,_)]) Tryz.func15 Tryz.ntmps15 rfl (of_decide_eq_true rfl) (.cons rfl .nil) ?_
 repeat' first | refine Wl.move rfl rfl ?_ | refine Wl.assign rfl rfl ?_ | refine Wl.len rfl rfl ?_ | apply Wl.nil | apply St.seq | apply St.region | apply Gt.next
 apply Wl.callC
 ·exact rfl
 ·repeat constructor
 intro wq hq
 have zq := hq.upd.size
 refine (payloads n ky wq).mono ?_
 rintro e w1 ⟨v,gs,rfl,hrow,hgr,u1⟩
 obtain ⟨pb,pcap,J,rfl,hpb,hblk⟩ := hrow.blk ky
 have U1 : Upd (fun k => w.heap.size ≤ k) w w1 := (hq.upd.mono fun _ _ y => (y trivial).elim).comp u1 fun k _ hs => hs.elim id fun h => Nat.le_trans zq h
 have z1 := U1.size
 refine ⟨_,_,rfl,Hp.start w1,?_⟩
 clear hq
 repeat' first | refine Wl.assign rfl rfl ?_ | apply Wl.nil | apply St.seq | apply St.region | apply Gt.next
 apply Wl.callC
 ·exact rfl
 ·repeat constructor
 intro wr hr
 have zr := hr.upd.size
 refine (newMem wr).mono ?_
 rintro e w2 ⟨cM,rfl,hM2,hcM⟩
 have u2 : Upd (fun k => w1.heap.size ≤ k) w1 w2 := Hp.on1 hM2 (hr.upd.mono fun _ _ y => (y trivial).elim) qf
 have z2 := u2.size
 have m2 : memH w2 cM fun _ => 0 := hM2.own.at (.head _)
 refine ⟨_,_,rfl,Hp.start w2,?_⟩
 clear hr
 apply Wl.callC
 ·exact rfl
 ·repeat constructor
 intro wr hr
 have zr2 := hr.upd.size
 refine (ramNew wr).mono ?_
 rintro e w3 ⟨rb,rm,rfl,hR3,hrm,hrb,u3'⟩
 have u3 : Upd (fun k => w2.heap.size ≤ k) w2 w3 := (hr.upd.mono fun _ _ y => (y trivial).elim).comp u3' fun k _ hs => hs.elim id fun h => Nat.le_trans zr2 h
 have lm2 := lt_of_block m2
 have lpb := lt_of_block hblk
 have v3 : Upd (fun k => w1.heap.size ≤ k) w1 w3 := u2.comp u3 fun k _ hs => hs.elim id fun h => Nat.le_trans z2 h
 have B3 : BegS w w3 n 0 pb J gs (caF l 0) cM rb rm 0 (loadF l 0) (.slice none 0 0) (.slice none 0 0) (fun _ => 0) (fun _ => 0) := {
  pay := v3.heap hblk ky
  gr := fun j hj => ⟨by have := (hgr j hj).1;omega,v3.heap (hgr j hj).2 (by have := lt_of_block (hgr j hj).2;omega)⟩
  mem := u3.heap m2 ky
  ram := hR3
  ent := World.ownsRow_nil _ _ _ _
  enx := fun j hj => by cases hj
  st := World.ownsRow_nil _ _ _ _
  up := U1.comp v3 fun k _ hs => hs.elim id fun h => Nat.le_trans z1 h
  ge := ⟨by omega,by omega,by omega,by omega⟩ }
 refine ⟨_,_,rfl,Hp.start w3,?_⟩
 clear hr u1 u2 u3 u3' v3 hM2 m2 hR3 hgr hrow hblk U1
 repeat' first | refine Wl.move rfl rfl ?_ | refine Wl.assign rfl rfl ?_ | refine Wl.len rfl rfl ?_ | apply Wl.nil | apply St.seq | apply St.block | apply St.region | apply Gt.next
 refine St.loop (σ := BegT) (fun τ => τ.i ≤ n ∧ τ.rn ≤ 20000 * τ.i ∧ BegS w τ.w0 n τ.i pb J gs (caF l τ.i) cM rb rm τ.rn (loadF l τ.i) τ.v6 τ.v7 τ.eb τ.ec)
  (fun τ => [(0,.slice a n cl),(3,.slice (some ⟨pb,0,none⟩) n pcap),(4,.pointer (some ⟨cM,0,none⟩)),(5,.pointer (some ⟨rb,0,none⟩)),(6,τ.v6),(7,τ.v7),(27,.slice a n cl),(28,.int .i64 (n : Int)),(29,.int .i64 (τ.i : Int))])
  (fun τ => Hp τ.w0 []) (fun τ => n - τ.i) ⟨0,w3,0,.slice none 0 0,.slice none 0 0,fun _ => 0,fun _ => 0⟩ ⟨Nat.zero_le _,Nat.zero_le _,B3⟩ kv (fun _ h => h) ?_
 clear B3
 rintro ⟨i,w0,rn,v6,v7,eb,ec⟩ ⟨hi,hrn,B0⟩
 simp only at hi hrn B0 ⊢
 have s0 := B0.size
 by_cases hlt : i < n
 ·have hd : decide ((i : Int) < (n : Int)) = true := decide_eq_true ky
  obtain ⟨x,hx⟩ : ∃ x,l[i]? = some x := ⟨_,List.getElem?_eq_getElem ky⟩
  have hgx : l.getD i ⟨[],[],0,[]⟩ = x := by rw [List.getD_eq_getElem?_getD,hx];rfl
  obtain ⟨lb,lo,rfl,v0,v1,v3,hcell,hV⟩ := hL i x hx
  have hlb : lb < w.heap.size := cell_old (hcell 0 _ rfl)
  have hcell' : ∀ q v,(loadC v0 v1 v3 x)[q]? = some v → w0.cell? ⟨lb,lo + (i : Int).toNat * 4 + q,none⟩ = some v := fun q v hq => by rw [Int.toNat_natCast];exact B0.up.cell (hcell q v hq) (Nat.not_le.2 hlb)
  have hV0 := hV.upd B0.up (fun k hk => Nat.not_le.2 hk)
  obtain ⟨ca,cc,rfl,hcw⟩ := hV.code
  have ho1 : v1.oneCell' = true := by obtain ⟨va,vc,rfl,_⟩ := hV.data.shape;rfl
  have ho3 : v3.oneCell' = true := by obtain ⟨va,vc,rfl,_⟩ := hV.regs;rfl
  have hlo : (loadC (.slice ca x.code.length cc) v1 v3 x).all Value.oneCell' = true := by show (true && (v1.oneCell' && (true && (v3.oneCell' && true)))) = true;rw [ho1,ho3];rfl
  obtain ⟨hxl1,hxl2,hxl3⟩ := hV.len
  have hpb0 := (B0.lt pb (.inl rfl))
  have hpx : (payRs gs (caF l i) n)[i]? = some (payX i (gs i) (caF l i i)) := payRs_at gs _ hlt
  have hca : caF l (i + 1) i = bits .and .i64 x.calls 255 := by unfold caF;rw [if_pos (Nat.lt_succ_self i),hgx]
  have hset : LSet ((payRs gs (caF l i) n).flatten ++ J) (0 + (i : Int).toNat * 36 + 35) (.int .i64 (bits .and .i64 x.calls 255)) ((payRs gs (caF l (i + 1)) n).flatten ++ J) := by
   rw [Int.toNat_natCast,Nat.zero_add,← hca,← payRs_set gs (caF l i) (caF l (i + 1)) hlt (fun j hj => by unfold caF;by_cases h : j < i;rw [if_pos h,if_pos ky];rw [if_neg h,if_neg ky])]
   exact LSet.flat (payRs_len _ _ _) hpx ze
  refine St.cls (fun _ h' => Hp.open h' B0.pay trivial) ?_
  repeat' first | (apply Wl.store;exact rfl;exact rfl;exact rfl;exact ke;exact hset) | (apply Wl.loadAB (xs := loadC (.slice ca x.code.length cc) v1 v3 x);exact rfl;exact rfl;(intro j v hj;exact hcell' j v hj);exact kj;exact rfl) | (apply Wl.storeA (xs := loadC (.slice ca x.code.length cc) v1 v3 x);exact rfl;exact rfl;exact rfl;exact hlo;exact ke;exact .z (LOver.whole rfl)) | refine Wl.move rfl rfl ?_ | refine Wl.assign rfl rfl ?_ | refine Wl.fieldAddr0 rfl rfl ?_ | refine Wl.fieldAddrZ rfl rfl ?_ | refine Wl.fieldAddr rfl rfl ?_ | (apply Wl.loadH;exact rfl;exact rfl;exact ke;exact rfl) | refine Wl.lss rfl rfl rfl ?_ | refine Wl.and rfl rfl rfl ?_ | refine Wl.len rfl rfl ?_ | (apply Wl.alloc;exact rfl;intro c hc ho) | (refine Wl.indexAddr rfl rfl rfl ?_ ?_;constructor <;> omega) | apply Wl.nil | apply St.seq | apply St.block | apply St.region | (apply St.condT;exact rfl;exact ka) | apply St.skip | apply Gt.next
  generalize c = c9 at *
  have hc9 : w0.heap.size ≤ c9 := by assumption
  refine St.reb (H' := [⟨c9,loadC (.slice ca x.code.length cc) v1 v3 x,30⟩]) fun w4 h4 => ⟨⟨h4.own.at (.head _),trivial⟩,⟨trivial,trivial⟩,?_⟩
  have u4 := Hp.on2 (S := fun b => b = pb ∨ w0.heap.size ≤ b) h4 (Upd.refl _ _) (.inr hc9) (.inl rfl)
  have B4 := B0.pay' (h4.own.at (.tail _ (.head _))) u4
  have z4 := u4.size
  have hlc : c9 < w4.heap.size := lt_of_block (h4.own.at (.head _))
  have hv6l : ∀ k,v6.ownBlock = some k → k < w0.heap.size := fun k hk => (B0.ent.ge k hk).2
  have hv7l : ∀ k,v7.ownBlock = some k → k < w0.heap.size := fun k hk => (B0.st.ge k hk).2
  have hi3 : i < 3 := by omega
  refine St.loop (σ := Nat × World × Nat) (fun τ => τ.1 ≤ x.code.length ∧ τ.2.2 ≤ rn + 8 * τ.1 ∧ BegS w τ.2.1 n i pb J gs (caF l (i + 1)) cM rb rm τ.2.2 (codeF (loadF l i) (4096 + 12288 * i) x.code τ.1) v6 v7 eb ec ∧ w4.heap.size ≤ τ.2.1.heap.size ∧ τ.2.1.heap[c9]? = some (.cells (loadC (.slice ca x.code.length cc) v1 v3 x).toArray 30 (0,0)))
   (fun τ => [(0,.slice (some ⟨lb,lo,none⟩) n cl),(3,.slice (some ⟨pb,0,none⟩) n pcap),(4,.pointer (some ⟨cM,0,none⟩)),(5,.pointer (some ⟨rb,0,none⟩)),(6,v6),(7,v7),(8,.int .i64 (i : Int)),(9,.pointer (some ⟨c9,0,none⟩)),(27,.slice (some ⟨lb,lo,none⟩) n cl),(28,.int .i64 (n : Int)),(29,.int .i64 (i : Int)),(42,.slice ca x.code.length cc),(43,.int .i64 (x.code.length : Int)),(44,.int .i64 (τ.1 : Int))]) (fun τ => Hp τ.2.1 [⟨c9,loadC (.slice ca x.code.length cc) v1 v3 x,30⟩]) (fun τ => x.code.length - τ.1) (0,w4,rn) ⟨Nat.zero_le _,Nat.le_refl _,B4,Nat.le_refl _,h4.own.at (.head _)⟩ kv (fun _ h => h) ?_
  clear B4 h4 u4 hset hpx
  rintro ⟨k,w5,rn5⟩ ⟨hk,hrn5,B5,z45,h95⟩
  simp only at hk hrn5 B5 z45 h95 ⊢
  have o95 := B5.off h95 ze
  have s5 := B5.size
  have mv5 : ∀ {w' : World},Hp w5 [⟨c9,loadC (.slice ca x.code.length cc) v1 v3 x,30⟩] w' → BegS w w' n i pb J gs (caF l (i + 1)) cM rb rm rn5 (codeF (loadF l i) (4096 + 12288 * i) x.code k) v6 v7 eb ec := fun h' => B5.upd (Hp.on1 h' (Upd.refl (fun b => b = c9) _) rfl) (fun b hb e => o95 b hb e) fun b hb e => by omega
  have lM5 := B5.lt cM (.inr (.inr (.inl rfl)))
  have nM9 : cM ≠ c9 := o95 cM (.inr (.inr (.inl rfl)))
  have np9 : pb ≠ c9 := o95 pb (.inl rfl)
  have nr9 : rm ≠ c9 := o95 rm (.inr (.inr (.inr (.inr (.inl rfl)))))
  obtain ⟨pa1,pa2⟩ := B5.at hlt
  by_cases hkl : k < x.code.length
  ·have hdk : decide ((k : Int) < (x.code.length : Int)) = true := decide_eq_true ky
   obtain ⟨wo,hwo⟩ : ∃ wo,x.code[k]? = some wo := ⟨_,List.getElem?_eq_getElem hkl⟩
   obtain ⟨cb,co,rfl,hc5,hwr⟩ := hcw k wo hwo
   have hcb : cb < w.heap.size := cell_old hc5
   have hcc5 : w5.cell? ⟨cb,co + (k : Int).toNat,none⟩ = some (.int .u32 wo) := by rw [Int.toNat_natCast];exact B5.up.cell hc5 (Nat.not_le.2 hcb)
   have hat : IntKind.u32.wrap (biasI i + 4 * (k : Int)) = biasI i + 4 * k := by rw [IntKind.wrap_u32];unfold biasI;omega
   have hbi : biasI i = 2147487744 + 12288 * (i : Int) := rfl
   repeat' first | (apply Wl.loadO;exact rfl;exact rfl;exact zu;exact kj) | refine Wl.move rfl rfl ?_ | refine Wl.assign rfl rfl ?_ | refine Wl.fieldAddr rfl rfl ?_ | refine Wl.lss rfl rfl rfl ?_ | (refine Wl.mulI rfl rfl rfl ?_ ?_;constructor <;> omega) | refine Wl.add rfl rfl rfl ?_ | (refine Wl.convU32 rfl rfl ?_ ?_;constructor <;> omega) | (refine Wl.indexAddr1 rfl rfl rfl ?_ ?_;constructor <;> omega) | (refine Wl.indexAddr rfl rfl rfl ?_ ?_;constructor <;> omega) | apply Wl.nil | apply St.seq | apply St.block | apply St.region | (apply St.condT;exact rfl;exact ka) | apply St.skip | apply Gt.next
   apply Wl.callC
   ·exact rfl
   ·repeat constructor
   intro wq hq
   refine (mstore cM _ 4 wo _ wq (by rw [hat];constructor <;> omega) (.inr (.inr rfl)) (mv5 hq).mem).mono ?_
   rintro e w6 ⟨⟨z,rfl⟩,hp6⟩
   have u6 := Hp.turned hp6
   have m6 := hp6.own.at (.head _)
   rw [hat,if_pos qy,show (biasI i + 4 * (k : Int) - 2147483648).toNat = 4096 + 12288 * i + 4 * k by omega,show Int.toNat 4 = 4 from rfl] at m6
   have B6 : BegS w w6 n i pb J gs (caF l (i + 1)) cM rb rm rn5 (codeF (loadF l i) (4096 + 12288 * i) x.code (k + 1)) v6 v7 eb ec := by
    refine (mv5 hq).mem' ?_ u6
    unfold codeF
    rw [show x.code.getD k 0 = wo by rw [List.getD_eq_getElem?_getD,hwo];rfl]
    exact m6
   have hq6 := Hp.restD hq u6 kb
   have z6 := u6.size
   have zq6 := hq.upd.size
   obtain ⟨pb1,pb2⟩ := B6.at hlt
   refine ⟨_,_,rfl,hq6,?_⟩
   repeat' first | (apply Wl.loadO;exact rfl;exact rfl;exact zu;exact kj) | refine Wl.move rfl rfl ?_ | refine Wl.fieldAddr rfl rfl ?_ | (refine Wl.addI rfl rfl rfl ?_ ?_;constructor <;> omega) | (refine Wl.mulI rfl rfl rfl ?_ ?_;constructor <;> omega) | (refine Wl.convI64 rfl rfl ?_ ?_;constructor <;> omega) | (refine Wl.indexAddr rfl rfl rfl ?_ ?_;constructor <;> omega) | apply Wl.nil | apply St.region | apply Gt.next
   apply Wl.callC
   ·exact rfl
   ·repeat constructor
   intro wr hr
   have h96 := hq6.own.at (.head _)
   have o96 := B6.off (t := 30) h96 ze
   have B6r := B6.upd (Hp.on1 hr (Upd.refl (fun b => b = c9) _) rfl) (fun b hb e => o96 b hb e) fun b hb e => by omega
   refine (ramStore rb rm rn5 _ _ wr B6r.ram ky qy).mono ?_
   rintro e w7 ⟨⟨z2,rfl⟩,hR7,u7⟩
   have B7 := B6r.ram' hR7 u7
   have hl9r := hr.own.lt (.head _)
   have hq7 := Hp.restD hr u7 (by simp only [List.mem_cons,List.not_mem_nil,or_false,forall_eq_or_imp,forall_eq];simp only at hl9r;omega)
   have z7 := u7.size
   have zr7 := hr.upd.size
   refine ⟨_,_,rfl,hq7,?_⟩
   repeat' first | refine Wl.move rfl rfl ?_ | (refine Wl.addI rfl rfl rfl ?_ ?_;constructor <;> omega) | apply Wl.nil | apply St.region | apply Gt.next | apply Gt.inNormal
   refine Gt.reb (H' := [⟨c9,loadC (.slice (some ⟨cb,co,none⟩) x.code.length cc) v1 v3 x,30⟩]) fun w8 h8 => ⟨⟨h8.own.at (.head _),trivial⟩,⟨trivial,trivial⟩,?_⟩
   have h97 := hq7.own.at (.head _)
   have o97 := B7.off (t := 30) h97 ze
   refine Gt.round (k + 1,w8,rn5 + 8) ⟨by simp only;omega,by simp only;omega,B7.upd (Hp.on1 h8 (Upd.refl (fun b => b = c9) _) rfl) (fun b hb e => o97 b hb e) (fun b hb e => by omega),by have := h8.upd.size;simp only;omega,h8.own.at (.head _)⟩ qf kv (fun _ h => h)
  obtain rfl : k = x.code.length := by omega
  have hdk : decide ((x.code.length : Int) < (x.code.length : Int)) = false := decide_eq_false ky
  have hbi : biasI i = 2147487744 + 12288 * (i : Int) := rfl
  repeat' first | refine Wl.lss rfl rfl rfl ?_ | apply Wl.nil | apply St.seq | apply St.region | (apply St.condF;exact rfl;exact ka) | apply St.exit | apply Gt.next | apply Gt.thenExit | apply Gt.inExit
  have hat2 : IntKind.u32.wrap (biasI i + 4096) = biasI i + 4096 := by rw [IntKind.wrap_u32];omega
  have hdl : ∀ wz : World,Upd (fun k => w.heap.size ≤ k) w wz → Bs wz v1 x.data := fun wz u => hV.data.upd u fun k _ hk _ h => by omega
  refine St.tree (fun w' => w'.cell? ⟨pb,0 + (i : Int).toNat * 36 + 33,none⟩ = some (.int .u32 (biasI i)) ∧ w'.heap[c9]? = some (.cells (loadC (.slice ca x.code.length cc) v1 v3 x).toArray 30 (0,0))) mixed (fun _ h' => ⟨Hp.drew h',((mv5 (Hp.drew h')).at hlt).1,(Hp.drew h').own.at (.head _)⟩) ?_
  refine Mt.pm 0 ?_
  refine Mt.pm 1 ?_
  refine Mt.pm 2 ?_
  refine Mt.pz 7 ?_
  refine Mt.pu 3 ?_
  repeat' first | (refine Wl.indexAddr rfl rfl rfl ?_ ?_;constructor <;> omega) | apply Wl.nilB
  refine Mt.pu 8 ?_
  repeat' first | (apply Wl.loadF;exact rfl;exact rfl;(intro w' h';first | exact h'.1 | exact cell_of h'.2 rfl)) | apply Wl.nilB
  refine Mt.pu 4 ?_
  refine Wl.fieldAddr rfl rfl (Wl.nilB ?_)
  refine Mt.pu 5 ?_
  repeat' first | (apply Wl.loadF;exact rfl;exact rfl;(intro w' h';first | exact h'.1 | exact cell_of h'.2 rfl)) | apply Wl.nilB
  refine Mt.pu 6 ?_
  refine Wl.add rfl rfl rfl (Wl.nilB ?_)
  refine Mt.eff1 (i := 9) kg zd ?_
  apply Wl.callC
  ·exact rfl
  ·repeat constructor
  intro wq hq
  have zq6 := hq.upd.size
  have hlq := hq.own.lt (.head _)
  simp only at hlq
  rw [hat2]
  refine (mputX1 cM _ (biasI i + 4096) v1 x.data wq (mv5 hq).mem (hdl wq (mv5 hq).up) (fun k hk hne e => by have := hV.dlt k hk hne;omega) qy qy ky).mono ?_
  rintro e w6 ⟨rfl,m6,u6⟩
  rw [at8192] at m6
  have B6 : BegS w w6 n i pb J gs (caF l (i + 1)) cM rb rm rn5 (loadF l (i + 1)) v6 v7 eb ec := by
   refine (mv5 hq).mem' ?_ u6
   unfold loadF
   rw [hgx]
   exact m6
  have hq6 := Hp.restD hq u6 kb
  have z6 := u6.size
  have h96 := hq6.own.at (.head _)
  have o96 := B6.off (t := 30) h96 ze
  have mv6 : ∀ {w' : World},Hp w6 [⟨c9,loadC (.slice ca x.code.length cc) v1 v3 x,30⟩] w' → BegS w w' n i pb J gs (caF l (i + 1)) cM rb rm rn5 (loadF l (i + 1)) v6 v7 eb ec := fun h' => B6.upd (Hp.on1 h' (Upd.refl (fun b => b = c9) _) rfl) (fun b hb e => o96 b hb e) fun b hb e => by omega
  refine ⟨_,_,rfl,hq6,?_⟩
  repeat' first | apply Wl.nil
  refine Mt.backE (fun _ h' => ⟨((mv6 h').at hlt).1,h'.own.at (.head _)⟩) ?_
  refine Mt.toGt kg ?_
  repeat' first | apply St.seq | apply Gt.next
  refine St.tree (fun w' => w'.cell? ⟨pb,0 + (i : Int).toNat * 36 + 33,none⟩ = some (.int .u32 (biasI i)) ∧ w'.heap[c9]? = some (.cells (loadC (.slice ca x.code.length cc) v1 v3 x).toArray 30 (0,0))) mixed (fun _ h' => ⟨Hp.drew h',((mv6 (Hp.drew h')).at hlt).1,(Hp.drew h').own.at (.head _)⟩) ?_
  refine Mt.pm 0 ?_
  refine Mt.pm 1 ?_
  refine Mt.pm 2 ?_
  refine Mt.pz 8 ?_
  refine Mt.pu 3 ?_
  repeat' first | (refine Wl.indexAddr rfl rfl rfl ?_ ?_;constructor <;> omega) | apply Wl.nilB
  refine Mt.pu 9 ?_
  repeat' first | (apply Wl.loadF;exact rfl;exact rfl;(intro w' h';first | exact h'.1 | exact cell_of h'.2 rfl)) | apply Wl.nilB
  refine Mt.pu 4 ?_
  refine Wl.fieldAddr rfl rfl (Wl.nilB ?_)
  refine Mt.pu 5 ?_
  repeat' first | (apply Wl.loadF;exact rfl;exact rfl;(intro w' h';first | exact h'.1 | exact cell_of h'.2 rfl)) | apply Wl.nilB
  refine Mt.pu 6 ?_
  repeat' first | (refine Wl.convI64 rfl rfl ?_ ?_;constructor <;> omega) | apply Wl.nilB
  refine Mt.pu 7 ?_
  repeat' first | (refine Wl.addI rfl rfl rfl ?_ ?_;constructor <;> omega) | apply Wl.nilB
  refine Mt.eff1 (i := 10) kg zd ?_
  apply Wl.callC
  ·exact rfl
  ·repeat constructor
  intro wr hr
  have zr7 := hr.upd.size
  have hlr := hr.own.lt (.head _)
  simp only at hlr
  refine (ramPutG rb rm rn5 _ v1 x.data wr (mv6 hr).ram ky ky qy (hdl wr (mv6 hr).up) (fun k hk hne e => by have := hV.dlt k hk hne;have := (mv6 hr).ge.2.2.2;omega)).mono ?_
  rintro e w7 ⟨⟨z2,rfl⟩,hR7,u7⟩
  have B7 := (mv6 hr).ram' hR7 (u7.mono fun b _ h => .inl h)
  have hnr : rm ≠ c9 := o96 rm (.inr (.inr (.inr (.inr (.inl rfl)))))
  have hq7 := Hp.restD hr u7 (by simp only [List.mem_cons,List.not_mem_nil,or_false,forall_eq_or_imp,forall_eq];exact fun e => hnr e.symm)
  have z7 := u7.size
  have h97 := hq7.own.at (.head _)
  have o97 := B7.off (t := 30) h97 ze
  have mv7 : ∀ {w' : World},Hp w7 [⟨c9,loadC (.slice ca x.code.length cc) v1 v3 x,30⟩] w' → BegS w w' n i pb J gs (caF l (i + 1)) cM rb rm (rn5 + x.data.length) (loadF l (i + 1)) v6 v7 eb ec := fun h' => B7.upd (Hp.on1 h' (Upd.refl (fun b => b = c9) _) rfl) (fun b hb e => o97 b hb e) fun b hb e => by omega
  refine ⟨_,_,rfl,hq7,?_⟩
  repeat' first | apply Wl.nil
  refine Mt.backE (fun _ h' => ⟨((mv7 h').at hlt).1,h'.own.at (.head _)⟩) ?_
  refine Mt.toGt kg ?_
  skip
  obtain ⟨pd1,pd2⟩ := B7.at hlt
  have np7 : pb ≠ c9 := o97 pb (.inl rfl)
  have lp7 := B7.lt pb (.inl rfl)
  repeat' first | (apply Wl.loadO;exact rfl;exact rfl;exact zu;exact kj) | refine Wl.move rfl rfl ?_ | refine Wl.fieldAddr rfl rfl ?_ | (refine Wl.indexAddr rfl rfl rfl ?_ ?_;constructor <;> omega) | apply St.seq | apply St.region | apply Gt.next
  apply Wl.callC
  ·exact rfl
  ·repeat constructor
  intro wp hp
  have zp8 := hp.upd.size
  have hlp := hp.own.lt (.head _)
  simp only at hlp
  refine (planX i hi3 (gs i) 3 wp (grF ((mv7 hp).gr i hlt).2)).mono ?_
  rintro e w8 ⟨eb',ec',rfl,hEx,hebg,⟨ecs,hebb⟩,u8⟩
  have B8 := (mv7 hp).new u8
  have hq8 := Hp.restD hp u8 kb
  have z8 := u8.size
  have h98 := hq8.own.at (.head _)
  have o98 := B8.off (t := 30) h98 ze
  have mv8 : ∀ {w' : World},Hp w8 [⟨c9,loadC (.slice ca x.code.length cc) v1 v3 x,30⟩] w' → BegS w w' n i pb J gs (caF l (i + 1)) cM rb rm (rn5 + x.data.length) (loadF l (i + 1)) v6 v7 eb ec := fun h' => B8.upd (Hp.on1 h' (Upd.refl (fun b => b = c9) _) rfl) (fun b hb e => o98 b hb e) fun b hb e => by omega
  refine ⟨_,_,rfl,hq8,?_⟩
  repeat' first | refine Wl.move rfl rfl ?_ | refine Wl.assign rfl rfl ?_ | refine Wl.extract rfl rfl rfl ?_ | apply Wl.nil | apply Gt.next
  have hb8 := (B8.at hlt).1
  have np8 : pb ≠ c9 := o98 pb (.inl rfl)
  have lp8 := B8.lt pb (.inl rfl)
  have h6p : ∀ k,v6.ownBlock = some k → k ≠ pb := fun k hk e => (B8.ent.heap hk).elim fun _ hg => hne hg B8.pay ze e
  have h7p : ∀ k,v7.ownBlock = some k → k ≠ pb := fun k hk e => (B8.st.heap hk).elim fun _ hg => hne hg B8.pay ze e
  have h67 : ∀ k,v7.ownBlock = some k → v6.ownBlock ≠ some k := fun k hk hk6 => (B8.st.heap hk).elim fun _ hg => (B8.ent.heap hk6).elim fun _ hg6 => hne hg hg6 ze rfl
  refine St.tree (fun w' => w'.cell? ⟨pb,0 + (i : Int).toNat * 36 + 33,none⟩ = some (.int .u32 (biasI i))) mixed (fun _ h' => ⟨Hp.drew h',((mv8 (Hp.drew h')).at hlt).1⟩) ?_
  refine Mt.pm 0 ?_
  refine Mt.pm 1 ?_
  refine Mt.pm 4 ?_
  refine Mt.pm 5 ?_
  refine Mt.pm 6 ?_
  refine Mt.pu 7 ?_
  repeat' first | (refine Wl.indexAddr rfl rfl rfl ?_ ?_;constructor <;> omega) | apply Wl.nilB
  refine Mt.pu 8 ?_
  refine Wl.fieldAddr rfl rfl (Wl.nilB ?_)
  refine Mt.pu 9 ?_
  repeat' first | (apply Wl.loadF;exact rfl;exact rfl;(intro w' h';exact h')) | apply Wl.nilB
  refine Mt.eff2 (i := 2) (j := 10) kg zd zd ?_ ?_
  ·repeat' first | (apply Wl.lit;exact rfl;exact ki;exact rfl;exact rfl;exact kh;intro c hc ho) | apply Wl.nil
   refine Mt.backE (fun _ h' => by first | exact h'.upd.cell hb8 (fun y => y kt) | exact h'.upd.cell hb9 (fun y => y kt) | exact h'.upd.cell hb10 (fun y => y kt)) ?_
   refine Mt.eff2 (i := 3) (j := 10) kg zd zd ?_ ?_
   ·apply Wl.appendH (base := w.heap.size) (n := i) (m := 1) (sz := 1) (e := 65) (xs := (List.range i).map fun j => .slice (some ⟨eb j,0,none⟩) 4 (ec j))
    ·exact rfl
    ·exact rfl
    ·exact rfl
    ·repeat constructor
    ·exact rfl
    ·exact B8.ent
    ·exact fun k hk => by have := hv6l k hk;repeat (first | exact trivial | refine ⟨fun e => by simp only at e;omega,?_⟩)
    ·exact rfl
    ·exact rfl
    ·decide
    ·unfold maxLen;omega
    ·omega
    ·omega
    intro v6' w9 ho6 u9 _ hoff6
    have s9 := u9.size
    have hb9 := u9.cell hb8 (fun hs => hs.elim (fun h => h6p _ h rfl) fun y => y kt)
    repeat' first | apply Wl.nil
    refine Mt.backE (fun _ h' => by first | exact h'.upd.cell hb8 (fun y => y kt) | exact h'.upd.cell hb9 (fun y => y kt) | exact h'.upd.cell hb10 (fun y => y kt)) ?_
    refine Mt.eff1 (i := 10) kg zd ?_
    repeat' first | (apply Wl.lit;exact rfl;exact ki;exact rfl;exact rfl;exact kh;intro c hc ho) | apply Wl.nil
    refine Mt.backE (fun _ h' => by first | exact h'.upd.cell hb8 (fun y => y kt) | exact h'.upd.cell hb9 (fun y => y kt) | exact h'.upd.cell hb10 (fun y => y kt)) ?_
    refine Mt.eff1 (i := 11) kg zd ?_
    apply Wl.appendH (base := w.heap.size) (n := i) (m := 1) (sz := 1) (e := 25) (xs := (List.range i).map fun j => .int .u32 (biasI j))
    ·exact rfl
    ·exact rfl
    ·exact rfl
    ·repeat constructor
    ·exact rfl
    ·exact (ownsRow_upd B8.st u9 fun k hk hs => hs.elim (h67 k hk) fun y => y qb)
    ·exact fun k hk => by have := hv7l k hk;repeat (first | exact trivial | refine ⟨fun e => by simp only at e;omega,?_⟩)
    ·exact rfl
    ·exact rfl
    ·decide
    ·unfold maxLen;omega
    ·omega
    ·omega
    intro v7' w10 ho7 u10 _ hoff7
    have s10 := u10.size
    have hb10 := u10.cell hb9 (fun hs => hs.elim (fun h => h7p _ h rfl) fun y => y kt)
    repeat' first | apply Wl.nil
    refine Mt.backE (fun _ h' => by first | exact h'.upd.cell hb8 (fun y => y kt) | exact h'.upd.cell hb9 (fun y => y kt) | exact h'.upd.cell hb10 (fun y => y kt)) ?_
    refine Mt.pu 12 ?_
    refine Wl.assign rfl rfl (Wl.nilB ?_)
    refine Mt.pu 13 ?_
    refine Wl.assign rfl rfl (Wl.nilB ?_)
    refine Mt.toGt kg ?_
    repeat' first | refine Wl.move rfl rfl ?_ | (refine Wl.addI rfl rfl rfl ?_ ?_;constructor <;> omega) | apply Wl.nil | apply St.region | apply Gt.next | apply Gt.inNormal
    refine Gt.reb (H' := []) fun w11 h11 => ⟨trivial,trivial,?_⟩
    have key9 : ∀ k,k < w8.heap.size → k ≠ c9 → ¬ (w8.heap.size ≤ k ∨ k = c9) := fun k h1 h2 h => h.elim (fun h => by omega) h2
    have u911 : Upd (fun k => v6.ownBlock = some k ∨ v7.ownBlock = some k ∨ k = c9 ∨ w8.heap.size ≤ k) w8 w11 := by
     have tH : ∀ {H : List Blk} {k : Nat},(∀ y ∈ H,y.b = c9 ∨ w8.heap.size ≤ y.b) → ¬ Off H k → k = c9 ∨ w8.heap.size ≤ k := fun hH hn => Classical.byContradiction fun hc => hn (Off.of fun y hy e => hc (e ▸ hH y hy))
     refine (u9.comp u10 (T := fun k => v6.ownBlock = some k ∨ v7.ownBlock = some k ∨ k = c9 ∨ w8.heap.size ≤ k) fun k hk hs => ?_).comp h11.upd fun k hk hs => hs.elim id fun y => .inr (.inr (tH zm y))
     rcases hs with (h | y) | h | y
     ·exact .inl h
     ·exact .inr (.inr (tH zm y))
     ·exact .inr (.inl h)
     ·exact .inr (.inr (tH zm y))
    have hvn : ∀ k,v6.ownBlock = some k ∨ v7.ownBlock = some k → k ≠ c9 := fun k hk => hk.elim (fun h => by have := hv6l k h;omega) (fun h => by have := hv7l k h;omega)
    have hr6 : w11.ownsRow w.heap.size 65 1 v6' (i + 1) ((List.range (i + 1)).map fun j => .slice (some ⟨if j = i then eb' else eb j,0,none⟩) 4 (if j = i then ec' else ec j)) := by
     have h := ownsRow_upd (ownsRow_upd ho6 u10 fun k hk hs => hs.elim (fun h7 => (ho6.heap hk).elim fun _ hg => ((ownsRow_upd B8.st u9 fun k hk hs => hs.elim (h67 k hk) fun y => y qb).heap h7).elim fun _ hg7 => hne hg hg7 ze rfl) fun y => y zn) h11.upd fun k hk y => y zn
     rw [List.range_succ,List.map_append]
     rw [List.map_congr_left (g := fun j => Value.slice (some ⟨eb j,0,none⟩) 4 (ec j)) (fun j hj => by have := List.mem_range.1 hj;simp only [if_neg (show ¬ j = i by omega)])]
     simp only [List.map_cons,List.map_nil,if_pos]
     exact h
    have hr7 : w11.ownsRow w.heap.size 25 1 v7' (i + 1) ((List.range (i + 1)).map fun j => .int .u32 (biasI j)) := by
     have h := ownsRow_upd ho7 h11.upd fun k hk y => y (hoff7 k hk).1
     rw [List.range_succ,List.map_append]
     exact h
    have hnb : ∀ k,k < w8.heap.size → (∀ cs t,w8.heap[k]? = some (.cells cs t (0,0)) → t ≠ 65 ∧ t ≠ 25 ∧ t ≠ 30) → True := fun _ _ _ => trivial
    have heX : ∀ j,j < i + 1 → w.heap.size ≤ (if j = i then eb' else eb j) ∧ ∃ cs : List Value,w8.heap[if j = i then eb' else eb j]? = some (.cells cs.toArray 160 (0,0)) ∧ EntX w8 (some ⟨if j = i then eb' else eb j,0,none⟩) 4 (en4 (biasI j)) := fun j hj => by
     by_cases e : j = i
     ·rw [if_pos e,e];exact ⟨by omega,ecs,hebb,hEx⟩
     ·rw [if_neg e];exact B8.enx j ky
    have heY : ∀ j,j < i + 1 → w.heap.size ≤ (if j = i then eb' else eb j) ∧ ∃ cs : List Value,w11.heap[if j = i then eb' else eb j]? = some (.cells cs.toArray 160 (0,0)) ∧ EntX w11 (some ⟨if j = i then eb' else eb j,0,none⟩) 4 (en4 (biasI j)) := fun j hj => by
     obtain ⟨h1,cs,h2,h3⟩ := heX j hj
     have hn : ¬ (v6.ownBlock = some (if j = i then eb' else eb j) ∨ v7.ownBlock = some (if j = i then eb' else eb j) ∨ (if j = i then eb' else eb j) = c9 ∨ w8.heap.size ≤ (if j = i then eb' else eb j)) := fun h => h.elim (fun h => (B8.ent.heap h).elim fun _ hg => hne h2 hg ze rfl) fun h => h.elim (fun h => (B8.st.heap h).elim fun _ hg => hne h2 hg ze rfl) fun h => h.elim (fun h => hne (t := 30) h2 h98 ze h) fun h => absurd (lt_of_block h2) (Nat.not_lt.2 h)
     refine ⟨h1,cs,u911.heap h2 hn,fun q hq => ?_⟩
     obtain ⟨b,o,e,c1,c2,c3⟩ := h3 q hq
     cases e
     exact ⟨_,_,rfl,u911.cell c1 hn,u911.cell c2 hn,u911.cell c3 hn⟩
    have B11 := B8.rows hr6 heY hr7 u911 (fun b hb hs => hs.elim .inl fun h => h.elim .inr fun h => h.elim (fun e => absurd e (o98 b hb)) fun h => absurd (B8.lt b hb).2 (Nat.not_lt.2 h)) (fun b hs => hs.elim (fun h => (B8.ent.ge b h).1) fun h => h.elim (fun h => (B8.st.ge b h).1) fun h => h.elim (fun e => by omega) fun h => by omega)
    refine Gt.round ⟨i + 1,w11,rn5 + x.data.length,v6',v7',fun j => if j = i then eb' else eb j,fun j => if j = i then ec' else ec j⟩ ⟨by simp only;omega,by simp only;omega,B11⟩ qf kv (fun _ h => h)
   ·repeat' first | (apply Wl.lit;exact rfl;exact ki;exact rfl;exact rfl;exact kh;intro c hc ho) | apply Wl.nil
    refine Mt.backE (fun _ h' => by first | exact h'.upd.cell hb8 (fun y => y kt) | exact h'.upd.cell hb9 (fun y => y kt) | exact h'.upd.cell hb10 (fun y => y kt)) ?_
    refine Mt.eff1 (i := 3) kg zd ?_
    apply Wl.appendH (base := w.heap.size) (n := i) (m := 1) (sz := 1) (e := 65) (xs := (List.range i).map fun j => .slice (some ⟨eb j,0,none⟩) 4 (ec j))
    ·exact rfl
    ·exact rfl
    ·exact rfl
    ·repeat constructor
    ·exact rfl
    ·exact B8.ent
    ·exact fun k hk => by have := hv6l k hk;repeat (first | exact trivial | refine ⟨fun e => by simp only at e;omega,?_⟩)
    ·exact rfl
    ·exact rfl
    ·decide
    ·unfold maxLen;omega
    ·omega
    ·omega
    intro v6' w9 ho6 u9 _ hoff6
    have s9 := u9.size
    have hb9 := u9.cell hb8 (fun hs => hs.elim (fun h => h6p _ h rfl) fun y => y kt)
    repeat' first | apply Wl.nil
    refine Mt.backE (fun _ h' => by first | exact h'.upd.cell hb8 (fun y => y kt) | exact h'.upd.cell hb9 (fun y => y kt) | exact h'.upd.cell hb10 (fun y => y kt)) ?_
    refine Mt.eff1 (i := 11) kg zd ?_
    apply Wl.appendH (base := w.heap.size) (n := i) (m := 1) (sz := 1) (e := 25) (xs := (List.range i).map fun j => .int .u32 (biasI j))
    ·exact rfl
    ·exact rfl
    ·exact rfl
    ·repeat constructor
    ·exact rfl
    ·exact (ownsRow_upd B8.st u9 fun k hk hs => hs.elim (h67 k hk) fun y => y qb)
    ·exact fun k hk => by have := hv7l k hk;repeat (first | exact trivial | refine ⟨fun e => by simp only at e;omega,?_⟩)
    ·exact rfl
    ·exact rfl
    ·decide
    ·unfold maxLen;omega
    ·omega
    ·omega
    intro v7' w10 ho7 u10 _ hoff7
    have s10 := u10.size
    have hb10 := u10.cell hb9 (fun hs => hs.elim (fun h => h7p _ h rfl) fun y => y kt)
    repeat' first | apply Wl.nil
    refine Mt.backE (fun _ h' => by first | exact h'.upd.cell hb8 (fun y => y kt) | exact h'.upd.cell hb9 (fun y => y kt) | exact h'.upd.cell hb10 (fun y => y kt)) ?_
    refine Mt.pu 12 ?_
    refine Wl.assign rfl rfl (Wl.nilB ?_)
    refine Mt.pu 13 ?_
    refine Wl.assign rfl rfl (Wl.nilB ?_)
    refine Mt.toGt kg ?_
    repeat' first | refine Wl.move rfl rfl ?_ | (refine Wl.addI rfl rfl rfl ?_ ?_;constructor <;> omega) | apply Wl.nil | apply St.region | apply Gt.next | apply Gt.inNormal
    refine Gt.reb (H' := []) fun w11 h11 => ⟨trivial,trivial,?_⟩
    have key9 : ∀ k,k < w8.heap.size → k ≠ c9 → ¬ (w8.heap.size ≤ k ∨ k = c9) := fun k h1 h2 h => h.elim (fun h => by omega) h2
    have u911 : Upd (fun k => v6.ownBlock = some k ∨ v7.ownBlock = some k ∨ k = c9 ∨ w8.heap.size ≤ k) w8 w11 := by
     have tH : ∀ {H : List Blk} {k : Nat},(∀ y ∈ H,y.b = c9 ∨ w8.heap.size ≤ y.b) → ¬ Off H k → k = c9 ∨ w8.heap.size ≤ k := fun hH hn => Classical.byContradiction fun hc => hn (Off.of fun y hy e => hc (e ▸ hH y hy))
     refine (u9.comp u10 (T := fun k => v6.ownBlock = some k ∨ v7.ownBlock = some k ∨ k = c9 ∨ w8.heap.size ≤ k) fun k hk hs => ?_).comp h11.upd fun k hk hs => hs.elim id fun y => .inr (.inr (tH zm y))
     rcases hs with (h | y) | h | y
     ·exact .inl h
     ·exact .inr (.inr (tH zm y))
     ·exact .inr (.inl h)
     ·exact .inr (.inr (tH zm y))
    have hvn : ∀ k,v6.ownBlock = some k ∨ v7.ownBlock = some k → k ≠ c9 := fun k hk => hk.elim (fun h => by have := hv6l k h;omega) (fun h => by have := hv7l k h;omega)
    have hr6 : w11.ownsRow w.heap.size 65 1 v6' (i + 1) ((List.range (i + 1)).map fun j => .slice (some ⟨if j = i then eb' else eb j,0,none⟩) 4 (if j = i then ec' else ec j)) := by
     have h := ownsRow_upd (ownsRow_upd ho6 u10 fun k hk hs => hs.elim (fun h7 => (ho6.heap hk).elim fun _ hg => ((ownsRow_upd B8.st u9 fun k hk hs => hs.elim (h67 k hk) fun y => y qb).heap h7).elim fun _ hg7 => hne hg hg7 ze rfl) fun y => y zn) h11.upd fun k hk y => y zn
     rw [List.range_succ,List.map_append]
     rw [List.map_congr_left (g := fun j => Value.slice (some ⟨eb j,0,none⟩) 4 (ec j)) (fun j hj => by have := List.mem_range.1 hj;simp only [if_neg (show ¬ j = i by omega)])]
     simp only [List.map_cons,List.map_nil,if_pos]
     exact h
    have hr7 : w11.ownsRow w.heap.size 25 1 v7' (i + 1) ((List.range (i + 1)).map fun j => .int .u32 (biasI j)) := by
     have h := ownsRow_upd ho7 h11.upd fun k hk y => y (hoff7 k hk).1
     rw [List.range_succ,List.map_append]
     exact h
    have hnb : ∀ k,k < w8.heap.size → (∀ cs t,w8.heap[k]? = some (.cells cs t (0,0)) → t ≠ 65 ∧ t ≠ 25 ∧ t ≠ 30) → True := fun _ _ _ => trivial
    have heX : ∀ j,j < i + 1 → w.heap.size ≤ (if j = i then eb' else eb j) ∧ ∃ cs : List Value,w8.heap[if j = i then eb' else eb j]? = some (.cells cs.toArray 160 (0,0)) ∧ EntX w8 (some ⟨if j = i then eb' else eb j,0,none⟩) 4 (en4 (biasI j)) := fun j hj => by
     by_cases e : j = i
     ·rw [if_pos e,e];exact ⟨by omega,ecs,hebb,hEx⟩
     ·rw [if_neg e];exact B8.enx j ky
    have heY : ∀ j,j < i + 1 → w.heap.size ≤ (if j = i then eb' else eb j) ∧ ∃ cs : List Value,w11.heap[if j = i then eb' else eb j]? = some (.cells cs.toArray 160 (0,0)) ∧ EntX w11 (some ⟨if j = i then eb' else eb j,0,none⟩) 4 (en4 (biasI j)) := fun j hj => by
     obtain ⟨h1,cs,h2,h3⟩ := heX j hj
     have hn : ¬ (v6.ownBlock = some (if j = i then eb' else eb j) ∨ v7.ownBlock = some (if j = i then eb' else eb j) ∨ (if j = i then eb' else eb j) = c9 ∨ w8.heap.size ≤ (if j = i then eb' else eb j)) := fun h => h.elim (fun h => (B8.ent.heap h).elim fun _ hg => hne h2 hg ze rfl) fun h => h.elim (fun h => (B8.st.heap h).elim fun _ hg => hne h2 hg ze rfl) fun h => h.elim (fun h => hne (t := 30) h2 h98 ze h) fun h => absurd (lt_of_block h2) (Nat.not_lt.2 h)
     refine ⟨h1,cs,u911.heap h2 hn,fun q hq => ?_⟩
     obtain ⟨b,o,e,c1,c2,c3⟩ := h3 q hq
     cases e
     exact ⟨_,_,rfl,u911.cell c1 hn,u911.cell c2 hn,u911.cell c3 hn⟩
    have B11 := B8.rows hr6 heY hr7 u911 (fun b hb hs => hs.elim .inl fun h => h.elim .inr fun h => h.elim (fun e => absurd e (o98 b hb)) fun h => absurd (B8.lt b hb).2 (Nat.not_lt.2 h)) (fun b hs => hs.elim (fun h => (B8.ent.ge b h).1) fun h => h.elim (fun h => (B8.st.ge b h).1) fun h => h.elim (fun e => by omega) fun h => by omega)
    refine Gt.round ⟨i + 1,w11,rn5 + x.data.length,v6',v7',fun j => if j = i then eb' else eb j,fun j => if j = i then ec' else ec j⟩ ⟨by simp only;omega,by simp only;omega,B11⟩ qf kv (fun _ h => h)
  ·repeat' first | (apply Wl.lit;exact rfl;exact ki;exact rfl;exact rfl;exact kh;intro c hc ho) | apply Wl.nil
   refine Mt.backE (fun _ h' => by first | exact h'.upd.cell hb8 (fun y => y kt) | exact h'.upd.cell hb9 (fun y => y kt) | exact h'.upd.cell hb10 (fun y => y kt)) ?_
   refine Mt.eff1 (i := 2) kg zd ?_
   repeat' first | (apply Wl.lit;exact rfl;exact ki;exact rfl;exact rfl;exact kh;intro c hc ho) | apply Wl.nil
   refine Mt.backE (fun _ h' => by first | exact h'.upd.cell hb8 (fun y => y kt) | exact h'.upd.cell hb9 (fun y => y kt) | exact h'.upd.cell hb10 (fun y => y kt)) ?_
   refine Mt.eff1 (i := 3) kg zd ?_
   apply Wl.appendH (base := w.heap.size) (n := i) (m := 1) (sz := 1) (e := 65) (xs := (List.range i).map fun j => .slice (some ⟨eb j,0,none⟩) 4 (ec j))
   ·exact rfl
   ·exact rfl
   ·exact rfl
   ·repeat constructor
   ·exact rfl
   ·exact B8.ent
   ·exact fun k hk => by have := hv6l k hk;repeat (first | exact trivial | refine ⟨fun e => by simp only at e;omega,?_⟩)
   ·exact rfl
   ·exact rfl
   ·decide
   ·unfold maxLen;omega
   ·omega
   ·omega
   intro v6' w9 ho6 u9 _ hoff6
   have s9 := u9.size
   have hb9 := u9.cell hb8 (fun hs => hs.elim (fun h => h6p _ h rfl) fun y => y kt)
   repeat' first | apply Wl.nil
   refine Mt.backE (fun _ h' => by first | exact h'.upd.cell hb8 (fun y => y kt) | exact h'.upd.cell hb9 (fun y => y kt) | exact h'.upd.cell hb10 (fun y => y kt)) ?_
   refine Mt.eff1 (i := 11) kg zd ?_
   apply Wl.appendH (base := w.heap.size) (n := i) (m := 1) (sz := 1) (e := 25) (xs := (List.range i).map fun j => .int .u32 (biasI j))
   ·exact rfl
   ·exact rfl
   ·exact rfl
   ·repeat constructor
   ·exact rfl
   ·exact (ownsRow_upd B8.st u9 fun k hk hs => hs.elim (h67 k hk) fun y => y qb)
   ·exact fun k hk => by have := hv7l k hk;repeat (first | exact trivial | refine ⟨fun e => by simp only at e;omega,?_⟩)
   ·exact rfl
   ·exact rfl
   ·decide
   ·unfold maxLen;omega
   ·omega
   ·omega
   intro v7' w10 ho7 u10 _ hoff7
   have s10 := u10.size
   have hb10 := u10.cell hb9 (fun hs => hs.elim (fun h => h7p _ h rfl) fun y => y kt)
   repeat' first | apply Wl.nil
   refine Mt.backE (fun _ h' => by first | exact h'.upd.cell hb8 (fun y => y kt) | exact h'.upd.cell hb9 (fun y => y kt) | exact h'.upd.cell hb10 (fun y => y kt)) ?_
   refine Mt.pu 12 ?_
   refine Wl.assign rfl rfl (Wl.nilB ?_)
   refine Mt.pu 13 ?_
   refine Wl.assign rfl rfl (Wl.nilB ?_)
   refine Mt.toGt kg ?_
   repeat' first | refine Wl.move rfl rfl ?_ | (refine Wl.addI rfl rfl rfl ?_ ?_;constructor <;> omega) | apply Wl.nil | apply St.region | apply Gt.next | apply Gt.inNormal
   refine Gt.reb (H' := []) fun w11 h11 => ⟨trivial,trivial,?_⟩
   have key9 : ∀ k,k < w8.heap.size → k ≠ c9 → ¬ (w8.heap.size ≤ k ∨ k = c9) := fun k h1 h2 h => h.elim (fun h => by omega) h2
   have u911 : Upd (fun k => v6.ownBlock = some k ∨ v7.ownBlock = some k ∨ k = c9 ∨ w8.heap.size ≤ k) w8 w11 := by
    have tH : ∀ {H : List Blk} {k : Nat},(∀ y ∈ H,y.b = c9 ∨ w8.heap.size ≤ y.b) → ¬ Off H k → k = c9 ∨ w8.heap.size ≤ k := fun hH hn => Classical.byContradiction fun hc => hn (Off.of fun y hy e => hc (e ▸ hH y hy))
    refine (u9.comp u10 (T := fun k => v6.ownBlock = some k ∨ v7.ownBlock = some k ∨ k = c9 ∨ w8.heap.size ≤ k) fun k hk hs => ?_).comp h11.upd fun k hk hs => hs.elim id fun y => .inr (.inr (tH zm y))
    rcases hs with (h | y) | h | y
    ·exact .inl h
    ·exact .inr (.inr (tH zm y))
    ·exact .inr (.inl h)
    ·exact .inr (.inr (tH zm y))
   have hvn : ∀ k,v6.ownBlock = some k ∨ v7.ownBlock = some k → k ≠ c9 := fun k hk => hk.elim (fun h => by have := hv6l k h;omega) (fun h => by have := hv7l k h;omega)
   have hr6 : w11.ownsRow w.heap.size 65 1 v6' (i + 1) ((List.range (i + 1)).map fun j => .slice (some ⟨if j = i then eb' else eb j,0,none⟩) 4 (if j = i then ec' else ec j)) := by
    have h := ownsRow_upd (ownsRow_upd ho6 u10 fun k hk hs => hs.elim (fun h7 => (ho6.heap hk).elim fun _ hg => ((ownsRow_upd B8.st u9 fun k hk hs => hs.elim (h67 k hk) fun y => y qb).heap h7).elim fun _ hg7 => hne hg hg7 ze rfl) fun y => y zn) h11.upd fun k hk y => y zn
    rw [List.range_succ,List.map_append]
    rw [List.map_congr_left (g := fun j => Value.slice (some ⟨eb j,0,none⟩) 4 (ec j)) (fun j hj => by have := List.mem_range.1 hj;simp only [if_neg (show ¬ j = i by omega)])]
    simp only [List.map_cons,List.map_nil,if_pos]
    exact h
   have hr7 : w11.ownsRow w.heap.size 25 1 v7' (i + 1) ((List.range (i + 1)).map fun j => .int .u32 (biasI j)) := by
    have h := ownsRow_upd ho7 h11.upd fun k hk y => y (hoff7 k hk).1
    rw [List.range_succ,List.map_append]
    exact h
   have hnb : ∀ k,k < w8.heap.size → (∀ cs t,w8.heap[k]? = some (.cells cs t (0,0)) → t ≠ 65 ∧ t ≠ 25 ∧ t ≠ 30) → True := fun _ _ _ => trivial
   have heX : ∀ j,j < i + 1 → w.heap.size ≤ (if j = i then eb' else eb j) ∧ ∃ cs : List Value,w8.heap[if j = i then eb' else eb j]? = some (.cells cs.toArray 160 (0,0)) ∧ EntX w8 (some ⟨if j = i then eb' else eb j,0,none⟩) 4 (en4 (biasI j)) := fun j hj => by
    by_cases e : j = i
    ·rw [if_pos e,e];exact ⟨by omega,ecs,hebb,hEx⟩
    ·rw [if_neg e];exact B8.enx j ky
   have heY : ∀ j,j < i + 1 → w.heap.size ≤ (if j = i then eb' else eb j) ∧ ∃ cs : List Value,w11.heap[if j = i then eb' else eb j]? = some (.cells cs.toArray 160 (0,0)) ∧ EntX w11 (some ⟨if j = i then eb' else eb j,0,none⟩) 4 (en4 (biasI j)) := fun j hj => by
    obtain ⟨h1,cs,h2,h3⟩ := heX j hj
    have hn : ¬ (v6.ownBlock = some (if j = i then eb' else eb j) ∨ v7.ownBlock = some (if j = i then eb' else eb j) ∨ (if j = i then eb' else eb j) = c9 ∨ w8.heap.size ≤ (if j = i then eb' else eb j)) := fun h => h.elim (fun h => (B8.ent.heap h).elim fun _ hg => hne h2 hg ze rfl) fun h => h.elim (fun h => (B8.st.heap h).elim fun _ hg => hne h2 hg ze rfl) fun h => h.elim (fun h => hne (t := 30) h2 h98 ze h) fun h => absurd (lt_of_block h2) (Nat.not_lt.2 h)
    refine ⟨h1,cs,u911.heap h2 hn,fun q hq => ?_⟩
    obtain ⟨b,o,e,c1,c2,c3⟩ := h3 q hq
    cases e
    exact ⟨_,_,rfl,u911.cell c1 hn,u911.cell c2 hn,u911.cell c3 hn⟩
   have B11 := B8.rows hr6 heY hr7 u911 (fun b hb hs => hs.elim .inl fun h => h.elim .inr fun h => h.elim (fun e => absurd e (o98 b hb)) fun h => absurd (B8.lt b hb).2 (Nat.not_lt.2 h)) (fun b hs => hs.elim (fun h => (B8.ent.ge b h).1) fun h => h.elim (fun h => (B8.st.ge b h).1) fun h => h.elim (fun e => by omega) fun h => by omega)
   refine Gt.round ⟨i + 1,w11,rn5 + x.data.length,v6',v7',fun j => if j = i then eb' else eb j,fun j => if j = i then ec' else ec j⟩ ⟨by simp only;omega,by simp only;omega,B11⟩ qf kv (fun _ h => h)
 obtain rfl : i = n := by omega
 have hd : decide ((i : Int) < (i : Int)) = false := decide_eq_false ky
 clear hlt hi
 obtain ⟨g6,cap6,J6,rfl,hg6,hb6⟩ := B0.ent.blk ky
 obtain ⟨g7,cap7,J7,rfl,hg7,hb7⟩ := B0.st.blk ky
 have hW0 : WordF w0 (some ⟨g7,0,none⟩) i biasI := fun q hq => by
  refine ⟨g7,0,rfl,cell_of hb7 ?_,?_⟩
  ·rw [Nat.zero_add,List.getElem?_append_left (by simp;exact hq)]
   simp [hq]
  ·unfold biasI;omega
 have z0 := B0.size
 repeat' first | refine Wl.move rfl rfl ?_ | refine Wl.lss rfl rfl rfl ?_ | apply Wl.nil | apply St.seq | apply St.region | (apply St.condF;exact rfl;exact ka) | apply St.exit | apply Gt.next | apply Gt.thenExit | apply Gt.inExit
 apply Wl.callC
 ·exact rfl
 ·repeat constructor
 intro wq hq
 have zq := hq.upd.size
 refine (monNew (some ⟨pb,0,none⟩) (some ⟨g6,0,none⟩) (some ⟨g7,0,none⟩) i pcap cap6 cap7 cM biasI (loadF l i) wq ky (fun q hq' => by obtain ⟨b,o,e,h1,h2⟩ := hW0 q hq';exact ⟨b,o,e,hq.upd.cell h1 (fun y => y trivial),h2⟩) (hq.upd.heap B0.mem fun y => y trivial) w.heap.size B0.ge.2.1 (Nat.le_trans z0 zq)).mono ?_
 rintro e w1 ⟨I,M,rfl,hM1,hIc,hMe,hMn,u1⟩
 obtain ⟨cf0,hMe'⟩ : ∃ cf0,M = ⟨.slice (some ⟨pb,0,none⟩) i pcap,.slice (some ⟨g6,0,none⟩) i cap6,.slice none 0 0,.slice none 0 0,0,[],newL biasI i,0,fun _ => [],[],0,List.replicate i [],loadF l i,xz,0,cf0⟩ := ⟨_,hMe⟩
 subst hMe'
 clear hMe hMn
 have u01 : Upd (fun k => w0.heap.size ≤ k) w0 w1 := (hq.upd.mono fun _ _ y => (y trivial).elim).comp u1 fun k _ hs => hs.elim id fun h => Nat.le_trans zq h
 have z1 := u01.size
 refine ⟨_,_,rfl,Hp.start w1,?_⟩
 clear hq u1
 have hd00 : decide ((0 : Int) ≠ 0) = false := by decide
 repeat' first | refine Wl.move rfl rfl ?_ | refine Wl.assign rfl rfl ?_ | refine Wl.extract rfl rfl rfl ?_ | (apply Wl.neqIs;exact rfl;exact rfl;exact rfl;exact kz) | apply Wl.nil | apply St.seq | apply St.region | (apply St.condF;exact rfl;exact ka) | apply St.skip | apply Gt.next
 apply Wl.callC
 ·exact rfl
 ·repeat constructor
 intro wr hr
 have zr := hr.upd.size
 refine (r26New (some ⟨pb,0,none⟩) (some ⟨g6,0,none⟩) (some ⟨g7,0,none⟩) (some ⟨rb,0,none⟩) i pcap cap6 cap7 biasI wr ky (fun q hq' => by obtain ⟨b,o,e,h1,h2⟩ := hW0 q hq';exact ⟨b,o,e,hr.upd.cell (u01.cell h1 (by have := cell_old h1;simp only at this ⊢;omega)) (fun y => y trivial),h2⟩)).mono ?_
 rintro e w2 ⟨rv,rfl,⟨rm2,rcw,rd,rfl,hrm2,hrw,hrcw,hrmg,hrmn⟩,u2⟩
 have u12 : Upd (fun k => w1.heap.size ≤ k) w1 w2 := (hr.upd.mono fun _ _ y => (y trivial).elim).comp u2 fun k _ hs => hs.elim id fun h => Nat.le_trans zr h
 have z2 := u12.size
 have hM2 := hM1.new u12 (Nat.le_refl _)
 have lrm := lt_of_block hrm2
 refine ⟨_,_,rfl,Hp.start w2,?_⟩
 clear hr u2
 repeat' first | refine Wl.move rfl rfl ?_ | refine Wl.assign rfl rfl ?_ | apply Wl.nil | apply St.seq | apply St.region | apply Gt.next
 apply Wl.callC
 ·exact rfl
 ·repeat constructor
 intro wr3 hr3
 have zr3 := hr3.upd.size
 refine (mState0 w.heap.size I _ wr3 (hM2.upd hr3.upd fun b hb y => y trivial) ky (fun _ => rfl) (by show (0 : Nat) ≤ 1000;omega)).mono ?_
 rintro e w3 ⟨sv,iv,bv,lv,cM',rfl,hSt,hcM',u3⟩
 have u23 : Upd (fun k => w2.heap.size ≤ k) w2 w3 := (hr3.upd.mono fun _ _ y => (y trivial).elim).comp u3 fun k _ hs => hs.elim id fun h => Nat.le_trans zr3 h
 have z3 := u23.size
 have hM3 := hM2.new u23 (Nat.le_refl _)
 obtain ⟨hSs,hSi,hSb,hSl,hSm⟩ := hSt
 have hLn : (newL biasI i).length = i := newL_len _ _
 obtain ⟨svb,svc,Jv,hsve,hsvg,hsvh⟩ := hSs.blk (by show 0 < (newL biasI i).length;omega)
 have hsve' : sv = .slice (some ⟨svb,0,none⟩) i svc := by rw [hsve];show Value.slice _ (newL biasI i).length _ = _;rw [hLn]
 subst hsve'
 clear hsve
 have oi := hSi.one
 have ob := hSb.one
 have ol := hSl.one
 obtain ⟨la,lc,hlve⟩ : ∃ la lc,lv = .slice la 0 lc := by
  rcases hSl.2 with ⟨rfl,_⟩ | ⟨g,cap,cur,rfl,_⟩
  ·exact ⟨none,0,rfl⟩
  ·exact ⟨_,_,rfl⟩
 subst hlve
 have ht0 : turnV 0 = 0 := rfl
 refine ⟨_,_,rfl,Hp.start w3,?_⟩
 clear hr3 u3
 have hst6 : ([Value.int .i64 0,.slice (some ⟨svb,0,none⟩) i svc,iv,bv,.slice la 0 lc,.pointer (some ⟨cM',0,none⟩)]).all Value.oneCell' = true := by show (true && (true && (iv.oneCell' && (bv.oneCell' && (true && (true && true)))))) = true;rw [oi,ob];rfl
 have hdll : decide ((i : Int) < (i : Int)) = false := hd
 repeat' first | (apply Wl.storeA (xs := [.int .i64 0,.slice (some ⟨svb,0,none⟩) i svc,iv,bv,.slice la 0 lc,.pointer (some ⟨cM',0,none⟩)]);exact rfl;exact rfl;exact rfl;exact hst6;exact ke;exact .z (LOver.whole rfl)) | refine Wl.move rfl rfl ?_ | refine Wl.fieldAddrZ rfl rfl ?_ | (apply Wl.loadH;exact rfl;exact rfl;exact ke;exact rfl) | refine Wl.lss rfl rfl rfl ?_ | refine Wl.len rfl rfl ?_ | (apply Wl.alloc;exact rfl;intro c hc ho) | apply Wl.nil | apply St.seq | apply St.block | apply St.region | (apply St.condF;exact rfl;exact ka) | apply St.skip | apply Gt.next
 generalize c = c17 at *
 have hc17 : w3.heap.size ≤ c17 := by assumption
 have hs0 : newL biasI i = staL l 0 0 := by rw [staL_0,hl]
 have hsvh' : w3.heap[svb]? = some (.cells ((stas (staL l 0 0)).flatten ++ Jv).toArray 44 (0,0)) := by rw [← hs0];exact hsvh
 have lsv := lt_of_block hsvh'
 have nsv : svb ≠ c17 := by omega
 have U3 : Upd (fun k => w.heap.size ≤ k) w w3 := ((B0.up.comp u01 (T := fun k => w.heap.size ≤ k) fun k _ hs => hs.elim id fun h => Nat.le_trans z0 h).comp u12 (T := fun k => w.heap.size ≤ k) fun k _ hs => hs.elim id fun h => by omega).comp u23 fun k _ hs => hs.elim id fun h => by omega
 refine St.cls (fun _ h' => Hp.open h' hsvh' (by exact ⟨fun e => nsv e.symm,trivial⟩)) ?_
 refine St.loop (σ := Nat × World) (fun τ => τ.1 ≤ i ∧ Upd (fun k => k = svb ∨ k = c17 ∨ w3.heap.size ≤ k) w3 τ.2 ∧ True)
  (fun τ => [(14,.pointer (some ⟨I.m,0,none⟩)),(16,.pointer (some ⟨rm2,0,none⟩)),(17,.pointer (some ⟨c17,0,none⟩)),(141,.slice a i cl),(142,.int .i64 (i : Int)),(143,.int .i64 (τ.1 : Int))]) (fun τ => Hp τ.2 [⟨svb,(stas (staL l τ.1 0)).flatten ++ Jv,44⟩,⟨c17,[.int .i64 0,.slice (some ⟨svb,0,none⟩) i svc,iv,bv,.slice la 0 lc,.pointer (some ⟨cM',0,none⟩)],54⟩]) (fun τ => i - τ.1) (0,w3) ⟨Nat.zero_le _,Upd.refl _ _,trivial⟩ kv (fun _ h => h) ?_
 rintro ⟨j,w5⟩ ⟨hj,hu5,hl17⟩
 simp only at hj hu5 hl17 ⊢
 have s35 := hu5.size
 have U5 : Upd (fun k => w.heap.size ≤ k) w w5 := U3.comp hu5 fun k _ hs => hs.elim id fun h => by omega
 by_cases hjl : j < i
 ·have hdj : decide ((j : Int) < (i : Int)) = true := decide_eq_true ky
  obtain ⟨x,hx⟩ : ∃ x,l[j]? = some x := ⟨_,List.getElem?_eq_getElem ky⟩
  have hgx : ldD l j = x := by unfold ldD;rw [List.getD_eq_getElem?_getD,hx];rfl
  obtain ⟨lb,lo,rfl,v0,v1,v3,hcell,hV⟩ := hL j x hx
  have hlb : lb < w.heap.size := cell_old (hcell 0 _ rfl)
  have hcell' : ∀ q v,(loadC v0 v1 v3 x)[q]? = some v → w5.cell? ⟨lb,lo + (j : Int).toNat * 4 + q,none⟩ = some v := fun q v hq => by rw [Int.toNat_natCast];exact U5.cell (hcell q v hq) (Nat.not_le.2 hlb)
  obtain ⟨ca,cc,rfl,_⟩ := hV.code
  obtain ⟨xa,xc,rfl,hxr⟩ := hV.regs
  have ho1 : v1.oneCell' = true := by obtain ⟨va,vc,rfl,_⟩ := hV.data.shape;rfl
  have hlo : (loadC (.slice ca x.code.length cc) v1 (.slice xa x.regs.length xc) x).all Value.oneCell' = true := by show (true && (v1.oneCell' && (true && (true && true)))) = true;rw [ho1];rfl
  have hxl3 := hV.len.2.2
  repeat' first | (apply Wl.loadAB (xs := loadC (.slice ca x.code.length cc) v1 (.slice xa x.regs.length xc) x);exact rfl;exact rfl;(intro j v hj;exact hcell' j v hj);exact kj;exact rfl) | (apply Wl.storeA (xs := loadC (.slice ca x.code.length cc) v1 (.slice xa x.regs.length xc) x);exact rfl;exact rfl;exact rfl;exact hlo;exact ke;exact .z (LOver.whole rfl)) | refine Wl.move rfl rfl ?_ | refine Wl.assign rfl rfl ?_ | refine Wl.fieldAddrZ rfl rfl ?_ | (apply Wl.loadH;exact rfl;exact rfl;exact ke;exact rfl) | refine Wl.lss rfl rfl rfl ?_ | refine Wl.len rfl rfl ?_ | (apply Wl.alloc;exact rfl;intro c hc ho) | (refine Wl.indexAddr rfl rfl rfl ?_ ?_;constructor <;> omega) | apply Wl.nil | apply St.seq | apply St.block | apply St.region | (apply St.condT;exact rfl;exact ka) | apply St.skip | apply Gt.next
  generalize c = c19 at *
  have hc19 : w5.heap.size ≤ c19 := by assumption
  refine St.reb (H' := [⟨svb,(stas (staL l j 0)).flatten ++ Jv,44⟩,⟨c17,[.int .i64 0,.slice (some ⟨svb,0,none⟩) i svc,iv,bv,.slice la 0 lc,.pointer (some ⟨cM',0,none⟩)],54⟩]) fun w6 h6 => ⟨⟨h6.own.at (.tail _ (.head _)),h6.own.at (.tail _ (.tail _ (.head _))),trivial⟩,⟨⟨fun e => nsv e.symm,trivial⟩,trivial,trivial⟩,?_⟩
  have u36 : Upd (fun k => k = svb ∨ k = c17 ∨ w3.heap.size ≤ k) w3 w6 := Hp.on3 h6 hu5 (.inr (.inr qf)) (.inl rfl) (.inr (.inl rfl))
  have z6 := h6.upd.size
  refine St.loop (σ := Nat × World) (fun τ => τ.1 ≤ x.regs.length ∧ Upd (fun k => k = svb ∨ k = c17 ∨ w3.heap.size ≤ k) w3 τ.2 ∧ True)
   (fun τ => [(14,.pointer (some ⟨I.m,0,none⟩)),(16,.pointer (some ⟨rm2,0,none⟩)),(17,.pointer (some ⟨c17,0,none⟩)),(18,.int .i64 (j : Int)),(141,.slice (some ⟨lb,lo,none⟩) i cl),(142,.int .i64 (i : Int)),(143,.int .i64 (j : Int)),(149,.slice xa x.regs.length xc),(150,.int .i64 (x.regs.length : Int)),(151,.int .i64 (τ.1 : Int))]) (fun τ => Hp τ.2 [⟨svb,(stas (staL l j τ.1)).flatten ++ Jv,44⟩,⟨c17,[.int .i64 0,.slice (some ⟨svb,0,none⟩) i svc,iv,bv,.slice la 0 lc,.pointer (some ⟨cM',0,none⟩)],54⟩]) (fun τ => x.regs.length - τ.1) (0,w6) ⟨Nat.zero_le _,u36,trivial⟩ kv (fun _ h => h) ?_
  rintro ⟨k,w7⟩ ⟨hk,hu7,hl177⟩
  simp only at hk hu7 hl177 ⊢
  have s37 := hu7.size
  have U7 : Upd (fun k => w.heap.size ≤ k) w w7 := U3.comp hu7 fun k _ hs => hs.elim id fun h => by omega
  by_cases hkl : k < x.regs.length
  ·have hdk : decide ((k : Int) < (x.regs.length : Int)) = true := decide_eq_true ky
   obtain ⟨⟨rr,rv⟩,hrr⟩ : ∃ r,x.regs[k]? = some r := ⟨_,List.getElem?_eq_getElem hkl⟩
   obtain ⟨xb,xo,rfl,⟨r1,r2⟩,r3,r4⟩ := hxr k _ hrr
   simp only at r1 r2 r3 r4
   have hxb : xb < w.heap.size := cell_old r1
   have hgr : (ldD l j).regs.getD k (0,0) = (rr,rv) := by rw [hgx,List.getD_eq_getElem?_getD,hrr];rfl
   have hrc : ∀ q v,[Value.int .u32 rr,.int .u32 rv][q]? = some v → w7.cell? ⟨xb,xo + (k : Int).toNat * 2 + q,none⟩ = some v := by
    intro q v hq
    rw [Int.toNat_natCast]
    match q,hq with
    | 0,hq => cases hq;exact U7.cell r1 (Nat.not_le.2 hxb)
    | 1,hq => cases hq;exact U7.cell r3 (Nat.not_le.2 hxb)
   have hand := and31 rr
   have hreb : ∀ {w' : World} {c : Nat} {k' : Nat} {cs : List Value} {t : Nat},w7.heap.size ≤ c → Hp w7 [⟨c,cs,t⟩,⟨svb,(stas (staL l j k')).flatten ++ Jv,44⟩,⟨c17,[.int .i64 0,.slice (some ⟨svb,0,none⟩) i svc,iv,bv,.slice la 0 lc,.pointer (some ⟨cM',0,none⟩)],54⟩] w' → Upd (fun k => k = svb ∨ k = c17 ∨ w3.heap.size ≤ k) w3 w' := fun hc h => Hp.on3 h hu7 (.inr (.inr qf)) (.inl rfl) (.inr (.inl rfl))
   by_cases hb : 0 < bits .and .u32 rr 31
   ·have hdb : decide (bits .and .u32 rr 31 > 0) = true := decide_eq_true hb
    repeat' first | (apply Wl.loadAB (xs := [Value.int .u32 rr,.int .u32 rv]);exact rfl;exact rfl;(intro j v hj;exact hrc j v hj);exact kj;exact rfl) | (apply Wl.storeA (xs := [Value.int .u32 rr,.int .u32 rv]);exact rfl;exact rfl;exact rfl;exact rfl;exact ke;exact .z (LOver.whole rfl)) | (apply Wl.loadH;exact rfl;exact rfl;exact ke;exact rfl) | refine Wl.lss rfl rfl rfl ?_ | refine Wl.gtr rfl rfl rfl ?_ | refine Wl.and rfl rfl rfl ?_ | (apply Wl.alloc;exact rfl;intro c hc ho) | (refine Wl.indexAddr rfl rfl rfl ?_ ?_;constructor <;> omega) | (refine Wl.indexArr rfl rfl rfl ?_ ?_;constructor <;> omega) | apply Wl.nil | apply St.seq | apply St.block | apply St.region | (apply St.condT;exact rfl;exact ka) | apply St.skip | apply Gt.next
    generalize c = c21 at *
    have hc21 : w7.heap.size ≤ c21 := by assumption
    refine St.tree (fun w' => w'.heap[c17]? = some (.cells ([.int .i64 0,.slice (some ⟨svb,0,none⟩) i svc,iv,bv,.slice la 0 lc,.pointer (some ⟨cM',0,none⟩)]).toArray 54 (0,0)) ∧ w'.heap[c21]? = some (.cells #[.int .u32 rr,.int .u32 rv] 124 (0,0))) mixed (fun _ h' => ⟨Hp.drew h',(Hp.drew h').own.at (.tail _ (.tail _ (.head _))),(Hp.drew h').own.at (.head _)⟩) ?_
    have hset : LSet ((stas (staL l j k)).flatten ++ Jv) (0 + (j : Int).toNat * 35 + 3 + (bits .and .u32 rr 31).toNat * 1) (.int .u32 rv) ((stas (staL l j (k + 1))).flatten ++ Jv) := by
     have hlj : j < l.length := by omega
     have hok : ∀ y ∈ stas (staL l j k),y.length = 35 := by
      intro y hy
      obtain ⟨z,hz,rfl⟩ := List.mem_map.1 hy
      obtain ⟨q,hq,rfl⟩ := List.mem_map.1 hz
      show (_ :: _ :: _ :: _ : List Value).length = 35
      have hr : ∀ q' k',(regsF xz (ldD l q').regs k').length = 32 := fun q' k' => by
       have hR : ∀ k',(regsF xz (ldD l q').regs k').length = xz.length := fun k' => by
        induction k' with
        | zero => rfl
        | succ k' ih => unfold regsF;split;rw [List.length_set,ih];exact ih
       exact hR k'
      simp only [List.length_cons]
      split
      ·rw [hr]
      ·split
       ·rw [hr]
       ·rfl
     have hat : (stas (staL l j k))[j]? = some (Sta.cells ⟨0,0,biasI j,regsF xz (ldD l j).regs k⟩) := by
      have h := stas_at (staL_at l (j := j) (k := k) hlj)
      rw [if_neg ky,if_pos rfl] at h
      exact h
     rw [← staL_set l hlj,Int.toNat_natCast,Nat.zero_add,Nat.mul_one,Nat.add_assoc]
     have hcs : (Sta.cells ⟨0,0,biasI j,regsF xz (ldD l j).regs k⟩).set (3 + (bits .and .u32 rr 31).toNat) (.int .u32 rv) = Sta.cells ⟨0,0,biasI j,regsF xz (ldD l j).regs (k + 1)⟩ := by
      have e : regsF xz (ldD l j).regs (k + 1) = (regsF xz (ldD l j).regs k).set (bits .and .u32 rr 31).toNat (.int .u32 rv) := by
       conv => lhs;unfold regsF
       rw [hgr]
       exact if_pos hb
      rw [e,Nat.add_comm 3]
      rfl
     have h := LSet.flat (J := Jv) (v := .int .u32 rv) (q := 3 + (bits .and .u32 rr 31).toNat) hok hat ky
     rw [hcs] at h
     exact h
    refine Mt.pz 0 ?_
    refine Mt.pm 2 ?_
    refine Mt.pu 3 ?_
    repeat' first | (refine Wl.indexArr rfl rfl rfl ?_ ?_;constructor <;> omega) | apply Wl.nilB
    refine Mt.pu 6 ?_
    repeat' first | (refine Wl.indexArr rfl rfl rfl ?_ ?_;constructor <;> omega) | apply Wl.nilB
    refine Mt.pu 1 ?_
    repeat' first | (apply Wl.loadF;exact rfl;exact rfl;(intro w' h';first | exact cell_of h'.1 rfl | exact cell_of h'.2 rfl)) | apply Wl.nilB
    refine Mt.pu 4 ?_
    repeat' first | (apply Wl.loadF;exact rfl;exact rfl;(intro w' h';first | exact cell_of h'.1 rfl | exact cell_of h'.2 rfl)) | apply Wl.nilB
    refine Mt.pu 7 ?_
    repeat' first | (apply Wl.loadF;exact rfl;exact rfl;(intro w' h';first | exact cell_of h'.1 rfl | exact cell_of h'.2 rfl)) | apply Wl.nilB
    refine Mt.pu 5 ?_
    refine Wl.and rfl rfl rfl (Wl.nilB ?_)
    refine Mt.pu 8 ?_
    repeat' first | (refine Wl.indexAddr rfl rfl rfl ?_ ?_;constructor <;> omega) | apply Wl.nilB
    refine Mt.pu 9 ?_
    refine Wl.fieldAddr rfl rfl (Wl.nilB ?_)
    refine Mt.pu 10 ?_
    repeat' first | (refine Wl.indexArr rfl rfl rfl ?_ ?_;constructor <;> omega) | apply Wl.nilB
    refine Mt.eff1 (i := 11) kg zd ?_
    apply Wl.store
    ·exact rfl
    ·exact rfl
    ·exact rfl
    ·repeat constructor
    ·exact hset
    repeat' first | apply Wl.nil
    refine Mt.backE (fun _ h' => ⟨h'.own.at (.tail _ (.tail _ (.head _))),h'.own.at (.head _)⟩) ?_
    refine Mt.toGt kg ?_
    repeat' first | refine Wl.move rfl rfl ?_ | (refine Wl.addI rfl rfl rfl ?_ ?_;constructor <;> omega) | apply Wl.nil | apply St.region | apply Gt.next | apply Gt.inNormal
    refine Gt.reb (H' := [⟨svb,(stas (staL l j (k + 1))).flatten ++ Jv,44⟩,⟨c17,[.int .i64 0,.slice (some ⟨svb,0,none⟩) i svc,iv,bv,.slice la 0 lc,.pointer (some ⟨cM',0,none⟩)],54⟩]) fun w8 h8 => ⟨⟨h8.own.at (.tail _ (.head _)),h8.own.at (.tail _ (.tail _ (.head _))),trivial⟩,⟨⟨fun e => nsv e.symm,trivial⟩,trivial,trivial⟩,?_⟩
    refine Gt.round (k + 1,w8) ⟨by simp only;omega,hreb hc21 h8,trivial⟩ qf kv (fun _ h => h)
   ·have hdb : decide (bits .and .u32 rr 31 > 0) = false := decide_eq_false hb
    have hsk : staL l j (k + 1) = staL l j k := by
     unfold staL
     refine List.map_congr_left fun q hq => ?_
     by_cases e : q = j
     ·subst e
      rw [if_pos rfl,if_pos rfl]
      have e : regsF xz (ldD l q).regs (k + 1) = regsF xz (ldD l q).regs k := by
       conv => lhs;unfold regsF
       rw [hgr]
       exact if_neg hb
      rw [e]
     ·rw [if_neg e,if_neg e]
    repeat' first | (apply Wl.loadAB (xs := [Value.int .u32 rr,.int .u32 rv]);exact rfl;exact rfl;(intro j v hj;exact hrc j v hj);exact kj;exact rfl) | (apply Wl.storeA (xs := [Value.int .u32 rr,.int .u32 rv]);exact rfl;exact rfl;exact rfl;exact rfl;exact ke;exact .z (LOver.whole rfl)) | refine Wl.move rfl rfl ?_ | (apply Wl.loadH;exact rfl;exact rfl;exact ke;exact rfl) | refine Wl.lss rfl rfl rfl ?_ | refine Wl.gtr rfl rfl rfl ?_ | (refine Wl.addI rfl rfl rfl ?_ ?_;constructor <;> omega) | refine Wl.and rfl rfl rfl ?_ | (apply Wl.alloc;exact rfl;intro c hc ho) | (refine Wl.indexAddr rfl rfl rfl ?_ ?_;constructor <;> omega) | (refine Wl.indexArr rfl rfl rfl ?_ ?_;constructor <;> omega) | apply Wl.nil | apply St.seq | apply St.block | apply St.region | (apply St.condT;exact rfl;exact ka) | (apply St.condF;exact rfl;exact ka) | apply St.skip | apply Gt.next | apply Gt.inNormal
    generalize c = c21 at *
    have hc21 : w7.heap.size ≤ c21 := by assumption
    refine Gt.reb (H' := [⟨svb,(stas (staL l j k)).flatten ++ Jv,44⟩,⟨c17,[.int .i64 0,.slice (some ⟨svb,0,none⟩) i svc,iv,bv,.slice la 0 lc,.pointer (some ⟨cM',0,none⟩)],54⟩]) fun w8 h8 => ⟨⟨h8.own.at (.tail _ (.head _)),h8.own.at (.tail _ (.tail _ (.head _))),trivial⟩,⟨⟨fun e => nsv e.symm,trivial⟩,trivial,trivial⟩,?_⟩
    refine Gt.round (k + 1,w8) ⟨by simp only;omega,hreb hc21 h8,trivial⟩ qf kv (fun _ h => by simp only [hsk];exact h)
  obtain rfl : k = x.regs.length := by omega
  have hdk : decide ((x.regs.length : Int) < (x.regs.length : Int)) = false := decide_eq_false ky
  repeat' first | refine Wl.move rfl rfl ?_ | refine Wl.lss rfl rfl rfl ?_ | (refine Wl.addI rfl rfl rfl ?_ ?_;constructor <;> omega) | apply Wl.nil | apply St.seq | apply St.region | (apply St.condF;exact rfl;exact ka) | apply St.exit | apply Gt.next | apply Gt.thenExit | apply Gt.inNormal | apply Gt.inExit
  refine Gt.reb (H' := [⟨svb,(stas (staL l j x.regs.length)).flatten ++ Jv,44⟩,⟨c17,[.int .i64 0,.slice (some ⟨svb,0,none⟩) i svc,iv,bv,.slice la 0 lc,.pointer (some ⟨cM',0,none⟩)],54⟩]) fun w8 h8 => ⟨⟨h8.own.at (.head _),h8.own.at (.tail _ (.head _)),trivial⟩,⟨⟨fun e => nsv e.symm,trivial⟩,trivial,trivial⟩,?_⟩
  have hnx := staL_next l j
  rw [hgx] at hnx
  refine Gt.round (j + 1,w8) ⟨by simp only;omega,Hp.on2 h8 hu7 (.inl rfl) (.inr (.inl rfl)),trivial⟩ qf kv (fun _ h => by simp only [← hnx];exact h)
 obtain rfl : j = i := by omega
 have hdj : decide ((j : Int) < (j : Int)) = false := decide_eq_false ky
 have hSl : (staL l j 0) = (List.range l.length).map (staB l) := by rw [← hl];exact staL_end l
 have hlL : (staL l j 0).length = j := by rw [staL_len,hl]
 have nM : MonF I ⟨.slice (some ⟨pb,0,none⟩) j pcap,.slice (some ⟨g6,0,none⟩) j cap6,.slice none 0 0,.slice none 0 0,0,[],newL biasI j,0,fun _ => [],[],0,List.replicate j [],loadF l j,xz,0,cf0⟩ svb → False := fun h => by
  have := (hM2.lt svb h).2
  have h3 := hsvg
  omega
 have hStaX : ∀ x ∈ staL l j 0,StaOk x ∧ StaV x ∧ x.s = 0 ∧ x.c = 0 ∧ x.xs[0]? = some (.int .u32 0) := by
  intro x hx
  rw [hSl] at hx
  obtain ⟨q,hq,rfl⟩ := List.mem_map.1 hx
  have hq' := List.mem_range.1 hq
  obtain ⟨y,hy⟩ : ∃ y,l[q]? = some y := ⟨_,List.getElem?_eq_getElem hq'⟩
  have hgy : ldD l q = y := by unfold ldD;rw [List.getD_eq_getElem?_getD,hy];rfl
  obtain ⟨b,o,_,v0,v1,v3,_,hV⟩ := hL q y hy
  have hrg : Rg (regsF xz (ldD l q).regs (ldD l q).regs.length) := regsF_rg xz_rg _ (fun r hr => by
   rw [hgy] at hr
   obtain ⟨k,hk⟩ := List.mem_iff_getElem?.1 hr
   obtain ⟨xa,xc,_,hxr⟩ := hV.regs
   obtain ⟨_,_,_,_,_,h⟩ := hxr k r hk
   exact h) _
  have h0 : (regsF xz (ldD l q).regs (ldD l q).regs.length)[0]? = some (.int .u32 0) := regsF_0 rfl _ _
  exact ⟨⟨hrg,⟨by show (0 : Int) ≤ 0;decide,by show (0 : Int) < 4294967296;decide⟩,by show 0 ≤ biasI q ∧ biasI q < 4294967296;unfold biasI;omega⟩,⟨⟨by show (0 : Int) ≤ 0;decide,by show (0 : Int) ≤ 2;decide⟩,h0,fun _ => rfl⟩,rfl,rfl,h0⟩
 have hall : ∀ x ∈ staL l j 0,StaOk x ∧ StaV x := fun x hx => ⟨(hStaX x hx).1,(hStaX x hx).2.1⟩
 have hany : anyR (staL l j 0) = decide ((0 : Int) ≤ 0) := by
  have h0 : (staL l j 0)[0]? = some _ := List.getElem?_eq_getElem (by rw [hlL];omega)
  unfold anyR
  rw [show decide ((0 : Int) ≤ 0) = true from rfl,List.any_eq_true]
  exact ⟨_,List.mem_of_getElem? h0,decide_eq_true (hStaX _ (List.mem_of_getElem? h0)).2.2.1⟩
 have hM3s : ∀ {w' : World},Hp w5 [⟨svb,(stas (staL l j 0)).flatten ++ Jv,44⟩,⟨c17,[.int .i64 0,.slice (some ⟨svb,0,none⟩) j svc,iv,bv,.slice la 0 lc,.pointer (some ⟨cM',0,none⟩)],54⟩] w' → MonS w' w.heap.size I ⟨.slice (some ⟨pb,0,none⟩) j pcap,.slice (some ⟨g6,0,none⟩) j cap6,.slice none 0 0,.slice none 0 0,0,[],newL biasI j,0,fun _ => [],[],0,List.replicate j [],loadF l j,xz,0,cf0⟩ := fun h' => hM2.upd (S := fun k => w2.heap.size ≤ k) ((u23.comp hu5 (T := fun k => w2.heap.size ≤ k) fun k _ hs => hs.elim id fun h => by omega).comp h'.upd fun k _ hs => hs.elim id fun y => Classical.byContradiction fun hn => y ⟨fun e => by simp only at e;omega,fun e => by simp only at e;omega,trivial⟩) fun b hb => Nat.not_le.2 (hM2.lt b hb).2
 have hOld : ∀ {w' : World},Hp w5 [⟨svb,(stas (staL l j 0)).flatten ++ Jv,44⟩,⟨c17,[.int .i64 0,.slice (some ⟨svb,0,none⟩) j svc,iv,bv,.slice la 0 lc,.pointer (some ⟨cM',0,none⟩)],54⟩] w' → Upd (fun k => k = svb ∨ k = c17 ∨ w3.heap.size ≤ k) w3 w' := fun h' => Hp.on2 h' hu5 (.inl rfl) (.inr (.inl rfl))
 have hSn : ∀ k,k < w3.heap.size → k ≠ svb → ¬ (k = svb ∨ k = c17 ∨ w3.heap.size ≤ k) := fun k h1 h2 h => h.elim h2 fun h => by omega
 repeat' first | (apply Wl.loadAH (xs := [.int .i64 0,.slice (some ⟨svb,0,none⟩) j svc,iv,bv,.slice la 0 lc,.pointer (some ⟨cM',0,none⟩)]);exact rfl;exact rfl;exact ke;exact LSub.whole' rfl) | refine Wl.move rfl rfl ?_ | refine Wl.lss rfl rfl rfl ?_ | apply Wl.nil | apply St.seq | apply St.region | (apply St.condF;exact rfl;exact ka) | apply St.exit | apply Gt.next | apply Gt.thenExit | apply Gt.inExit
 apply Wl.callC
 ·exact rfl
 ·repeat constructor
 intro wq hq
 have zq := hq.upd.size
 have U3q := hOld hq
 have hni : ∀ k,iv.ownBlock = some k → k < w3.heap.size ∧ k ≠ svb := fun k hk => ⟨(hSi.ge k hk).2,fun e => (hSi.heap hk).elim fun _ hg => hne hg hsvh' ze e⟩
 have hnb : ∀ k,bv.ownBlock = some k → k < w3.heap.size ∧ k ≠ svb := fun k hk => ⟨(hSb.ge k hk).2,fun e => (hSb.heap hk).elim fun _ hg => hne hg hsvh' ze e⟩
 have hSiq := ownsRow_upd hSi U3q fun k hk => hSn k (hni k hk).1 (hni k hk).2
 have hSbq := ownsRow_upd hSb U3q fun k hk => hSn k (hnb k hk).1 (hnb k hk).2
 have lcm := lt_of_block hSm
 have hSmq := U3q.heap hSm (hSn _ lcm (hne hSm hsvh' ze))
 have hsvq := hq.own.at (.head _)
 have hsvF : ∀ wz : World,wz.heap[svb]? = some (.cells ((stas (staL l j 0)).flatten ++ Jv).toArray 44 (0,0)) → Sv wz 35 j (.slice (some ⟨svb,0,none⟩) j svc) (stas (staL l j 0)).flatten := fun wz hz => by
  have h0 : Sv w3 35 (newL biasI j).length (.slice (some ⟨svb,0,none⟩) j svc) (stas (newL biasI j)).flatten := Sv.ofOwn hSs
  rw [hLn] at h0
  obtain ⟨k1,k2,k3,k4,k5,k6,k7⟩ := h0
  have hfl : (stas (staL l j 0)).flatten.length = j * 35 := by rw [flat_len (stas_len fun x hx => (hStaX x hx).1)];simp [stas,hlL]
  cases k4
  exact ⟨hfl,_,_,rfl,k5,k6,k7.1,fun _ => ⟨svb,0,rfl,fun q hq => cell_of hz (by rw [Nat.zero_add,List.getElem?_append_left hq];exact List.getElem?_eq_getElem hq)⟩⟩
 have hsvS := hsvF wq hsvq
 refine (mWith0 w.heap.size I _ (staL l j 0) 0 (some ⟨pb,0,none⟩) (some ⟨g6,0,none⟩) la pcap cap6 lc cM' (.slice (some ⟨svb,0,none⟩) j svc) iv bv (List.replicate j []) (loadF l j) wq (hM3s hq) ky (by show Value.slice _ j _ = Value.slice _ (newL biasI j).length _;rw [hLn]) (by show Value.slice _ j _ = Value.slice _ (newL biasI j).length _;rw [hLn])
  (by show Sv wq 35 (newL biasI j).length _ _;rw [hLn];exact hsvS) (by show _ = (newL biasI j).length;rw [hLn];exact hlL) hall (by rw [hlL];omega) hany (fun x _ hx => (hStaX x (List.mem_of_getElem? hx)).2.2.1) (Sv.ofOwn hSiq) (fun s hs => by rw [List.eq_of_mem_replicate hs];decide) (Sv.ofOwn hSbq) hSmq).mono ?_
 rintro e w6 ⟨I',M',rfl,hM6,hMe,u6⟩
 obtain ⟨cf1,hMe'⟩ : ∃ cf1,M' = ⟨.slice (some ⟨pb,0,none⟩) j pcap,.slice (some ⟨g6,0,none⟩) j cap6,.slice none 0 0,.slice none 0 0,0,[],staL l j 0,0,fun _ => [],[],0,List.replicate j [],loadF l j,xz,0,cf1⟩ := ⟨_,hMe⟩
 subst hMe'
 clear hMe
 have hlq7 := hq.own.lt (.tail _ (.head _))
 have hlq8 := hq.own.lt (.head _)
 simp only at hlq7 hlq8
 have hq6 := Hp.restD hq u6 kb
 have z6 := u6.size
 refine ⟨_,_,rfl,hq6,?_⟩
 have hd00' : decide ((0 : Int) ≠ 0) = false := by decide
 repeat' first | refine Wl.move rfl rfl ?_ | refine Wl.assign rfl rfl ?_ | refine Wl.extract rfl rfl rfl ?_ | apply Wl.nil | apply St.seq | apply Gt.next
 have u26 : Upd (fun k => k = svb ∨ k = c17 ∨ w3.heap.size ≤ k) w3 w6 := U3q.comp u6 fun k hk hs => hs.elim id fun h => by omega
 have hrm6 : w6.heap[rm2]? = some (.cells #[.pointer (some ⟨rcw,0,none⟩),.pointer (some ⟨rd,0,none⟩)] 91 (0,0)) := u26.heap (u23.heap hrm2 ky) (hSn _ ky ky)
 have hrlt : rcw < w2.heap.size := by obtain ⟨_,_,k1,_⟩ := hrw;exact lt_of_block k1
 have u2x : ∀ {w' : World},Hp w6 [⟨svb,(stas (staL l j 0)).flatten ++ Jv,44⟩,⟨c17,[.int .i64 0,.slice (some ⟨svb,0,none⟩) j svc,iv,bv,.slice la 0 lc,.pointer (some ⟨cM',0,none⟩)],54⟩] w' → Upd (fun k => w2.heap.size ≤ k) w2 w' := fun h' => Hp.on2 h' (u23.comp u26 fun k _ hs => hs.elim id fun h => by omega) qf qf
 have hrw6 : ∀ {w' : World},Hp w6 [⟨svb,(stas (staL l j 0)).flatten ++ Jv,44⟩,⟨c17,[.int .i64 0,.slice (some ⟨svb,0,none⟩) j svc,iv,bv,.slice la 0 lc,.pointer (some ⟨cM',0,none⟩)],54⟩] w' → RW w' wr.heap.size rcw j := fun h' => hrw.upd (u2x h') ky fun k _ hk => Nat.not_le.2 hk
 have nrm17 : ∀ {w' : World},Hp w6 [⟨svb,(stas (staL l j 0)).flatten ++ Jv,44⟩,⟨c17,[.int .i64 0,.slice (some ⟨svb,0,none⟩) j svc,iv,bv,.slice la 0 lc,.pointer (some ⟨cM',0,none⟩)],54⟩] w' → w'.heap[rm2]? = some (.cells #[.pointer (some ⟨rcw,0,none⟩),.pointer (some ⟨rd,0,none⟩)] 91 (0,0)) := fun h' => (u2x h').heap hrm2 ky
 refine St.tree (fun w' => w'.heap[rm2]? = some (.cells #[.pointer (some ⟨rcw,0,none⟩),.pointer (some ⟨rd,0,none⟩)] 91 (0,0)) ∧ w'.heap[c17]? = some (.cells ([.int .i64 0,.slice (some ⟨svb,0,none⟩) j svc,iv,bv,.slice la 0 lc,.pointer (some ⟨cM',0,none⟩)]).toArray 54 (0,0))) mixed (fun _ h' => ⟨Hp.drew h',nrm17 (Hp.drew h'),(Hp.drew h').own.at (.tail _ (.head _))⟩) ?_
 refine Mt.pm 0 ?_
 refine Mt.pu 1 ?_
 repeat' first | (apply Wl.neqIs;exact rfl;exact rfl;exact rfl;exact kz) | apply Wl.nilB
 refine Mt.pm 2 ?_
 refine Mt.pu 3 ?_
 repeat' first | refine Wl.move rfl rfl ?_ | (apply Wl.on;exact rfl;exact rfl;exact ka) | apply Wl.nilB
 refine Mt.pu 7 ?_
 repeat' first | (apply Wl.on;exact rfl;exact rfl;exact ka) | refine Wl.fieldAddrZ rfl rfl ?_ | apply Wl.nilB
 refine Mt.pu 4 ?_
 repeat' first | (apply Wl.on;exact rfl;exact rfl;exact ka) | refine Wl.nilCheck rfl rfl ?_ | apply Wl.nilB
 refine Mt.pu 8 ?_
 repeat' first | (apply Wl.loadF;exact rfl;exact rfl;(intro w' h';first | exact cell_of h'.1 rfl | exact cell_of h'.2 rfl)) | (apply Wl.on;exact rfl;exact rfl;exact ka) | apply Wl.nilB
 refine Mt.pu 5 ?_
 repeat' first | (apply Wl.on;exact rfl;exact rfl;exact ka) | refine Wl.fieldAddr0 rfl rfl ?_ | apply Wl.nilB
 refine Mt.pu 6 ?_
 repeat' first | (apply Wl.loadF;exact rfl;exact rfl;(intro w' h';first | exact cell_of h'.1 rfl | exact cell_of h'.2 rfl)) | (apply Wl.on;exact rfl;exact rfl;exact ka) | apply Wl.nilB
 refine Mt.eff1 (i := 9) kg zd ?_
 apply Wl.on
 ·exact rfl
 ·exact rfl
 ·first | with_reducible rfl | with_reducible assumption | decide
 apply Wl.callC
 ·exact rfl
 ·repeat constructor
 intro wr9 hr9
 have zr9 := hr9.upd.size
 refine (rwSet wr.heap.size rcw j (.slice (some ⟨svb,0,none⟩) j svc) (staL l j 0) wr9 (hrw6 hr9) ky ky hlL (hsvF wr9 (hr9.own.at (.head _))) (fun k hk e => by cases hk;have e2 : svb = rcw := e;omega) (fun x hx => ⟨(hStaX x hx).1,(hStaX x hx).2.2.1,(hStaX x hx).2.2.2.1,(hStaX x hx).2.2.2.2⟩)).mono ?_
 rintro e w9 ⟨rfl,u9⟩
 have hlr7 := hr9.own.lt (.tail _ (.head _))
 have hlr8 := hr9.own.lt (.head _)
 simp only at hlr7 hlr8
 have hq9 := Hp.restD hr9 u9 kb
 have z9 := u9.size
 have u69 : Upd (fun k => k = svb ∨ k = c17 ∨ k = rcw ∨ wr9.heap.size ≤ k) w6 w9 := (Hp.on2 (S := fun k => k = svb ∨ k = c17 ∨ k = rcw ∨ wr9.heap.size ≤ k) hr9 (Upd.refl _ _) (.inl rfl) (.inr (.inl rfl))).comp u9 fun k _ hs => hs.elim id fun h => .inr (.inr h)
 refine ⟨_,_,rfl,hq9,?_⟩
 repeat' first | apply Wl.nil
 refine Mt.backE (fun w' h' => ⟨(Hp.on2 (S := fun k => k = svb ∨ k = c17 ∨ k = rcw ∨ wr9.heap.size ≤ k) h' u69 (.inl rfl) (.inr (.inl rfl))).heap hrm6 (fun hs => by rcases hs with h | h | h | h <;> omega),h'.own.at (.tail _ (.head _))⟩) ?_
 refine Mt.pu 10 ?_
 repeat' first | (apply Wl.on;exact rfl;exact rfl;exact ka) | (apply Wl.neqIs;exact rfl;exact rfl;exact rfl;exact kz) | apply Wl.nilB
 refine Mt.pu 11 ?_
 repeat' first | (apply Wl.pickF;exact rfl;exact rfl;exact ka;exact rfl) | apply Wl.nilB
 refine Mt.toGt kg ?_
 repeat' first | refine Wl.move rfl rfl ?_ | refine Wl.assign rfl rfl ?_ | (apply Wl.buildS;exact rfl;exact ki;exact kc) | (apply Wl.boxA;exact rfl;exact rfl;intro c hc ho) | apply Wl.nil | apply St.seq | apply St.region | (apply St.condF;exact rfl;exact ka) | apply St.ret | apply St.skip | apply Gt.next | (apply Gt.out1;exact rfl;exact rfl;intro w' hp)
 generalize c = cp at *
 have hcp : w9.heap.size ≤ cp := by assumption
 have u6f : Upd (fun k => k = svb ∨ k = c17 ∨ k = rcw ∨ w6.heap.size ≤ k) w6 w' := Hp.on3 hp (u69.mono fun k _ h => h.imp id fun h => h.imp id fun h => h.imp id fun h => by omega) (.inr (.inr (.inr qf))) (.inl rfl) (.inr (.inl rfl))
 have zf := u6f.size
 have hMf := hM6.upd u6f fun b hb hs => by
  have := hM6.lt b hb
  rcases hs with h | h | h | h <;> omega
 have U0f : Upd (fun k => w0.heap.size ≤ k) w0 w' := (((u01.comp u12 (T := fun k => w0.heap.size ≤ k) fun k _ hs => hs.elim id fun h => by omega).comp u23 (T := fun k => w0.heap.size ≤ k) fun k _ hs => hs.elim id fun h => by omega).comp u26 (T := fun k => w0.heap.size ≤ k) fun k _ hs => hs.elim id fun h => by omega).comp u6f fun k _ hs => hs.elim id fun h => by omega
 have Uf : Upd (fun k => w.heap.size ≤ k) w w' := B0.up.comp U0f fun k _ hs => hs.elim id fun h => by omega
 have lpb := lt_of_block B0.pay
 have lg6 := lt_of_block hb6
 rw [hSl] at hMf
 subst hl
 refine ⟨cp,wq.heap.size,I',_,_,cf1,_,rfl,hp.own.at (.head _),hMf,?_,⟨by omega,by omega⟩,by omega,Uf⟩
 intro Su w'' us hsu hs0
 exact {
  pay := ⟨pb,0,pcap,rfl,by omega,fun q hq => ⟨gs q,0,3,by have := lt_of_block (B0.gr q hq).2;omega,fun r v hv => by
    have hr : r < 36 := by
     have := (List.getElem?_eq_some_iff.1 hv).1
     simp only [List.length_append,byteCells_length] at this
     rw [show ((begE l).dg q).length = 32 from dgL_len q] at this
     exact this
    have hf := flat_get (payRs_len gs (caF l l.length) l.length) (payRs_at gs (caF l l.length) hq) hr
    have hv' : (payX q (gs q) (caF l l.length q))[r]? = some v := hv
    rw [hv'] at hf
    rw [Nat.zero_add]
    exact us.cell (U0f.cell (cell_of B0.pay (by rw [List.getElem?_append_left (List.getElem?_eq_some_iff.1 hf).1];exact hf)) (by show ¬ w0.heap.size ≤ pb;omega)) (hsu pb B0.ge.1 ky),
   fun k hk => grF (us.heap (U0f.heap (B0.gr q hq).2 (by have := lt_of_block (B0.gr q hq).2;omega)) (hsu _ (B0.gr q hq).1 (by have := lt_of_block (B0.gr q hq).2;omega))) k hk⟩⟩
  ent := ⟨g6,0,cap6,rfl,by omega,fun q hq => ⟨eb q,0,ec q,by
    refine us.cell (U0f.cell (cell_of hb6 ?_) (by show ¬ w0.heap.size ≤ g6;omega)) (hsu g6 hg6 ky)
    rw [Nat.zero_add,List.getElem?_append_left (by simp;exact hq)]
    simp [hq]
    rfl,by obtain ⟨cs,h,_⟩ := (B0.enx q hq).2;have := lt_of_block h;omega,fun r hr => by
    obtain ⟨h1,cs,h2,h3⟩ := B0.enx q hq
    have hn : ¬ w0.heap.size ≤ eb q := by have := lt_of_block h2;omega
    obtain ⟨b,o,e,c1,c2,c3⟩ := h3 r hr
    cases e
    have hx := hsu (eb q) h1 (by have := lt_of_block h2;omega)
    exact ⟨_,_,rfl,us.cell (U0f.cell c1 hn) hx,us.cell (U0f.cell c2 hn) hx,us.cell (U0f.cell c3 hn) hx⟩⟩⟩
  tab := (hT.upd Uf ky).upd us hs0
  pos := by omega
  ok := {
   dg := fun q _ => dgL_len q
   ca := fun q _ => caF_rng l _ q
   gn := fun q _ => by show 3 ≤ 4;decide
   g := fun q k hq hk => by
    obtain ⟨o1,o2,o3,o4,o5,o6,o7⟩ := gr3_ok (i := q) ky (k := k) hk
    show (0 ≤ (gr3 (biasI q) k).1 ∧ (gr3 (biasI q) k).1 < 4294967296) ∧ (0 ≤ (gr3 (biasI q) k).2.1 ∧ (gr3 (biasI q) k).2.1 < 4294967296) ∧ (0 ≤ (gr3 (biasI q) k).2.2 ∧ (gr3 (biasI q) k).2.2 < 8)
    omega
   m := fun q _ => by show 4 ≤ 16;decide } }
theorem begin26 (a : Option Addr) (n cl : Nat) (l : List LoadD) (w : World) (hl : l.length = n) (hn : 1 ≤ n ∧ n ≤ 3) (hL : LoadsF w a l) (hT : tabOk w) :
  Calls Tryz.prog 15 #[.slice a n cl] w fun e w' => ∃ p base I pv ev cf rv,e = .returned (.pointer (some ⟨p,0,none⟩)) ∧ w'.heap[p]? = some (.cells #[.pointer (some ⟨I.m,0,none⟩),rv] 39 (0,0)) ∧ MonS w' base I ((begP l).mv pv ev (.slice none 0 0) (.slice none 0 0) [] xz 0 cf) ∧
   EnvS w' base n pv ev (begE l) ∧ (w.heap.size ≤ base ∧ base ≤ w'.heap.size) ∧ w.heap.size ≤ p ∧ Upd (fun k => w.heap.size ≤ k) w w' :=
 (begin26F a n cl l w hl hn hL hT).mono fun e w' h => by
  obtain ⟨p,base,I,pv,ev,cf,rv,h1,h2,h3,h4,h5⟩ := h
  exact ⟨p,base,I,pv,ev,cf,rv,h1,h2,h3,h4 (fun _ => False) w' (Upd.refl _ _) (fun _ _ _ h => h) (fun h => h),h5⟩
end Go.Proofs.YtabbklpalbikdaaGreatDoor
end
section
namespace Go.Proofs.YtabbklpalbikdaaGreatDoor
open Go.RowKit Go.Pt
theorem mTurn (base : Nat) (I : Mi) (M : Mv2) (w : World) (hM : MonS w base I M) :
  Calls Tryz.prog 22 #[.pointer (some ⟨I.m,0,none⟩)] w fun e w' => e = .returned (.int .i64 (turnV M.t)) ∧ Hp w [] w' := by
 have q2 : w.cell? ⟨I.m,2,none⟩ = some (.pointer (some ⟨I.wd,0,none⟩)) := cell_of hM.mm rfl
 have hTn := fun wq (k : WardS wq I.wd I.sa M.L M.t) => wTurn I.wd I.sa M.L M.t wq k
 change ∀ wq,WardS wq I.wd I.sa M.L M.t → Calls Tryz.prog 58 #[.pointer (some ⟨I.wd,0,none⟩)] wq (fun e w' => e = .returned (.int .i64 (turnV M.t)) ∧ Hp wq [] w') at hTn
 refine enter (args := [_]) (Γ := [(0,_)]) Tryz.func22 Tryz.ntmps22 rfl (of_decide_eq_true rfl) (.cons rfl .nil) ?_
 repeat' first | (apply Wl.loadO;exact rfl;exact rfl;exact zu;exact kj) | refine Wl.move rfl rfl ?_ | refine Wl.assign rfl rfl ?_ | refine Wl.nilCheck rfl rfl ?_ | refine Wl.fieldAddrZ rfl rfl ?_ | refine Wl.eqlPN rfl rfl rfl ?_ | apply Wl.nil | apply St.seq | apply St.region | (apply St.condF;exact rfl;exact ka) | apply St.skip | apply Gt.next
 apply Wl.callQ
 exact rfl
 (focus repeat constructor)
 ·intro wq hq
  exact hq.q (hTn wq (hM.ward.upd hq.upd (fun y => y trivial) (fun y => y trivial)))
 repeat' first | refine Wl.assign rfl rfl ?_ | apply Wl.nil | apply St.ret | apply Gt.next | (apply Gt.out1;exact rfl;exact rfl;intro w' hp)
 exact ⟨rfl,hp⟩
theorem mStatus (base : Nat) (I : Mi) (M : Mv2) (i : Nat) (x : Sta) (w : World) (hM : MonS w base I M) (hx : M.L[i]? = some x) :
  Calls Tryz.prog 18 #[.pointer (some ⟨I.m,0,none⟩),.int .i64 (i : Int)] w fun e w' => e = .returned (.agg x.cells.toArray) ∧ Hp w [] w' := by
 have q2 : w.cell? ⟨I.m,2,none⟩ = some (.pointer (some ⟨I.wd,0,none⟩)) := cell_of hM.mm rfl
 have lm := lt_of_block hM.mm
 have hxo : StaOk x := hM.ward.2.1 x (List.mem_of_getElem? hx)
 have hxl : x.cells.length = 35 := hxo.len
 have hx1 := hxo.one
 refine enter (args := [_,_]) (Γ := [(0,_),(1,_)]) Tryz.func18 Tryz.ntmps18 rfl (of_decide_eq_true rfl) (.cons rfl (.cons rfl .nil)) ?_
 repeat' first | (apply Wl.loadO;exact rfl;exact rfl;exact zu;exact kj) | refine Wl.move rfl rfl ?_ | refine Wl.nilCheck rfl rfl ?_ | refine Wl.fieldAddrZ rfl rfl ?_ | refine Wl.eqlPN rfl rfl rfl ?_ | (apply Wl.alloc;exact rfl;intro c hc ho) | apply Wl.nil | apply St.seq | apply St.region | (apply St.condF;exact rfl;exact ka) | apply St.skip | apply Gt.next
 apply Wl.callQ
 exact rfl
 (focus repeat constructor)
 ·intro wq hq
  exact hq.q (wStatus I.wd I.sa M.L M.t i x wq (hM.hp hq qs).ward hx)
 repeat' first | (apply Wl.storeA (xs := x.cells);exact rfl;exact rfl;exact hxl;exact hx1;exact ke;exact .z (LOver.whole (by rw [hxl];rfl))) | (apply Gt.outC' (xs := x.cells);exact rfl;infer_instance;exact rfl;(exact .head _);exact LSub.whole' hxl;intro w' hp) | apply Wl.nil | apply St.ret | apply Gt.next
 exact ⟨rfl,hp.drop zy⟩
def stepsN (n : Int) : Int := ((n.tmod 60 + 60).tmod 60) + 1
theorem stepsN_rng (n : Int) : 1 ≤ stepsN n ∧ stepsN n ≤ 60 := by
 unfold stepsN
 have h1 : -60 < n.tmod 60 ∧ n.tmod 60 < 60 := by
  have := Int.tmod_lt_of_pos n (b := 60) ze
  have := Int.lt_tmod_of_pos n (b := 60) ze
  omega
 have h2 : 0 ≤ (n.tmod 60 + 60).tmod 60 := Int.tmod_nonneg _ ky
 have h3 := Int.tmod_lt_of_pos (n.tmod 60 + 60) (b := 60) ze
 omega
theorem stepsX (n : Int) (w : World) : Calls Tryz.prog 17 #[.int .i64 n] w fun e w' => e = .returned (.int .i64 (stepsN n)) ∧ Hp w [] w' := by
 have h1 : -60 < n.tmod 60 ∧ n.tmod 60 < 60 := by
  have := Int.tmod_lt_of_pos n (b := 60) ze
  have := Int.lt_tmod_of_pos n (b := 60) ze
  omega
 have h2 : 0 ≤ (n.tmod 60 + 60).tmod 60 := Int.tmod_nonneg _ ky
 have h3 := Int.tmod_lt_of_pos (n.tmod 60 + 60) (b := 60) ze
 refine enter (args := [_]) (Γ := [(0,_)]) Tryz.func17 Tryz.ntmps17 rfl (of_decide_eq_true rfl) (.cons rfl .nil) ?_
 repeat' first | refine Wl.move rfl rfl ?_ | refine Wl.assign rfl rfl ?_ | (refine Wl.addI rfl rfl rfl ?_ ?_;constructor <;> omega) | (apply Wl.rem;exact rfl;exact rfl;exact rfl;exact qv) | apply Wl.nil | apply St.seq | apply St.region | apply St.ret | apply Gt.next | (apply Gt.out1;exact rfl;exact rfl;intro w' hp)
 exact ⟨rfl,hp⟩
end Go.Proofs.YtabbklpalbikdaaGreatDoor
end
section
namespace Go.Proofs.YtabbklpalbikdaaGreatDoor
open Go.RowKit Go.Pt
def ldF : LoadD := ⟨[2195,115],[],255,[]⟩
set_option maxRecDepth 100000 in
theorem fitLen : (runO (begE [ldF]) (begP [ldF]) 0 (staB [ldF] 0) 10).tr.length = 2 := by decide +kernel
set_option maxRecDepth 100000 in
theorem fitWhy : (runO (begE [ldF]) (begP [ldF]) 0 (staB [ldF] 0) 10).why = 3 := by decide +kernel
def cfB (i : Nat) : List Value := protC 4 (en4 (biasI i)) F0.cf 16
theorem cfOf_beg (l : List LoadD) (i : Nat) : cfOf (begE l) i = cfB i := rfl
end Go.Proofs.YtabbklpalbikdaaGreatDoor
end
section
namespace Go.Proofs.YtabbklpalbikdaaGreatDoor
open Go.RowKit Go.Pt
theorem FB0 : FB (fun _ => 0) := fun _ => ⟨by show (0 : Int) ≤ 0;decide,by show (0 : Int) < 256;decide⟩
theorem codeF_FB {f : Nat → Int} (h : FB f) (o : Nat) (l : List Int) : ∀ k,FB (codeF f o l k)
 | 0 => h
 | k + 1 => storeX_FB (codeF_FB h o l k) _ _ _
theorem loadF_FB (l : List LoadD) : ∀ i,FB (loadF l i)
 | 0 => FB0
 | i + 1 => putF_FB (codeF_FB (loadF_FB l i) _ _ _) _ _
theorem begP_ok (l : List LoadD) : DOk (begP l).D (begP l).L.length := by
 have hl : (begP l).L.length = l.length := by simp [begP]
 rw [hl]
 exact ⟨loadF_FB l _,fun _ => ⟨by show 0 ≤ 4;decide,fun x hx => by cases hx⟩,⟨by show (0 : Int) ≤ 0;decide,by show (0 : Int) ≤ 256;decide⟩,by show (0 : Int) ≤ 0;decide,by simp [begP],fun s hs => by rw [List.eq_of_mem_replicate hs];decide⟩
theorem LoadV.two {w : World} {g : Nat} {x : LoadD} (hx : x.data = [] ∧ x.regs = [] ∧ x.calls = 255) {a b : Int} (hc : x.code = [a,b]) (ha : 0 ≤ a ∧ a < 4294967296) (hb : 0 ≤ b ∧ b < 4294967296) (hg : w.heap[g]? = some (.cells #[.int .u32 a,.int .u32 b] 25 (0,0))) : LoadV w x (.slice (some ⟨g,0,none⟩) 2 2) (.slice none 0 0) (.slice none 0 0) where
 code := ⟨some ⟨g,0,none⟩,2,by rw [hc];rfl,fun i y hy => by
  rw [hc] at hy
  refine ⟨g,0,rfl,?_⟩
  match i,hy with
  | 0,hy => cases hy;exact ⟨cell_of hg rfl,ha⟩
  | 1,hy => cases hy;exact ⟨cell_of hg rfl,hb⟩⟩
 data := by rw [hx.1];exact Bs.nil w
 dlt := fun k hk _ => by cases hk
 regs := ⟨none,0,by rw [hx.2.1];rfl,fun i y hy => by rw [hx.2.1] at hy;cases hy⟩
 len := by rw [hc,hx.1,hx.2.1];exact ⟨by show 2 ≤ 1024;decide,by show 0 ≤ 4096;decide,by show 0 ≤ 1500;decide⟩
 cal := by rw [hx.2.2];exact ⟨by decide,by decide⟩
set_option maxRecDepth 100000 in
theorem fitTurn : (endP (begP [ldF]) 0 (staB [ldF] 0) (runO (begE [ldF]) (begP [ldF]) 0 (staB [ldF] 0) 10)).t = -1 := by decide +kernel
theorem fitSta : (endS (runO (begE [ldF]) (begP [ldF]) 0 (staB [ldF] 0) 10) (staB [ldF] 0)).s = 1 := by unfold endS;rw [fitWhy];rfl
set_option maxRecDepth 4000 in
set_option maxHeartbeats 8000000 in
theorem fit26 (w : World) (hT : tabOk w) : Calls Tryz.prog 14 #[] w fun e w' => e = .returned (.bool true) ∧ Upd (fun k => w.heap.size ≤ k) w w' := by
 refine enter (args := []) (Γ := []) Tryz.func14 Tryz.ntmps14 rfl (of_decide_eq_true rfl) .nil ?_
 repeat' first | refine Wl.assign rfl rfl ?_ | (apply Wl.buildS;exact rfl;exact ki;exact kc) | (apply Wl.lit;exact rfl;exact ki;exact rfl;exact rfl;exact kh;intro c hc ho) | apply Wl.nil | apply St.seq | apply St.region | apply Gt.next
 apply Wl.callC
 ·exact rfl
 ·repeat constructor
 intro wq hq
 have zq := hq.upd.size
 rename_i g hg og
 generalize c = c2 at *
 have hc2 : w.heap.size ≤ c2 := by assumption
 have hu0 : Upd (fun k => w.heap.size ≤ k) w wq := Hp.on2 hq (Upd.refl _ _) qf qf
 refine (begin26 (some ⟨c2,0,none⟩) 1 1 [ldF] wq rfl ze (fun i x hx => by
  match i,hx with
  | 0,hx =>
   cases hx
   exact ⟨c2,0,rfl,.slice (some ⟨g,0,none⟩) 2 2,.slice none 0 0,.slice none 0 0,fun q v hv => cell_of (hq.own.at (.head _)) (by rw [Nat.zero_mul,Nat.add_zero,Nat.zero_add];exact hv),LoadV.two ⟨rfl,rfl,rfl⟩ rfl ze ze (hq.own.at (.tail _ (.head _)))⟩) (hT.upd hu0 (Nat.not_le.2 hT.lt))).mono ?_
 rintro e w1 ⟨p,base,I,pv,ev,cf,rv,rfl,hp1,hM1,hE1,hb1,hpg,u1⟩
 have U1 : Upd (fun k => w.heap.size ≤ k) w w1 := hu0.comp u1 fun k _ hs => hs.elim id fun h => by omega
 have q0 : w1.cell? ⟨p,0,none⟩ = some (.pointer (some ⟨I.m,0,none⟩)) := cell_of hp1 rfl
 refine ⟨_,_,rfl,Hp.start w1,?_⟩
 clear hq
 repeat' first | (apply Wl.loadO;exact rfl;exact rfl;exact zu;exact kj) | refine Wl.move rfl rfl ?_ | refine Wl.assign rfl rfl ?_ | refine Wl.nilCheck rfl rfl ?_ | refine Wl.fieldAddr0 rfl rfl ?_ | refine Wl.eqlPN rfl rfl rfl ?_ | apply Wl.nil | apply St.seq | apply St.region | (apply St.condF;exact rfl;exact ka) | apply St.skip | apply Gt.next
 apply Wl.callC
 ·exact rfl
 ·repeat constructor
 intro wq hq
 have hMq := hM1.upd hq.upd fun b hb y => y trivial
 refine (mRun base I (begP [ldF]) pv ev (.slice none 0 0) (.slice none 0 0) [] xz 0 cf (begE [ldF]) 10 0 (staB [ldF] 0) wq hMq (by have := hq.upd.size;omega) (hE1.upd (hq.upd.mono fun _ _ y => (y trivial).elim)) (begP_ok [ldF]) rfl rfl ze).mono ?_
 rintro e w2 ⟨rfl,lv',seen',xs',pc',cf',hM2,_,u2,_,_⟩
 rw [show evV 0 (runO (begE [ldF]) (begP [ldF]) 0 (staB [ldF] 0) 10) = .agg #[.int .i64 0,.int .i64 2,.int .i64 3] by unfold evV;rw [fitLen,fitWhy];rfl]
 have u12 : Upd (fun k => base ≤ k) w1 w2 := (hq.upd.mono fun _ _ y => (y trivial).elim).comp u2 fun k _ hs => hs.elim id fun h => h.elim (fun h => (hMq.lt k h).1) fun h => by have := hq.upd.size;omega
 have U2 : Upd (fun k => w.heap.size ≤ k) w w2 := U1.comp u12 fun k _ hs => hs.elim id fun h => by omega
 have hp2 : w2.heap[p]? = some (.cells #[.pointer (some ⟨I.m,0,none⟩),rv] 39 (0,0)) := by
  have hoff := hMq.offF (hq.upd.heap hp1 fun y => y trivial) ze
  exact u2.heap (hq.upd.heap hp1 fun y => y trivial) fun h => h.elim (fun h => hoff p h rfl) fun h => absurd (lt_of_block (hq.upd.heap hp1 fun y => y trivial)) (Nat.not_lt.2 h)
 have q2 : w2.cell? ⟨p,0,none⟩ = some (.pointer (some ⟨I.m,0,none⟩)) := cell_of hp2 rfl
 have lp2 := lt_of_block hp2
 refine ⟨_,_,rfl,Hp.start w2,?_⟩
 clear hq
 have htv : turnV (endP (begP [ldF]) 0 (staB [ldF] 0) (runO (begE [ldF]) (begP [ldF]) 0 (staB [ldF] 0) 10)).t = -1 := by rw [fitTurn];rfl
 have hs1 := fitSta
 generalize hR : runO (begE [ldF]) (begP [ldF]) 0 (staB [ldF] 0) 10 = R at *
 repeat' first | (apply Wl.loadO;exact rfl;exact rfl;exact zu;exact kj) | (apply Wl.eqlG (la := [Lit.int .i64 0,Lit.int .i64 2,Lit.int .i64 3]) (lb := [Lit.int .i64 0,Lit.int .i64 2,Lit.int .i64 3]);exact rfl;exact rfl;exact rfl;(kernel_rfl);(kernel_rfl);(kernel_rfl);(kernel_rfl);(kernel_rfl);(kernel_rfl);exact (⟨fun _ => rfl,fun _ => rfl⟩ : true = true ↔ _ = _)) | refine Wl.move rfl rfl ?_ | (apply Wl.on;exact rfl;exact rfl;exact ka) | refine Wl.nilCheck rfl rfl ?_ | refine Wl.fieldAddr0 rfl rfl ?_ | (apply Wl.storeA;exact rfl;exact rfl;exact rfl;exact rfl;exact ke;exact kf) | (apply Wl.loadAH;exact rfl;exact rfl;exact ke;exact ke) | (apply Wl.buildS;exact rfl;exact ki;exact kc) | (apply Wl.alloc;exact rfl;intro c hc ho) | apply Wl.nil | apply St.seq | apply St.region | apply Gt.next
 apply Wl.callQ
 exact rfl
 (focus repeat constructor)
 ·intro wq hq
  exact hq.q (mTurn base I _ wq (hM2.hp hq qs))
 have hdt : decide (turnV ((endP (begP [ldF]) 0 (staB [ldF] 0) R).mv pv ev lv' seen' R.tr xs' pc' cf').t = -1) = true := decide_eq_true htv
 repeat' first | (apply Wl.loadO;exact rfl;exact rfl;exact zu;exact kj) | refine Wl.move rfl rfl ?_ | (apply Wl.on;exact rfl;exact rfl;exact ka) | refine Wl.nilCheck rfl rfl ?_ | (apply Wl.pickT;exact rfl;exact rfl;exact ka;exact rfl) | refine Wl.fieldAddr0 rfl rfl ?_ | refine Wl.eql rfl rfl rfl ?_
 apply Wl.callQ
 exact rfl
 (focus repeat constructor)
 ·intro wq hq
  exact hq.q (mStatus base I _ 0 (endS R (staB [ldF] 0)) wq (hM2.hp hq qs) rfl)
 have hds : decide ((endS R (staB [ldF] 0)).s = 1) = true := decide_eq_true hs1
 repeat' first | (apply Wl.fieldV (v := .int .i64 (endS R (staB [ldF] 0)).s);exact rfl;exact rfl;exact rfl) | refine Wl.assign rfl rfl ?_ | (apply Wl.on;exact rfl;exact rfl;exact ka) | (apply Wl.pickT;exact rfl;exact rfl;exact ka;exact rfl) | (apply Wl.eqlIs;exact rfl;exact rfl;exact rfl;exact kz) | apply Wl.nil | apply St.ret | apply Gt.next | (apply Gt.out1;exact rfl;exact rfl;intro w' hp)
 have zw2 := U2.size
 exact ⟨rfl,Hp.on1 hp U2 qf⟩
end Go.Proofs.YtabbklpalbikdaaGreatDoor
end
section
namespace Go.Proofs.YtabbklpalbikdaaGreatDoor
open Go.RowKit Go.Pt
theorem mMemory (base : Nat) (I : Mi) (M : Mv2) (w : World) (hM : MonS w base I M) :
  Calls Tryz.prog 23 #[.pointer (some ⟨I.m,0,none⟩)] w fun e w' => ∃ d,e = .returned (.pointer (some ⟨d,0,none⟩)) ∧ w.heap.size ≤ d ∧ memH w' d M.f ∧ Upd (fun k => w.heap.size ≤ k) w w' := by
 have q1 : w.cell? ⟨I.m,1,none⟩ = some (.pointer (some ⟨I.d,0,none⟩)) := cell_of hM.mm rfl
 have q2 : w.cell? ⟨I.d,2,none⟩ = some (.pointer (some ⟨I.cM,0,none⟩)) := cell_of hM.dd rfl
 refine enter (args := [_]) (Γ := [(0,_)]) Tryz.func23 Tryz.ntmps23 rfl (of_decide_eq_true rfl) (.cons rfl .nil) ?_
 repeat' first | (apply Wl.loadO;exact rfl;exact rfl;exact zu;exact kj) | refine Wl.move rfl rfl ?_ | refine Wl.assign rfl rfl ?_ | refine Wl.nilCheck rfl rfl ?_ | refine Wl.fieldAddrZ rfl rfl ?_ | refine Wl.eqlPN rfl rfl rfl ?_ | apply Wl.nil | apply St.seq | apply St.region | (apply St.condF;exact rfl;exact ka) | apply St.skip | apply Gt.next
 apply Wl.callC
 ·exact rfl
 ·repeat constructor
 intro wq hq
 have zq := hq.upd.size
 refine (mcopy I.cM M.f wq (hM.upd hq.upd fun _ _ y => y trivial).mem).mono ?_
 rintro e w1 ⟨d,rfl,hd,hm,u⟩
 refine ⟨_,_,rfl,Hp.start w1,?_⟩
 repeat' first | refine Wl.assign rfl rfl ?_ | apply Wl.nil | apply St.ret | apply Gt.next | (apply Gt.out1;exact rfl;exact rfl;intro w' hp)
 exact ⟨d,rfl,by omega,hp.upd.heap hm fun y => y trivial,(hq.upd.comp u (T := fun k => w.heap.size ≤ k) fun k _ h => h.elim (fun y => (y trivial).elim) fun h => by omega).comp hp.upd fun k _ h => h.elim id fun y => (y trivial).elim⟩
theorem passG_rng (L : List Sta) (t : Nat) : ∀ (f k : Nat),passG L t k f = -1 ∨ ∃ q,q < L.length ∧ passG L t k f = (q : Int) ∧ L[q]?.map Sta.s = some 0
 | 0,_ => .inl rfl
 | f + 1,k => by
  unfold passG
  by_cases h : (L[(t + k) % L.length]?.map Sta.s) = some 0
  ·rw [if_pos h]
   have hlt : (t + k) % L.length < L.length := by
    rcases Nat.eq_zero_or_pos L.length with e | e
    ·rw [List.getElem?_eq_none ky] at h;cases h
    ·exact Nat.mod_lt _ e
   exact .inr ⟨_,hlt,rfl,h⟩
  ·rw [if_neg h];exact passG_rng L t f (k + 1)
theorem passF_rng (L : List Sta) (t : Int) (h : 0 ≤ t) : passF L t = -1 ∨ ∃ q,q < L.length ∧ passF L t = (q : Int) ∧ L[q]?.map Sta.s = some 0 := by
 unfold passF
 rw [if_neg ky]
 exact passG_rng L _ _ _
end Go.Proofs.YtabbklpalbikdaaGreatDoor
end
section
namespace Go.Proofs.YtabbklpalbikdaaGreatDoor
open Go.RowKit Go.Pt
structure StyI (w : World) (base : Nat) (I : Mi) (n : Nat) (pv ev : Value) (p : Nat) (rv : Value) (E : Pays) (w3 : World) (P : PS) (lv seen : Value) (tr : List Rz) (xs : List Value) (pc : Int) (cf : Nat) : Prop where
 mon : MonS w3 base I (P.mv pv ev lv seen tr xs pc cf)
 env : EnvS w3 base n pv ev E
 dok : DOk P.D n
 len : P.L.length = n
 trn : P.t = -1 ∨ ∃ (who : Nat) (x : Sta),P.t = (who : Int) ∧ P.L[who]? = some x
 tl : tr.length ≤ 60
 up : Upd (fun k => w.heap.size ≤ k) w w3
 ge : w.heap.size ≤ base ∧ base ≤ w3.heap.size
 pr : w3.heap[p]? = some (.cells #[.pointer (some ⟨I.m,0,none⟩),rv] 39 (0,0))
theorem StyI.upd {w w3 w4 : World} {base n p cf : Nat} {I : Mi} {pv ev rv lv seen : Value} {E : Pays} {P : PS} {tr : List Rz} {xs : List Value} {pc : Int} {S : Nat → Prop} (k : StyI w base I n pv ev p rv E w3 P lv seen tr xs pc cf) (u : Upd S w3 w4) (hm : ∀ b,MonF I (P.mv pv ev lv seen tr xs pc cf) b → ¬ S b) (hs : ∀ b,S b → base ≤ b) (hp : ¬ S p) : StyI w base I n pv ev p rv E w4 P lv seen tr xs pc cf :=
 ⟨k.mon.upd u hm,k.env.upd (u.mono fun b _ h => hs b h),k.dok,k.len,k.trn,k.tl,k.up.comp u fun b _ h => h.elim id fun h => Nat.le_trans k.ge.1 (hs b h),⟨k.ge.1,Nat.le_trans k.ge.2 u.size⟩,u.heap k.pr hp⟩
theorem StyI.new {w w3 w4 : World} {base n p cf : Nat} {I : Mi} {pv ev rv lv seen : Value} {E : Pays} {P : PS} {tr : List Rz} {xs : List Value} {pc : Int} (k : StyI w base I n pv ev p rv E w3 P lv seen tr xs pc cf) (u : Upd (fun b => w3.heap.size ≤ b) w3 w4) : StyI w base I n pv ev p rv E w4 P lv seen tr xs pc cf :=
 k.upd u (fun b hb => Nat.not_le.2 (k.mon.lt b hb).2) (fun b h => Nat.le_trans k.ge.2 h) (Nat.not_le.2 (lt_of_block k.pr))
theorem runO_len {E : Pays} {P : PS} {k kn : Nat} {x : Sta} : (runO E P k x kn).tr.length ≤ kn := by
 unfold runO
 have := (runF_len (E := E) (n := P.L.length) (who := k) (cf := cfOf E k) kn ⟨x.xs,x.p,P.D⟩ []).2.1
 simpa using this
theorem sty0 {w w3 : World} {base : Nat} {I : Mi} {l : List LoadD} {pv ev : Value} {p cf : Nat} {rv : Value} (hl : 1 ≤ l.length) (hM : MonS w3 base I ((begP l).mv pv ev (.slice none 0 0) (.slice none 0 0) [] xz 0 cf)) (hE : EnvS w3 base l.length pv ev (begE l)) (hb : w.heap.size ≤ base ∧ base ≤ w3.heap.size) (hp : w3.heap[p]? = some (.cells #[.pointer (some ⟨I.m,0,none⟩),rv] 39 (0,0))) (U : Upd (fun k => w.heap.size ≤ k) w w3) :
  StyI w base I l.length pv ev p rv (begE l) w3 (begP l) (.slice none 0 0) (.slice none 0 0) [] xz 0 cf := by
 have hlen : (begP l).L.length = l.length := by simp [begP]
 refine ⟨hM,hE,?_,hlen,.inr ⟨0,_,rfl,List.getElem?_eq_getElem (by rw [hlen];exact hl)⟩,Nat.zero_le _,U,hb,hp⟩
 have := begP_ok l
 rw [hlen] at this
 exact this
end Go.Proofs.YtabbklpalbikdaaGreatDoor
end
section
namespace Go.Proofs.YtabbklpalbikdaaGreatDoor
open Go.RowKit Go.Pt
theorem chkG_in {n : Nat} {en : Nat → Int × Int × Int} {at_ k r : Int} (h : chkG n en at_ k r = true) (h0 : 0 ≤ at_) (hk : at_ + k < 18446744073709551616) {i : Int} (hi : at_ ≤ i ∧ i < at_ + k) : chkG n en i 1 r = true := by
 unfold chkG at h ⊢
 rw [if_neg ky] at h
 rw [if_neg ze]
 have e1 : IntKind.u64.wrap at_ = at_ := by rw [IntKind.wrap_u64];omega
 have e2 : IntKind.u64.wrap k = k := by rw [IntKind.wrap_u64];omega
 have e3 : IntKind.u64.wrap (at_ + k) = at_ + k := by rw [IntKind.wrap_u64];omega
 have e4 : IntKind.u64.wrap i = i := by rw [IntKind.wrap_u64];omega
 have e5 : IntKind.u64.wrap (i + 1) = i + 1 := by rw [IntKind.wrap_u64];omega
 rw [e1,e2,e3] at h
 rw [e4,show IntKind.u64.wrap 1 = 1 by decide,e5]
 exact chkF_part ky ky ky _ _ h
theorem store_in {f : Nat → Int} {a n i : Nat} {x : Int} (h : storeX f a x n i ≠ f i) : a ≤ i ∧ i < a + n := by
 refine Classical.byContradiction fun hn => h (storeX_out ky)
theorem putF_in {f : Nat → Int} {o i : Nat} {l : List UInt8} (h : putF f o l i ≠ f i) : o ≤ i ∧ i < o + l.length := by
 unfold putF at h
 by_cases h1 : o ≤ i
 ·rw [if_pos h1] at h
  cases e : l[i - o]? with
  | none => rw [e] at h;exact absurd rfl h
  | some b =>
   have := (List.getElem?_eq_some_iff.1 e).1
   omega
 ·rw [if_neg h1] at h;exact absurd rfl h
theorem memF_mem {xs : List Value} {pc : Int} {cf : List Value} {f : Nat → Int} {wd o rd at_ b : Int} {i : Nat} (h : (memF xs pc cf f wd o rd at_ b).f i ≠ f i) : mayG cf (2147483648 + (i : Int)) 1 2 = true ∧ i < 65536 := by
 unfold memF at h
 by_cases h1 : formF o = 4
 ·rw [if_pos h1] at h
  by_cases h2 : at_.tmod (widthF o) ≠ 0
  ·rw [if_pos h2] at h;exact absurd rfl h
  rw [if_neg h2] at h
  by_cases h3 : inM at_ (widthF o)
  ·rw [if_pos h3] at h
   by_cases h4 : mayG cf at_ (widthF o) 2 = true
   ·rw [if_pos h4] at h
    have h5 := store_in h
    unfold inM at h3
    exact ⟨chkG_in h4 ky ky ⟨by omega,by omega⟩,by omega⟩
   ·rw [if_neg h4] at h;exact absurd rfl h
  ·rw [if_neg h3] at h;exact absurd rfl h
 ·rw [if_neg h1] at h
  repeat' split at h
  all_goals exact absurd rfl h
theorem sysR_f {xs : List Value} {pc : Int} {f : Nat → Int} {wd o nx : Int} : (sysR xs pc f wd o nx).f = f := by
 unfold sysR
 repeat' split
 all_goals rfl
theorem doF_mem {xs : List Value} {pc : Int} {cf : List Value} {f : Nat → Int} {wd o rd r1 r2 im : Int} {i : Nat} (h : (doF xs pc cf f wd o rd r1 r2 im).f i ≠ f i) : mayG cf (2147483648 + (i : Int)) 1 2 = true ∧ i < 65536 := by
 unfold doF at h
 repeat' split at h
 all_goals first | exact absurd rfl h | exact memF_mem h | (rw [sysR_f] at h;exact absurd rfl h)
theorem stepF_mem {xs : List Value} {pc : Int} {cf : List Value} {f : Nat → Int} {i : Nat} (h : (stepF xs pc cf f).f i ≠ f i) : mayG cf (2147483648 + (i : Int)) 1 2 = true ∧ i < 65536 := by
 unfold stepF at h
 repeat' split at h
 all_goals first | exact absurd rfl h | exact doF_mem h
def EnvG (E : Pays) (who : Nat) : Prop := ∀ at_ k r,mayG (cfOf E who) at_ k r = chkG (E.m who) (E.en who) at_ k r
def BxOk (D : DS) : Prop := ∀ i,∀ x ∈ D.bx i,x.2.length ≤ 16
theorem DOk.bxOk {D : DS} {n : Nat} (h : DOk D n) : BxOk D := fun i x hx => ((h.bx i).2 x hx).1.2
theorem mayD_in {E : Pays} {who : Nat} {at_ n : Int} (h : mayD E who at_ n 2 = true) (hn : 1 ≤ n ∧ n < 65536) {i : Nat} (hi : (at_ - 2147483648).toNat ≤ i ∧ i < (at_ - 2147483648).toNat + n.toNat) : chkG (E.m who) (E.en who) (2147483648 + (i : Int)) 1 2 = true := by
 unfold mayD at h
 rw [if_neg ky] at h
 by_cases h1 : inM at_ n
 ·rw [if_pos h1] at h
  unfold inM at h1
  exact chkG_in h ky ky ⟨by omega,by omega⟩
 ·rw [if_neg h1] at h;cases h
theorem sayD_f {E : Pays} {D : DS} {who : Nat} {at_ k : Int} : (sayD E D who at_ k).2.f = D.f ∧ (sayD E D who at_ k).2.bx = D.bx := by
 unfold sayD saidD
 repeat' split
 all_goals exact ⟨rfl,rfl⟩
theorem hearD_f {D : DS} {who : Nat} : (hearD D who).2.f = D.f ∧ (hearD D who).2.bx = D.bx := by
 unfold hearD
 split
 all_goals exact ⟨rfl,rfl⟩
theorem sendD_f {E : Pays} {D : DS} {n who : Nat} {to at_ k : Int} : (sendD E D n who to at_ k).2.f = D.f := by
 unfold sendD sentD
 repeat' split
 all_goals rfl
theorem sendD_bx {E : Pays} {D : DS} {n who : Nat} {to at_ k : Int} (h : BxOk D) : BxOk (sendD E D n who to at_ k).2 := by
 unfold sendD
 split
 ·exact h
 rename_i hc
 split
 ·unfold sentD
  split
  ·exact h
  ·intro i x hx
   simp only at hx
   split at hx
   ·rcases List.mem_append.1 hx with hx | hx
    ·exact h _ x hx
    ·rw [List.mem_singleton.1 hx]
     show (memL D.f _ k.toNat).length ≤ 16
     rw [memL_len]
     omega
   ·exact h i x hx
 ·exact h
theorem takeD_mem {E : Pays} {D : DS} {who : Nat} {at_ old : Int} {i : Nat} (hb : BxOk D) (h : (takeD E D who at_ old).2.f i ≠ D.f i) : chkG (E.m who) (E.en who) (2147483648 + (i : Int)) 1 2 = true := by
 unfold takeD at h
 split at h
 ·rename_i hm
  unfold tookD at h
  split at h
  ·exact absurd rfl h
  ·rename_i x r e
   have h1 := putF_in h
   have h2 := hb who x (by rw [e];exact List.mem_cons_self ..)
   exact mayD_in hm ze ⟨h1.1,by have : (16 : Int).toNat = 16 := rfl;omega⟩
 ·exact absurd rfl h
theorem takeD_bx {E : Pays} {D : DS} {who : Nat} {at_ old : Int} (h : BxOk D) : BxOk (takeD E D who at_ old).2 := by
 unfold takeD
 split
 ·unfold tookD
  split
  ·exact h
  ·rename_i x r e
   intro i y hy
   simp only at hy
   split at hy
   ·exact h who y (by rw [e];exact List.mem_cons_of_mem _ hy)
   ·exact h i y hy
 ·exact h
theorem doA_mem {E : Pays} {D : DS} {n who : Nat} {xs : List Value} {a7 a0 a1 a2 : Int} {i : Nat} (hb : BxOk D) (hd : (E.dg who).length = 32) (h : (doA E D n who xs a7 a0 a1 a2).2.f i ≠ D.f i) : chkG (E.m who) (E.en who) (2147483648 + (i : Int)) 1 2 = true := by
 unfold doA at h
 by_cases c0 : 7 < a7
 ·rw [if_pos c0] at h;exact absurd rfl h
 rw [if_neg c0] at h
 by_cases c1 : askB E who a7 = 0
 ·rw [if_pos c1] at h;exact absurd rfl h
 rw [if_neg c1] at h
 by_cases c2 : a7 = 0
 ·rw [if_pos c2] at h;exact absurd rfl h
 rw [if_neg c2] at h
 by_cases c3 : a7 = 1
 ·rw [if_pos c3] at h;exact absurd rfl h
 rw [if_neg c3] at h
 by_cases c4 : a7 = 2
 ·rw [if_pos c4] at h;rw [sayD_f.1] at h;exact absurd rfl h
 rw [if_neg c4] at h
 by_cases c5 : a7 = 3
 ·rw [if_pos c5] at h;rw [hearD_f.1] at h;exact absurd rfl h
 rw [if_neg c5] at h
 by_cases c6 : a7 = 4
 ·rw [if_pos c6] at h;rw [sendD_f] at h;exact absurd rfl h
 rw [if_neg c6] at h
 by_cases c7 : a7 = 5
 ·rw [if_pos c7] at h;exact takeD_mem hb h
 rw [if_neg c7] at h
 by_cases c8 : a7 = 6
 ·rw [if_pos c8] at h
  by_cases c10 : (E.gn who : Int) ≤ a0
  ·rw [if_pos c10] at h;exact absurd rfl h
  ·rw [if_neg c10] at h;exact absurd rfl h
 rw [if_neg c8] at h
 by_cases c9 : mayD E who a0 32 2 = true
 ·rw [if_pos c9] at h
  have h1 := putF_in h
  exact mayD_in c9 ze ⟨h1.1,by have : (32 : Int).toNat = 32 := rfl;omega⟩
 ·rw [if_neg c9] at h;exact absurd rfl h
theorem doA_bx {E : Pays} {D : DS} {n who : Nat} {xs : List Value} {a7 a0 a1 a2 : Int} (hb : BxOk D) : BxOk (doA E D n who xs a7 a0 a1 a2).2 := by
 unfold doA
 by_cases c0 : 7 < a7
 ·rw [if_pos c0];exact hb
 rw [if_neg c0]
 by_cases c1 : askB E who a7 = 0
 ·rw [if_pos c1];exact hb
 rw [if_neg c1]
 by_cases c2 : a7 = 0
 ·rw [if_pos c2];exact hb
 rw [if_neg c2]
 by_cases c3 : a7 = 1
 ·rw [if_pos c3];exact hb
 rw [if_neg c3]
 by_cases c4 : a7 = 2
 ·rw [if_pos c4];intro i x hx;exact hb i x (by rw [sayD_f.2] at hx;exact hx)
 rw [if_neg c4]
 by_cases c5 : a7 = 3
 ·rw [if_pos c5];intro i x hx;exact hb i x (by rw [hearD_f.2] at hx;exact hx)
 rw [if_neg c5]
 by_cases c6 : a7 = 4
 ·rw [if_pos c6];exact sendD_bx hb
 rw [if_neg c6]
 by_cases c7 : a7 = 5
 ·rw [if_pos c7];exact takeD_bx hb
 rw [if_neg c7]
 by_cases c8 : a7 = 6
 ·rw [if_pos c8]
  by_cases c10 : (E.gn who : Int) ≤ a0
  ·rw [if_pos c10];exact hb
  ·rw [if_neg c10];exact hb
 rw [if_neg c8]
 by_cases c9 : mayD E who a0 32 2 = true
 ·rw [if_pos c9];exact hb
 ·rw [if_neg c9];exact hb
theorem callO_D (r : (List Value × Int) × DS) (pc : Int) : (callO r pc).s.D = r.2 := by
 unfold callO
 repeat' split
 all_goals rfl
section
variable {E : Pays} {n who : Nat}
theorem oneF_mem {s : RSt} {i : Nat} (hG : EnvG E who) (hb : BxOk s.D) (hd : (E.dg who).length = 32) (h : (oneF E n who (cfOf E who) s).s.D.f i ≠ s.D.f i) : chkG (E.m who) (E.en who) (2147483648 + (i : Int)) 1 2 = true := by
 have key : (goR (cfOf E who) s).f i ≠ s.D.f i → chkG (E.m who) (E.en who) (2147483648 + (i : Int)) 1 2 = true := fun h => by
  rw [← hG];exact (stepF_mem h).1
 by_cases ht : (goR (cfOf E who) s).tr = false
 ·rw [oneF_f ht] at h;exact key h
 have ht' : (goR (cfOf E who) s).tr = true := by simpa using ht
 by_cases h8 : (goR (cfOf E who) s).c1 = 8
 ·rw [oneF_c ht' h8,callO_D] at h
  by_cases h1 : (goR (cfOf E who) s).f i = s.D.f i
  ·unfold callD at h
   exact doA_mem (D := s.D.mem (goR (cfOf E who) s).f) hb hd fun e => h (e.trans h1)
  ·exact key h1
 ·rw [oneF_x ht' h8] at h;exact key h
theorem oneF_bx {cf : List Value} {s : RSt} (hb : BxOk s.D) : BxOk (oneF E n who cf s).s.D := by
 by_cases ht : (goR cf s).tr = false
 ·rw [oneF_f ht];exact hb
 have ht' : (goR cf s).tr = true := by simpa using ht
 by_cases h8 : (goR cf s).c1 = 8
 ·rw [oneF_c ht' h8,callO_D]
  exact doA_bx (D := s.D.mem (goR cf s).f) hb
 ·rw [oneF_x ht' h8];exact hb
theorem runF_mem (hG : EnvG E who) (hd : (E.dg who).length = 32) (i : Nat) : ∀ (m : Nat) (s : RSt) (t : List Rz),BxOk s.D → (runF E n who (cfOf E who) m s t).D.f i ≠ s.D.f i → chkG (E.m who) (E.en who) (2147483648 + (i : Int)) 1 2 = true
 | 0,s,t,_,h => absurd rfl h
 | m + 1,s,t,hb,h => by
  by_cases h1 : (oneF E n who (cfOf E who) s).s.D.f i = s.D.f i
  ·unfold runF at h
   split at h
   ·exact runF_mem hG hd i m _ _ (oneF_bx hb) (by rw [h1];exact h)
   ·exact absurd h1 h
  ·exact oneF_mem hG hb hd h1
end
theorem enB {i : Nat} (hi : i < 3) : (∀ j,j < 4 → enF (cfB i) j = en4 (biasI i) j) ∧ (∀ j,j < 16 → ¬ j < 4 → (enF (cfB i) j).1 = 0) := by
 have h : i = 0 ∨ i = 1 ∨ i = 2 := by omega
 rcases h with rfl | rfl | rfl <;> exact ⟨by decide +kernel,by decide +kernel⟩
theorem chkF_skip {en : Nat → Int × Int × Int} {fr to r : Int} : ∀ (k i : Nat),(∀ j,i ≤ j → j < i + k → (en j).1 = 0) → chkF en fr to r i k = false
 | 0,_,_ => rfl
 | k + 1,i,h => by
  have e : rgX en i = (0,0) := by
   unfold rgX rgF
   rw [h i (Nat.le_refl _) ky,if_neg ze,if_neg ze,if_neg ze]
  unfold chkF
  rw [if_pos (by rw [e];exact .inr (.inr (Int.le_refl _)))]
  exact chkF_skip k (i + 1) fun j h1 h2 => h j ky ky
theorem chkF_cut {en : Nat → Int × Int × Int} {fr to r : Int} (b : Nat) : ∀ (a i : Nat),chkF en fr to r (i + a) b = false → chkF en fr to r i (a + b) = chkF en fr to r i a
 | 0,i,h => by rw [Nat.zero_add];exact h
 | a + 1,i,h => by
  rw [show a + 1 + b = (a + b) + 1 by omega]
  unfold chkF
  rw [chkF_cut b a (i + 1) (by rw [show i + 1 + a = i + (a + 1) by omega];exact h)]
theorem chkF_congr {en en' : Nat → Int × Int × Int} {fr to r : Int} : ∀ (k i : Nat),(∀ j,j < i + k → en j = en' j) → chkF en fr to r i k = chkF en' fr to r i k
 | 0,_,_ => rfl
 | k + 1,i,h => by
  have e : rgX en i = rgX en' i := by
   unfold rgX prevA
   rw [h i ky]
   by_cases h0 : 0 < i
   ·rw [if_pos h0,if_pos h0,h (i - 1) ky]
   ·rw [if_neg h0,if_neg h0]
  unfold chkF
  rw [e,h i ky,chkF_congr k (i + 1) fun j hj => h j ky]
theorem begG {l : List LoadD} {i : Nat} (hi : i < 3) : EnvG (begE l) i := by
 intro at_ k r
 rw [cfOf_beg]
 show chkG 16 (enF (cfB i)) at_ k r = chkG 4 (en4 (biasI i)) at_ k r
 unfold chkG
 split
 ·rfl
 obtain ⟨h1,h2⟩ := enB hi
 rw [show (16 : Nat) = 4 + 12 from rfl,chkF_cut 12 4 0 (chkF_skip 12 (0 + 4) fun j g1 g2 => h2 j ky ky)]
 exact chkF_congr 4 0 fun j hj => h1 j ky
end Go.Proofs.YtabbklpalbikdaaGreatDoor
end
section
namespace Go.Proofs.YtabbklpalbikdaaGreatDoor
open Go.RowKit Go.Pt
theorem rgB {i : Nat} (hi : i < 3) : rgX (en4 (biasI i)) 0 = (biasI i,biasI i + 4096) ∧ rgX (en4 (biasI i)) 1 = (biasI i + 4096,biasI i + 8192) ∧ rgX (en4 (biasI i)) 2 = (biasI i + 8192,biasI i + 8224) := by
 have h : i = 0 ∨ i = 1 ∨ i = 2 := by omega
 rcases h with rfl | rfl | rfl <;> exact ⟨by decide +kernel,by decide +kernel,by decide +kernel⟩
theorem chkIn {i : Nat} (hi : i < 3) {at_ k r : Int} (h0 : 0 ≤ at_) (h1 : at_ + k < 18446744073709551616) (hr : r = 1 ∨ r = 2 ∨ r = 4) (h : chkG 4 (en4 (biasI i)) at_ k r = true) : biasI i ≤ at_ ∧ at_ + k ≤ biasI i + 8224 ∧ 1 ≤ k := by
 obtain ⟨r0,r1,r2⟩ := rgB hi
 unfold chkG at h
 by_cases hk : k < 1
 ·rw [if_pos hk] at h;cases h
 rw [if_neg hk] at h
 have e1 : IntKind.u64.wrap at_ = at_ := by rw [IntKind.wrap_u64];omega
 have e2 : IntKind.u64.wrap k = k := by rw [IntKind.wrap_u64];omega
 have e3 : IntKind.u64.wrap (at_ + k) = at_ + k := by rw [IntKind.wrap_u64];omega
 rw [e1,e2,e3] at h
 unfold chkF at h
 split at h
 ·unfold chkF at h
  split at h
  ·unfold chkF at h
   split at h
   ·unfold chkF at h
    split at h
    ·cases h
    ·rw [Bool.and_eq_true,Bool.and_eq_true] at h
     have h3 := of_decide_eq_true h.2.2
     change bits .and .i64 0 r = r at h3
     rcases hr with rfl | rfl | rfl <;> exact absurd h3 ze
   ·rw [r2,Bool.and_eq_true,Bool.and_eq_true] at h
    have := of_decide_eq_true h.1
    have := of_decide_eq_true h.2.1
    simp only at *
    omega
  ·rw [r1,Bool.and_eq_true,Bool.and_eq_true] at h
   have := of_decide_eq_true h.1
   have := of_decide_eq_true h.2.1
   simp only at *
   omega
 ·rw [r0,Bool.and_eq_true,Bool.and_eq_true] at h
  have := of_decide_eq_true h.1
  have := of_decide_eq_true h.2.1
  simp only at *
  omega
theorem mayB0 {i : Nat} (hi : i < 3) (at_ k r : Int) : mayG (cfB i) at_ k r = chkG 4 (en4 (biasI i)) at_ k r := begG (l := []) hi at_ k r
def AgA (f g : Nat → Int) : Prop := ∀ i,4096 ≤ i → i < 12320 → f i = g i
theorem loadX_ag {f g : Nat → Int} {a : Nat} : ∀ n,(∀ j,j < n → f (a + j) = g (a + j)) → loadX f a n = loadX g a n
 | 0,_ => rfl
 | n + 1,h => by rw [loadX_succ,loadX_succ,loadX_ag n fun j hj => h j ky,h n ky]
theorem storeX_ag {f g : Nat → Int} (h : AgA f g) (a : Nat) (x : Int) : ∀ n,AgA (storeX f a x n) (storeX g a x n)
 | 0 => h
 | n + 1 => fun i h1 h2 => by
  unfold storeX updI
  by_cases e : i = a + n
  ·rw [if_pos e,if_pos e]
  ·rw [if_neg e,if_neg e];exact storeX_ag h a x n i h1 h2
theorem putF_ag {f g : Nat → Int} (h : AgA f g) (o : Nat) (l : List UInt8) : AgA (putF f o l) (putF g o l) := fun i h1 h2 => by
 unfold putF
 split
 ·split
  ·rfl
  ·exact h i h1 h2
 ·exact h i h1 h2
structure AgR (R1 R2 : Rz) : Prop where
 e : R1.wd = R2.wd ∧ R1.tr = R2.tr ∧ R1.c1 = R2.c1 ∧ R1.tl = R2.tl ∧ R1.at_ = R2.at_ ∧ R1.wi = R2.wi ∧ R1.st = R2.st ∧ R1.xs = R2.xs ∧ R1.pc = R2.pc
 f : AgA R1.f R2.f
theorem AgR.mk' {wd : Int} {tr : Bool} {c1 tl at_ wi : Int} {st : Bool} {xs : List Value} {pc : Int} {f g : Nat → Int} (h : AgA f g) : AgR ⟨wd,tr,c1,tl,at_,wi,st,xs,pc,f⟩ ⟨wd,tr,c1,tl,at_,wi,st,xs,pc,g⟩ := ⟨⟨rfl,rfl,rfl,rfl,rfl,rfl,rfl,rfl,rfl⟩,h⟩
theorem load_ag {f g : Nat → Int} (h : AgA f g) {at_ k r : Int} (hr : r = 1 ∨ r = 2 ∨ r = 4) (hm : inM at_ k) (hc : mayG (cfB 0) at_ k r = true) : loadX f (at_ - 2147483648).toNat k.toNat = loadX g (at_ - 2147483648).toNat k.toNat := by
 rw [mayB0 ze] at hc
 unfold inM at hm
 have hb := chkIn ze ky ky hr hc
 rw [show biasI 0 = 2147487744 from rfl] at hb
 exact loadX_ag _ fun j hj => h _ ky ky
theorem memF_ag {xs : List Value} {pc : Int} {f g : Nat → Int} {wd o rd at_ b : Int} (h : AgA f g) : AgR (memF xs pc (cfB 0) f wd o rd at_ b) (memF xs pc (cfB 0) g wd o rd at_ b) := by
 unfold memF
 by_cases h1 : formF o = 4
 ·rw [if_pos h1,if_pos h1]
  by_cases h2 : at_.tmod (widthF o) ≠ 0
  ·rw [if_pos h2,if_pos h2];exact .mk' h
  rw [if_neg h2,if_neg h2]
  by_cases h3 : inM at_ (widthF o)
  ·rw [if_pos h3,if_pos h3]
   by_cases h4 : mayG (cfB 0) at_ (widthF o) 2 = true
   ·rw [if_pos h4,if_pos h4];exact .mk' (storeX_ag h _ _ _)
   ·rw [if_neg h4,if_neg h4];exact .mk' h
  ·rw [if_neg h3,if_neg h3];exact .mk' h
 ·rw [if_neg h1,if_neg h1]
  by_cases h2 : at_.tmod (widthF o) ≠ 0
  ·rw [if_pos h2,if_pos h2];exact .mk' h
  rw [if_neg h2,if_neg h2]
  by_cases h3 : inM at_ (widthF o)
  ·rw [if_pos h3,if_pos h3]
   by_cases h4 : mayG (cfB 0) at_ (widthF o) 1 = true
   ·rw [if_pos h4,if_pos h4,load_ag h (.inl rfl) h3 h4];exact .mk' h
   ·rw [if_neg h4,if_neg h4];exact .mk' h
  ·rw [if_neg h3,if_neg h3];exact .mk' h
theorem sysR_ag {xs : List Value} {pc : Int} {f g : Nat → Int} {wd o nx : Int} (h : AgA f g) : AgR (sysR xs pc f wd o nx) (sysR xs pc g wd o nx) := by
 unfold sysR
 by_cases h1 : o = 47
 ·rw [if_pos h1,if_pos h1];exact .mk' h
 rw [if_neg h1,if_neg h1]
 by_cases h2 : o = 48
 ·rw [if_pos h2,if_pos h2];exact .mk' h
 rw [if_neg h2,if_neg h2]
 by_cases h3 : o = 46
 ·rw [if_pos h3,if_pos h3];exact .mk' h
 rw [if_neg h3,if_neg h3];exact .mk' h
theorem doF_ag {xs : List Value} {pc : Int} {f g : Nat → Int} {wd o rd r1 r2 im : Int} (h : AgA f g) : AgR (doF xs pc (cfB 0) f wd o rd r1 r2 im) (doF xs pc (cfB 0) g wd o rd r1 r2 im) := by
 unfold doF
 by_cases h1 : formF o = 0
 ·rw [if_pos h1,if_pos h1]
  by_cases h2 : o = 2
  ·rw [if_pos h2,if_pos h2];exact .mk' h
  ·rw [if_neg h2,if_neg h2];exact .mk' h
 rw [if_neg h1,if_neg h1]
 by_cases h2 : o = 3
 ·rw [if_pos h2,if_pos h2]
  by_cases h3 : (IntKind.u32.wrap (pc + im)).tmod 4 ≠ 0
  ·rw [if_pos h3,if_pos h3];exact .mk' h
  ·rw [if_neg h3,if_neg h3];exact .mk' h
 rw [if_neg h2,if_neg h2]
 by_cases h2 : o = 4
 ·rw [if_pos h2,if_pos h2]
  by_cases h3 : (bits .andNot .u32 (IntKind.u32.wrap (regI xs r1 + im)) 1).tmod 4 ≠ 0
  ·rw [if_pos h3,if_pos h3];exact .mk' h
  ·rw [if_neg h3,if_neg h3];exact .mk' h
 rw [if_neg h2,if_neg h2]
 by_cases h2 : formF o = 3
 ·rw [if_pos h2,if_pos h2]
  by_cases h3 : (goesF o (regI xs r1) (regI xs r2)).1 = true
  ·rw [if_pos h3,if_pos h3]
   by_cases h4 : (IntKind.u32.wrap (pc + im)).tmod 4 ≠ 0
   ·rw [if_pos h4,if_pos h4];exact .mk' h
   ·rw [if_neg h4,if_neg h4];exact .mk' h
  ·rw [if_neg h3,if_neg h3];exact .mk' h
 rw [if_neg h2,if_neg h2]
 by_cases h2 : 0 < widthF o
 ·rw [if_pos h2,if_pos h2];exact memF_ag h
 rw [if_neg h2,if_neg h2]
 by_cases h2 : formF o = 5
 ·rw [if_pos h2,if_pos h2];exact .mk' h
 rw [if_neg h2,if_neg h2]
 by_cases h2 : formF o = 2 ∨ formF o = 6
 ·rw [if_pos h2,if_pos h2];exact .mk' h
 rw [if_neg h2,if_neg h2]
 by_cases h2 : formF o = 8 ∨ formF o = 9
 ·rw [if_pos h2,if_pos h2];exact .mk' h
 rw [if_neg h2,if_neg h2]
 exact sysR_ag h
theorem stepF_ag {xs : List Value} {pc : Int} {f g : Nat → Int} (h : AgA f g) : AgR (stepF xs pc (cfB 0) f) (stepF xs pc (cfB 0) g) := by
 unfold stepF
 by_cases h1 : pc.tmod 4 ≠ 0
 ·rw [if_pos h1,if_pos h1];exact .mk' h
 rw [if_neg h1,if_neg h1]
 by_cases h2 : inM pc 4
 ·rw [if_pos h2,if_pos h2]
  by_cases h3 : mayG (cfB 0) pc 4 4 = true
  ·have e := load_ag h (.inr (.inr rfl)) h2 h3
   rw [show (4 : Int).toNat = 4 from rfl] at e
   rw [if_pos h3,if_pos h3,e]
   exact doF_ag h
  ·rw [if_neg h3,if_neg h3];exact .mk' h
 ·rw [if_neg h2,if_neg h2];exact .mk' h
structure DRel (D1 D2 : DS) : Prop where
 f : AgA D1.f D2.f
 i1 : D1.ins[0]? = some []
 i2 : D2.ins[0]? = some []
theorem hearD_0 {D : DS} (h : D.ins[0]? = some []) : hearD D 0 = (mW (-4),D) := by unfold hearD;rw [h]
structure Mute (l1 l2 : List LoadD) : Prop where
 ca : caF l1 l1.length 0 = caF l2 l2.length 0
 q2 : askB (begE l1) 0 2 = 0
 q4 : askB (begE l1) 0 4 = 0
 q5 : askB (begE l1) 0 5 = 0
theorem Mute.ask {l1 l2 : List LoadD} (h : Mute l1 l2) (a7 : Int) : askB (begE l2) 0 a7 = askB (begE l1) 0 a7 := by
 have e : (begE l2).ca 0 = (begE l1).ca 0 := h.ca.symm
 unfold askB
 rw [e]
theorem mayD_beg (l : List LoadD) (who : Nat) (at_ n r : Int) : mayD (begE l) who at_ n r = if n = 0 then true else if inM at_ n then chkG 4 (en4 (biasI who)) at_ n r else false := rfl
theorem gn_beg (l : List LoadD) (i : Nat) : (begE l).gn i = 3 := rfl
theorem g_beg (l : List LoadD) (i : Nat) : (begE l).g i = gr3 (biasI i) := rfl
theorem dg_beg (l : List LoadD) (i : Nat) : (begE l).dg i = dgL i := rfl
theorem putD_ag {D1 D2 : DS} (hD : DRel D1 D2) (o : Nat) (l : List UInt8) : DRel {D1 with f := putF D1.f o l} {D2 with f := putF D2.f o l} := ⟨putF_ag hD.f _ _,hD.i1,hD.i2⟩
theorem doA_ag {l1 l2 : List LoadD} (hm : Mute l1 l2) {D1 D2 : DS} (hD : DRel D1 D2) (n1 n2 : Nat) (xs : List Value) (a7 a0 a1 a2 : Int) :
  (doA (begE l1) D1 n1 0 xs a7 a0 a1 a2).1 = (doA (begE l2) D2 n2 0 xs a7 a0 a1 a2).1 ∧ DRel (doA (begE l1) D1 n1 0 xs a7 a0 a1 a2).2 (doA (begE l2) D2 n2 0 xs a7 a0 a1 a2).2 := by
 unfold doA
 rw [hm.ask]
 by_cases c0 : 7 < a7
 ·rw [if_pos c0,if_pos c0];exact ⟨rfl,hD⟩
 rw [if_neg c0,if_neg c0]
 by_cases c1 : askB (begE l1) 0 a7 = 0
 ·rw [if_pos c1,if_pos c1];exact ⟨rfl,hD⟩
 rw [if_neg c1,if_neg c1]
 by_cases c2 : a7 = 0
 ·rw [if_pos c2,if_pos c2];exact ⟨rfl,hD⟩
 rw [if_neg c2,if_neg c2]
 by_cases c3 : a7 = 1
 ·rw [if_pos c3,if_pos c3];exact ⟨rfl,hD⟩
 rw [if_neg c3,if_neg c3]
 by_cases c4 : a7 = 2
 ·rw [c4] at c1;exact absurd hm.q2 c1
 rw [if_neg c4,if_neg c4]
 by_cases c5 : a7 = 3
 ·rw [if_pos c5,if_pos c5,hearD_0 hD.i1,hearD_0 hD.i2];exact ⟨rfl,hD⟩
 rw [if_neg c5,if_neg c5]
 by_cases c6 : a7 = 4
 ·rw [c6] at c1;exact absurd hm.q4 c1
 rw [if_neg c6,if_neg c6]
 by_cases c7 : a7 = 5
 ·rw [c7] at c1;exact absurd hm.q5 c1
 rw [if_neg c7,if_neg c7]
 by_cases c8 : a7 = 6
 ·rw [if_pos c8,if_pos c8,gn_beg,gn_beg,g_beg,g_beg]
  by_cases c10 : ((3 : Nat) : Int) ≤ a0
  ·rw [if_pos c10,if_pos c10];exact ⟨rfl,hD⟩
  ·rw [if_neg c10,if_neg c10];exact ⟨rfl,hD⟩
 rw [if_neg c8,if_neg c8,mayD_beg,mayD_beg,dg_beg,dg_beg]
 generalize (if (32 : Int) = 0 then true else if inM a0 32 then chkG 4 (en4 (biasI 0)) a0 32 2 else false) = B
 by_cases c9 : B = true
 ·rw [if_pos c9,if_pos c9];exact ⟨rfl,putD_ag hD _ _⟩
 ·rw [if_neg c9,if_neg c9];exact ⟨rfl,hD⟩
structure RelS (s1 s2 : RSt) : Prop where
 xs : s1.xs = s2.xs
 pc : s1.pc = s2.pc
 D : DRel s1.D s2.D
theorem callO_ag {r1 r2 : (List Value × Int) × DS} (h : r1.1 = r2.1) (hD : DRel r1.2 r2.2) (pc : Int) : (callO r1 pc).why = (callO r2 pc).why ∧ (callO r1 pc).code = (callO r2 pc).code ∧ (callO r1 pc).kpc = (callO r2 pc).kpc ∧ RelS (callO r1 pc).s (callO r2 pc).s := by
 unfold callO
 rw [h]
 by_cases h1 : r2.1.2 = 1
 ·rw [if_pos h1,if_pos h1];exact ⟨rfl,rfl,rfl,rfl,rfl,hD⟩
 rw [if_neg h1,if_neg h1]
 by_cases h2 : r2.1.2 = 2
 ·rw [if_pos h2,if_pos h2];exact ⟨rfl,rfl,rfl,rfl,rfl,hD⟩
 rw [if_neg h2,if_neg h2];exact ⟨rfl,rfl,rfl,rfl,rfl,hD⟩
theorem oneF_ag {l1 l2 : List LoadD} (hm : Mute l1 l2) (n1 n2 : Nat) {s1 s2 : RSt} (h : RelS s1 s2) :
  (oneF (begE l1) n1 0 (cfB 0) s1).why = (oneF (begE l2) n2 0 (cfB 0) s2).why ∧ (oneF (begE l1) n1 0 (cfB 0) s1).code = (oneF (begE l2) n2 0 (cfB 0) s2).code ∧ (oneF (begE l1) n1 0 (cfB 0) s1).kpc = (oneF (begE l2) n2 0 (cfB 0) s2).kpc ∧ RelS (oneF (begE l1) n1 0 (cfB 0) s1).s (oneF (begE l2) n2 0 (cfB 0) s2).s := by
 have hg : AgR (goR (cfB 0) s1) (goR (cfB 0) s2) := by
  unfold goR
  rw [h.xs,h.pc]
  exact stepF_ag h.D.f
 obtain ⟨⟨_,e2,e3,_,_,_,_,e8,e9⟩,hf⟩ := hg
 have hD : DRel (s1.D.mem (goR (cfB 0) s1).f) (s2.D.mem (goR (cfB 0) s2).f) := ⟨hf,h.D.i1,h.D.i2⟩
 by_cases ht : (goR (cfB 0) s1).tr = false
 ·rw [oneF_f ht,oneF_f (by rw [← e2];exact ht)]
  exact ⟨rfl,rfl,e9,e8,e9,hD⟩
 have ht1 : (goR (cfB 0) s1).tr = true := by simpa using ht
 have ht2 : (goR (cfB 0) s2).tr = true := by rw [← e2];exact ht1
 by_cases h8 : (goR (cfB 0) s1).c1 = 8
 ·rw [oneF_c ht1 h8,oneF_c ht2 (by rw [← e3];exact h8),h.pc]
  unfold callD
  rw [e8]
  obtain ⟨k1,k2⟩ := doA_ag hm hD n1 n2 (goR (cfB 0) s2).xs (regI (goR (cfB 0) s2).xs 17) (regI (goR (cfB 0) s2).xs 10) (regI (goR (cfB 0) s2).xs 11) (regI (goR (cfB 0) s2).xs 12)
  exact callO_ag k1 k2 _
 ·rw [oneF_x ht1 h8,oneF_x ht2 (by rw [← e3];exact h8),e3,e8,h.pc]
  exact ⟨rfl,rfl,rfl,rfl,rfl,hD⟩
structure RelO (R1 R2 : RO) : Prop where
 xs : R1.xs = R2.xs
 kpc : R1.kpc = R2.kpc
 why : R1.why = R2.why
 code : R1.code = R2.code
 len : R1.tr.length = R2.tr.length
 D : DRel R1.D R2.D
theorem runF_ag {l1 l2 : List LoadD} (hm : Mute l1 l2) (n1 n2 : Nat) : ∀ (m : Nat) (s1 s2 : RSt) (t1 t2 : List Rz),RelS s1 s2 → t1.length = t2.length → RelO (runF (begE l1) n1 0 (cfB 0) m s1 t1) (runF (begE l2) n2 0 (cfB 0) m s2 t2)
 | 0,s1,s2,t1,t2,h,ht => ⟨h.xs,h.pc,rfl,rfl,ht,h.D⟩
 | m + 1,s1,s2,t1,t2,h,ht => by
  obtain ⟨k1,k2,k3,k4⟩ := oneF_ag hm n1 n2 h
  have ht' : (t1 ++ [goR (cfB 0) s1]).length = (t2 ++ [goR (cfB 0) s2]).length := by simp [ht]
  unfold runF
  by_cases h0 : (oneF (begE l1) n1 0 (cfB 0) s1).why = 0
  ·rw [if_pos h0,if_pos (by rw [← k1];exact h0)]
   exact runF_ag hm n1 n2 m _ _ _ _ k4 ht'
  ·rw [if_neg h0,if_neg (by rw [← k1];exact h0)]
   exact ⟨k4.xs,k3,k1,k2,ht',k4.D⟩
theorem sayD_ins {E : Pays} {D : DS} {who : Nat} {at_ k : Int} : (sayD E D who at_ k).2.ins = D.ins := by
 unfold sayD saidD
 repeat' split
 all_goals rfl
theorem sendD_ins {E : Pays} {D : DS} {n who : Nat} {to at_ k : Int} : (sendD E D n who to at_ k).2.ins = D.ins := by
 unfold sendD sentD
 repeat' split
 all_goals rfl
theorem takeD_ins {E : Pays} {D : DS} {who : Nat} {at_ old : Int} : (takeD E D who at_ old).2.ins = D.ins := by
 unfold takeD tookD
 repeat' split
 all_goals rfl
theorem hearD_ins {D : DS} {who : Nat} (h : D.ins[0]? = some []) : (hearD D who).2.ins[0]? = some [] := by
 by_cases h0 : who = 0
 ·subst h0;rw [hearD_0 h];exact h
 ·unfold hearD
  split
  ·show (D.ins.set who _)[0]? = some []
   rw [List.getElem?_set_ne h0];exact h
  ·exact h
theorem doA_ins {E : Pays} {D : DS} {n who : Nat} {xs : List Value} {a7 a0 a1 a2 : Int} (hb : D.ins[0]? = some []) : (doA E D n who xs a7 a0 a1 a2).2.ins[0]? = some [] := by
 unfold doA
 by_cases c0 : 7 < a7
 ·rw [if_pos c0];exact hb
 rw [if_neg c0]
 by_cases c1 : askB E who a7 = 0
 ·rw [if_pos c1];exact hb
 rw [if_neg c1]
 by_cases c2 : a7 = 0
 ·rw [if_pos c2];exact hb
 rw [if_neg c2]
 by_cases c3 : a7 = 1
 ·rw [if_pos c3];exact hb
 rw [if_neg c3]
 by_cases c4 : a7 = 2
 ·rw [if_pos c4];show (sayD E D who a0 a1).2.ins[0]? = some [];rw [sayD_ins];exact hb
 rw [if_neg c4]
 by_cases c5 : a7 = 3
 ·rw [if_pos c5];exact hearD_ins hb
 rw [if_neg c5]
 by_cases c6 : a7 = 4
 ·rw [if_pos c6];show (sendD E D n who a0 a1 a2).2.ins[0]? = some [];rw [sendD_ins];exact hb
 rw [if_neg c6]
 by_cases c7 : a7 = 5
 ·rw [if_pos c7];show (takeD E D who a0 a1).2.ins[0]? = some [];rw [takeD_ins];exact hb
 rw [if_neg c7]
 by_cases c8 : a7 = 6
 ·rw [if_pos c8]
  by_cases c10 : (E.gn who : Int) ≤ a0
  ·rw [if_pos c10];exact hb
  ·rw [if_neg c10];exact hb
 rw [if_neg c8]
 by_cases c9 : mayD E who a0 32 2 = true
 ·rw [if_pos c9];exact hb
 ·rw [if_neg c9];exact hb
theorem oneF_ins {E : Pays} {n who : Nat} {cf : List Value} {s : RSt} (hb : s.D.ins[0]? = some []) : (oneF E n who cf s).s.D.ins[0]? = some [] := by
 by_cases ht : (goR cf s).tr = false
 ·rw [oneF_f ht];exact hb
 have ht' : (goR cf s).tr = true := by simpa using ht
 by_cases h8 : (goR cf s).c1 = 8
 ·rw [oneF_c ht' h8,callO_D]
  exact doA_ins (D := s.D.mem (goR cf s).f) hb
 ·rw [oneF_x ht' h8];exact hb
theorem runF_ins {E : Pays} {n who : Nat} {cf : List Value} : ∀ (m : Nat) (s : RSt) (t : List Rz),s.D.ins[0]? = some [] → (runF E n who cf m s t).D.ins[0]? = some []
 | 0,s,t,h => h
 | m + 1,s,t,h => by
  unfold runF
  split
  ·exact runF_ins m _ _ (oneF_ins h)
  ·exact oneF_ins h
theorem other_ag {l : List LoadD} {n who m : Nat} {s : RSt} (hw : 1 ≤ who ∧ who < 3) (hb : BxOk s.D) : AgA s.D.f (runF (begE l) n who (cfOf (begE l) who) m s []).D.f := fun i h1 h2 => Classical.byContradiction fun hne => by
 have h := runF_mem (E := begE l) (n := n) (begG hw.2) (dgL_len who) i m s [] hb (fun e => hne e.symm)
 have hb := chkIn (i := who) hw.2 ky ky (.inr (.inl rfl)) h
 unfold biasI at hb
 omega
structure PRel (P1 P2 : PS) (x : Sta) : Prop where
 l1 : P1.L = [x]
 l2 : P2.L.length = 3 ∧ P2.L[0]? = some x
 D : DRel P1.D P2.D
 t1 : P1.t = if x.s = 0 then 0 else -1
 t2 : x.s = 0 → P2.t = 0 ∨ P2.t = 1 ∨ P2.t = 2
theorem passF_1 (x : Sta) : passF [x] 0 = if x.s = 0 then 0 else -1 := by
 unfold passF
 rw [if_neg ze]
 show passG [x] 0 1 1 = _
 unfold passG
 rw [show (0 + 1) % [x].length = 0 by simp]
 show (if some x.s = some 0 then (0 : Int) else passG [x] 0 2 0) = _
 by_cases h : x.s = 0
 ·rw [if_pos (by rw [h]),if_pos h]
 ·rw [if_neg (fun e => h (Option.some.inj e)),if_neg h];rfl
theorem passF_3 {L : List Sta} (hl : L.length = 3) {x : Sta} (hx : L[0]? = some x) (hs : x.s = 0) : (passF L 0 = 0 ∨ passF L 0 = 1 ∨ passF L 0 = 2) ∧ (passF L 1 = 0 ∨ passF L 1 = 2) ∧ passF L 2 = 0 := by
 match L,hl with
 | [a,b,c],_ =>
  cases hx
  refine ⟨?_,?_,?_⟩
  ·show passG [x,b,c] 0 1 3 = 0 ∨ passG [x,b,c] 0 1 3 = 1 ∨ passG [x,b,c] 0 1 3 = 2
   unfold passG
   show (if some b.s = some 0 then (1 : Int) else passG [x,b,c] 0 2 2) = 0 ∨ (if some b.s = some 0 then (1 : Int) else passG [x,b,c] 0 2 2) = 1 ∨ (if some b.s = some 0 then (1 : Int) else passG [x,b,c] 0 2 2) = 2
   split
   ·exact .inr (.inl rfl)
   ·unfold passG
    show (if some c.s = some 0 then (2 : Int) else passG [x,b,c] 0 3 1) = 0 ∨ (if some c.s = some 0 then (2 : Int) else passG [x,b,c] 0 3 1) = 1 ∨ (if some c.s = some 0 then (2 : Int) else passG [x,b,c] 0 3 1) = 2
    split
    ·exact .inr (.inr rfl)
    ·unfold passG
     rw [show (0 + 3) % [x,b,c].length = 0 by simp]
     rw [if_pos (by show some x.s = some 0;rw [hs])];exact .inl rfl
  ·show passG [x,b,c] 1 1 3 = 0 ∨ passG [x,b,c] 1 1 3 = 2
   unfold passG
   show (if some c.s = some 0 then (2 : Int) else passG [x,b,c] 1 2 2) = 0 ∨ (if some c.s = some 0 then (2 : Int) else passG [x,b,c] 1 2 2) = 2
   split
   ·exact .inr rfl
   ·unfold passG
    rw [show (1 + 2) % [x,b,c].length = 0 by simp]
    rw [if_pos (by show some x.s = some 0;rw [hs])];exact .inl rfl
  ·show passG [x,b,c] 2 1 3 = 0
   unfold passG
   rw [show (2 + 1) % [x,b,c].length = 0 by simp]
   rw [if_pos (by show some x.s = some 0;rw [hs])];rfl
theorem endS_ag {R1 R2 : RO} (h : RelO R1 R2) (x : Sta) : endS R1 x = endS R2 x := by unfold endS;rw [h.why,h.code,h.kpc,h.xs]
theorem PRel.both {l1 l2 : List LoadD} (hm : Mute l1 l2) {P1 P2 : PS} {x : Sta} (h : PRel P1 P2 x) (kn : Nat) :
  RelO (runO (begE l1) P1 0 x kn) (runO (begE l2) P2 0 x kn) ∧ PRel (endP P1 0 x (runO (begE l1) P1 0 x kn)) (endP P2 0 x (runO (begE l2) P2 0 x kn)) (endS (runO (begE l1) P1 0 x kn) x) := by
 have hr : RelO (runO (begE l1) P1 0 x kn) (runO (begE l2) P2 0 x kn) := runF_ag hm _ _ kn _ _ [] [] ⟨rfl,rfl,h.D⟩ rfl
 refine ⟨hr,?_⟩
 have e := endS_ag hr x
 generalize runO (begE l1) P1 0 x kn = R1 at *
 generalize runO (begE l2) P2 0 x kn = R2 at *
 have hL1 : (endP P1 0 x R1).L = [endS R1 x] := by show P1.L.set 0 _ = _;rw [h.l1];rfl
 have hL2 : (endP P2 0 x R2).L.length = 3 ∧ (endP P2 0 x R2).L[0]? = some (endS R1 x) := by
  refine ⟨by show (P2.L.set 0 _).length = 3;rw [List.length_set];exact h.l2.1,?_⟩
  show (P2.L.set 0 (endS R2 x))[0]? = _
  rw [List.getElem?_set,if_pos rfl,if_pos (by rw [h.l2.1];decide),e]
 refine ⟨hL1,hL2,hr.D,?_,fun hs => ?_⟩
 ·show passF (P1.L.set 0 (endS R1 x)) ((0 : Nat) : Int) = _
  rw [show P1.L.set 0 (endS R1 x) = [endS R1 x] from hL1]
  exact passF_1 _
 ·exact (passF_3 hL2.1 hL2.2 hs).1
theorem PRel.other {l2 : List LoadD} {P1 P2 : PS} {x y : Sta} (h : PRel P1 P2 x) (hs : x.s = 0) (hb : BxOk P2.D) {who : Nat} (hw : 1 ≤ who ∧ who < 3) (ht : P2.t = (who : Int)) (kn : Nat) :
  PRel P1 (endP P2 who y (runO (begE l2) P2 who y kn)) x ∧ ((endP P2 who y (runO (begE l2) P2 who y kn)).t = 0 ∨ (who = 1 ∧ (endP P2 who y (runO (begE l2) P2 who y kn)).t = 2)) := by
 have hf : AgA P2.D.f (runO (begE l2) P2 who y kn).D.f := other_ag (s := ⟨y.xs,y.p,P2.D⟩) hw hb
 have hi : (runO (begE l2) P2 who y kn).D.ins[0]? = some [] := runF_ins kn _ _ h.D.i2
 generalize runO (begE l2) P2 who y kn = R at *
 have hL2 : (endP P2 who y R).L.length = 3 ∧ (endP P2 who y R).L[0]? = some x := by
  refine ⟨by show (P2.L.set who _).length = 3;rw [List.length_set];exact h.l2.1,?_⟩
  show (P2.L.set who (endS R y))[0]? = _
  rw [List.getElem?_set_ne ky]
  exact h.l2.2
 have h3 := passF_3 hL2.1 hL2.2 hs
 have ht' : (endP P2 who y R).t = passF (endP P2 who y R).L (who : Int) := rfl
 have hw' : who = 1 ∨ who = 2 := by omega
 have key : (endP P2 who y R).t = 0 ∨ (who = 1 ∧ (endP P2 who y R).t = 2) := by
  rcases hw' with rfl | rfl
  ·rw [ht']
   exact h3.2.1.imp id fun h => ⟨rfl,h⟩
  ·rw [ht']
   exact .inl h3.2.2
 refine ⟨⟨h.l1,hL2,⟨fun i h1 h2 => (h.D.f i h1 h2).trans (hf i h1 h2),h.D.i1,hi⟩,h.t1,fun _ => ?_⟩,key⟩
 rcases key with k | ⟨_,k⟩
 ·exact .inl k
 ·exact .inr (.inr k)
end Go.Proofs.YtabbklpalbikdaaGreatDoor
end
section
namespace Go.Proofs.YtabbklpalbikdaaGreatDoor
open Go.RowKit Go.Pt
theorem ofInt_w64 (n : Int) : BitVec.ofInt 64 (IntKind.i64.wrap n) = BitVec.ofInt 64 n := by
 apply BitVec.eq_of_toNat_eq
 rw [BitVec.toNat_ofInt,BitVec.toNat_ofInt,IntKind.wrap_i64]
 congr 1
 show ((n + 9223372036854775808) % 18446744073709551616 - 9223372036854775808) % 18446744073709551616 = n % 18446744073709551616
 omega
theorem tn_lt {x : BitVec 64} (h : ∀ j,8 ≤ j → x.getLsbD j = false) : x.toNat < 256 := by
 refine Nat.lt_pow_two_of_testBit (n := 8) _ fun j hj => ?_
 exact h j hj
theorem muteB (c : Int) (k : Nat) (hk : k = 2 ∨ k = 4 ∨ k = 5) : bits .and .i64 ((bits .and .i64 (bits .andNot .i64 c 52) 255).fdiv (2 ^ min (k : Int).toNat IntKind.i64.bits)) 1 = 0 := by
 have e1 : bits .andNot .i64 c 52 = IntKind.i64.wrap (((BitVec.ofInt 64 c) &&& ~~~(BitVec.ofInt 64 52)).toNat : Int) := rfl
 have e2 : bits .and .i64 (bits .andNot .i64 c 52) 255 = IntKind.i64.wrap (((BitVec.ofInt 64 (bits .andNot .i64 c 52)) &&& (BitVec.ofInt 64 255)).toNat : Int) := rfl
 rw [e2,e1,ofInt_w64]
 have e3 : ∀ y : BitVec 64,BitVec.ofInt 64 (y.toNat : Int) = y := fun y => by rw [BitVec.ofInt_natCast];simp
 rw [e3]
 generalize BitVec.ofInt 64 c = y
 have h255 : ∀ j : Nat,j < 64 → (BitVec.ofInt 64 255).getLsbD j = decide (j < 8) := by
  have : ∀ k : Fin 64,(BitVec.ofInt 64 255).getLsbD k.val = decide (k.val < 8) := by decide
  exact fun j hj => this ⟨j,hj⟩
 have hlt : ((y &&& ~~~(BitVec.ofInt 64 52)) &&& (BitVec.ofInt 64 255)).toNat < 256 := by
  refine tn_lt fun j hj => ?_
  rw [BitVec.getLsbD_and]
  by_cases h64 : j < 64
  ·rw [h255 j h64,decide_eq_false ky,Bool.and_false]
  ·rw [BitVec.getLsbD_of_ge _ j ky];rfl
 have hb : ((y &&& ~~~(BitVec.ofInt 64 52)) &&& (BitVec.ofInt 64 255)).getLsbD k = false := by
  rw [BitVec.getLsbD_and,BitVec.getLsbD_and,BitVec.getLsbD_not]
  have : (BitVec.ofInt 64 52).getLsbD k = true := by rcases hk with rfl | rfl | rfl <;> decide
  rw [this]
  simp
 generalize ((y &&& ~~~(BitVec.ofInt 64 52)) &&& (BitVec.ofInt 64 255)) = z at *
 have hw : IntKind.i64.wrap (z.toNat : Int) = (z.toNat : Int) := IntWalk.i64_in _ ky
 rw [hw]
 have hm : min (k : Int).toNat IntKind.i64.bits = k := by
  rw [Int.toNat_natCast]
  exact Nat.min_eq_left (by show k ≤ 64;omega)
 rw [hm,Int.fdiv_eq_ediv_of_nonneg _ (Int.le_of_lt (Int.pow_pos ze))]
 have e4 : (z.toNat : Int) / 2 ^ k = ((z.toNat / 2 ^ k : Nat) : Int) := by simp
 rw [e4,bits_and1 .i64 ze wrap2_i64]
 have hb' : z.toNat.testBit k = false := hb
 rw [Nat.testBit_eq_decide_div_mod_eq] at hb'
 have := of_decide_eq_false hb'
 have := Nat.mod_lt (z.toNat / 2 ^ k) (show 0 < 2 by decide)
 have e : z.toNat / 2 ^ k % 2 = 0 := by omega
 rw [e]
 rfl
def muteL (x : LoadD) : LoadD := { x with calls := bits .andNot .i64 x.calls 52 }
theorem mute1 (x o0 o1 : LoadD) : Mute [muteL x] [muteL x,o0,o1] where
 ca := rfl
 q2 := muteB x.calls 2 (.inl rfl)
 q4 := muteB x.calls 4 (.inr (.inl rfl))
 q5 := muteB x.calls 5 (.inr (.inr rfl))
theorem prel0 (x o0 o1 : LoadD) (h : AgA (begP [x]).D.f (begP [x,o0,o1]).D.f) : PRel (begP [x]) (begP [x,o0,o1]) (staB [x] 0) where
 l1 := rfl
 l2 := ⟨rfl,rfl⟩
 D := ⟨h,rfl,rfl⟩
 t1 := rfl
 t2 := fun _ => .inl rfl
end Go.Proofs.YtabbklpalbikdaaGreatDoor
end
section
namespace Go.Proofs.YtabbklpalbikdaaGreatDoor
open Go.RowKit Go.Pt
structure Ms where
 (P : PS) (lv seen : Value) (tr : List Rz) (xs : List Value) (pc : Int) (cf : Nat)
def Ms.mv (m : Ms) (pv ev : Value) : Mv2 := m.P.mv pv ev m.lv m.seen m.tr m.xs m.pc m.cf
structure Cx where
 (w wa wB : World) (base1 base2 : Nat) (I1 I2 : Mi) (pv1 ev1 pv2 ev2 : Value) (p1 p2 : Nat) (rv1 rv2 : Value) (n1 n2 : Nat) (E1 E2 : Pays)
structure CxOk (c : Cx) : Prop where
 f2 : EnvF c.wa.heap.size c.wB c.base2 c.n2 c.pv2 c.ev2 c.E2
 b : c.w.heap.size ≤ c.base1 ∧ c.base1 ≤ c.wa.heap.size ∧ c.wa.heap.size ≤ c.base2 ∧ 0 < c.base1
structure TwoS (c : Cx) (w3 : World) (a b : Ms) : Prop where
 k1 : StyI c.w c.base1 c.I1 c.n1 c.pv1 c.ev1 c.p1 c.rv1 c.E1 w3 a.P a.lv a.seen a.tr a.xs a.pc a.cf
 k2 : StyI c.w c.base2 c.I2 c.n2 c.pv2 c.ev2 c.p2 c.rv2 c.E2 w3 b.P b.lv b.seen b.tr b.xs b.pc b.cf
 ub : Upd (fun x => (c.base1 ≤ x ∧ x < c.wa.heap.size) ∨ c.base2 ≤ x) c.wB w3
 ao : ∀ x,MonF c.I1 (a.mv c.pv1 c.ev1) x → x < c.wa.heap.size ∨ c.base2 ≤ x
 sep : ∀ x,MonF c.I1 (a.mv c.pv1 c.ev1) x → ¬ MonF c.I2 (b.mv c.pv2 c.ev2) x
theorem TwoS.new {c : Cx} {w3 w4 : World} {a b : Ms} (k : TwoS c w3 a b) (u : Upd (fun x => w3.heap.size ≤ x) w3 w4) : TwoS c w4 a b :=
 ⟨k.k1.new u,k.k2.new u,k.ub.comp u fun x _ h => h.elim id fun h => .inr (Nat.le_trans k.k2.ge.2 h),k.ao,k.sep⟩
theorem TwoS.quiet {c : Cx} {w3 w4 : World} {a b : Ms} (k : TwoS c w3 a b) (h : Hp w3 [] w4) : TwoS c w4 a b := k.new (h.upd.mono fun _ _ y => (y trivial).elim)
theorem TwoS.hp {c : Cx} {w3 w4 : World} {a b : Ms} {H : List Blk} (k : TwoS c w3 a b) (h : Hp w3 H w4) (hH : ∀ x ∈ H,w3.heap.size ≤ x.b) : TwoS c w4 a b := k.new (h.on (Upd.refl _ _) hH)
theorem MonF.own {I : Mi} {M M' : Mv2} {w : World} (h1 : OwnN w M.lv M'.lv) (h2 : OwnN w M.seen M'.seen) {x : Nat} (h : MonF I M' x) : MonF I M x ∨ w.heap.size ≤ x := by
 rcases h with h | h | h | h | h | h | h | h | h | h | h | h | h
 ·exact .inl (.inl h)
 ·exact .inl (.inr (.inl h))
 ·exact .inl (.inr (.inr (.inl h)))
 ·exact .inl (.inr (.inr (.inr (.inl h))))
 ·exact .inl (.inr (.inr (.inr (.inr (.inl h)))))
 ·exact .inl (.inr (.inr (.inr (.inr (.inr (.inl h))))))
 ·exact .inl (.inr (.inr (.inr (.inr (.inr (.inr (.inl h)))))))
 ·exact .inl (.inr (.inr (.inr (.inr (.inr (.inr (.inr (.inl h))))))))
 ·exact .inl (.inr (.inr (.inr (.inr (.inr (.inr (.inr (.inr (.inl h)))))))))
 ·exact .inl (.inr (.inr (.inr (.inr (.inr (.inr (.inr (.inr (.inr (.inl h))))))))))
 ·exact .inl (.inr (.inr (.inr (.inr (.inr (.inr (.inr (.inr (.inr (.inr (.inl h)))))))))))
 ·exact (h1 x h).imp (fun h => .inr (.inr (.inr (.inr (.inr (.inr (.inr (.inr (.inr (.inr (.inr (.inl h)))))))))))) id
 ·exact (h2 x h).imp (fun h => .inr (.inr (.inr (.inr (.inr (.inr (.inr (.inr (.inr (.inr (.inr (.inr h)))))))))))) id
theorem styRunO {w : World} {base : Nat} {I : Mi} {n : Nat} {pv ev : Value} {p : Nat} {rv : Value} {E : Pays} {wq : World} {P : PS} {lv seen : Value} {tr : List Rz} {xs : List Value} {pc : Int} {cf : Nat} (k : StyI w base I n pv ev p rv E wq P lv seen tr xs pc cf) (kn : Nat) (hk : 1 ≤ kn ∧ kn ≤ 60) {who : Nat} {x : Sta} (ht : P.t = (who : Int)) (hx : P.L[who]? = some x) :
  Calls Tryz.prog 16 #[.pointer (some ⟨I.m,0,none⟩),.int .i64 (kn : Int)] wq fun e w' => e = .returned (evV who (runO E P who x kn)) ∧ ∃ lv' seen' xs' pc' cf',StyI w base I n pv ev p rv E w' (endP P who x (runO E P who x kn)) lv' seen' (runO E P who x kn).tr xs' pc' cf' ∧ Upd (KF wq I (P.mv pv ev lv seen tr xs pc cf)) wq w' ∧ OwnN wq lv lv' ∧ OwnN wq seen seen' := by
 have lp := lt_of_block k.pr
 have opq := k.mon.offF k.pr ze
 refine (mRun base I P pv ev lv seen tr xs pc cf E kn who x wq k.mon k.ge.2 (by rw [k.len];exact k.env) (by rw [k.len];exact k.dok) ht hx ⟨hk.1,by omega⟩).mono ?_
 rintro e w' ⟨rfl,lv',seen',xs',pc',cf',hM,hD,u,o1,o2⟩
 have U : Upd (fun b => base ≤ b) wq w' := u.mono fun b _ h => h.elim (fun h => (k.mon.lt b h).1) fun h => Nat.le_trans k.ge.2 h
 refine ⟨rfl,lv',seen',xs',pc',cf',⟨hM,k.env.upd U,by rw [← k.len];exact hD,by show (P.L.set _ _).length = n;rw [List.length_set];exact k.len,?_,Nat.le_trans runO_len hk.2,k.up.comp U fun b _ h => h.elim id fun h => Nat.le_trans k.ge.1 h,⟨k.ge.1,Nat.le_trans k.ge.2 U.size⟩,u.heap k.pr fun h => h.elim (fun h => opq p h rfl) fun h => absurd lp (Nat.not_lt.2 h)⟩,u,o1,o2⟩
 rcases passF_rng (P.L.set who (endS (runO E P who x kn) x)) (who : Int) ky with h | ⟨q,hq,h,_⟩
 ·exact .inl h
 ·exact .inr ⟨q,_,h,List.getElem?_eq_getElem hq⟩
theorem TwoS.runA {c : Cx} (hc : CxOk c) {wq : World} {a b : Ms} (k : TwoS c wq a b) (kn : Nat) (hk : 1 ≤ kn ∧ kn ≤ 60) {who : Nat} {x : Sta} (ht : a.P.t = (who : Int)) (hx : a.P.L[who]? = some x) :
  Calls Tryz.prog 16 #[.pointer (some ⟨c.I1.m,0,none⟩),.int .i64 (kn : Int)] wq fun e w' => e = .returned (evV who (runO c.E1 a.P who x kn)) ∧ ∃ a' : Ms,a'.P = endP a.P who x (runO c.E1 a.P who x kn) ∧ TwoS c w' a' b ∧ Upd (KF wq c.I1 (a.mv c.pv1 c.ev1)) wq w' := by
 obtain ⟨b1,b2,b3,b4⟩ := hc.b
 have o2 := k.k1.mon.offF k.k2.pr ze
 have lp2 := lt_of_block k.k2.pr
 refine (styRunO k.k1 kn hk ht hx).mono ?_
 rintro e w' ⟨rfl,lv',seen',xs',pc',cf',K,u,q1,q2⟩
 have hS : ∀ y,KF wq c.I1 (a.mv c.pv1 c.ev1) y → (c.base1 ≤ y ∧ y < c.wa.heap.size) ∨ c.base2 ≤ y := fun y h => h.elim (fun h => (k.ao y h).imp (fun h' => ⟨(k.k1.mon.lt y h).1,h'⟩) id) fun h => .inr (Nat.le_trans k.k2.ge.2 h)
 have ub' : Upd (fun x => (c.base1 ≤ x ∧ x < c.wa.heap.size) ∨ c.base2 ≤ x) c.wB w' := k.ub.comp u fun y _ h => h.elim id (hS y)
 have hmf : ∀ y,MonF c.I1 ((⟨endP a.P who x (runO c.E1 a.P who x kn),lv',seen',(runO c.E1 a.P who x kn).tr,xs',pc',cf'⟩ : Ms).mv c.pv1 c.ev1) y → MonF c.I1 (a.mv c.pv1 c.ev1) y ∨ wq.heap.size ≤ y := fun y h => MonF.own (M := a.mv c.pv1 c.ev1) q1 q2 h
 refine ⟨rfl,⟨_,lv',seen',_,xs',pc',cf'⟩,rfl,⟨K,?_,ub',fun y h => (hmf y h).elim (k.ao y) fun h => .inr (Nat.le_trans k.k2.ge.2 h),fun y h h2 => (hmf y h).elim (fun h => k.sep y h h2) fun h => by have := (k.k2.mon.lt y h2).2;omega⟩,u⟩
 refine ⟨k.k2.mon.upd u fun y hy h => h.elim (fun h => k.sep y h hy) fun h => by have := (k.k2.mon.lt y hy).2;omega,?_,k.k2.dok,k.k2.len,k.k2.trn,k.k2.tl,k.k2.up.comp u fun y _ h => h.elim id fun h => ?_,⟨k.k2.ge.1,Nat.le_trans k.k2.ge.2 u.size⟩,u.heap k.k2.pr fun h => h.elim (fun h => o2 _ h rfl) fun h => by omega⟩
 ·exact hc.f2 _ w' ub' (fun y h1 h2 h => by omega) (fun h => by omega)
 ·rcases hS y h with h | h <;> omega
theorem TwoS.runB {c : Cx} (hc : CxOk c) {wq : World} {a b : Ms} (k : TwoS c wq a b) (kn : Nat) (hk : 1 ≤ kn ∧ kn ≤ 60) {who : Nat} {x : Sta} (ht : b.P.t = (who : Int)) (hx : b.P.L[who]? = some x) :
  Calls Tryz.prog 16 #[.pointer (some ⟨c.I2.m,0,none⟩),.int .i64 (kn : Int)] wq fun e w' => e = .returned (evV who (runO c.E2 b.P who x kn)) ∧ ∃ b' : Ms,b'.P = endP b.P who x (runO c.E2 b.P who x kn) ∧ TwoS c w' a b' ∧ Upd (KF wq c.I2 (b.mv c.pv2 c.ev2)) wq w' := by
 obtain ⟨b1,b2,b3,b4⟩ := hc.b
 have o1 := k.k2.mon.offF k.k1.pr ze
 have lp1 := lt_of_block k.k1.pr
 refine (styRunO k.k2 kn hk ht hx).mono ?_
 rintro e w' ⟨rfl,lv',seen',xs',pc',cf',K,u,q1,q2⟩
 have hS : ∀ y,KF wq c.I2 (b.mv c.pv2 c.ev2) y → c.base2 ≤ y := fun y h => h.elim (fun h => (k.k2.mon.lt y h).1) fun h => Nat.le_trans k.k2.ge.2 h
 have hmf : ∀ y,MonF c.I2 ((⟨endP b.P who x (runO c.E2 b.P who x kn),lv',seen',(runO c.E2 b.P who x kn).tr,xs',pc',cf'⟩ : Ms).mv c.pv2 c.ev2) y → MonF c.I2 (b.mv c.pv2 c.ev2) y ∨ wq.heap.size ≤ y := fun y h => MonF.own (M := b.mv c.pv2 c.ev2) q1 q2 h
 have K1 : StyI c.w c.base1 c.I1 c.n1 c.pv1 c.ev1 c.p1 c.rv1 c.E1 w' a.P a.lv a.seen a.tr a.xs a.pc a.cf := k.k1.upd u (fun y hy h => h.elim (fun h => k.sep y hy h) fun h => by have := (k.k1.mon.lt y hy).2;omega) (fun y h => by have := hS y h;omega) fun h => h.elim (fun h => o1 _ h rfl) fun h => by omega
 exact ⟨rfl,⟨_,lv',seen',_,xs',pc',cf'⟩,rfl,⟨K1,K,k.ub.comp u fun y _ h => h.elim id fun h => .inr (hS y h),k.ao,fun y h h2 => (hmf y h2).elim (k.sep y h) fun h3 => by have := (k.k1.mon.lt y h).2;omega⟩,u⟩
end Go.Proofs.YtabbklpalbikdaaGreatDoor
end
section
namespace Go.Pt
open Go.RowKit
end Go.Pt
namespace Go.Proofs.YtabbklpalbikdaaGreatDoor
open Go.RowKit Go.Pt
end Go.Proofs.YtabbklpalbikdaaGreatDoor
end
section
namespace Go.Proofs.YtabbklpalbikdaaGreatDoor
open Go.RowKit Go.Pt
set_option maxHeartbeats 4000000 in
theorem small26 (a : Option Addr) (cl : Nat) (l : List LoadD) (w : World) (hn : l.length ≤ 140737488355328) (hL : LoadsO w a l) :
  Calls Tryz.prog 19 #[.slice a l.length cl] w fun e w' => (∃ z : Bool,e = .returned (.bool z) ∧ (z = true → (1 ≤ l.length ∧ l.length ≤ 3) ∧ SmallD l)) ∧ Upd (fun k => w.heap.size ≤ k) w w' := by
 refine enter (args := [_]) (Γ := [(0,_)]) Tryz.func19 Tryz.ntmps19 rfl (of_decide_eq_true rfl) (.cons rfl .nil) ?_
 repeat' first | refine Wl.move rfl rfl ?_ | refine Wl.assign rfl rfl ?_ | refine Wl.len rfl rfl ?_ | apply Wl.nil | apply St.seq | apply St.block | apply St.region | apply Gt.next
 refine St.loop (σ := Nat × Int × World) (fun τ => τ.1 ≤ l.length ∧ (0 ≤ τ.2.1 ∧ τ.2.1 ≤ 1500) ∧ Upd (fun k => w.heap.size ≤ k) w τ.2.2 ∧ SmallD (l.take τ.1))
  (fun τ => [(3,.int .i64 τ.2.1),(6,.slice a l.length cl),(0,.slice a l.length cl),(7,.int .i64 (l.length : Int)),(8,.int .i64 (τ.1 : Int))]) (fun τ => Hp τ.2.2 []) (fun τ => l.length - τ.1) (0,0,w) ⟨Nat.zero_le _,⟨show (0 : Int) ≤ 0 by decide,show (0 : Int) ≤ 1500 by decide⟩,Upd.refl _ _,fun x hx => by cases hx⟩ kv (fun _ h => h) ?_
 rintro ⟨i,n,w0⟩ ⟨hi,hr,hu0,hS⟩
 simp only at hi hr hu0 hS ⊢
 by_cases hlt : i < l.length
 ·have hd : decide ((i : Int) < (l.length : Int)) = true := decide_eq_true ky
  obtain ⟨x,hx⟩ : ∃ x,l[i]? = some x := ⟨_,List.getElem?_eq_getElem hlt⟩
  obtain ⟨lb,lo,rfl,v0,v1,v3,hcell,hV⟩ := hL i x hx
  have hlb : lb < w.heap.size := cell_old (hcell 0 _ rfl)
  have hcell' : ∀ q v,(loadC v0 v1 v3 x)[q]? = some v → w0.cell? ⟨lb,lo + (i : Int).toNat * 4 + q,none⟩ = some v := fun q v hq => by rw [Int.toNat_natCast];exact hu0.cell (hcell q v hq) (Nat.not_le.2 hlb)
  obtain ⟨b0,b1,b3⟩ := hV.big
  obtain ⟨ca,cc,rfl,_⟩ := hV.code
  obtain ⟨xa,xc,rfl,_⟩ := hV.regs
  obtain ⟨da,dc,rfl,_⟩ := hV.data.shape
  have hlo : (loadC (.slice ca x.code.length cc) (.slice da x.data.length dc) (.slice xa x.regs.length xc) x).all Value.oneCell' = true := rfl
  have hq4 : ((x.data.length : Int)).tdiv 4 = ((x.data.length / 4 : Nat) : Int) := by rw [Int.tdiv_eq_ediv_of_nonneg ky];omega
  have hqz : IntKind.i64.wrap (((x.data.length : Int)).tdiv 4) = ((x.data.length / 4 : Nat) : Int) := by rw [hq4,IntKind.wrap_i64];omega
  have l1 := hu0.size
  have hnext : x.code.length ≤ 1024 → x.data.length ≤ 4096 → x.regs.length ≤ 1500 → SmallD (l.take (i + 1)) := fun h1 h2 h3 y hy => by
   rw [List.take_add_one,hx] at hy
   rcases List.mem_append.1 hy with hy | hy
   ·exact hS y hy
   ·obtain rfl : y = x := by simpa using hy
    exact ⟨h1,h2,h3⟩
  have hd1 : decide (1500 < n + (1 + (x.code.length : Int) + ((x.data.length / 4 : Nat) : Int) + (x.regs.length : Int))) = decide (¬ (n + (1 + (x.code.length : Int) + ((x.data.length / 4 : Nat) : Int) + (x.regs.length : Int)) ≤ 1500)) := decide_eq_decide.2 ky
  repeat' first | (apply Wl.loadAB (xs := loadC (.slice ca x.code.length cc) (.slice da x.data.length dc) (.slice xa x.regs.length xc) x);exact rfl;exact rfl;(intro j v hj;exact hcell' j v hj);exact kj;exact rfl) | (apply Wl.storeA (xs := loadC (.slice ca x.code.length cc) (.slice da x.data.length dc) (.slice xa x.regs.length xc) x);exact rfl;exact rfl;exact rfl;exact hlo;exact ke;exact .z (LOver.whole rfl)) | (refine Wl.addI rfl rfl rfl ?_ ?_;constructor <;> omega) | refine Wl.move rfl rfl ?_ | refine Wl.assign rfl rfl ?_ | (apply Wl.on;exact rfl;exact rfl;exact ka) | (apply Wl.off;exact rfl;exact rfl;exact rfl;exact kr) | (apply Wl.pickT;exact rfl;exact rfl;exact ka;exact rfl) | (apply Wl.pickF;exact rfl;exact rfl;exact ka;exact rfl) | refine Wl.fieldAddr0 rfl rfl ?_ | refine Wl.fieldAddrZ rfl rfl ?_ | (apply Wl.loadH;exact rfl;exact rfl;exact ke;exact rfl) | refine Wl.lss rfl rfl rfl ?_ | refine Wl.gtr rfl rfl rfl ?_ | (apply Wl.quo;exact rfl;exact rfl;exact rfl;exact qv) | refine Wl.len rfl rfl ?_ | (apply Wl.alloc;exact rfl;intro c hc ho) | (refine Wl.indexAddr rfl rfl rfl ?_ ?_;constructor <;> omega) | apply Wl.nil | apply St.seq | apply St.block | apply St.region | (apply St.condT;exact rfl;exact ka) | apply St.ret | apply St.skip | apply Gt.next | apply Gt.thenRet | apply Gt.inNormal | apply Gt.inRet | (apply Gt.out1;exact rfl;exact rfl;intro w' hp) | (apply Wl.splitP;exact rfl;exact rfl;all_goals (intros;try (exfalso;omega))) | (apply St.condP;exact rfl;all_goals (intros;try (exfalso;omega)))
  iterate 3
   refine ⟨⟨_,rfl,fun h => by cases h⟩,hu0.comp (hp.drop qs).upd fun k _ hs => hs.elim id fun y => (y trivial).elim⟩
  ·refine Gt.reb (H' := []) fun w3 h3 => ⟨trivial,trivial,?_⟩
   have u3 : Upd (fun k => w.heap.size ≤ k) w0 w3 := Hp.on1 h3 (Upd.refl _ _) qf
   refine Gt.round (i + 1,n + (1 + (x.code.length : Int) + IntKind.i64.wrap (((x.data.length : Int)).tdiv 4) + (x.regs.length : Int)),w3) ⟨by simp only;omega,⟨by simp only;omega,by simp only;omega⟩,hu0.comp u3 fun k _ hs => hs.elim id id,hnext ky ky ky⟩ qf kv (fun _ h => h)
 ·obtain rfl : i = l.length := by omega
  have hd : decide ((l.length : Int) < (l.length : Int)) = false := decide_eq_false ky
  by_cases h1 : 1 ≤ l.length
  ·have d1 : decide ((l.length : Int) ≥ 1) = true := decide_eq_true ky
   have d1' : decide ((1 : Int) ≤ (l.length : Int)) = true := decide_eq_true ky
   by_cases h3 : l.length ≤ 3
   ·have d3 : decide ((l.length : Int) ≤ 3) = true := decide_eq_true ky
    repeat' first | refine Wl.move rfl rfl ?_ | refine Wl.assign rfl rfl ?_ | (apply Wl.on;exact rfl;exact rfl;exact ka) | (apply Wl.pickT;exact rfl;exact rfl;exact ka;exact rfl) | refine Wl.lss rfl rfl rfl ?_ | refine Wl.leq rfl rfl rfl ?_ | refine Wl.geq rfl rfl rfl ?_ | refine Wl.len rfl rfl ?_ | apply Wl.nil | apply St.seq | apply St.region | (apply St.condF;exact rfl;exact ka) | apply St.ret | apply St.exit | apply Gt.next | apply Gt.thenExit | apply Gt.inExit | (apply Gt.out1;exact rfl;exact rfl;intro w' hp)
    exact ⟨⟨_,rfl,fun _ => ⟨⟨h1,h3⟩,by rw [List.take_length] at hS;exact hS⟩⟩,hu0.comp hp.upd fun k _ hs => hs.elim id fun y => (y trivial).elim⟩
   ·have d3 : decide ((l.length : Int) ≤ 3) = false := decide_eq_false ky
    repeat' first | refine Wl.move rfl rfl ?_ | refine Wl.assign rfl rfl ?_ | (apply Wl.on;exact rfl;exact rfl;exact ka) | (apply Wl.pickT;exact rfl;exact rfl;exact ka;exact rfl) | refine Wl.lss rfl rfl rfl ?_ | refine Wl.leq rfl rfl rfl ?_ | refine Wl.geq rfl rfl rfl ?_ | refine Wl.len rfl rfl ?_ | apply Wl.nil | apply St.seq | apply St.region | (apply St.condF;exact rfl;exact ka) | apply St.ret | apply St.exit | apply Gt.next | apply Gt.thenExit | apply Gt.inExit | (apply Gt.out1;exact rfl;exact rfl;intro w' hp)
    exact ⟨⟨_,rfl,fun h => Bool.noConfusion (h.symm.trans d3)⟩,hu0.comp hp.upd fun k _ hs => hs.elim id fun y => (y trivial).elim⟩
  ·have d1 : decide ((l.length : Int) ≥ 1) = false := decide_eq_false ky
   have d1' : decide ((1 : Int) ≤ (l.length : Int)) = false := decide_eq_false ky
   repeat' first | refine Wl.move rfl rfl ?_ | refine Wl.assign rfl rfl ?_ | (apply Wl.off;exact rfl;exact rfl;exact rfl;exact kr) | (apply Wl.pickF;exact rfl;exact rfl;exact ka;exact rfl) | refine Wl.lss rfl rfl rfl ?_ | refine Wl.geq rfl rfl rfl ?_ | refine Wl.len rfl rfl ?_ | apply Wl.nil | apply St.seq | apply St.region | (apply St.condF;exact rfl;exact ka) | apply St.ret | apply St.exit | apply Gt.next | apply Gt.thenExit | apply Gt.inExit | (apply Gt.out1;exact rfl;exact rfl;intro w' hp)
   exact ⟨⟨_,rfl,fun h => by cases h⟩,hu0.comp hp.upd fun k _ hs => hs.elim id fun y => (y trivial).elim⟩
end Go.Proofs.YtabbklpalbikdaaGreatDoor
end
section
namespace Go.Pt
open Go.RowKit
theorem mapM_exS {α β : Type} {g : α → Option β} {l : List α} (h : ∀ x ∈ l,∃ y,g x = some y) : ∃ ys,l.mapM g = some ys := by
 induction l with
 | nil => exact ⟨[],rfl⟩
 | cons x r ih =>
  obtain ⟨y,hy⟩ := h x qt
  obtain ⟨ys,hys⟩ := ih fun z hz => h z (by simp [hz])
  exact ⟨y :: ys,by rw [List.mapM_cons,hy,hys];rfl⟩
section
variable {P : Program} {md : Md} {N : Nat} {ops : Array Oper} {rest : List Oper} {Γ : Env} {C : World → Prop} {Q : Exit → Act → World → Prop} {d : Nat} {ty : TypeId} {pos : String} {af : Array Edge} {t u : TypeId} {x y : Operand}
theorem Wl.neqSame {xs : Array Value} (hd : Nat.blt d N = true) (hx : ev Γ x = some (.agg xs)) (hy : ev Γ y = some (.agg xs)) (hk : P.keyTypeAt 8 t = true) (hg0 : P.eqGuardType P.depth t = false) (fx : (Value.agg xs).formed P t = true)
  (hl : ∃ la,P.keyLits 8 t xs.toList = some la) (h : Wl rest P md ops N ((d,.bool false) :: Γ) C Q) : Wl (⟨some d,.binOp .neq t x y u,ty,pos,af,none⟩ :: rest) P md ops N Γ C Q :=
 Wl.val hd (fun a w ha _ => by
  obtain ⟨la,hl⟩ := hl
  obtain ⟨r,_,h1,h3⟩ := run_neq_agg (P := P) w (t := t) hk fx fx hl hl
  have : r = true := h3.2 rfl
  subst this
  simp only [execOp,ha.ev hx,ha.ev hy,pure_bind,Sem.run_bind,guard_agg (P := P) hg0,Result.andThen_ok,h1];rfl) h
end
end Go.Pt
namespace Go.Proofs.YtabbklpalbikdaaGreatDoor
open Go.RowKit Go.Pt
theorem staFld : (match Tryz.prog.underlying 44 with
  | some (.struct fs) => fs.all fun f => (f.name != "_") && ((Nat.beq f.type 3 && Nat.beq f.offset 0) || ((Nat.beq f.type 25 && (Nat.beq f.offset 1 || Nat.beq f.offset 2)) || (Nat.beq f.type 42 && Nat.beq f.offset 3)))
  | _ => false) = true := by kernel_rfl
theorem klSta {x : Sta} (hx : StaOk x) (hs : IntKind.i64.min ≤ x.s ∧ x.s ≤ IntKind.i64.max) : ∃ la,Tryz.prog.keyLits 8 44 x.cells = some la := by
 have hF := staFld
 have hci : Tryz.prog.cellsOf 3 = 1 := by kernel_rfl
 have hcu : Tryz.prog.cellsOf 25 = 1 := by kernel_rfl
 have hca : Tryz.prog.cellsOf 42 = 32 := by kernel_rfl
 have hcp : Tryz.prog.cellsOf 44 = 35 := by kernel_rfl
 have ui : Tryz.prog.underlying 3 = some (.int .i64) := by kernel_rfl
 have uu : Tryz.prog.underlying 25 = some (.int .u32) := by kernel_rfl
 obtain ⟨g,hg,hgr⟩ := rgN hx.1
 cases hu : Tryz.prog.underlying 44 with
 | none => rw [hu] at hF;cases hF
 | some td =>
  rw [hu] at hF
  cases td <;> try (cases hF;done)
  rename_i fs
  simp only at hF
  show ∃ la,Tryz.prog.keyLits (7 + 1) _ _ = some la
  unfold Program.keyLits
  rw [hu]
  simp only
  have hall := Array.all_eq_true'.1 hF
  have hlen : x.cells.length = Tryz.prog.cellsOf 44 := by rw [hcp,hx.len]
  have hnames : (fs.all fun f => f.name != "_") = true := by
   rw [Array.all_eq_true']
   intro f hf
   have := hall f hf
   rw [Bool.and_eq_true] at this
   exact this.1
  rw [if_pos ⟨hlen,hnames⟩]
  obtain ⟨ys,hys⟩ := mapM_exS (g := fun f => Tryz.prog.keyLits 7 f.type ((x.cells.drop f.offset).take (Tryz.prog.cellsOf f.type))) (l := fs.toList) (fun f hf => by
   have := hall f (by simpa using hf)
   rw [Bool.and_eq_true,Bool.or_eq_true,Bool.or_eq_true,Bool.and_eq_true,Bool.and_eq_true,Bool.or_eq_true,Bool.and_eq_true] at this
   rcases this.2 with ⟨ht,ho⟩ | ⟨ht,ho | ho⟩ | ⟨ht,ho⟩
   ·rw [Nat.eq_of_beq_eq_true ht,Nat.eq_of_beq_eq_true ho,hci]
    exact ⟨_,klInt (d := 6) ui hs⟩
   ·rw [Nat.eq_of_beq_eq_true ht,Nat.eq_of_beq_eq_true ho,hcu]
    exact ⟨_,klInt (d := 6) uu (show (0 : Int) ≤ x.c ∧ x.c ≤ 4294967295 from ⟨hx.2.1.1,Int.le_of_lt_add_one hx.2.1.2⟩)⟩
   ·rw [Nat.eq_of_beq_eq_true ht,Nat.eq_of_beq_eq_true ho,hcu]
    exact ⟨_,klInt (d := 6) uu (show (0 : Int) ≤ x.p ∧ x.p ≤ 4294967295 from ⟨hx.2.2.1,Int.le_of_lt_add_one hx.2.2.2⟩)⟩
   ·rw [Nat.eq_of_beq_eq_true ht,Nat.eq_of_beq_eq_true ho,hca]
    have e : (x.cells.drop 3).take 32 = cellsN .u32 32 g := by
     show x.xs.take 32 = _
     rw [List.take_of_length_le (Nat.le_of_eq hx.1.1),hg]
    rw [e]
    exact ⟨_,klInts (d := 5) (e := 25) zg uu hca hcu g hgr⟩)
  rw [hys]
  exact ⟨_,rfl⟩
theorem formSta {x : Sta} (hx : StaOk x) : (Value.agg x.cells.toArray).formed Tryz.prog 44 = true := by
 have hF := staFld
 have hcp : Tryz.prog.cellsOf 44 = 35 := by kernel_rfl
 unfold Value.formed
 cases hu : Tryz.prog.underlying 44 with
 | none => rw [hu] at hF;cases hF
 | some td =>
  rw [hu] at hF
  cases td <;> try (cases hF;done)
  simp [hcp,hx.len]
section
variable {md : Md} {N : Nat} {ops : Array Oper} {rest : List Oper} {Γ : Env} {C : World → Prop} {Q : Exit → Act → World → Prop} {d : Nat} {ty : TypeId} {pos : String} {af : Array Edge} {u : TypeId} {x y : Operand}
theorem Wl.neqSta {s : Sta} (hs : StaOk s) (hi : IntKind.i64.min ≤ s.s ∧ s.s ≤ IntKind.i64.max) (hd : Nat.blt d N = true) (hx : ev Γ x = some (.agg s.cells.toArray)) (hy : ev Γ y = some (.agg s.cells.toArray))
  (h : Wl rest Tryz.prog md ops N ((d,.bool false) :: Γ) C Q) : Wl (⟨some d,.binOp .neq 44 x y u,ty,pos,af,none⟩ :: rest) Tryz.prog md ops N Γ C Q :=
 Wl.neqSame hd hx hy zg zg (formSta hs) (klSta hs hi) h
end
end Go.Proofs.YtabbklpalbikdaaGreatDoor
end
section
namespace Go.Proofs.YtabbklpalbikdaaGreatDoor
open Go.RowKit Go.Pt
theorem LoadsO.upd {w w' : World} {a : Option Addr} {l : List LoadD} {S : Nat → Prop} (h : LoadsO w a l) (u : Upd S w w') (hs : ∀ k,k < w.heap.size → ¬ S k) : LoadsO w' a l := fun i x hx => by
 obtain ⟨b,o,e,v0,v1,v3,h1,h2⟩ := h i x hx
 exact ⟨b,o,e,v0,v1,v3,fun q v hq => u.cell (h1 q v hq) (hs _ (cell_old (h1 q v hq))),h2.code.upd u hs,h2.data.upd u fun k _ hk _ => hs k hk,h2.regs.upd u hs,h2.big,h2.cal⟩
end Go.Proofs.YtabbklpalbikdaaGreatDoor
end
