/-
 19 texts,one behind the other;each says what it proves. Conditions: as each text says.
-/
import Derived.Test.YtabbklpalbikdaaGreatDoorM09
import Derived.Test.YtabbklpalbikdaaGreatDoorM06
import Derived.Test.YtabbklpalbikdaaGreatDoorM07
import Derived.Test.YtabbklpalbikdaaGreatDoorM08
import Derived.Test.YtabbklpalbikdaaGreatDoorM03
import Derived.Test.YtabbklpalbikdaaGreatDoorMOpenL
import Derived.Test.YtabbklpalbikdaaGreatDoorM02
import Derived.Test.YtabbklpalbikdaaGreatDoorRows
import Derived.WalkKit
import Derived.ProofKit
import Derived.LaidMore
import Derived.OpenShut
import Derived.ShutString
import Derived.ChangeOld
import Derived.Below
import Derived.MakeChecks
import Derived.Stop.Joined
set_option maxHeartbeats 32000000
set_option linter.unusedVariables false
set_option linter.unusedSimpArgs false
section
namespace Go.Proofs.YtabbklpalbikdaaGreatDoor
open Go.RowKit Go.Pt
theorem FB0 : FB (fun _ => 0) := fun _ => ⟨by show (0 : Int) ≤ 0;decide,by show (0 : Int) < 256;decide⟩
theorem codeF_FB {f : Nat → Int} (h : FB f) (o : Nat) (l : List Int) : ∀ k,FB (codeF f o l k)
 | 0 => h
 | k + 1 => storeX_FB (codeF_FB h o l k) _ _ _
theorem loadF_FB (l : List LoadD) : ∀ i,FB (loadF l i)
 | 0 => FB0
 | i + 1 => putF_FB (codeF_FB (loadF_FB l i) _ _ _) _ _
theorem begP_ok (l : List LoadD) : DOk (begP l).D (begP l).L.length := by
 have hl : (begP l).L.length = l.length := by simp [begP]
 rw [hl]
 exact ⟨loadF_FB l _,fun _ => ⟨by show 0 ≤ 4;decide,fun x hx => by cases hx⟩,⟨by show (0 : Int) ≤ 0;decide,by show (0 : Int) ≤ 256;decide⟩,by show (0 : Int) ≤ 0;decide,by simp [begP],fun s hs => by rw [List.eq_of_mem_replicate hs];decide⟩
theorem LoadV.two {w : World} {g : Nat} {x : LoadD} (hx : x.data = [] ∧ x.regs = [] ∧ x.calls = 255) {a b : Int} (hc : x.code = [a,b]) (ha : 0 ≤ a ∧ a < 4294967296) (hb : 0 ≤ b ∧ b < 4294967296) (hg : w.heap[g]? = some (.cells #[.int .u32 a,.int .u32 b] 25 (0,0))) : LoadV w x (.slice (some ⟨g,0,none⟩) 2 2) (.slice none 0 0) (.slice none 0 0) where
 code := ⟨some ⟨g,0,none⟩,2,by rw [hc];rfl,fun i y hy => by
  rw [hc] at hy
  refine ⟨g,0,rfl,?_⟩
  match i,hy with
  | 0,hy => cases hy;exact ⟨cell_of hg rfl,ha⟩
  | 1,hy => cases hy;exact ⟨cell_of hg rfl,hb⟩⟩
 data := by rw [hx.1];exact Bs.nil w
 dlt := fun k hk _ => by cases hk
 regs := ⟨none,0,by rw [hx.2.1];rfl,fun i y hy => by rw [hx.2.1] at hy;cases hy⟩
 len := by rw [hc,hx.1,hx.2.1];exact ⟨by show 2 ≤ 1024;decide,by show 0 ≤ 4096;decide,by show 0 ≤ 1500;decide⟩
 cal := by rw [hx.2.2];exact ⟨by decide,by decide⟩
set_option maxRecDepth 100000 in
theorem fitTurn : (endP (begP [ldF]) 0 (staB [ldF] 0) (runO (begE [ldF]) (begP [ldF]) 0 (staB [ldF] 0) 10)).t = -1 := by decide +kernel
theorem fitSta : (endS (runO (begE [ldF]) (begP [ldF]) 0 (staB [ldF] 0) 10) (staB [ldF] 0)).s = 1 := by unfold endS;rw [fitWhy];rfl
set_option maxRecDepth 4000 in
theorem fit26 (w : World) (hT : tabOk w) : Calls Tryz.prog 14 #[] w fun e w' => e = .returned (.bool true) ∧ Upd (fun k => w.heap.size ≤ k) w w' := by
 refine enter (args := []) (Γ := []) Tryz.func14 Tryz.ntmps14 rfl odq .nil ?_
 repeat' first | refine Wl.assign rfl rfl ?_ | (apply Wl.buildS;exact rfl;exact ki;exact kc) | (apply Wl.lit;exact rfl;exact ki;exact rfl;exact rfl;exact kj;intro c hc ho) | apply Wl.nil | apply St.seq | apply St.region | apply Gt.next
 apply Wl.callC
 ·exact rfl
 ·exact ke
 intro wq hq
 have zq := hq.upd.size
 rename_i g hg og
 generalize c = c2 at *
 have hc2 : w.heap.size ≤ c2 := by assumption
 have hu0 : Upd (fun k => w.heap.size ≤ k) w wq := Hp.on2 hq (Upd.refl _ _) q7 q7
 refine (begin26 (some ⟨c2,0,none⟩) 1 1 [ldF] wq rfl ze (fun i x hx => by
  match i,hx with
  | 0,hx =>
   cases hx
   exact ⟨c2,0,rfl,.slice (some ⟨g,0,none⟩) 2 2,.slice none 0 0,.slice none 0 0,fun q v hv => cell_of (hq.own.at (.head _)) (by rw [Nat.zero_mul,Nat.add_zero,Nat.zero_add];exact hv),LoadV.two ⟨rfl,rfl,rfl⟩ rfl ze ze (hq.own.at (.tail _ (.head _)))⟩) (hT.upd hu0 (Nat.not_le.2 hT.lt))).mono ?_
 rintro e w1 ⟨p,base,I,pv,ev,cf,rv,rfl,hp1,hM1,hE1,hb1,hpg,u1⟩
 have U1 : Upd (fun k => w.heap.size ≤ k) w w1 := hu0.comp u1 fun k _ hs => hs.elim id fun h => by omega
 have q0 : w1.cell? ⟨p,0,none⟩ = some (.pointer (some ⟨I.m,0,none⟩)) := cell_of hp1 rfl
 refine ⟨_,_,rfl,Hp.start w1,?_⟩
 clear hq
 repeat' first | (apply Wl.loadO;exact rfl;exact rfl;exact zw;exact kh) | refine Wl.move rfl rfl ?_ | refine Wl.assign rfl rfl ?_ | refine Wl.nilCheck rfl rfl ?_ | refine Wl.fieldAddr0 rfl rfl ?_ | refine Wl.eqlPN rfl rfl rfl ?_ | apply Wl.nil | apply St.seq | apply St.region | (apply St.condF;exact rfl;exact ka) | apply St.skip | apply Gt.next
 apply Wl.callC
 ·exact rfl
 ·exact ke
 intro wq hq
 have hMq := hM1.upd hq.upd fun b hb y => y trivial
 refine (mRun base I (begP [ldF]) pv ev (.slice none 0 0) (.slice none 0 0) [] xz 0 cf (begE [ldF]) 10 0 (staB [ldF] 0) wq hMq (by have := hq.upd.size;omega) (hE1.upd (hq.upd.mono fun _ _ y => (y trivial).elim)) (begP_ok [ldF]) rfl rfl ze).mono ?_
 rintro e w2 ⟨rfl,lv',seen',xs',pc',cf',hM2,_,u2,_,_⟩
 rw [show evV 0 (runO (begE [ldF]) (begP [ldF]) 0 (staB [ldF] 0) 10) = .agg #[.int .i64 0,.int .i64 2,.int .i64 3] by unfold evV;rw [fitLen,fitWhy];rfl]
 have u12 : Upd (fun k => base ≤ k) w1 w2 := (hq.upd.mono fun _ _ y => (y trivial).elim).comp u2 fun k _ hs => hs.elim id fun h => h.elim (fun h => (hMq.lt k h).1) fun h => by have := hq.upd.size;omega
 have U2 : Upd (fun k => w.heap.size ≤ k) w w2 := U1.comp u12 fun k _ hs => hs.elim id fun h => by omega
 have hp2 : w2.heap[p]? = some (.cells #[.pointer (some ⟨I.m,0,none⟩),rv] 39 (0,0)) := by
  have hoff := hMq.offF (hq.upd.heap hp1 fun y => y trivial) ze
  exact u2.heap (hq.upd.heap hp1 fun y => y trivial) fun h => h.elim (fun h => hoff p h rfl) fun h => absurd (lt_of_block (hq.upd.heap hp1 fun y => y trivial)) (Nat.not_lt.2 h)
 have q2 : w2.cell? ⟨p,0,none⟩ = some (.pointer (some ⟨I.m,0,none⟩)) := cell_of hp2 rfl
 have lp2 := lt_of_block hp2
 refine ⟨_,_,rfl,Hp.start w2,?_⟩
 clear hq
 have htv : turnV (endP (begP [ldF]) 0 (staB [ldF] 0) (runO (begE [ldF]) (begP [ldF]) 0 (staB [ldF] 0) 10)).t = -1 := by rw [fitTurn];rfl
 have hs1 := fitSta
 generalize hR : runO (begE [ldF]) (begP [ldF]) 0 (staB [ldF] 0) 10 = R at *
 repeat' first | (apply Wl.loadO;exact rfl;exact rfl;exact zw;exact kh) | (apply Wl.eqlG (la := [Lit.int .i64 0,Lit.int .i64 2,Lit.int .i64 3]) (lb := [Lit.int .i64 0,Lit.int .i64 2,Lit.int .i64 3]);exact rfl;exact rfl;exact rfl;(kernel_rfl);(kernel_rfl);(kernel_rfl);(kernel_rfl);(kernel_rfl);(kernel_rfl);exact (⟨fun _ => rfl,fun _ => rfl⟩ : true = true ↔ _ = _)) | refine Wl.move rfl rfl ?_ | (apply Wl.on;exact rfl;exact rfl;exact ka) | refine Wl.nilCheck rfl rfl ?_ | refine Wl.fieldAddr0 rfl rfl ?_ | (apply Wl.storeA;exact rfl;exact rfl;exact rfl;exact rfl;exact ke;exact kf) | (apply Wl.loadAH;exact rfl;exact rfl;exact ke;exact ke) | (apply Wl.buildS;exact rfl;exact ki;exact kc) | (apply Wl.alloc;exact rfl;intro c hc ho) | apply Wl.nil | apply St.seq | apply St.region | apply Gt.next
 apply Wl.callQ
 exact rfl
 (focus repeat constructor)
 ·intro wq hq
  exact hq.q (mTurn base I _ wq (hM2.hp hq qt))
 have hdt : decide (turnV ((endP (begP [ldF]) 0 (staB [ldF] 0) R).mv pv ev lv' seen' R.tr xs' pc' cf').t = -1) = true := decide_eq_true htv
 repeat' first | (apply Wl.loadO;exact rfl;exact rfl;exact zw;exact kh) | refine Wl.move rfl rfl ?_ | (apply Wl.on;exact rfl;exact rfl;exact ka) | refine Wl.nilCheck rfl rfl ?_ | (apply Wl.pickT;exact rfl;exact rfl;exact ka;exact rfl) | refine Wl.fieldAddr0 rfl rfl ?_ | refine Wl.eql rfl rfl rfl ?_
 apply Wl.callQ
 exact rfl
 (focus repeat constructor)
 ·intro wq hq
  exact hq.q (mStatus base I _ 0 (endS R (staB [ldF] 0)) wq (hM2.hp hq qt) rfl)
 have hds : decide ((endS R (staB [ldF] 0)).s = 1) = true := decide_eq_true hs1
 repeat' first | (apply Wl.fieldV (v := .int .i64 (endS R (staB [ldF] 0)).s);exact rfl;exact rfl;exact rfl) | refine Wl.assign rfl rfl ?_ | (apply Wl.on;exact rfl;exact rfl;exact ka) | (apply Wl.pickT;exact rfl;exact rfl;exact ka;exact rfl) | (apply Wl.eqlIs;exact rfl;exact rfl;exact rfl;exact kv) | apply Wl.nil | apply St.ret | apply Gt.next | (apply Gt.out1;exact rfl;exact rfl;intro w' hp)
 have zw2 := U2.size
 exact ⟨rfl,Hp.on1 hp U2 q7⟩
theorem mMemory (base : Nat) (I : Mi) (M : Mv2) (w : World) (hM : MonS w base I M) :
  Calls Tryz.prog 23 #[.pointer (some ⟨I.m,0,none⟩)] w fun e w' => ∃ d,e = .returned (.pointer (some ⟨d,0,none⟩)) ∧ w.heap.size ≤ d ∧ memH w' d M.f ∧ Upd (fun k => w.heap.size ≤ k) w w' := by
 have q1 : w.cell? ⟨I.m,1,none⟩ = some (.pointer (some ⟨I.d,0,none⟩)) := cell_of hM.mm rfl
 have q2 : w.cell? ⟨I.d,2,none⟩ = some (.pointer (some ⟨I.cM,0,none⟩)) := cell_of hM.dd rfl
 refine enter (args := [_]) (Γ := [(0,_)]) Tryz.func23 Tryz.ntmps23 rfl odq (.cons rfl .nil) ?_
 repeat' first | (apply Wl.loadO;exact rfl;exact rfl;exact zw;exact kh) | refine Wl.move rfl rfl ?_ | refine Wl.assign rfl rfl ?_ | refine Wl.nilCheck rfl rfl ?_ | refine Wl.fieldAddrZ rfl rfl ?_ | refine Wl.eqlPN rfl rfl rfl ?_ | apply Wl.nil | apply St.seq | apply St.region | (apply St.condF;exact rfl;exact ka) | apply St.skip | apply Gt.next
 apply Wl.callC
 ·exact rfl
 ·exact ke
 intro wq hq
 have zq := hq.upd.size
 refine (mcopy I.cM M.f wq (hM.upd hq.upd fun _ _ y => y trivial).mem).mono ?_
 rintro e w1 ⟨d,rfl,hd,hm,u⟩
 refine ⟨_,_,rfl,Hp.start w1,?_⟩
 repeat' first | refine Wl.assign rfl rfl ?_ | apply Wl.nil | apply St.ret | apply Gt.next | (apply Gt.out1;exact rfl;exact rfl;intro w' hp)
 exact ⟨d,rfl,by omega,hp.upd.heap hm fun y => y trivial,(hq.upd.comp u (T := fun k => w.heap.size ≤ k) fun k _ h => h.elim (fun y => (y trivial).elim) fun h => by omega).comp hp.upd fun k _ h => h.elim id fun y => (y trivial).elim⟩
theorem mRunNob (base : Nat) (I : Mi) (M : Mv2) (n : Int) (w : World) (hM : MonS w base I M) (hn : 1 ≤ n) (ht : M.t < 0) :
  Calls Tryz.prog 16 #[.pointer (some ⟨I.m,0,none⟩),.int .i64 n] w fun e w' => e = .returned evNo ∧ MonS w' base I M ∧ Upd (fun k => w.heap.size ≤ k) w w' := by
 have hd : decide (n < 1) = false := decide_eq_false ky
 have q2 : w.cell? ⟨I.m,2,none⟩ = some (.pointer (some ⟨I.wd,0,none⟩)) := cell_of hM.mm rfl
 have lm := lt_of_block hM.mm
 have hTn := fun wq (k : WardS wq I.wd I.sa M.L M.t) => wTurn I.wd I.sa M.L M.t wq k
 change ∀ wq,WardS wq I.wd I.sa M.L M.t → Calls Tryz.prog 58 #[.pointer (some ⟨I.wd,0,none⟩)] wq (fun e w' => e = .returned (.int .i64 (turnV M.t)) ∧ Hp wq [] w') at hTn
 have htv : turnV M.t = -1 := by unfold turnV;rw [if_pos ht]
 rw [htv] at hTn
 refine enter (args := [_,_]) (Γ := [(0,_),(1,_)]) Tryz.func16 Tryz.ntmps16 rfl odq (.cons rfl (.cons rfl .nil)) ?_
 repeat' first | (apply Wl.loadO;exact rfl;exact rfl;exact zw;exact kh) | apply St.scope | refine Wl.move rfl rfl ?_ | (apply Wl.on;exact rfl;exact rfl;exact ka) | refine Wl.nilCheck rfl rfl ?_ | (apply Wl.pickF;exact rfl;exact rfl;exact ka;exact rfl) | refine Wl.fieldAddrZ rfl rfl ?_ | refine Wl.eqlPN rfl rfl rfl ?_ | refine Wl.lss rfl rfl rfl ?_ | (apply Wl.alloc;exact rfl;intro c hc ho) | apply Wl.nil | apply St.seq | apply St.region | (apply St.condF;exact rfl;exact ka) | apply St.skip | apply Gt.next
 apply Wl.callQ
 exact rfl
 (focus repeat constructor)
 ·intro wq hq
  exact hq.q (hTn wq (hM.hp hq zx).ward)
 repeat' first | apply Gt.scopeR | (apply Gt.outC';exact rfl;infer_instance;exact rfl;exact ke;exact ke;intro w' hp) | refine Wl.move rfl rfl ?_ | refine Wl.assign rfl rfl ?_ | refine Wl.lss rfl rfl rfl ?_ | (apply Wl.storeA;exact rfl;exact rfl;exact rfl;exact rfl;exact ke;exact kf) | (apply Wl.buildS;exact rfl;exact ki;exact kc) | apply Wl.nil | apply St.seq | apply St.region | (apply St.condT;exact rfl;exact ka) | apply St.ret | apply Gt.next | apply Gt.thenRet
 exact ⟨rfl,hM.hp hp zx,hp.on (Upd.refl _ _) zx⟩
theorem passG_rng (L : List Sta) (t : Nat) : ∀ (f k : Nat),passG L t k f = -1 ∨ ∃ q,q < L.length ∧ passG L t k f = (q : Int) ∧ L[q]?.map Sta.s = some 0
 | 0,_ => .inl rfl
 | f + 1,k => by
  unfold passG
  by_cases h : (L[(t + k) % L.length]?.map Sta.s) = some 0
  ·rw [if_pos h]
   have hlt : (t + k) % L.length < L.length := by
    rcases Nat.eq_zero_or_pos L.length with e | e
    ·rw [List.getElem?_eq_none ky] at h;cases h
    ·exact Nat.mod_lt _ e
   exact .inr ⟨_,hlt,rfl,h⟩
  ·rw [if_neg h];exact passG_rng L t f (k + 1)
theorem passF_rng (L : List Sta) (t : Int) (h : 0 ≤ t) : passF L t = -1 ∨ ∃ q,q < L.length ∧ passF L t = (q : Int) ∧ L[q]?.map Sta.s = some 0 := by
 unfold passF
 rw [if_neg ky]
 exact passG_rng L _ _ _
theorem runO_len {E : Pays} {P : PS} {k kn : Nat} {x : Sta} : (runO E P k x kn).tr.length ≤ kn := by
 unfold runO
 have := (runF_len (E := E) (n := P.L.length) (who := k) (cf := cfOf E k) kn ⟨x.xs,x.p,P.D⟩ []).2.1
 simpa using this
theorem callO_D (r : (List Value × Int) × DS) (pc : Int) : (callO r pc).s.D = r.2 := by
 unfold callO
 repeat' split
 all_goals rfl
section
variable {E : Pays} {n who : Nat}
end
structure Ms where
 (P : PS) (lv seen : Value) (tr : List Rz) (xs : List Value) (pc : Int) (cf : Nat)
def Ms.mv (m : Ms) (pv ev : Value) : Mv2 := m.P.mv pv ev m.lv m.seen m.tr m.xs m.pc m.cf
theorem MonF.own {I : Mi} {M M' : Mv2} {w : World} (h1 : OwnN w M.lv M'.lv) (h2 : OwnN w M.seen M'.seen) {x : Nat} (h : MonF I M' x) : MonF I M x ∨ w.heap.size ≤ x := by
 rcases h with h | h | h | h | h | h | h | h | h | h | h | h | h
 ·exact .inl (.inl h)
 ·exact .inl (.inr (.inl h))
 ·exact .inl (.inr (.inr (.inl h)))
 ·exact .inl (.inr (.inr (.inr (.inl h))))
 ·exact .inl (.inr (.inr (.inr (.inr (.inl h)))))
 ·exact .inl (.inr (.inr (.inr (.inr (.inr (.inl h))))))
 ·exact .inl (.inr (.inr (.inr (.inr (.inr (.inr (.inl h)))))))
 ·exact .inl (.inr (.inr (.inr (.inr (.inr (.inr (.inr (.inl h))))))))
 ·exact .inl (.inr (.inr (.inr (.inr (.inr (.inr (.inr (.inr (.inl h)))))))))
 ·exact .inl (.inr (.inr (.inr (.inr (.inr (.inr (.inr (.inr (.inr (.inl h))))))))))
 ·exact .inl (.inr (.inr (.inr (.inr (.inr (.inr (.inr (.inr (.inr (.inr (.inl h)))))))))))
 ·exact (h1 x h).imp (fun h => .inr (.inr (.inr (.inr (.inr (.inr (.inr (.inr (.inr (.inr (.inr (.inl h)))))))))))) id
 ·exact (h2 x h).imp (fun h => .inr (.inr (.inr (.inr (.inr (.inr (.inr (.inr (.inr (.inr (.inr (.inr h)))))))))))) id
structure DX (D : DS) (n : Nat) : Prop where
 us : D.used = (usedL D.ll : Int)
 bx : ∀ j,n ≤ j → D.bx j = []
 ll : ∀ x ∈ D.ll,(0 ≤ x.1 ∧ x.1 < (n : Int)) ∧ x.2 ≠ [] ∧ x.2.length ≤ 64
theorem mayD_pos {E : Pays} {who : Nat} {at_ n r : Int} (h : mayD E who at_ n r = true) (hn : n ≠ 0) : 1 ≤ n := by
 unfold mayD at h
 rw [if_neg hn] at h
 split at h
 ·unfold chkG at h
  by_cases hk : n < 1
  ·rw [if_pos hk] at h;cases h
  ·omega
 ·cases h
section
variable {E : Pays} {D : DS} {n who : Nat}
theorem DX.hear (h : DX D n) : DX (hearD D who).2 n := by
 unfold hearD
 split
 ·exact ⟨h.us,h.bx,h.ll⟩
 ·exact h
theorem DX.say {at_ k : Int} (h : DX D n) (hw : who < n) : DX (sayD E D who at_ k).2 n := by
 unfold sayD
 split
 ·exact h
 rename_i h64
 split
 ·rename_i hm
  unfold saidD
  split
  ·exact h
  split
  ·exact h
  ·rename_i h0
   have hk := mayD_pos hm h0
   have hlen : (memL D.f (at_ - 2147483648).toNat k.toNat).length = k.toNat := memL_len _ _ _
   refine ⟨?_,h.bx,fun x hx => ?_⟩
   ·show D.used + k = ((usedL (D.ll ++ [_]) : Nat) : Int)
    rw [usedL_snoc,h.us]
    simp only [hlen]
    omega
   ·rcases List.mem_append.1 hx with hx | hx
    ·exact h.ll x hx
    ·rw [List.mem_singleton.1 hx]
     refine ⟨⟨by simp only;omega,by simp only;omega⟩,fun e => ?_,?_⟩
     ·have := congrArg List.length e
      simp only [hlen,List.length_nil] at this
      omega
     ·simp only [hlen];omega
 ·exact h
theorem DX.send {to at_ k : Int} (h : DX D n) (hw : who < n) : DX (sendD E D n who to at_ k).2 n := by
 unfold sendD
 split
 ·exact h
 rename_i hb
 split
 ·unfold sentD
  split
  ·exact h
  ·refine ⟨h.us,fun j hj => ?_,h.ll⟩
   simp only
   rw [if_neg ky]
   exact h.bx j hj
 ·exact h
theorem DX.take {at_ old : Int} (h : DX D n) (hw : who < n) : DX (takeD E D who at_ old).2 n := by
 unfold takeD
 split
 ·unfold tookD
  split
  ·exact h
  ·refine ⟨h.us,fun j hj => ?_,h.ll⟩
   simp only
   rw [if_neg ky]
   exact h.bx j hj
 ·exact h
theorem DX.doA {xs : List Value} {a7 a0 a1 a2 : Int} (h : DX D n) (hw : who < n) : DX (doA E D n who xs a7 a0 a1 a2).2 n := by
 unfold Go.Proofs.YtabbklpalbikdaaGreatDoor.doA
 by_cases c0 : 7 < a7
 ·rw [if_pos c0];exact h
 rw [if_neg c0]
 by_cases c1 : askB E who a7 = 0
 ·rw [if_pos c1];exact h
 rw [if_neg c1]
 by_cases c2 : a7 = 0
 ·rw [if_pos c2];exact h
 rw [if_neg c2]
 by_cases c3 : a7 = 1
 ·rw [if_pos c3];exact h
 rw [if_neg c3]
 by_cases c4 : a7 = 2
 ·rw [if_pos c4];exact h.say hw
 rw [if_neg c4]
 by_cases c5 : a7 = 3
 ·rw [if_pos c5];exact h.hear
 rw [if_neg c5]
 by_cases c6 : a7 = 4
 ·rw [if_pos c6];exact h.send hw
 rw [if_neg c6]
 by_cases c7 : a7 = 5
 ·rw [if_pos c7];exact h.take hw
 rw [if_neg c7]
 by_cases c8 : a7 = 6
 ·rw [if_pos c8]
  by_cases c10 : (E.gn who : Int) ≤ a0
  ·rw [if_pos c10];exact h
  ·rw [if_neg c10];exact h
 rw [if_neg c8]
 by_cases c9 : mayD E who a0 32 2 = true
 ·rw [if_pos c9];exact ⟨h.us,h.bx,h.ll⟩
 ·rw [if_neg c9];exact h
theorem oneF_dx {cf : List Value} {s : RSt} (hw : who < n) (h : DX s.D n) : DX (oneF E n who cf s).s.D n := by
 have h' : DX (s.D.mem (goR cf s).f) n := ⟨h.us,h.bx,h.ll⟩
 by_cases ht : (goR cf s).tr = false
 ·rw [oneF_f ht];exact h'
 have ht' : (goR cf s).tr = true := by simpa using ht
 by_cases h8 : (goR cf s).c1 = 8
 ·rw [oneF_c ht' h8,callO_D]
  exact h'.doA hw
 ·rw [oneF_x ht' h8];exact h'
theorem runF_dx {cf : List Value} (hw : who < n) : ∀ (m : Nat) (s : RSt) (t : List Rz),DX s.D n → DX (runF E n who cf m s t).D n
 | 0,s,t,h => h
 | m + 1,s,t,h => by
  unfold runF
  split
  ·exact runF_dx hw m _ _ (oneF_dx hw h)
  ·exact oneF_dx hw h
end
theorem passG_none (L : List Sta) (t : Nat) : ∀ (f k : Nat),passG L t k f = -1 → ∀ j,k ≤ j → j < k + f → (L[(t + j) % L.length]?.map Sta.s) ≠ some 0
 | 0,k,_,j,h1,h2 => by omega
 | f + 1,k,h,j,h1,h2 => by
  unfold passG at h
  by_cases hc : (L[(t + k) % L.length]?.map Sta.s) = some 0
  ·rw [if_pos hc] at h
   omega
  ·rw [if_neg hc] at h
   rcases Nat.eq_or_lt_of_le h1 with rfl | h1'
   ·exact hc
   ·exact passG_none L t f (k + 1) h j h1' ky
theorem passF_any (L : List Sta) (who : Nat) (hw : who < L.length) : anyR L = decide (0 ≤ passF L (who : Int)) := by
 rcases passF_rng L (who : Int) ky with h | ⟨q,hq,h,hs⟩
 ·rw [h,show decide (0 ≤ (-1 : Int)) = false by decide]
  unfold anyR
  rw [List.any_eq_false]
  intro x hx
  obtain ⟨i,hi⟩ := List.mem_iff_getElem?.1 hx
  have hil := (List.getElem?_eq_some_iff.1 hi).1
  unfold passF at h
  rw [if_neg ky,Int.toNat_natCast] at h
  have key : ∀ j,1 ≤ j → j < 1 + L.length → (who + j) % L.length = i → x.s ≠ 0 := fun j h1 h2 e hx0 => by
   have := passG_none L who L.length 1 h j h1 h2
   rw [e,hi] at this
   exact this (by rw [Option.map_some,hx0])
  have hx0 : x.s ≠ 0 := by
   by_cases hgt : who < i
   ·exact key (i - who) ky ky (by rw [show who + (i - who) = i by omega];exact Nat.mod_eq_of_lt hil)
   ·exact key (i + L.length - who) ky ky (by rw [show who + (i + L.length - who) = i + L.length by omega,Nat.add_mod_right];exact Nat.mod_eq_of_lt hil)
  simpa using hx0
 ·rw [h,show decide (0 ≤ (q : Int)) = true from decide_eq_true ky]
  unfold anyR
  rw [List.any_eq_true]
  obtain ⟨y,hy⟩ : ∃ y,L[q]? = some y := ⟨_,List.getElem?_eq_getElem hq⟩
  rw [hy,Option.map_some] at hs
  cases hs' : y.s
  ·rename_i z
   rw [hs'] at hs
   exact ⟨y,List.mem_of_getElem? hy,decide_eq_true (by rw [hs'];exact Option.some.inj hs)⟩
  ·rw [hs'] at hs;cases hs
structure PK (P : PS) (n : Nat) : Prop where
 ok : DOk P.D n
 dx : DX P.D n
 set : SetOk P.L P.t
theorem PK.run {E : Pays} {P : PS} {n who : Nat} {x : Sta} (h : PK P n) (hn : P.L.length = n) (ht : P.t = (who : Int)) (hx : P.L[who]? = some x) (kn : Nat) (hD : DOk (endP P who x (runO E P who x kn)).D n) (hL : ∀ y ∈ (endP P who x (runO E P who x kn)).L,StaOk y) : PK (endP P who x (runO E P who x kn)) n := by
 have hwl := (List.getElem?_eq_some_iff.1 hx).1
 have hs0 : x.s = 0 := h.set.2.2.2 x ky (by rw [ht,Int.toNat_natCast];exact hx)
 have hc0 := (h.set.1 x (List.mem_of_getElem? hx)).2.2.2 hs0
 refine ⟨hD,?_,?_⟩
 ·show DX (runO E P who x kn).D n
  unfold runO
  rw [hn]
  exact runF_dx ky _ _ _ h.dx
 ·show SetOk (P.L.set who (endS (runO E P who x kn) x)) (passF (P.L.set who (endS (runO E P who x kn) x)) (who : Int))
  change ∀ y ∈ P.L.set who (endS (runO E P who x kn) x),StaOk y at hL
  generalize runO E P who x kn = R at *
  have hlen : (P.L.set who (endS R x)).length = P.L.length := List.length_set
  have hwl' : who < (P.L.set who (endS R x)).length := by omega
  refine ⟨fun y hy => ⟨hL y hy,?_⟩,?_,passF_any _ _ hwl',fun y h0 hy => ?_⟩
  ·rcases List.mem_or_eq_of_mem_set hy with h' | rfl
   ·exact (h.set.1 y h').2
   ·have hok := hL _ hy
    refine ⟨?_,?_,?_⟩
    ·unfold endS
     dsimp only
     split
     ·omega
     ·split <;> omega
    ·have h32 := hok.1.1
     unfold endS at h32 ⊢
     dsimp only at h32 ⊢
     rw [List.length_set] at h32
     rw [List.getElem?_set_self ky]
    ·unfold endS
     dsimp only
     split
     ·intro e;cases e
     ·split
      ·intro e;cases e
      ·exact fun _ => hc0
  ·rcases passF_rng (P.L.set who (endS R x)) (who : Int) ky with h' | ⟨q,hq,h',_⟩
   ·rw [h'];omega
   ·rw [h'];omega
  ·rcases passF_rng (P.L.set who (endS R x)) (who : Int) ky with h' | ⟨q,hq,h',hs⟩
   ·rw [h'] at h0;omega
   ·rw [h',Int.toNat_natCast] at hy
    rw [hy,Option.map_some] at hs
    exact Option.some.inj hs
theorem begP_keep (l : List LoadD) (hl : 1 ≤ l.length) (hok : ∀ x ∈ (begP l).L,StaOk x) (s : List UInt8) (hs : s.length ≤ 64) : PK ⟨(begP l).L,(begP l).t,{(begP l).D with ins := (begP l).D.ins.set 0 ([] ++ s)}⟩ l.length := by
 have hlen : (begP l).L.length = l.length := by simp [begP]
 have h := begP_ok l
 rw [hlen] at h
 refine ⟨⟨h.f,h.bx,h.used,h.ll,⟨by show ((begP l).D.ins.set 0 _).length = _;rw [List.length_set];exact h.ins.1,fun t ht => ?_⟩⟩,⟨rfl,fun _ _ => rfl,fun x hx => by cases hx⟩,fun x hx => ⟨hok x hx,?_⟩,?_,?_,fun x _ hx => ?_⟩
 ·rcases List.mem_or_eq_of_mem_set ht with ht | rfl
  ·exact h.ins.2 t ht
  ·simpa using hs
 ·obtain ⟨j,_,rfl⟩ := List.mem_map.1 hx
  exact ⟨⟨by show (0 : Int) ≤ 0;omega,by show (0 : Int) ≤ 2;omega⟩,regsF_0 rfl _ _,fun _ => rfl⟩
 ·show -1 ≤ (0 : Int) ∧ (0 : Int) < _
  rw [hlen]
  omega
 ·show anyR (begP l).L = decide (0 ≤ (0 : Int))
  unfold anyR
  rw [show decide (0 ≤ (0 : Int)) = true by decide,List.any_eq_true]
  obtain ⟨y,hy⟩ : ∃ y,(begP l).L[0]? = some y := ⟨_,List.getElem?_eq_getElem ky⟩
  have hm := List.mem_of_getElem? hy
  obtain ⟨j,_,rfl⟩ := List.mem_map.1 hm
  exact ⟨_,hm,rfl⟩
 ·obtain ⟨j,_,rfl⟩ := List.mem_map.1 (List.mem_of_getElem? hx)
  rfl
theorem mFeed (base : Nat) (I : Mi) (M : Mv2) (i : Nat) (s z : List UInt8) (w : World) (hM : MonS w base I M) (hi : M.ins[i]? = some s) (hz : s.length + z.length ≤ 64) :
  Calls Tryz.prog 28 #[.pointer (some ⟨I.m,0,none⟩),.int .i64 (i : Int),strV z] w fun e w' => e = .returned (.int .i64 0) ∧ MonS w' base I {M with ins := M.ins.set i (s ++ z)} ∧ Upd (fun k => k = I.ia) w w' := by
 have q1 : w.cell? ⟨I.m,1,none⟩ = some (.pointer (some ⟨I.d,0,none⟩)) := cell_of hM.mm rfl
 have q2 : w.cell? ⟨I.d,4,none⟩ = some (.pointer (some ⟨I.bd,0,none⟩)) := cell_of hM.dd rfl
 refine enter (args := [_,_,_]) (Γ := [(0,_),(1,_),(2,_)]) Tryz.func28 Tryz.ntmps28 rfl odq (.cons rfl (.cons rfl (.cons rfl .nil))) ?_
 repeat' first | (apply Wl.loadO;exact rfl;exact rfl;exact zw;exact kh) | refine Wl.move rfl rfl ?_ | refine Wl.assign rfl rfl ?_ | refine Wl.nilCheck rfl rfl ?_ | refine Wl.fieldAddrZ rfl rfl ?_ | refine Wl.eqlPN rfl rfl rfl ?_ | apply Wl.nil | apply St.seq | apply St.region | (apply St.condF;exact rfl;exact ka) | apply St.skip | apply Gt.next
 apply Wl.callC
 ·exact rfl
 ·exact ke
 intro wq hq
 have hq0 := hM.upd hq.upd fun b hb y => y trivial
 refine (bFeed _ _ _ _ _ _ _ i s z wq hq0.board hi hz).mono ?_
 rintro e w1 ⟨rfl,hB,u⟩
 have h1 := hq0.feed hB (List.length_set ..) u
 refine ⟨_,_,rfl,Hp.start w1,?_⟩
 repeat' first | refine Wl.assign rfl rfl ?_ | apply Wl.nil | apply St.ret | apply Gt.next | (apply Gt.out1;exact rfl;exact rfl;intro w' hp)
 exact ⟨rfl,h1.upd hp.upd (fun b hb y => y trivial),((hq.upd.mono fun _ _ y => (y trivial).elim).comp u fun k _ hs => hs.elim id id).comp hp.upd fun k _ hs => hs.elim id fun y => (y trivial).elim⟩
theorem mLetters (base : Nat) (I : Mi) (M : Mv2) (i : Nat) (w : World) (hM : MonS w base I M) (hi : i < M.L.length) :
  Calls Tryz.prog 30 #[.pointer (some ⟨I.m,0,none⟩),.int .i64 (i : Int)] w fun e w' => e = .returned (.int .i64 ((M.bx i).length : Int)) ∧ Hp w [] w' := by
 have q1 : w.cell? ⟨I.m,1,none⟩ = some (.pointer (some ⟨I.d,0,none⟩)) := cell_of hM.mm rfl
 have q2 : w.cell? ⟨I.d,3,none⟩ = some (.pointer (some ⟨I.pp,0,none⟩)) := cell_of hM.dd rfl
 refine enter (args := [_,_]) (Γ := [(0,_),(1,_)]) Tryz.func30 Tryz.ntmps30 rfl odq (.cons rfl (.cons rfl .nil)) ?_
 repeat' first | (apply Wl.loadO;exact rfl;exact rfl;exact zw;exact kh) | refine Wl.move rfl rfl ?_ | refine Wl.assign rfl rfl ?_ | refine Wl.nilCheck rfl rfl ?_ | refine Wl.fieldAddrZ rfl rfl ?_ | refine Wl.eqlPN rfl rfl rfl ?_ | apply Wl.nil | apply St.seq | apply St.region | (apply St.condF;exact rfl;exact ka) | apply St.skip | apply Gt.next
 apply Wl.callQ
 exact rfl
 (focus repeat constructor)
 ·intro wq hq
  exact hq.q (pCount I.pp I.pa I.cs M.bx i wq (hM.upd hq.upd fun b hb y => y trivial).post (by rw [hM.len.1];exact hi))
 repeat' first | refine Wl.assign rfl rfl ?_ | apply Wl.nil | apply St.ret | apply Gt.next | (apply Gt.out1;exact rfl;exact rfl;intro w' hp)
 exact ⟨rfl,hp⟩
theorem mWaits (base : Nat) (I : Mi) (M : Mv2) (i : Nat) (s : List UInt8) (w : World) (hM : MonS w base I M) (hi : M.ins[i]? = some s) :
  Calls Tryz.prog 31 #[.pointer (some ⟨I.m,0,none⟩),.int .i64 (i : Int)] w fun e w' => e = .returned (.int .i64 (s.length : Int)) ∧ Hp w [] w' := by
 have q1 : w.cell? ⟨I.m,1,none⟩ = some (.pointer (some ⟨I.d,0,none⟩)) := cell_of hM.mm rfl
 have q2 : w.cell? ⟨I.d,4,none⟩ = some (.pointer (some ⟨I.bd,0,none⟩)) := cell_of hM.dd rfl
 refine enter (args := [_,_]) (Γ := [(0,_),(1,_)]) Tryz.func31 Tryz.ntmps31 rfl odq (.cons rfl (.cons rfl .nil)) ?_
 repeat' first | (apply Wl.loadO;exact rfl;exact rfl;exact zw;exact kh) | refine Wl.move rfl rfl ?_ | refine Wl.assign rfl rfl ?_ | refine Wl.nilCheck rfl rfl ?_ | refine Wl.fieldAddrZ rfl rfl ?_ | refine Wl.eqlPN rfl rfl rfl ?_ | apply Wl.nil | apply St.seq | apply St.region | (apply St.condF;exact rfl;exact ka) | apply St.skip | apply Gt.next
 apply Wl.callQ
 exact rfl
 (focus repeat constructor)
 ·intro wq hq
  exact hq.q (bWaits base I.bd I.ia M.lv M.ll M.used M.ins i s wq (hM.upd hq.upd fun b hb y => y trivial).board hi)
 repeat' first | refine Wl.assign rfl rfl ?_ | apply Wl.nil | apply St.ret | apply Gt.next | (apply Gt.out1;exact rfl;exact rfl;intro w' hp)
 exact ⟨rfl,hp⟩
theorem mLines (base : Nat) (I : Mi) (M : Mv2) (w : World) (hM : MonS w base I M) (hb : base ≤ w.heap.size) (hll : M.ll.length ≤ 1000) :
  Calls Tryz.prog 32 #[.pointer (some ⟨I.m,0,none⟩)] w fun e w' => (∃ a c,e = .returned (.slice a M.ll.length c)) ∧ Upd (fun k => w.heap.size ≤ k) w w' := by
 have q1 : w.cell? ⟨I.m,1,none⟩ = some (.pointer (some ⟨I.d,0,none⟩)) := cell_of hM.mm rfl
 have q2 : w.cell? ⟨I.d,4,none⟩ = some (.pointer (some ⟨I.bd,0,none⟩)) := cell_of hM.dd rfl
 refine enter (args := [_]) (Γ := [(0,_)]) Tryz.func32 Tryz.ntmps32 rfl odq (.cons rfl .nil) ?_
 repeat' first | (apply Wl.loadO;exact rfl;exact rfl;exact zw;exact kh) | refine Wl.move rfl rfl ?_ | refine Wl.assign rfl rfl ?_ | refine Wl.nilCheck rfl rfl ?_ | refine Wl.fieldAddrZ rfl rfl ?_ | refine Wl.eqlPN rfl rfl rfl ?_ | apply Wl.nil | apply St.seq | apply St.region | (apply St.condF;exact rfl;exact ka) | apply St.skip | apply Gt.next
 apply Wl.callC
 ·exact rfl
 ·exact ke
 intro wq hq
 have zq := hq.upd.size
 refine (bLines base I.bd I.ia M.lv M.ll M.used M.ins wq (hM.upd hq.upd fun _ _ y => y trivial).board ky hll).mono ?_
 rintro e w1 ⟨v,rfl,hv,u⟩
 obtain ⟨a0,c0,rfl,_⟩ := row_cut hv
 refine ⟨_,_,rfl,Hp.start w1,?_⟩
 repeat' first | refine Wl.assign rfl rfl ?_ | apply Wl.nil | apply St.ret | apply Gt.next | (apply Gt.out1;exact rfl;exact rfl;intro w' hp)
 exact ⟨⟨_,_,rfl⟩,(hq.upd.comp u (T := fun k => w.heap.size ≤ k) fun k _ h => h.elim (fun y => (y trivial).elim) fun h => by omega).comp hp.upd fun k _ h => h.elim id fun y => (y trivial).elim⟩
end Go.Proofs.YtabbklpalbikdaaGreatDoor
end
section
namespace Go.Pt
open Go.RowKit
theorem mapM_exS {α β : Type} {g : α → Option β} {l : List α} (h : ∀ x ∈ l,∃ y,g x = some y) : ∃ ys,l.mapM g = some ys := by
 induction l with
 | nil => exact ⟨[],rfl⟩
 | cons x r ih =>
  obtain ⟨y,hy⟩ := h x qs
  obtain ⟨ys,hys⟩ := ih fun z hz => h z (by simp [hz])
  exact ⟨y :: ys,by rw [List.mapM_cons,hy,hys];rfl⟩
section
variable {P : Program} {md : Md} {N : Nat} {ops : Array Oper} {rest : List Oper} {Γ : Env} {C : World → Prop} {Q : Exit → Act → World → Prop} {d : Nat} {ty : TypeId} {pos : String} {af : Array Edge} {t u : TypeId} {x y : Operand}
theorem Wl.neqSame {xs : Array Value} (hd : Nat.blt d N = true) (hx : ev Γ x = some (.agg xs)) (hy : ev Γ y = some (.agg xs)) (hk : P.keyTypeAt 8 t = true) (hg0 : P.eqGuardType P.depth t = false) (fx : (Value.agg xs).formed P t = true)
  (hl : ∃ la,P.keyLits 8 t xs.toList = some la) (h : Wl rest P md ops N ((d,.bool false) :: Γ) C Q) : Wl (⟨some d,.binOp .neq t x y u,ty,pos,af,none⟩ :: rest) P md ops N Γ C Q :=
 Wl.val hd (fun a w ha _ => by
  obtain ⟨la,hl⟩ := hl
  obtain ⟨r,_,h1,h3⟩ := run_neq_agg (P := P) w (t := t) hk fx fx hl hl
  have : r = true := h3.2 rfl
  subst this
  simp only [execOp,ha.ev hx,ha.ev hy,pure_bind,Sem.run_bind,guard_agg (P := P) hg0,Result.andThen_ok,h1];rfl) h
end
end Go.Pt
namespace Go.Proofs.YtabbklpalbikdaaGreatDoor
open Go.RowKit Go.Pt
theorem staFld : (match Tryz.prog.underlying 44 with
  | some (.struct fs) => fs.all fun f => (f.name != "_") && ((Nat.beq f.type 3 && Nat.beq f.offset 0) || ((Nat.beq f.type 25 && (Nat.beq f.offset 1 || Nat.beq f.offset 2)) || (Nat.beq f.type 42 && Nat.beq f.offset 3)))
  | _ => false) = true := by kernel_rfl
theorem klSta {x : Sta} (hx : StaOk x) (hs : IntKind.i64.min ≤ x.s ∧ x.s ≤ IntKind.i64.max) : ∃ la,Tryz.prog.keyLits 8 44 x.cells = some la := by
 have hF := staFld
 have hci : Tryz.prog.cellsOf 3 = 1 := by kernel_rfl
 have hcu : Tryz.prog.cellsOf 25 = 1 := by kernel_rfl
 have hca : Tryz.prog.cellsOf 42 = 32 := by kernel_rfl
 have hcp : Tryz.prog.cellsOf 44 = 35 := by kernel_rfl
 have ui : Tryz.prog.underlying 3 = some (.int .i64) := by kernel_rfl
 have uu : Tryz.prog.underlying 25 = some (.int .u32) := by kernel_rfl
 obtain ⟨g,hg,hgr⟩ := rgN hx.1
 cases hu : Tryz.prog.underlying 44 with
 | none => rw [hu] at hF;cases hF
 | some td =>
  rw [hu] at hF
  cases td <;> try (cases hF;done)
  rename_i fs
  simp only at hF
  show ∃ la,Tryz.prog.keyLits (7 + 1) _ _ = some la
  unfold Program.keyLits
  rw [hu]
  simp only
  have hall := Array.all_eq_true'.1 hF
  have hlen : x.cells.length = Tryz.prog.cellsOf 44 := by rw [hcp,hx.len]
  have hnames : (fs.all fun f => f.name != "_") = true := by
   rw [Array.all_eq_true']
   intro f hf
   have := hall f hf
   rw [Bool.and_eq_true] at this
   exact this.1
  rw [if_pos ⟨hlen,hnames⟩]
  obtain ⟨ys,hys⟩ := mapM_exS (g := fun f => Tryz.prog.keyLits 7 f.type ((x.cells.drop f.offset).take (Tryz.prog.cellsOf f.type))) (l := fs.toList) (fun f hf => by
   have := hall f (by simpa using hf)
   rw [Bool.and_eq_true,Bool.or_eq_true,Bool.or_eq_true,Bool.and_eq_true,Bool.and_eq_true,Bool.or_eq_true,Bool.and_eq_true] at this
   rcases this.2 with ⟨ht,ho⟩ | ⟨ht,ho | ho⟩ | ⟨ht,ho⟩
   ·rw [Nat.eq_of_beq_eq_true ht,Nat.eq_of_beq_eq_true ho,hci]
    exact ⟨_,klInt (d := 6) ui hs⟩
   ·rw [Nat.eq_of_beq_eq_true ht,Nat.eq_of_beq_eq_true ho,hcu]
    exact ⟨_,klInt (d := 6) uu (show (0 : Int) ≤ x.c ∧ x.c ≤ 4294967295 from ⟨hx.2.1.1,Int.le_of_lt_add_one hx.2.1.2⟩)⟩
   ·rw [Nat.eq_of_beq_eq_true ht,Nat.eq_of_beq_eq_true ho,hcu]
    exact ⟨_,klInt (d := 6) uu (show (0 : Int) ≤ x.p ∧ x.p ≤ 4294967295 from ⟨hx.2.2.1,Int.le_of_lt_add_one hx.2.2.2⟩)⟩
   ·rw [Nat.eq_of_beq_eq_true ht,Nat.eq_of_beq_eq_true ho,hca]
    have e : (x.cells.drop 3).take 32 = cellsN .u32 32 g := by
     show x.xs.take 32 = _
     rw [List.take_of_length_le (Nat.le_of_eq hx.1.1),hg]
    rw [e]
    exact ⟨_,klInts (d := 5) (e := 25) zg uu hca hcu g hgr⟩)
  rw [hys]
  exact ⟨_,rfl⟩
theorem formSta {x : Sta} (hx : StaOk x) : (Value.agg x.cells.toArray).formed Tryz.prog 44 = true := by
 have hF := staFld
 have hcp : Tryz.prog.cellsOf 44 = 35 := by kernel_rfl
 unfold Value.formed
 cases hu : Tryz.prog.underlying 44 with
 | none => rw [hu] at hF;cases hF
 | some td =>
  rw [hu] at hF
  cases td <;> try (cases hF;done)
  simp [hcp,hx.len]
section
variable {md : Md} {N : Nat} {ops : Array Oper} {rest : List Oper} {Γ : Env} {C : World → Prop} {Q : Exit → Act → World → Prop} {d : Nat} {ty : TypeId} {pos : String} {af : Array Edge} {u : TypeId} {x y : Operand}
theorem Wl.neqSta {s : Sta} (hs : StaOk s) (hi : IntKind.i64.min ≤ s.s ∧ s.s ≤ IntKind.i64.max) (hd : Nat.blt d N = true) (hx : ev Γ x = some (.agg s.cells.toArray)) (hy : ev Γ y = some (.agg s.cells.toArray))
  (h : Wl rest Tryz.prog md ops N ((d,.bool false) :: Γ) C Q) : Wl (⟨some d,.binOp .neq 44 x y u,ty,pos,af,none⟩ :: rest) Tryz.prog md ops N Γ C Q :=
 Wl.neqSame hd hx hy zg zg (formSta hs) (klSta hs hi) h
end
theorem evFld : (match Tryz.prog.underlying 35 with
  | some (.struct fs) => fs.all fun f => (f.name != "_") && (Nat.beq f.type 3 && (Nat.beq f.offset 0 || (Nat.beq f.offset 1 || Nat.beq f.offset 2)))
  | _ => false) = true := by kernel_rfl
def evC (x y z : Int) : List Value := [.int .i64 x,.int .i64 y,.int .i64 z]
theorem klEv {x y z : Int} (hx : IntKind.i64.min ≤ x ∧ x ≤ IntKind.i64.max) (hy : IntKind.i64.min ≤ y ∧ y ≤ IntKind.i64.max) (hz : IntKind.i64.min ≤ z ∧ z ≤ IntKind.i64.max) : ∃ la,Tryz.prog.keyLits 8 35 (evC x y z) = some la := by
 have hF := evFld
 have hci : Tryz.prog.cellsOf 3 = 1 := by kernel_rfl
 have hcp : Tryz.prog.cellsOf 35 = 3 := by kernel_rfl
 have ui : Tryz.prog.underlying 3 = some (.int .i64) := by kernel_rfl
 cases hu : Tryz.prog.underlying 35 with
 | none => rw [hu] at hF;cases hF
 | some td =>
  rw [hu] at hF
  cases td <;> try (cases hF;done)
  rename_i fs
  simp only at hF
  show ∃ la,Tryz.prog.keyLits (7 + 1) _ _ = some la
  unfold Program.keyLits
  rw [hu]
  simp only
  have hall := Array.all_eq_true'.1 hF
  have hlen : (evC x y z).length = Tryz.prog.cellsOf 35 := by rw [hcp];rfl
  have hnames : (fs.all fun f => f.name != "_") = true := by
   rw [Array.all_eq_true']
   intro f hf
   have := hall f hf
   rw [Bool.and_eq_true] at this
   exact this.1
  rw [if_pos ⟨hlen,hnames⟩]
  obtain ⟨ys,hys⟩ := mapM_exS (g := fun f => Tryz.prog.keyLits 7 f.type (((evC x y z).drop f.offset).take (Tryz.prog.cellsOf f.type))) (l := fs.toList) (fun f hf => by
   have := hall f (by simpa using hf)
   rw [Bool.and_eq_true,Bool.and_eq_true,Bool.or_eq_true,Bool.or_eq_true] at this
   obtain ⟨_,ht,ho⟩ := this
   rw [Nat.eq_of_beq_eq_true ht,hci]
   rcases ho with ho | ho | ho
   ·rw [Nat.eq_of_beq_eq_true ho]
    exact ⟨_,klInt (d := 6) ui hx⟩
   ·rw [Nat.eq_of_beq_eq_true ho]
    exact ⟨_,klInt (d := 6) ui hy⟩
   ·rw [Nat.eq_of_beq_eq_true ho]
    exact ⟨_,klInt (d := 6) ui hz⟩)
  rw [hys]
  exact ⟨_,rfl⟩
theorem formEv (x y z : Int) : (Value.agg (evC x y z).toArray).formed Tryz.prog 35 = true := by
 have hF := evFld
 have hcp : Tryz.prog.cellsOf 35 = 3 := by kernel_rfl
 unfold Value.formed
 cases hu : Tryz.prog.underlying 35 with
 | none => rw [hu] at hF;cases hF
 | some td =>
  rw [hu] at hF
  cases td <;> try (cases hF;done)
  simp [hcp,evC]
section
variable {md : Md} {N : Nat} {ops : Array Oper} {rest : List Oper} {Γ : Env} {C : World → Prop} {Q : Exit → Act → World → Prop} {d : Nat} {ty : TypeId} {pos : String} {af : Array Edge} {u : TypeId} {x y : Operand}
theorem Wl.neqEv {a b c : Int} (ha : IntKind.i64.min ≤ a ∧ a ≤ IntKind.i64.max) (hb : IntKind.i64.min ≤ b ∧ b ≤ IntKind.i64.max) (hc : IntKind.i64.min ≤ c ∧ c ≤ IntKind.i64.max) (hd : Nat.blt d N = true) (hx : ev Γ x = some (.agg (evC a b c).toArray)) (hy : ev Γ y = some (.agg (evC a b c).toArray))
  (h : Wl rest Tryz.prog md ops N ((d,.bool false) :: Γ) C Q) : Wl (⟨some d,.binOp .neq 35 x y u,ty,pos,af,none⟩ :: rest) Tryz.prog md ops N Γ C Q :=
 Wl.neqSame hd hx hy zg zg (formEv a b c) (klEv ha hb hc) h
end
theorem EnvS.older {w : World} {base base' n : Nat} {pv ev : Value} {E : Pays} (k : EnvS w base n pv ev E) (h : base ≤ base') : EnvS w base' n pv ev E where
 pay := by
  obtain ⟨pb,po,pc,e,h1,hi⟩ := k.pay
  exact ⟨pb,po,pc,e,by omega,fun i hn => by obtain ⟨gb,go,gc,h2,h3⟩ := hi i hn;exact ⟨gb,go,gc,by omega,h3⟩⟩
 ent := by
  obtain ⟨eb,eo,ec,e,h1,hi⟩ := k.ent
  exact ⟨eb,eo,ec,e,by omega,fun i hn => by obtain ⟨xb,xo,xc,h2,h3,h4⟩ := hi i hn;exact ⟨xb,xo,xc,h2,by omega,h4⟩⟩
 tab := k.tab
 pos := by have := k.pos;omega
 ok := k.ok
noncomputable def staAt (P : PS) : Sta := (P.L[P.t.toNat]?).getD staZ
noncomputable def evP (E : Pays) (P : PS) (kn : Nat) : Value := if P.t < 0 then evNo else evV P.t.toNat (runO E P P.t.toNat (staAt P) kn)
noncomputable def stepP (E : Pays) (P : PS) (kn : Nat) : PS := if P.t < 0 then P else endP P P.t.toNat (staAt P) (runO E P P.t.toNat (staAt P) kn)
structure OneS (base n : Nat) (I : Mi) (pv ev : Value) (E : Pays) (w3 : World) (m : Ms) : Prop where
 mon : MonS w3 base I (m.mv pv ev)
 env : EnvS w3 base n pv ev E
 pk : PK m.P n
 len : m.P.L.length = n
 ge : base ≤ w3.heap.size
theorem OneS.upd {base n : Nat} {I : Mi} {pv ev : Value} {E : Pays} {w3 w4 : World} {m : Ms} {S : Nat → Prop} (k : OneS base n I pv ev E w3 m) (u : Upd S w3 w4) (hm : ∀ b,MonF I (m.mv pv ev) b → ¬ S b) (hE : EnvS w4 base n pv ev E) : OneS base n I pv ev E w4 m :=
 ⟨k.mon.upd u hm,hE,k.pk,k.len,Nat.le_trans k.ge u.size⟩
theorem OneS.run {base n : Nat} {I : Mi} {pv ev : Value} {E : Pays} {wq : World} {m : Ms} (k : OneS base n I pv ev E wq m) (kn : Nat) (hk : 1 ≤ kn ∧ kn ≤ 60) :
  Calls Tryz.prog 16 #[.pointer (some ⟨I.m,0,none⟩),.int .i64 (kn : Int)] wq fun e w' => e = .returned (evP E m.P kn) ∧ ∃ m' : Ms,m'.P = stepP E m.P kn ∧ OneS base n I pv ev E w' m' ∧ Upd (KF wq I (m.mv pv ev)) wq w' ∧ ∀ y,MonF I (m'.mv pv ev) y → MonF I (m.mv pv ev) y ∨ wq.heap.size ≤ y := by
 have hlt := k.pk.set.2.1
 by_cases ht : m.P.t < 0
 ·have e1 : evP E m.P kn = evNo := by unfold evP;rw [if_pos ht]
  have e2 : stepP E m.P kn = m.P := by unfold stepP;rw [if_pos ht]
  rw [e1]
  refine (mRunNob base I _ kn wq k.mon ky ht).mono ?_
  rintro e w' ⟨rfl,hM,u⟩
  have U : Upd (fun b => base ≤ b) wq w' := u.mono fun b _ h => Nat.le_trans k.ge h
  exact ⟨rfl,m,e2.symm,⟨hM,k.env.upd U,k.pk,k.len,Nat.le_trans k.ge u.size⟩,u.mono fun b _ h => .inr h,fun y hy => .inl hy⟩
 ·obtain ⟨who,hwho⟩ : ∃ who : Nat,m.P.t = (who : Int) := ⟨m.P.t.toNat,by omega⟩
  obtain ⟨x,hx⟩ : ∃ x,m.P.L[who]? = some x := ⟨_,List.getElem?_eq_getElem ky⟩
  have hsa : staAt m.P = x := by unfold staAt;rw [hwho,Int.toNat_natCast,hx];rfl
  have e1 : evP E m.P kn = evV who (runO E m.P who x kn) := by unfold evP;rw [if_neg ht,hsa,hwho,Int.toNat_natCast]
  have e2 : stepP E m.P kn = endP m.P who x (runO E m.P who x kn) := by unfold stepP;rw [if_neg ht,hsa,hwho,Int.toNat_natCast]
  rw [e1]
  refine (mRun base I m.P pv ev m.lv m.seen m.tr m.xs m.pc m.cf E kn who x wq k.mon k.ge (by rw [k.len];exact k.env) (by rw [k.len];exact k.pk.ok) hwho hx ⟨hk.1,by omega⟩).mono ?_
  rintro e w' ⟨rfl,lv',seen',xs',pc',cf',hM,hD,u,o1,o2⟩
  have U : Upd (fun b => base ≤ b) wq w' := u.mono fun b _ h => h.elim (fun h => (k.mon.lt b h).1) fun h => Nat.le_trans k.ge h
  have hlen : (endP m.P who x (runO E m.P who x kn)).L.length = n := by show (m.P.L.set _ _).length = n;rw [List.length_set];exact k.len
  refine ⟨rfl,⟨_,lv',seen',_,xs',pc',cf'⟩,e2.symm,⟨hM,k.env.upd U,?_,hlen,Nat.le_trans k.ge U.size⟩,u,fun y h => MonF.own (M := m.mv pv ev) o1 o2 h⟩
  exact k.pk.run k.len hwho hx kn (by rw [← k.len];exact hD) hM.ward.2.1
def TyK (t : Nat) : Prop := t ≠ 130 ∧ t ≠ 133 ∧ t ≠ 139 ∧ t ≠ 210 ∧ t ≠ 44 ∧ t ≠ 255 ∧ t ≠ 232 ∧ t ≠ 231 ∧ t ≠ 9 ∧ t ≠ 156 ∧ t ≠ 111 ∧ t ≠ 70
instance (t : Nat) : Decidable (TyK t) := inferInstanceAs (Decidable (_ ∧ _))
def Keep (w : World) (K : List Blk) : Prop := ∀ B ∈ K,w.heap[B.b]? = some (.cells B.cs.toArray B.t (0,0)) ∧ TyK B.t
theorem Keep.upd {w w' : World} {K : List Blk} {S : Nat → Prop} (k : Keep w K) (u : Upd S w w') (hs : ∀ B ∈ K,¬ S B.b) : Keep w' K := fun B hB => ⟨u.heap (k B hB).1 (hs B hB),(k B hB).2⟩
theorem Keep.new {w w' : World} {K : List Blk} (k : Keep w K) (u : Upd (fun x => w.heap.size ≤ x) w w') : Keep w' K := k.upd u fun B hB => Nat.not_le.2 (lt_of_block (k B hB).1)
theorem Keep.run {w w' : World} {K : List Blk} {base : Nat} {I : Mi} {M : Mv2} (k : Keep w K) (hM : MonS w base I M) (u : Upd (KF w I M) w w') : Keep w' K :=
 k.upd u fun B hB h => h.elim (fun h => hM.offF (k B hB).1 (k B hB).2 _ h rfl) fun h => Nat.not_le.2 (lt_of_block (k B hB).1) h
structure OnW (w : World) (base n : Nat) (I : Mi) (pv ev : Value) (E : Pays) (K : List Blk) (w3 : World) (a : Ms) : Prop where
 k1 : OneS base n I pv ev E w3 a
 up : Upd (fun x => w.heap.size ≤ x) w w3
 kp : Keep w3 K
 ge : w.heap.size ≤ base
section
variable {w : World} {base n : Nat} {I : Mi} {pv ev : Value} {E : Pays} {K : List Blk} {w3 w4 : World} {a : Ms}
theorem OnW.new (k : OnW w base n I pv ev E K w3 a) (u : Upd (fun x => w3.heap.size ≤ x) w3 w4) : OnW w base n I pv ev E K w4 a := by
 have g := k.ge
 have g1 := k.k1.ge
 exact ⟨k.k1.upd u (fun y hy => Nat.not_le.2 (k.k1.mon.lt y hy).2) (k.k1.env.upd (u.mono fun y _ h => by omega)),k.up.comp u fun y _ h => h.elim id fun h => by omega,k.kp.new u,g⟩
theorem OnW.quiet (k : OnW w base n I pv ev E K w3 a) (h : Hp w3 [] w4) : OnW w base n I pv ev E K w4 a := k.new (h.upd.mono fun _ _ y => (y trivial).elim)
theorem OnW.run {wq : World} (k : OnW w base n I pv ev E K wq a) (kn : Nat) (hk : 1 ≤ kn ∧ kn ≤ 60) :
  Calls Tryz.prog 16 #[.pointer (some ⟨I.m,0,none⟩),.int .i64 (kn : Int)] wq fun e w' => e = .returned (evP E a.P kn) ∧ ∃ a' : Ms,OnW w base n I pv ev E K w' a' := by
 have g := k.ge
 refine (k.k1.run kn hk).mono ?_
 rintro e w' ⟨rfl,a',_,K1,u,_⟩
 exact ⟨rfl,a',K1,k.up.comp u fun y _ h => h.elim id fun h => h.elim (fun h => by have := (k.k1.mon.lt y h).1;omega) fun h => by have := k.k1.ge;omega,k.kp.run k.k1.mon u,g⟩
end
theorem evP_eq {E : Pays} {P : PS} {kn : Nat} (hk : kn ≤ 60) (ht : P.t < P.L.length) (hl : P.L.length ≤ 4) : ∃ x y z,evP E P kn = .agg (evC x y z).toArray ∧ (IntKind.i64.min ≤ x ∧ x ≤ IntKind.i64.max) ∧ (IntKind.i64.min ≤ y ∧ y ≤ IntKind.i64.max) ∧ (IntKind.i64.min ≤ z ∧ z ≤ IntKind.i64.max) := by
 have m1 : IntKind.i64.min = -9223372036854775808 := rfl
 have m2 : IntKind.i64.max = 9223372036854775807 := rfl
 rw [m1,m2]
 by_cases h : P.t < 0
 ·exact ⟨-1,0,0,by unfold evP;rw [if_pos h];rfl,by omega,by omega,by omega⟩
 ·have h1 := runO_len (E := E) (P := P) (k := P.t.toNat) (kn := kn) (x := staAt P)
  have h2 : (runO E P P.t.toNat (staAt P) kn).why = 1 ∨ (runO E P P.t.toNat (staAt P) kn).why = 2 ∨ (runO E P P.t.toNat (staAt P) kn).why = 3 ∨ (runO E P P.t.toNat (staAt P) kn).why = 4 := runF_why _ _ _
  exact ⟨_,_,_,by unfold evP;rw [if_neg h];rfl,by omega,by omega,by omega⟩
structure Tc where
 (w wS : World) (base1 base2 n B0 B1 : Nat) (I1 I2 : Mi) (pv ev : Value) (E : Pays) (K : List Blk)
structure TwS (c : Tc) (w3 : World) (a b : Ms) : Prop where
 k1 : OneS c.base1 c.n c.I1 c.pv c.ev c.E w3 a
 k2 : OneS c.base2 c.n c.I2 c.pv c.ev c.E w3 b
 up : Upd (fun x => c.w.heap.size ≤ x) c.w w3
 us : Upd (fun x => x < c.B0 ∨ c.B1 ≤ x) c.wS w3
 ao : ∀ x,MonF c.I1 (a.mv c.pv c.ev) x → x < c.B0 ∨ c.B1 ≤ x
 sep : ∀ x,MonF c.I1 (a.mv c.pv c.ev) x → ¬ MonF c.I2 (b.mv c.pv c.ev) x
 kp : Keep w3 c.K
 bb : c.w.heap.size ≤ c.base1 ∧ c.base1 ≤ c.base2 ∧ c.B1 ≤ c.base2
theorem TwS.new {c : Tc} {w3 w4 : World} {a b : Ms} (k : TwS c w3 a b) (u : Upd (fun x => w3.heap.size ≤ x) w3 w4) : TwS c w4 a b := by
 obtain ⟨b1,b2,b3⟩ := k.bb
 have g1 := k.k1.ge
 have g2 := k.k2.ge
 have z := k.up.size
 exact ⟨k.k1.upd u (fun y hy => Nat.not_le.2 (k.k1.mon.lt y hy).2) (k.k1.env.upd (u.mono fun y _ h => by omega)),k.k2.upd u (fun y hy => Nat.not_le.2 (k.k2.mon.lt y hy).2) (k.k2.env.upd (u.mono fun y _ h => by omega)),k.up.comp u fun y _ h => h.elim id fun h => by omega,k.us.comp u fun y _ h => h.elim id fun h => .inr ky,k.ao,k.sep,k.kp.new u,k.bb⟩
theorem TwS.quiet {c : Tc} {w3 w4 : World} {a b : Ms} (k : TwS c w3 a b) (h : Hp w3 [] w4) : TwS c w4 a b := k.new (h.upd.mono fun _ _ y => (y trivial).elim)
theorem TwS.runA {c : Tc} {wq : World} {a b : Ms} (k : TwS c wq a b) (kn : Nat) (hk : 1 ≤ kn ∧ kn ≤ 60) :
  Calls Tryz.prog 16 #[.pointer (some ⟨c.I1.m,0,none⟩),.int .i64 (kn : Int)] wq fun e w' => e = .returned (evP c.E a.P kn) ∧ ∃ a' : Ms,a'.P = stepP c.E a.P kn ∧ TwS c w' a' b := by
 obtain ⟨b1,b2,b3⟩ := k.bb
 have g1 := k.k1.ge
 have g2 := k.k2.ge
 refine (k.k1.run kn hk).mono ?_
 rintro e w' ⟨rfl,a',ha',K,u,own⟩
 refine ⟨rfl,a',ha',⟨K,?_,?_,?_,?_,?_,k.kp.run k.k1.mon u,k.bb⟩⟩
 ·exact k.k2.upd u (fun y hy h => h.elim (fun h => k.sep y h hy) fun h => by have := (k.k2.mon.lt y hy).2;omega) (K.env.older b2)
 ·exact k.up.comp u fun y _ h => h.elim id fun h => h.elim (fun h => by have := (k.k1.mon.lt y h).1;omega) fun h => by omega
 ·exact k.us.comp u fun y _ h => h.elim id fun h => h.elim (k.ao y) fun h => .inr ky
 ·exact fun y h => (own y h).elim (k.ao y) fun h => .inr ky
 ·exact fun y h h2 => (own y h).elim (fun h => k.sep y h h2) fun h => by have := (k.k2.mon.lt y h2).2;omega
theorem TwS.runB {c : Tc} {wq : World} {a b : Ms} (k : TwS c wq a b) (kn : Nat) (hk : 1 ≤ kn ∧ kn ≤ 60) :
  Calls Tryz.prog 16 #[.pointer (some ⟨c.I2.m,0,none⟩),.int .i64 (kn : Int)] wq fun e w' => e = .returned (evP c.E b.P kn) ∧ ∃ b' : Ms,b'.P = stepP c.E b.P kn ∧ TwS c w' a b' := by
 obtain ⟨b1,b2,b3⟩ := k.bb
 have g1 := k.k1.ge
 have g2 := k.k2.ge
 refine (k.k2.run kn hk).mono ?_
 rintro e w' ⟨rfl,b',hb',K,u,own⟩
 have ge2 : ∀ y,KF wq c.I2 (b.mv c.pv c.ev) y → c.base2 ≤ y := fun y h => h.elim (fun h => (k.k2.mon.lt y h).1) fun h => by omega
 refine ⟨rfl,b',hb',⟨?_,K,?_,?_,k.ao,?_,k.kp.run k.k2.mon u,k.bb⟩⟩
 ·exact k.k1.upd u (fun y hy h => h.elim (fun h => k.sep y hy h) fun h => by have := (k.k1.mon.lt y hy).2;omega) (k.k1.env.upd (u.mono fun y _ h => by have := ge2 y h;omega))
 ·exact k.up.comp u fun y _ h => h.elim id fun h => by have := ge2 y h;omega
 ·exact k.us.comp u fun y _ h => h.elim id fun h => .inr (by have := ge2 y h;omega)
 ·exact fun y h h2 => (own y h2).elim (fun h2 => k.sep y h h2) fun h2 => by have := (k.k1.mon.lt y h).2;omega
theorem StT.upd {w w' : World} {base : Nat} {M : Mv2} {ls : Nat → List (Int × List UInt8)} {sv iv bv lv : Value} {cM : Nat} {vs : List Value} {S : Nat → Prop} (h : StT w base M ls sv iv bv lv cM vs) (hc : base ≤ cM) (u : Upd S w w') (hs : ∀ b,base ≤ b → b < w.heap.size → ¬ S b) : StT w' base M ls sv iv bv lv cM vs := by
 have kr : ∀ {y : Value} {e sz n : Nat} {xs : List Value},w.ownsRow base e sz y n xs → w'.ownsRow base e sz y n xs := fun hr => ownsRow_upd hr u fun b hb => hs b (hr.ge b hb).1 (hr.ge b hb).2
 exact ⟨kr h.s,kr h.i,kr h.b,⟨h.bl.1,fun j hj => by obtain ⟨v,e1,e2⟩ := h.bl.2 j hj;exact ⟨v,e1,kr e2⟩⟩,kr h.l,u.heap h.m (hs cM hc (lt_of_block h.m))⟩
theorem Sv.ofRow {w : World} {g sz n cap t : Nat} {xs J : List Value} {fr : Nat × Nat} (h : w.heap[g]? = some (.cells (xs ++ J).toArray t fr)) (hl : xs.length = n * sz) (h1 : n ≤ cap) (h2 : cap ≤ maxLen) : Sv w sz n (.slice (some ⟨g,0,none⟩) n cap) xs := by
 refine ⟨hl,_,cap,rfl,h1,h2,fun e => (by cases e),fun _ => ⟨g,0,rfl,fun i hi => ?_⟩⟩
 rw [cellAt h,Nat.zero_add]
 simp [List.getElem?_append_left hi,List.getElem?_eq_getElem hi]
theorem row_blk {w : World} {base e sz n : Nat} {v : Value} {xs : List Value} (h : w.ownsRow base e sz v n xs) (hn : 0 < n) : ∃ g cap J,v = .slice (some ⟨g,0,none⟩) n cap ∧ base ≤ g ∧ w.heap[g]? = some (.cells (xs ++ J).toArray e (0,0)) ∧ n ≤ cap ∧ cap ≤ maxLen := by
 rcases h.2 with ⟨_,h0⟩ | ⟨g,cap,cur,rfl,hb,hg,h1,h2,_,ht⟩
 ·omega
 ·refine ⟨g,cap,cur.toList.drop (n * sz),rfl,hb,?_,h1,h2⟩
  rw [← ht,List.take_append_drop]
  exact hg
theorem bxK_eq (ls : Nat → List (Int × List UInt8)) (n : Nat) (h : ∀ j,n ≤ j → ls j = []) : bxK ls n = fun i => (ls i).map letV := funext fun j => by
 unfold bxK
 by_cases hj : j < n
 ·rw [if_pos hj]
 ·rw [if_neg hj,h j ky];rfl
section
variable {base n : Nat} {I : Mi} {pv ev : Value} {E : Pays} {wq : World} {m : Ms}
theorem OneS.pvs (k : OneS base n I pv ev E wq m) : (∃ a c,pv = .slice a (m.mv pv ev).L.length c) ∧ ∃ a c,ev = .slice a (m.mv pv ev).L.length c := by
 obtain ⟨pb,po,pc,h,_⟩ := k.env.pay
 obtain ⟨eb,eo,ec,h',_⟩ := k.env.ent
 have hl : (m.mv pv ev).L.length = n := k.len
 rw [hl]
 exact ⟨⟨_,_,h⟩,_,_,h'⟩
theorem OneS.again {bS : Nat} {sv iv bv lv : Value} {cM : Nat} {vs : List Value} (k : OneS base n I pv ev E wq m) (h : StT wq bS (m.mv pv ev) m.P.D.bx sv iv bv lv cM vs) :
  Calls Tryz.prog 29 #[.pointer (some ⟨I.m,0,none⟩),.agg #[.int .i64 m.P.t,sv,iv,bv,lv,.pointer (some ⟨cM,0,none⟩)]] wq fun e w' => ∃ I2 b,b.P = m.P ∧ e = .returned (.tuple #[.pointer (some ⟨I2.m,0,none⟩),.int .i64 0]) ∧ OneS wq.heap.size n I2 pv ev E w' b ∧ Upd (fun x => wq.heap.size ≤ x) wq w' := by
 obtain ⟨⟨a1,c1,hpv⟩,a2,c2,hev⟩ := k.pvs
 have hl : (m.mv pv ev).L.length = n := k.len
 have hok := k.pk.ok
 have hdx := k.pk.dx
 have hn4 := k.mon.ward.2.2
 have hus := hdx.us
 have hu := hok.used
 have hlr := hok.ll
 have hins : ∀ s ∈ m.P.D.ins,s.length ≤ 64 := hok.ins.2
 have hbx : ∀ j,BoxOk (m.mv pv ev).L.length (m.P.D.bx j) := fun j => ⟨(hok.bx j).1,fun x hx => ⟨by rw [hl];exact ((hok.bx j).2 x hx).2.2,fun e => by have := ((hok.bx j).2 x hx).1.1;rw [e] at this;simp at this⟩⟩
 refine (mWithL base I (m.mv pv ev) m.P.L m.P.t a1 a2 c1 c2 cM sv iv bv lv vs m.P.D.ins m.P.D.bx m.P.D.ll m.P.D.f wq k.mon k.ge hpv hev (Sv.ofOwn h.s) rfl k.mon.ward.2.1 (.inl k.pk.set) (Sv.ofOwn h.i) (fun s hs => by have := hins s hs;omega) (Sv.ofOwn h.b) (fun j hj => by obtain ⟨v,e1,e2⟩ := h.bl.2 j hj;exact ⟨v,e1,Sv.ofOwn e2⟩) (fun j _ => ⟨by have := (hok.bx j).1;omega,fun x hx => ⟨by have := ((hok.bx j).2 x hx).2;omega,((hok.bx j).2 x hx).1.2⟩⟩) (Sv.ofOwn h.l) (fun x hx => ⟨by rw [hl];exact (hdx.ll x hx).1,(hdx.ll x hx).2⟩) ky ky h.m).mono ?_
 rintro e w' (⟨_,I2,M2,rfl,hM2,hM2e,u,_⟩ | ⟨hno,_⟩)
 ·have hM2' : M2 = (⟨m.P,M2.lv,.slice none 0 0,[],xz,0,M2.cf⟩ : Ms).mv pv ev := hM2e.trans (by
   rw [bxK_eq _ _ (fun j hj => hdx.bx j (by rw [← hl];exact hj)),← hus]
   rfl)
  rw [hM2'] at hM2
  exact ⟨I2,⟨m.P,M2.lv,.slice none 0 0,[],xz,0,M2.cf⟩,rfl,rfl,⟨hM2,(k.env.older k.ge).upd u,k.pk,k.len,u.size⟩,u⟩
 ·exact (hno k.pk.set (fun i s _ hs => hins s (List.mem_of_getElem? hs)) fun j _ => hbx j).elim
theorem noWith {M : Mv2} (L' : List Sta) (t' : Int) (sv iv bv lv : Value) (cM : Nat) (vs : List Value) (ins' : List (List UInt8)) (ls : Nat → List (Int × List UInt8)) (ll : List (Int × List UInt8)) (f' : Nat → Int) (hM : MonS wq base I M) (hb : base ≤ wq.heap.size) (hpv : ∃ a c,M.pv = .slice a M.L.length c) (hev : ∃ a c,M.ev = .slice a M.L.length c)
  (hA : Sv wq 35 M.L.length sv (stas L').flatten) (hl' : L'.length = M.L.length) (hokA : ∀ x ∈ L',StaOk x) (hset : SetOk L' t' ∨ SetNo L' t')
  (hI : Sv wq 1 M.L.length iv (ins'.map strV)) (hins : ∀ s ∈ ins',s.length ≤ 100000)
  (hB : Sv wq 1 M.L.length bv vs) (hBl : ∀ j,j < M.L.length → ∃ v,vs[j]? = some v ∧ Sv wq 2 (ls j).length v ((ls j).map lineC).flatten) (hBt : ∀ j,j < M.L.length → (ls j).length ≤ 1000 ∧ ∀ x ∈ ls j,(0 ≤ x.1 ∧ x.1 ≤ 1000) ∧ x.2.length ≤ 16)
  (hL : Sv wq 2 ll.length lv (ll.map lineC).flatten) (hll : ∀ x ∈ ll,(0 ≤ x.1 ∧ x.1 < M.L.length) ∧ x.2 ≠ [] ∧ x.2.length ≤ 64) (hlu : usedL ll ≤ 256) (hln : ll.length ≤ 1000) (hm' : memH wq cM f')
  (hno : SetOk L' t' → (∀ i s,i < M.L.length → ins'[i]? = some s → s.length ≤ 64) → (∀ j,j < M.L.length → BoxOk M.L.length (ls j)) → False) :
  Calls Tryz.prog 29 #[.pointer (some ⟨I.m,0,none⟩),.agg #[.int .i64 t',sv,iv,bv,lv,.pointer (some ⟨cM,0,none⟩)]] wq fun e w' => e = .returned (.tuple #[.pointer none,.int .i64 3]) ∧ Upd (fun x => wq.heap.size ≤ x) wq w' := by
 obtain ⟨a1,c1,hpv⟩ := hpv
 obtain ⟨a2,c2,hev⟩ := hev
 refine (mWithL base I M L' t' a1 a2 c1 c2 cM sv iv bv lv vs ins' ls ll f' wq hM hb hpv hev hA hl' hokA hset hI hins hB hBl hBt hL hll hlu hln hm').mono ?_
 rintro e w' (⟨⟨h1,h2,h3⟩,_⟩ | ⟨_,h⟩)
 ·exact (hno h1 h2 h3).elim
 ·exact h
end
theorem mWithBad (base n : Nat) (I : Mi) (M : Mv2) (hn : M.L.length = n) (t' : Int) (sa ia ba la mo : Option Addr) (sl sc ic bc ln lc : Nat) (w : World) (hM : MonS w base I M) (hbad : sl ≠ n ∨ (sl = n ∧ mo = none)) :
  Calls Tryz.prog 29 #[.pointer (some ⟨I.m,0,none⟩),.agg #[.int .i64 t',.slice sa sl sc,.slice ia n ic,.slice ba n bc,.slice la ln lc,.pointer mo]] w fun e w' => e = .returned (.tuple #[.pointer none,.int .i64 3]) ∧ Upd (fun k => w.heap.size ≤ k) w w' := by
 subst hn
 have hM0 := hM
 have hcnt := fun wq (k : MonS wq base I M) => wCount I.wd I.sa M.L M.t wq k.ward
 have q0 : w.cell? ⟨I.m,2,none⟩ = some (.pointer (some ⟨I.wd,0,none⟩)) := cell_of hM.mm rfl
 have l0 := (hM.lt I.m (.inl rfl)).2
 have dl : decide ((M.L.length : Int) ≠ (M.L.length : Int)) = false := decide_eq_false ky
 refine enter (args := [_,_]) (Γ := [(0,_),(1,_)]) Tryz.func29 Tryz.ntmps29 rfl odq (.cons rfl (.cons rfl .nil)) ?_
 repeat' first | (apply Wl.loadO;exact rfl;exact rfl;exact zw;exact kh) | refine Wl.move rfl rfl ?_ | refine Wl.assign rfl rfl ?_ | refine Wl.nilCheck rfl rfl ?_ | refine Wl.fieldAddrZ rfl rfl ?_ | refine Wl.eqlPN rfl rfl rfl ?_ | (apply Wl.boxA;exact rfl;exact rfl;intro c hc ho) | apply Wl.nil | apply St.seq | apply St.region | (apply St.condF;exact rfl;exact ka) | apply St.skip | apply Gt.next
 apply Wl.callQ
 exact rfl
 (focus repeat constructor)
 ·intro wq hq
  exact hq.q (hcnt wq (hM.hp hq kb))
 rcases hbad with hne | ⟨rfl,rfl⟩
 ·have d1 : decide ((sl : Int) ≠ (M.L.length : Int)) = true := decide_eq_true ky
  repeat' first | refine Wl.move rfl rfl ?_ | refine Wl.assign rfl rfl ?_ | (apply Wl.off;exact rfl;exact rfl;exact rfl;exact kq) | (apply Wl.pickT;exact rfl;exact rfl;exact ka;exact rfl) | refine Wl.fieldAddrZ rfl rfl ?_ | (apply Wl.loadH;exact rfl;exact rfl;exact ke;exact rfl) | refine Wl.neq rfl rfl rfl ?_ | refine Wl.len rfl rfl ?_ | apply Wl.nil | apply St.seq | apply St.region | (apply St.condT;exact rfl;exact ka) | apply St.ret | apply Gt.next | apply Gt.thenRet | (apply Gt.out2;exact rfl;exact rfl;exact rfl;intro w' hp)
  exact ⟨rfl,hp.on (Upd.refl _ _) kb⟩
 ·repeat' first | refine Wl.move rfl rfl ?_ | refine Wl.assign rfl rfl ?_ | (apply Wl.on;exact rfl;exact rfl;exact ka) | (apply Wl.pickF;exact rfl;exact rfl;exact ka;exact rfl) | refine Wl.fieldAddrZ rfl rfl ?_ | (apply Wl.loadH;exact rfl;exact rfl;exact ke;exact rfl) | refine Wl.eqlNN rfl rfl rfl ?_ | (apply Wl.neqIs;exact rfl;exact rfl;exact rfl;exact kv) | refine Wl.len rfl rfl ?_ | apply Wl.nil | apply St.seq | apply St.region | (apply St.condT;exact rfl;exact ka) | apply St.ret | apply Gt.next | apply Gt.thenRet | (apply Gt.out2;exact rfl;exact rfl;exact rfl;intro w' hp)
  exact ⟨rfl,hp.on (Upd.refl _ _) kb⟩
end Go.Proofs.YtabbklpalbikdaaGreatDoor
end
section
namespace Go.Pt
open Go.RowKit
end Go.Pt
namespace Go.Proofs.YtabbklpalbikdaaGreatDoor
open Go.RowKit Go.Pt
theorem small26 (a : Option Addr) (cl : Nat) (l : List LoadD) (w : World) (hn : l.length ≤ 140737488355328) (hL : LoadsO w a l) :
  Calls Tryz.prog 19 #[.slice a l.length cl] w fun e w' => (∃ z : Bool,e = .returned (.bool z) ∧ (z = true → (1 ≤ l.length ∧ l.length ≤ 3) ∧ SmallD l)) ∧ Upd (fun k => w.heap.size ≤ k) w w' := by
 refine enter (args := [_]) (Γ := [(0,_)]) Tryz.func19 Tryz.ntmps19 rfl odq (.cons rfl .nil) ?_
 repeat' first | refine Wl.move rfl rfl ?_ | refine Wl.assign rfl rfl ?_ | refine Wl.len rfl rfl ?_ | apply Wl.nil | apply St.seq | apply St.block | apply St.region | apply Gt.next
 refine St.loop (σ := Nat × Int × World) (fun τ => τ.1 ≤ l.length ∧ (0 ≤ τ.2.1 ∧ τ.2.1 ≤ 1500) ∧ Upd (fun k => w.heap.size ≤ k) w τ.2.2 ∧ SmallD (l.take τ.1))
  (fun τ => [(3,.int .i64 τ.2.1),(6,.slice a l.length cl),(0,.slice a l.length cl),(7,.int .i64 (l.length : Int)),(8,.int .i64 (τ.1 : Int))]) (fun τ => Hp τ.2.2 []) (fun τ => l.length - τ.1) (0,0,w) ⟨Nat.zero_le _,⟨show (0 : Int) ≤ 0 by decide,show (0 : Int) ≤ 1500 by decide⟩,Upd.refl _ _,fun x hx => by cases hx⟩ kw (fun _ h => h) ?_
 rintro ⟨i,n,w0⟩ ⟨hi,hr,hu0,hS⟩
 simp only at hi hr hu0 hS ⊢
 by_cases hlt : i < l.length
 ·have hd : decide ((i : Int) < (l.length : Int)) = true := decide_eq_true ky
  obtain ⟨x,hx⟩ : ∃ x,l[i]? = some x := ⟨_,List.getElem?_eq_getElem hlt⟩
  obtain ⟨lb,lo,rfl,v0,v1,v3,hcell,hV⟩ := hL i x hx
  have hlb : lb < w.heap.size := cell_old (hcell 0 _ rfl)
  have hcell' : ∀ q v,(loadC v0 v1 v3 x)[q]? = some v → w0.cell? ⟨lb,lo + (i : Int).toNat * 4 + q,none⟩ = some v := fun q v hq => by rw [Int.toNat_natCast];exact hu0.cell (hcell q v hq) (Nat.not_le.2 hlb)
  obtain ⟨b0,b1,b3⟩ := hV.big
  obtain ⟨ca,cc,rfl,_⟩ := hV.code
  obtain ⟨xa,xc,rfl,_⟩ := hV.regs
  obtain ⟨da,dc,rfl,_⟩ := hV.data.shape
  have hlo : (loadC (.slice ca x.code.length cc) (.slice da x.data.length dc) (.slice xa x.regs.length xc) x).all Value.oneCell' = true := rfl
  have hq4 : ((x.data.length : Int)).tdiv 4 = ((x.data.length / 4 : Nat) : Int) := by rw [Int.tdiv_eq_ediv_of_nonneg ky];omega
  have hqz : IntKind.i64.wrap (((x.data.length : Int)).tdiv 4) = ((x.data.length / 4 : Nat) : Int) := by rw [hq4,IntKind.wrap_i64];omega
  have l1 := hu0.size
  have hnext : x.code.length ≤ 1024 → x.data.length ≤ 4096 → x.regs.length ≤ 1500 → SmallD (l.take (i + 1)) := fun h1 h2 h3 y hy => by
   rw [List.take_add_one,hx] at hy
   rcases List.mem_append.1 hy with hy | hy
   ·exact hS y hy
   ·obtain rfl : y = x := by simpa using hy
    exact ⟨h1,h2,h3⟩
  have hd1 : decide (1500 < n + (1 + (x.code.length : Int) + ((x.data.length / 4 : Nat) : Int) + (x.regs.length : Int))) = decide (¬ (n + (1 + (x.code.length : Int) + ((x.data.length / 4 : Nat) : Int) + (x.regs.length : Int)) ≤ 1500)) := decide_eq_decide.2 ky
  repeat' first | (apply Wl.loadAB (xs := loadC (.slice ca x.code.length cc) (.slice da x.data.length dc) (.slice xa x.regs.length xc) x);exact rfl;exact rfl;(intro j v hj;exact hcell' j v hj);exact kh;exact rfl) | (apply Wl.storeA (xs := loadC (.slice ca x.code.length cc) (.slice da x.data.length dc) (.slice xa x.regs.length xc) x);exact rfl;exact rfl;exact rfl;exact hlo;exact ke;exact .z (LOver.whole rfl)) | (refine Wl.addI rfl rfl rfl ?_ ?_;constructor <;> omega) | refine Wl.move rfl rfl ?_ | refine Wl.assign rfl rfl ?_ | (apply Wl.on;exact rfl;exact rfl;exact ka) | (apply Wl.off;exact rfl;exact rfl;exact rfl;exact kq) | (apply Wl.pickT;exact rfl;exact rfl;exact ka;exact rfl) | (apply Wl.pickF;exact rfl;exact rfl;exact ka;exact rfl) | refine Wl.fieldAddr0 rfl rfl ?_ | refine Wl.fieldAddrZ rfl rfl ?_ | (apply Wl.loadH;exact rfl;exact rfl;exact ke;exact rfl) | refine Wl.lss rfl rfl rfl ?_ | refine Wl.gtr rfl rfl rfl ?_ | (apply Wl.quo;exact rfl;exact rfl;exact rfl;exact qx) | refine Wl.len rfl rfl ?_ | (apply Wl.alloc;exact rfl;intro c hc ho) | (refine Wl.indexAddr rfl rfl rfl ?_ ?_;constructor <;> omega) | apply Wl.nil | apply St.seq | apply St.block | apply St.region | (apply St.condT;exact rfl;exact ka) | apply St.ret | apply St.skip | apply Gt.next | apply Gt.thenRet | apply Gt.inNormal | apply Gt.inRet | (apply Gt.out1;exact rfl;exact rfl;intro w' hp) | (apply Wl.splitP;exact rfl;exact rfl;all_goals (intros;try (exfalso;omega))) | (apply St.condP;exact rfl;all_goals (intros;try (exfalso;omega)))
  iterate 3
   refine ⟨⟨_,rfl,fun h => by cases h⟩,hu0.comp (hp.drop qt).upd fun k _ hs => hs.elim id fun y => (y trivial).elim⟩
  ·refine Gt.reb (H' := []) fun w3 h3 => ⟨trivial,trivial,?_⟩
   have u3 : Upd (fun k => w.heap.size ≤ k) w0 w3 := Hp.on1 h3 (Upd.refl _ _) q7
   refine Gt.round (i + 1,n + (1 + (x.code.length : Int) + IntKind.i64.wrap (((x.data.length : Int)).tdiv 4) + (x.regs.length : Int)),w3) ⟨by simp only;omega,⟨by simp only;omega,by simp only;omega⟩,hu0.comp u3 fun k _ hs => hs.elim id id,hnext ky ky ky⟩ q7 kw (fun _ h => h)
 ·obtain rfl : i = l.length := by omega
  have hd : decide ((l.length : Int) < (l.length : Int)) = false := decide_eq_false ky
  by_cases h1 : 1 ≤ l.length
  ·have d1 : decide ((l.length : Int) ≥ 1) = true := decide_eq_true ky
   have d1' : decide ((1 : Int) ≤ (l.length : Int)) = true := decide_eq_true ky
   by_cases h3 : l.length ≤ 3
   ·have d3 : decide ((l.length : Int) ≤ 3) = true := decide_eq_true ky
    repeat' first | refine Wl.move rfl rfl ?_ | refine Wl.assign rfl rfl ?_ | (apply Wl.on;exact rfl;exact rfl;exact ka) | (apply Wl.pickT;exact rfl;exact rfl;exact ka;exact rfl) | refine Wl.lss rfl rfl rfl ?_ | refine Wl.leq rfl rfl rfl ?_ | refine Wl.geq rfl rfl rfl ?_ | refine Wl.len rfl rfl ?_ | apply Wl.nil | apply St.seq | apply St.region | (apply St.condF;exact rfl;exact ka) | apply St.ret | apply St.exit | apply Gt.next | apply Gt.thenExit | apply Gt.inExit | (apply Gt.out1;exact rfl;exact rfl;intro w' hp)
    exact ⟨⟨_,rfl,fun _ => ⟨⟨h1,h3⟩,by rw [List.take_length] at hS;exact hS⟩⟩,hu0.comp hp.upd fun k _ hs => hs.elim id fun y => (y trivial).elim⟩
   ·have d3 : decide ((l.length : Int) ≤ 3) = false := decide_eq_false ky
    repeat' first | refine Wl.move rfl rfl ?_ | refine Wl.assign rfl rfl ?_ | (apply Wl.on;exact rfl;exact rfl;exact ka) | (apply Wl.pickT;exact rfl;exact rfl;exact ka;exact rfl) | refine Wl.lss rfl rfl rfl ?_ | refine Wl.leq rfl rfl rfl ?_ | refine Wl.geq rfl rfl rfl ?_ | refine Wl.len rfl rfl ?_ | apply Wl.nil | apply St.seq | apply St.region | (apply St.condF;exact rfl;exact ka) | apply St.ret | apply St.exit | apply Gt.next | apply Gt.thenExit | apply Gt.inExit | (apply Gt.out1;exact rfl;exact rfl;intro w' hp)
    exact ⟨⟨_,rfl,fun h => Bool.noConfusion (h.symm.trans d3)⟩,hu0.comp hp.upd fun k _ hs => hs.elim id fun y => (y trivial).elim⟩
  ·have d1 : decide ((l.length : Int) ≥ 1) = false := decide_eq_false ky
   have d1' : decide ((1 : Int) ≤ (l.length : Int)) = false := decide_eq_false ky
   repeat' first | refine Wl.move rfl rfl ?_ | refine Wl.assign rfl rfl ?_ | (apply Wl.off;exact rfl;exact rfl;exact rfl;exact kq) | (apply Wl.pickF;exact rfl;exact rfl;exact ka;exact rfl) | refine Wl.lss rfl rfl rfl ?_ | refine Wl.geq rfl rfl rfl ?_ | refine Wl.len rfl rfl ?_ | apply Wl.nil | apply St.seq | apply St.region | (apply St.condF;exact rfl;exact ka) | apply St.ret | apply St.exit | apply Gt.next | apply Gt.thenExit | apply Gt.inExit | (apply Gt.out1;exact rfl;exact rfl;intro w' hp)
   exact ⟨⟨_,rfl,fun h => by cases h⟩,hu0.comp hp.upd fun k _ hs => hs.elim id fun y => (y trivial).elim⟩
theorem LoadsO.upd {w w' : World} {a : Option Addr} {l : List LoadD} {S : Nat → Prop} (h : LoadsO w a l) (u : Upd S w w') (hs : ∀ k,k < w.heap.size → ¬ S k) : LoadsO w' a l := fun i x hx => by
 obtain ⟨b,o,e,v0,v1,v3,h1,h2⟩ := h i x hx
 exact ⟨b,o,e,v0,v1,v3,fun q v hq => u.cell (h1 q v hq) (hs _ (cell_old (h1 q v hq))),h2.code.upd u hs,h2.data.upd u fun k _ hk _ => hs k hk,h2.regs.upd u hs,h2.big,h2.cal⟩
theorem csF {I : Mi} {M : Mv2} {x : Nat} (h : x ∈ I.cs) : MonF I M x := .inr (.inr (.inr (.inr (.inr (.inr (.inr (.inr (.inr (.inr (.inl h))))))))))
theorem iaF {I : Mi} {M : Mv2} : MonF I M I.ia := .inr (.inr (.inr (.inr (.inr (.inr (.inr (.inr (.inl rfl))))))))
theorem andb7 (x : Int) : 0 ≤ bits .and .i64 x 7 ∧ bits .and .i64 x 7 < 8 := by
 rw [bitsAnd_mask .i64 x 7 3 ze rfl]
 have h8 : (2 : Int) ^ 3 = 8 := rfl
 rw [h8]
 exact ⟨Int.emod_nonneg _ ze,Int.emod_lt_of_pos _ ze⟩
theorem Wl.andIs {P : Program} {md : Md} {ops : Array Oper} {N : Nat} {rest : List Oper} {Γ : Env} {C : World → Prop} {Q : Exit → Act → World → Prop} {d : Nat} {ty : TypeId} {pos : String} {af : Array Edge} {t u : TypeId} {x y : Operand} {k : IntKind} {m n z : Int}
  (hz : bits .and k m n = z) (hd : Nat.blt d N = true) (hx : ev Γ x = some (.int k m)) (hy : ev Γ y = some (.int k n)) (h : Wl rest P md ops N ((d,.int k z) :: Γ) C Q) : Wl (⟨some d,.binOp .and t x y u,ty,pos,af,none⟩ :: rest) P md ops N Γ C Q := by
 subst hz
 exact Wl.and hd hx hy h
theorem OnW.state {w : World} {base n : Nat} {I : Mi} {pv ev : Value} {E : Pays} {K : List Blk} {wq : World} {m : Ms} (k : OnW w base n I pv ev E K wq m) :
  Calls Tryz.prog 20 #[.pointer (some ⟨I.m,0,none⟩)] wq fun e w' => ∃ sv iv bv lv cM vs,e = .returned (.agg #[.int .i64 m.P.t,sv,iv,bv,lv,.pointer (some ⟨cM,0,none⟩)]) ∧ StT w' wq.heap.size (m.mv pv ev) m.P.D.bx sv iv bv lv cM vs ∧ wq.heap.size ≤ cM ∧ OnW w base n I pv ev E K w' m ∧ Upd (fun x => x < wq.heap.size ∨ wq.heap.size ≤ x) wq w' := by
 have hD := k.k1.pk.ok
 have g := k.k1.ge
 have gw := k.ge
 have hlt := k.k1.pk.set.2.1
 have htv : turnV (m.mv pv ev).t = m.P.t := by
  show turnV m.P.t = m.P.t
  unfold turnV
  split <;> omega
 refine (mStateL base I (m.mv pv ev) m.P.D.bx wq k.k1.mon k.k1.ge (fun i _ => ⟨rfl,(hD.bx i).1⟩) (by have := hD.ll;have := hD.used;show m.P.D.ll.length ≤ 1000;omega)).mono ?_
 rintro e w' ⟨sv,iv,bv,lv,cM,vs,rfl,hSt,hcM,hM,u⟩
 rw [htv]
 refine ⟨sv,iv,bv,lv,cM,vs,rfl,hSt,hcM,⟨⟨hM,k.k1.env.upd (u.mono fun b _ h => h.elim (fun h => (k.k1.mon.lt b (csF h.mem)).1) fun h => by omega),k.k1.pk,k.k1.len,Nat.le_trans g u.size⟩,k.up.comp u fun b _ h => h.elim id fun h => h.elim (fun h => by have := (k.k1.mon.lt b (csF h.mem)).1;omega) fun h => by omega,k.kp.upd u fun B hB h => h.elim (fun h => k.k1.mon.offF (k.kp B hB).1 (k.kp B hB).2 _ (csF h.mem) rfl) fun h => Nat.not_le.2 (lt_of_block (k.kp B hB).1) h,gw⟩,u.mono fun b _ _ => Nat.lt_or_ge _ _⟩
theorem mz65 : (madeCells (Value.int .u8 0).cells (65 * 1)).toList = byteCells (List.replicate 65 0) := by kernel_rfl
theorem stas_x0 {L : List Sta} {J : List Value} {x : Sta} (h : L[0]? = some x) (hl : x.xs.length = 32) : (stas L).flatten.set (0 + (0 : Int).toNat * 35 + 3 + (0 : Int).toNat) (.int .u32 1) ++ J = (stas (L.set 0 ⟨x.s,x.c,x.p,x.xs.set 0 (.int .u32 1)⟩)).flatten ++ J := by
 cases L with
 | nil => cases h
 | cons y r =>
  cases h
  obtain ⟨s,c,p,xs⟩ := x
  cases xs with
  | nil => simp at hl
  | cons _ _ => rfl
structure FinS (w : World) (base base2 : Nat) (I I2 : Mi) (Ma Mb : Mv2) (p : Nat) (rv : Value) (c8 : Nat) (v1 v2 : Value) (ml : List UInt8) (w4 : World) (cs : List Value) : Prop where
 a : MonS w4 base I Ma
 b : MonS w4 base2 I2 Mb
 pr : w4.heap[p]? = some (.cells ([.pointer (some ⟨I.m,0,none⟩),rv] : List Value).toArray 39 (0,0))
 st : w4.heap[c8]? = some (.cells cs.toArray 54 (0,0))
 cl : cs.length = 6 ∧ cs.all Value.oneCell' = true
 up : Upd (fun k => w.heap.size ≤ k) w w4
 b1 : Bs w4 v1 ml
 b2 : Bs w4 v2 ml
 ge : base ≤ w4.heap.size ∧ base2 ≤ w4.heap.size
 no : ∀ wq,Hp w4 [] wq → Calls Tryz.prog 29 #[.pointer (some ⟨I.m,0,none⟩),.agg cs.toArray] wq fun e w' => e = .returned (.tuple #[.pointer none,.int .i64 3]) ∧ Upd (fun x => wq.heap.size ≤ x) wq w'
theorem row_keepS {w w' : World} {base e sz n : Nat} {v : Value} {xs : List Value} {g c8 t t8 : Nat} {cs cs8 : Array Value} (h : w.ownsRow base e sz v n xs) (hg : w.heap[g]? = some (.cells cs t (0,0))) (h8 : w.heap[c8]? = some (.cells cs8 t8 (0,0))) (he : t ≠ e) (he8 : t8 ≠ e) (u : Upd (fun x => x = g ∨ x = c8 ∨ w.heap.size ≤ x) w w') : w'.ownsRow base e sz v n xs := ownsRow_upd h u fun k hk hs => by
 rcases hs with h1 | h1 | h1
 ·exact row_neT h hg he k hk h1
 ·exact row_neT h h8 he8 k hk h1
 ·exact absurd (h.ge k hk).2 (Nat.not_lt.2 h1)
theorem TwS.fin {c : Tc} {w3 w4 : World} {a b : Ms} {S : Nat → Prop} {B P : Blk} (T : TwS c w3 a b) (hB : B ∈ c.K) (hP : P ∈ c.K) (u : Upd S w3 w4) (hs : ∀ x,S x → (c.B0 ≤ x ∧ x < c.B1) ∨ x = B.b ∨ w3.heap.size ≤ x) (hPS : ¬ S P.b) (hw : c.w.heap.size ≤ c.B0 ∧ c.w.heap.size ≤ B.b) :
  MonS w4 c.base1 c.I1 (a.mv c.pv c.ev) ∧ MonS w4 c.base2 c.I2 (b.mv c.pv c.ev) ∧ w4.heap[P.b]? = some (.cells P.cs.toArray P.t (0,0)) ∧ Upd (fun k => c.w.heap.size ≤ k) c.w w4 ∧ c.base1 ≤ w4.heap.size ∧ c.base2 ≤ w4.heap.size := by
 obtain ⟨b1,b2,b3⟩ := T.bb
 have z := T.up.size
 have o1 := T.k1.mon.offF (T.kp B hB).1 (T.kp B hB).2
 have o2 := T.k2.mon.offF (T.kp B hB).1 (T.kp B hB).2
 refine ⟨T.k1.mon.upd u fun y hy h => ?_,T.k2.mon.upd u fun y hy h => ?_,u.heap (T.kp P hP).1 hPS,T.up.comp u fun y _ h => h.elim id fun h => ?_,Nat.le_trans T.k1.ge u.size,Nat.le_trans T.k2.ge u.size⟩
 ·rcases hs y h with h | h | h
  ·have := T.ao y hy;omega
  ·exact o1 y hy h
  ·have := (T.k1.mon.lt y hy).2;omega
 ·have := T.k2.mon.lt y hy
  rcases hs y h with h | h | h
  ·omega
  ·exact o2 y hy h
  ·omega
 ·rcases hs y h with h | h | h <;> omega
theorem bx_ok {D : DS} {n : Nat} (h : DOk D n) (hn : n ≤ 4) (j : Nat) : (D.bx j).length ≤ 1000 ∧ ∀ x ∈ D.bx j,(0 ≤ x.1 ∧ x.1 ≤ 1000) ∧ x.2.length ≤ 16 :=
 ⟨by have := (h.bx j).1;omega,fun x hx => ⟨by have := ((h.bx j).2 x hx).2;omega,((h.bx j).2 x hx).1.2⟩⟩
theorem noWithB {base n : Nat} {I : Mi} {w4 wq : World} {M : Mv2} {m : Ms} (hpk : PK m.P n) (hn4 : 1 ≤ n ∧ n ≤ 4) (hMn : M.L.length = n) (hM : MonS w4 base I M) (hb : base ≤ w4.heap.size) (hpv : ∃ a c,M.pv = .slice a n c) (hev : ∃ a c,M.ev = .slice a n c) (hq : Hp w4 [] wq)
  (L' : List Sta) (t' : Int) (ins' : List (List UInt8)) (ls : Nat → List (Int × List UInt8)) {sv iv bv lv : Value} {cM : Nat} {vs : List Value}
  (hA : Sv w4 35 n sv (stas L').flatten) (hl' : L'.length = n) (hokA : ∀ x ∈ L',StaOk x) (hset : SetOk L' t' ∨ SetNo L' t')
  (hI : Sv w4 1 n iv (ins'.map strV)) (hins : ∀ s ∈ ins',s.length ≤ 100000)
  (hB : Sv w4 1 n bv vs) (hBl : ∀ j,j < n → ∃ v,vs[j]? = some v ∧ Sv w4 2 (ls j).length v ((ls j).map lineC).flatten) (hBt : ∀ j,j < n → (ls j).length ≤ 1000 ∧ ∀ x ∈ ls j,(0 ≤ x.1 ∧ x.1 ≤ 1000) ∧ x.2.length ≤ 16)
  (hL : Sv w4 2 m.P.D.ll.length lv (m.P.D.ll.map lineC).flatten) (hm' : memH w4 cM m.P.D.f)
  (hno : SetOk L' t' → (∀ i s,i < n → ins'[i]? = some s → s.length ≤ 64) → (∀ j,j < n → BoxOk n (ls j)) → False) :
  Calls Tryz.prog 29 #[.pointer (some ⟨I.m,0,none⟩),.agg #[.int .i64 t',sv,iv,bv,lv,.pointer (some ⟨cM,0,none⟩)]] wq fun e w' => e = .returned (.tuple #[.pointer none,.int .i64 3]) ∧ Upd (fun x => wq.heap.size ≤ x) wq w' := by
 have hok := hpk.ok
 have hdx := hpk.dx
 have hus := hdx.us
 have hu := hok.used
 have hlr := hok.ll
 have z := hq.upd.size
 subst hMn
 have q : ∀ {sz k : Nat} {v : Value} {cs : List Value},Sv w4 sz k v cs → Sv wq sz k v cs := fun h => h.upd hq.upd fun _ _ _ _ y => y trivial
 exact noWith L' t' sv iv bv lv cM vs ins' ls m.P.D.ll m.P.D.f (hM.upd hq.upd fun _ _ y => y trivial) ky hpv hev (q hA) hl' hokA hset (q hI) hins (q hB) (fun j hj => by obtain ⟨v,e1,e2⟩ := hBl j hj;exact ⟨v,e1,q e2⟩) hBt (q hL) hdx.ll ky ky (hq.upd.heap hm' fun y => y trivial) hno
theorem states26 (a : Option Addr) (cl : Nat) (l : List LoadD) (r0 r1 bend : Int) (w : World) (hn : l.length ≤ 140737488355328) (hL : LoadsO w a l) (hr0 : I64 r0) (hr1 : I64 r1) (hT : tabOk w) :
  Calls Tryz.prog 7 #[.slice a l.length cl,.agg #[.int .i64 r0,.int .i64 r1],.int .i64 bend] w fun e w' => e = .returned (.bool true) ∧ Upd (fun k => w.heap.size ≤ k) w w' := by
 refine enter (args := [_,_,_]) (Γ := [(0,_),(1,_),(2,_)]) Tryz.func7 Tryz.ntmps7 rfl odq (.cons rfl (.cons rfl (.cons rfl .nil))) ?_
 repeat' first | refine Wl.assign rfl rfl ?_ | (apply Wl.boxA;exact rfl;exact rfl;intro c hc ho) | apply Wl.nil | apply St.seq | apply St.region | apply Gt.next
 generalize c = c4 at *
 have hc4 : w.heap.size ≤ c4 := by assumption
 refine Wl.reb (H' := []) fun w0 h0 => ⟨trivial,trivial,?_⟩
 have e4 := h0.own.at (.head _)
 simp only at e4
 have U0 : Upd (fun k => w.heap.size ≤ k) w w0 := h0.on (Upd.refl _ _) kb
 have hL0 := hL.upd U0 fun k hk => Nat.not_le.2 hk
 have hT0 := hT.upd U0 (Nat.not_le.2 hT.lt)
 have l4 := lt_of_block e4
 have z0 := U0.size
 clear h0
 apply Wl.callC
 ·exact rfl
 ·exact ke
 intro wq hq
 refine (fit26 wq (hT0.upd hq.upd fun y => y trivial)).mono ?_
 rintro e w1 ⟨rfl,u1⟩
 have U1 : Upd (fun k => w0.heap.size ≤ k) w0 w1 := (hq.upd.mono fun _ _ y => (y trivial).elim).comp u1 fun k _ hs => hs.elim id fun h => Nat.le_trans hq.upd.size h
 refine ⟨_,_,rfl,Hp.start w1,?_⟩
 clear hq u1
 repeat' first | refine Wl.move rfl rfl ?_ | refine Wl.not rfl rfl ?_ | apply Wl.nil | apply St.seq | apply St.region | (apply St.condF;exact rfl;exact ka) | apply St.skip | apply Gt.next
 apply Wl.callC
 ·exact rfl
 ·exact ke
 intro wq hq
 have Uq : Upd (fun k => w0.heap.size ≤ k) w0 wq := U1.comp hq.upd fun k _ hs => hs.elim id fun y => (y trivial).elim
 refine (small26 a cl l wq hn (hL0.upd Uq fun k hk => Nat.not_le.2 hk)).mono ?_
 rintro e w2 ⟨⟨z,rfl,hz⟩,u2⟩
 have U2 : Upd (fun k => w0.heap.size ≤ k) w0 w2 := Uq.comp u2 fun k _ hs => hs.elim id fun h => Nat.le_trans Uq.size h
 refine ⟨_,_,rfl,Hp.start w2,?_⟩
 clear hq u2 Uq U1 w1 wq
 cases z
 ·repeat' first | refine Wl.assign rfl rfl ?_ | refine Wl.not rfl rfl ?_ | apply Wl.nil | apply St.seq | apply St.region | (apply St.condT;exact rfl;exact ka) | apply St.ret | apply Gt.next | apply Gt.thenRet | (apply Gt.out1;exact rfl;exact rfl;intro w' hp)
  exact ⟨rfl,U0.comp (Hp.on0 hp U2) fun k _ h => h.elim id fun h => by omega⟩
 obtain ⟨⟨hl1,hl3⟩,hsm⟩ := hz rfl
 repeat' first | refine Wl.move rfl rfl ?_ | refine Wl.not rfl rfl ?_ | apply Wl.nil | apply St.seq | apply St.region | (apply St.condF;exact rfl;exact ka) | apply St.skip | apply Gt.next
 apply Wl.callC
 ·exact rfl
 ·exact ke
 intro wq hq
 have Uq : Upd (fun k => w0.heap.size ≤ k) w0 wq := U2.comp hq.upd fun k _ hs => hs.elim id fun y => (y trivial).elim
 refine (begin26 a l.length cl l wq rfl ⟨hl1,hl3⟩ ((hL0.upd Uq fun k hk => Nat.not_le.2 hk).small hsm) (hT0.upd Uq (Nat.not_le.2 hT0.lt))).mono ?_
 rintro e w3 ⟨p,base,I,pv,ev,cf,rv,rfl,hp3,hM3,hE3,hb3,hpg,u3⟩
 have U3 : Upd (fun k => w0.heap.size ≤ k) w0 w3 := Uq.comp u3 fun k _ hs => hs.elim id fun h => Nat.le_trans Uq.size h
 have e43 := U3.heap e4 (Nat.not_le.2 l4)
 have V3 : Upd (fun k => w.heap.size ≤ k) w w3 := U0.comp U3 fun k _ h => h.elim id fun h => by omega
 refine ⟨_,_,rfl,Hp.start w3,?_⟩
 have hgb : w.heap.size ≤ base := by have := Uq.size;have := hb3.1;omega
 have hgb2 := hb3.2
 have hp0 : w3.cell? ⟨p,0,none⟩ = some (.pointer (some ⟨I.m,0,none⟩)) := cell_of hp3 rfl
 clear hb3 hpg hq u3 Uq U2 w2 wq hL0 hT0 U3 e4 l4 U0 z0
 repeat' first | (apply Wl.loadO;exact rfl;exact rfl;exact zw;exact kh) | refine Wl.move rfl rfl ?_ | refine Wl.assign rfl rfl ?_ | refine Wl.nilCheck rfl rfl ?_ | refine Wl.fieldAddr0 rfl rfl ?_ | refine Wl.eqlPN rfl rfl rfl ?_ | apply Wl.nil | apply St.seq | apply St.region | (apply St.condF;exact rfl;exact ka) | apply St.skip | apply Gt.next
 apply Wl.callC
 ·exact rfl
 ·exact ke
 intro wq hq
 have hMq := hM3.upd hq.upd fun b hb y => y trivial
 have hi0 : ((begP l).mv pv ev (.slice none 0 0) (.slice none 0 0) [] xz 0 cf).ins[0]? = some [] := by
  show (List.replicate l.length ([] : List UInt8))[0]? = some []
  rw [List.getElem?_replicate,if_pos ky]
 refine (mFeed base I _ 0 [] [97,98] wq hMq hi0 ze).mono ?_
 rintro e w4 ⟨rfl,hM4,u4⟩
 have U34 : Upd (fun k => k = I.ia) w3 w4 := (hq.upd.mono fun _ _ y => (y trivial).elim).comp u4 fun k _ h => h.elim id id
 have hia := (hM3.lt I.ia iaF).1
 have op3 := hM3.offF hp3 ze _ iaF
 have o43 := hM3.offF e43 ze _ iaF
 have hPK := begP_keep l hl1 hM3.ward.2.1 [97,98] ze
 obtain ⟨m0,K4⟩ : ∃ m,OnW w base l.length I pv ev (begE l) [⟨p,[.pointer (some ⟨I.m,0,none⟩),rv],39⟩,⟨c4,[.int .i64 r0,.int .i64 r1],72⟩] w4 m :=
  ⟨⟨⟨(begP l).L,(begP l).t,{(begP l).D with ins := (begP l).D.ins.set 0 ([] ++ [97,98])}⟩,.slice none 0 0,.slice none 0 0,[],xz,0,cf⟩,⟨hM4,hE3.upd (U34.mono fun b _ h => by rw [h];exact hia),hPK,by simp [begP],Nat.le_trans hgb2 U34.size⟩,V3.comp U34 fun k _ h => h.elim id fun h => by omega,fun B hB => by
   rcases List.mem_cons.1 hB with rfl | hB
   ·exact ⟨U34.heap hp3 fun e => op3 e.symm,show TyK 39 by decide⟩
   ·rw [List.mem_singleton.1 hB];exact ⟨U34.heap e43 fun e => o43 e.symm,show TyK 72 by decide⟩,hgb⟩
 refine ⟨_,_,rfl,Hp.start w4,?_⟩
 clear hq u4 hMq hi0 U34 hia op3 o43 hPK hM4 hM3 hE3 hp3 e43 V3 hp0 hgb hgb2 w3 wq
 repeat' first | refine Wl.move rfl rfl ?_ | apply Wl.nil | apply St.seq | apply St.block | apply St.region | apply Gt.next
 refine St.reb (H' := []) fun w5 h5 => ⟨trivial,trivial,?_⟩
 have K5 := K4.quiet h5
 clear h5 K4
 refine St.loop (σ := Nat × World × Ms) (fun τ => τ.1 ≤ 4 ∧ OnW w base l.length I pv ev (begE l) [⟨p,[.pointer (some ⟨I.m,0,none⟩),rv],39⟩,⟨c4,[.int .i64 r0,.int .i64 r1],72⟩] τ.2.1 τ.2.2) (fun τ => [(0,.slice a l.length cl),(2,.int .i64 bend),(4,.pointer (some ⟨c4,0,none⟩)),(7,.pointer (some ⟨p,0,none⟩)),(32,.int .i64 (τ.1 : Int))]) (fun τ => Hp τ.2.1 []) (fun τ => 4 - τ.1) (0,w5,m0) ⟨Nat.zero_le _,K5⟩ kw (fun _ h => h) ?_
 clear K5
 rintro ⟨j,w5,m⟩ ⟨hj,K⟩
 simp only at hj K ⊢
 have hp1 := (K.kp _ (.head _)).1
 have hc1 := (K.kp _ (.tail _ (.head _))).1
 simp only at hp1 hc1
 by_cases hj4 : j < 4
 ·have hdj : decide ((j : Int) < 4) = true := decide_eq_true ky
  obtain ⟨kn,hkn⟩ : ∃ kn : Nat,stepsN r0 = (kn : Int) := ⟨(stepsN r0).toNat,by have := stepsN_rng r0;omega⟩
  have hknr : 1 ≤ kn ∧ kn ≤ 60 := by have := stepsN_rng r0;omega
  have hstep : ∀ wq : World,Calls Tryz.prog 17 #[.int .i64 r0] wq fun e w' => e = .returned (.int .i64 (kn : Int)) ∧ Hp wq [] w' := fun wq => by rw [← hkn];exact stepsX _ wq
  repeat' first | refine Wl.lss rfl rfl rfl ?_ | apply Wl.nil | apply St.seq | apply St.block | apply St.region | (apply St.condT;exact rfl;exact ka) | apply St.skip | apply Gt.next
  refine St.tree (fun w' => w'.heap[p]? = some (.cells ([.pointer (some ⟨I.m,0,none⟩),rv] : List Value).toArray 39 (0,0)) ∧ w'.heap[c4]? = some (.cells ([.int .i64 r0,.int .i64 r1] : List Value).toArray 72 (0,0))) mixed (fun _ h' => ⟨Hp.drew h',(Hp.drew h').upd.heap hp1 nt0,(Hp.drew h').upd.heap hc1 nt0⟩) ?_
  refine Mt.pm 0 ?_
  refine Mt.pu 4 ?_
  refine Wl.indexArr rfl rfl rfl ?_ ?_;constructor <;> omega;apply Wl.nilB
  refine Mt.pn 1 ?_
  refine Mt.pu 5 ?_
  apply Wl.loadF;exact rfl;exact rfl;(intro w' h';first | exact cell_of h'.1 rfl | exact cell_of h'.2 rfl);apply Wl.nilB
  refine Mt.pf 2 ?_
  refine Mt.pu 3 ?_
  apply Wl.loadF;exact rfl;exact rfl;(intro w' h';first | exact cell_of h'.1 rfl | exact cell_of h'.2 rfl);apply Wl.nilB
  refine Mt.e1 6 ?_
  apply Wl.callQ
  ·exact rfl
  ·exact ke
  ·intro wq hq
   exact hq.q (hstep wq)
  apply Wl.nil
  refine Mt.backE (fun _ h' => by first | exact ⟨h'.upd.heap hp2 nt0,h'.upd.heap hc2 nt0⟩ | exact ⟨h'.upd.heap hp1 nt0,h'.upd.heap hc1 nt0⟩) ?_
  refine Mt.e1 7 ?_
  apply Wl.callC
  ·exact rfl
  ·exact ke
  intro wq hq
  refine ((K.quiet hq).run kn hknr).mono ?_
  rintro e w6 ⟨rfl,m',K6⟩
  have hp2 := (K6.kp _ (.head _)).1
  have hc2 := (K6.kp _ (.tail _ (.head _))).1
  simp only at hp2 hc2
  refine ⟨_,_,rfl,Hp.start w6,?_⟩
  clear hq
  apply Wl.nil
  refine Mt.backE (fun _ h' => by first | exact ⟨h'.upd.heap hp2 nt0,h'.upd.heap hc2 nt0⟩ | exact ⟨h'.upd.heap hp1 nt0,h'.upd.heap hc1 nt0⟩) ?_
  refine Mt.toGt kg ?_
  repeat' first | refine Wl.move rfl rfl ?_ | (refine Wl.addI rfl rfl rfl ?_ ?_;constructor <;> omega) | apply Wl.nil | apply St.region | apply Gt.next | apply Gt.inNormal
  refine Gt.reb (H' := []) fun w7 h7 => ⟨trivial,trivial,?_⟩
  refine Gt.round (j + 1,w7,m') ⟨by simp only;omega,K6.quiet h7⟩ q7 kw (fun _ h => h)
 obtain rfl : j = 4 := by omega
 have hdj : decide (((4 : Nat) : Int) < 4) = false := by decide
 have hp0 : w5.cell? ⟨p,0,none⟩ = some (.pointer (some ⟨I.m,0,none⟩)) := cell_of hp1 rfl
 repeat' first | (apply Wl.loadO;exact rfl;exact rfl;exact zw;exact kh) | refine Wl.move rfl rfl ?_ | refine Wl.nilCheck rfl rfl ?_ | refine Wl.fieldAddr0 rfl rfl ?_ | refine Wl.lss rfl rfl rfl ?_ | apply Wl.nil | apply St.seq | apply St.region | (apply St.condF;exact rfl;exact ka) | apply St.exit | apply Gt.next | apply Gt.thenExit | apply Gt.inExit
 apply Wl.callC
 ·exact rfl
 ·exact ke
 intro wq hq
 have Kq := K.quiet hq
 have hl4 := Kq.k1.mon.ward.2.2
 have hlen : (m.mv pv ev).L.length = l.length := Kq.k1.len
 refine Kq.state.mono ?_
 rintro e wS ⟨sv,iv,bv,lv,cM,vs,rfl,hSt,hcM,KS,uS⟩
 have zS := uS.size
 have hlS := KS.k1.mon.lt
 have hlq := Kq.k1.mon.lt
 obtain ⟨sg,sc,sJ,rfl,hsg,hsh,hs1,hs2⟩ := row_blk hSt.s ky
 obtain ⟨ig,ic,iJ,rfl,hig,hih,hi1,hi2⟩ := row_blk hSt.i ky
 obtain ⟨bg,bc,bJ,rfl,hbg,hbh,hb1,hb2⟩ := row_blk hSt.b ky
 obtain ⟨la,lc,rfl,_,_⟩ := row_cut hSt.l
 have lsg := lt_of_block hsh
 have lig := lt_of_block hih
 have lbg := lt_of_block hbh
 refine ⟨_,_,rfl,Hp.start wS,?_⟩
 repeat' first | (apply Wl.storeA (xs := [.int .i64 m.P.t,.slice (some ⟨sg,0,none⟩) (m.mv pv ev).L.length sc,.slice (some ⟨ig,0,none⟩) (m.mv pv ev).L.length ic,.slice (some ⟨bg,0,none⟩) (m.mv pv ev).L.length bc,.slice la (m.mv pv ev).ll.length lc,.pointer (some ⟨cM,0,none⟩)]);exact rfl;exact rfl;exact rfl;exact rfl;exact ke;exact .z (LOver.whole rfl)) | (apply Wl.alloc;exact rfl;intro c hc ho) | apply Wl.nil | apply St.seq | apply Gt.next
 generalize c = c8 at *
 have hc8 : wS.heap.size ≤ c8 := by assumption
 refine St.reb (H' := []) fun w6 h6 => ⟨trivial,trivial,?_⟩
 have u6 : Upd (fun k => wS.heap.size ≤ k) wS w6 := Hp.on1 h6 (Upd.refl _ _) hc8
 have K6' := KS.new u6
 have e8 := h6.own.at (.head _)
 simp only at e8
 have K6 : OnW w base l.length I pv ev (begE l) [⟨p,[.pointer (some ⟨I.m,0,none⟩),rv],39⟩,⟨c4,[.int .i64 r0,.int .i64 r1],72⟩,⟨c8,[.int .i64 m.P.t,.slice (some ⟨sg,0,none⟩) (m.mv pv ev).L.length sc,.slice (some ⟨ig,0,none⟩) (m.mv pv ev).L.length ic,.slice (some ⟨bg,0,none⟩) (m.mv pv ev).L.length bc,.slice la (m.mv pv ev).ll.length lc,.pointer (some ⟨cM,0,none⟩)],54⟩] w6 m := ⟨K6'.k1,K6'.up,fun B hB => by
  rcases List.mem_cons.1 hB with rfl | hB
  ·exact K6'.kp _ (.head _)
  rcases List.mem_cons.1 hB with rfl | hB
  ·exact K6'.kp _ (.tail _ (.head _))
  rw [List.mem_singleton.1 hB];exact ⟨e8,show TyK 54 by decide⟩,K6'.ge⟩
 have hp6 := (K6.kp _ (.head _)).1
 simp only at hp6
 have l6 := lt_of_block e8
 have z6 := u6.size
 clear K6' h6 K hp1 hc1 hp0
 have hqm : ∀ x,MonF I (m.mv pv ev) x → x < wq.heap.size := fun x hx => (hlq x hx).2
 have hpq : p < wq.heap.size := lt_of_block (Kq.kp _ (.head _)).1
 have hpk : PK m.P (m.mv pv ev).L.length := by rw [hlen];exact Kq.k1.pk
 have hpvs := K6.k1.pvs
 have hwq := Kq.up.size
 have hxt := hSt.bl.1
 clear hq Kq KS uS hlS hlq
 refine St.tree (fun w' => w'.heap[p]? = some (.cells ([.pointer (some ⟨I.m,0,none⟩),rv] : List Value).toArray 39 (0,0)) ∧ w'.heap[c8]? = some (.cells ([.int .i64 m.P.t,.slice (some ⟨sg,0,none⟩) (m.mv pv ev).L.length sc,.slice (some ⟨ig,0,none⟩) (m.mv pv ev).L.length ic,.slice (some ⟨bg,0,none⟩) (m.mv pv ev).L.length bc,.slice la (m.mv pv ev).ll.length lc,.pointer (some ⟨cM,0,none⟩)] : List Value).toArray 54 (0,0))) mixed (fun _ h' => ⟨Hp.drew h',(Hp.drew h').upd.heap hp6 nt0,(Hp.drew h').upd.heap e8 nt0⟩) ?_
 refine Mt.pm 0 ?_
 refine Mt.pu 4 ?_
 apply Wl.loadAF (xs := [.int .i64 m.P.t,.slice (some ⟨sg,0,none⟩) (m.mv pv ev).L.length sc,.slice (some ⟨ig,0,none⟩) (m.mv pv ev).L.length ic,.slice (some ⟨bg,0,none⟩) (m.mv pv ev).L.length bc,.slice la (m.mv pv ev).ll.length lc,.pointer (some ⟨cM,0,none⟩)]);exact rfl;exact rfl;exact rfl;(intro w' h' q u hq';rw [addLit];exact cell_of h'.2 jb);apply Wl.nilB
 refine Mt.pn 1 ?_
 refine Mt.pf 2 ?_
 refine Mt.pu 3 ?_
 apply Wl.loadF;exact rfl;exact rfl;(intro w' h';exact cell_of h'.1 rfl);apply Wl.nilB
 refine Mt.e1 5 ?_
 apply Wl.callC
 ·exact rfl
 ·exact ke
 intro wq7 hq7
 have K7 := K6.quiet hq7
 have zq7 := hq7.upd.size
 have uq7 : Upd (fun k => wS.heap.size ≤ k) wS wq7 := u6.comp hq7.upd fun k _ h => h.elim id fun y => (y trivial).elim
 have hSt7 := hSt.upd hcM uq7 fun b _ h2 => Nat.not_le.2 h2
 refine (K7.k1.again hSt7).mono ?_
 rintro e w7 ⟨I2,b,hbP,rfl,k2,u7⟩
 have T7 : TwS ⟨w,wS,base,wq7.heap.size,l.length,wq.heap.size,wS.heap.size,I,I2,pv,ev,begE l,[⟨p,[.pointer (some ⟨I.m,0,none⟩),rv],39⟩,⟨c4,[.int .i64 r0,.int .i64 r1],72⟩,⟨c8,[.int .i64 m.P.t,.slice (some ⟨sg,0,none⟩) (m.mv pv ev).L.length sc,.slice (some ⟨ig,0,none⟩) (m.mv pv ev).L.length ic,.slice (some ⟨bg,0,none⟩) (m.mv pv ev).L.length bc,.slice la (m.mv pv ev).ll.length lc,.pointer (some ⟨cM,0,none⟩)],54⟩]⟩ w7 m b := ⟨(K7.new u7).k1,k2,(K7.new u7).up,(uq7.comp u7 (T := fun k => wS.heap.size ≤ k) fun k _ h => h.elim id fun h => by omega).mono fun k _ h => .inr h,fun x hx => .inl (hqm x hx),fun x hx h2 => by have := hqm x hx;have := (k2.mon.lt x h2).1;omega,(K7.new u7).kp,⟨K7.ge,K7.k1.ge,by show wS.heap.size ≤ wq7.heap.size;omega⟩⟩
 have hp7 := (T7.kp _ (.head _)).1
 have e87 := (T7.kp _ (.tail _ (.tail _ (.head _)))).1
 simp only at hp7 e87
 refine ⟨_,_,rfl,Hp.start w7,?_⟩
 apply Wl.nil
 refine Mt.backE (fun _ h' => ⟨h'.upd.heap hp7 nt0,h'.upd.heap e87 nt0⟩) ?_
 refine Mt.pm 6 ?_
 refine Mt.pu 7 ?_
 refine Wl.extract rfl rfl rfl (Wl.nilB ?_)
 refine Mt.pu 8 ?_
 refine Wl.extract rfl rfl rfl (Wl.nilB ?_)
 refine Mt.pu 9 ?_
 refine Wl.assign rfl rfl (Wl.nilB ?_)
 refine Mt.pu 10 ?_
 refine Wl.assign rfl rfl (Wl.nilB ?_)
 refine Mt.toGt kg ?_
 repeat' first | refine Wl.move rfl rfl ?_ | (apply Wl.neqIs;exact rfl;exact rfl;exact rfl;exact kv) | apply Wl.nil | apply St.seq | apply St.block | apply St.region | (apply St.condF;exact rfl;exact ka) | apply St.skip | apply Gt.next
 refine St.reb (H' := []) fun w8 h8 => ⟨trivial,trivial,?_⟩
 have T8 := T7.quiet h8
 have hbP' := hbP.symm
 clear hbP hq7 u7 uq7 k2 hp7 e87 T7 hp6 e8 K6 K7 hSt7 u6 hqm
 refine St.loop (σ := Nat × World × Ms × Ms) (fun τ => τ.1 ≤ 4 ∧ TwS ⟨w,wS,base,wq7.heap.size,l.length,wq.heap.size,wS.heap.size,I,I2,pv,ev,begE l,[⟨p,[.pointer (some ⟨I.m,0,none⟩),rv],39⟩,⟨c4,[.int .i64 r0,.int .i64 r1],72⟩,⟨c8,[.int .i64 m.P.t,.slice (some ⟨sg,0,none⟩) (m.mv pv ev).L.length sc,.slice (some ⟨ig,0,none⟩) (m.mv pv ev).L.length ic,.slice (some ⟨bg,0,none⟩) (m.mv pv ev).L.length bc,.slice la (m.mv pv ev).ll.length lc,.pointer (some ⟨cM,0,none⟩)],54⟩]⟩ τ.2.1 τ.2.2.1 τ.2.2.2 ∧ τ.2.2.1.P = τ.2.2.2.P) (fun τ => [(0,.slice a l.length cl),(2,.int .i64 bend),(4,.pointer (some ⟨c4,0,none⟩)),(7,.pointer (some ⟨p,0,none⟩)),(8,.pointer (some ⟨c8,0,none⟩)),(9,.pointer (some ⟨I2.m,0,none⟩)),(59,.int .i64 (τ.1 : Int))]) (fun τ => Hp τ.2.1 []) (fun τ => 4 - τ.1) (0,w8,m,b) ⟨Nat.zero_le _,T8,hbP'⟩ kw (fun _ h => h) ?_
 clear T8 hbP'
 rintro ⟨j,w8,ma,mb⟩ ⟨hj,T,hPP⟩
 simp only at hj T hPP ⊢
 have hp8 := (T.kp _ (.head _)).1
 have hc8' := (T.kp _ (.tail _ (.head _))).1
 simp only at hp8 hc8'
 have hal4 := T.k1.mon.ward.2.2
 by_cases hj4 : j < 4
 ·have hdj : decide ((j : Int) < 4) = true := decide_eq_true ky
  obtain ⟨kn,hkn⟩ : ∃ kn : Nat,stepsN r1 = (kn : Int) := ⟨(stepsN r1).toNat,by have := stepsN_rng r1;omega⟩
  have hknr : 1 ≤ kn ∧ kn ≤ 60 := by have := stepsN_rng r1;omega
  have hstep : ∀ wq : World,Calls Tryz.prog 17 #[.int .i64 r1] wq fun e w' => e = .returned (.int .i64 (kn : Int)) ∧ Hp wq [] w' := fun wq => by rw [← hkn];exact stepsX _ wq
  obtain ⟨x,y,z,hev,hx,hy,hz⟩ := evP_eq (E := begE l) (P := ma.P) (kn := kn) hknr.2 T.k1.pk.set.2.1.2 hal4.2
  repeat' first | refine Wl.lss rfl rfl rfl ?_ | apply Wl.nil | apply St.seq | apply St.block | apply St.region | (apply St.condT;exact rfl;exact ka) | apply St.skip | apply Gt.next
  refine St.tree (fun w' => w'.heap[p]? = some (.cells ([.pointer (some ⟨I.m,0,none⟩),rv] : List Value).toArray 39 (0,0)) ∧ w'.heap[c4]? = some (.cells ([.int .i64 r0,.int .i64 r1] : List Value).toArray 72 (0,0))) mixed (fun _ h' => ⟨Hp.drew h',(Hp.drew h').upd.heap hp8 nt0,(Hp.drew h').upd.heap hc8' nt0⟩) ?_
  refine Mt.pm 0 ?_
  refine Mt.pu 4 ?_
  refine Wl.indexArr rfl rfl rfl ?_ ?_;constructor <;> omega;apply Wl.nilB
  refine Mt.pm 8 ?_
  refine Mt.pu 9 ?_
  refine Wl.indexArr rfl rfl rfl ?_ ?_;constructor <;> omega;apply Wl.nilB
  refine Mt.pn 1 ?_
  refine Mt.pu 5 ?_
  apply Wl.loadF;exact rfl;exact rfl;(intro w' h';first | exact cell_of h'.1 rfl | exact cell_of h'.2 rfl);apply Wl.nilB
  refine Mt.pu 10 ?_
  apply Wl.loadF;exact rfl;exact rfl;(intro w' h';first | exact cell_of h'.1 rfl | exact cell_of h'.2 rfl);apply Wl.nilB
  refine Mt.pf 2 ?_
  refine Mt.pu 3 ?_
  apply Wl.loadF;exact rfl;exact rfl;(intro w' h';first | exact cell_of h'.1 rfl | exact cell_of h'.2 rfl);apply Wl.nilB
  refine Mt.e1 6 ?_
  apply Wl.callQ
  ·exact rfl
  ·exact ke
  ·intro wq hq
   exact hq.q (hstep wq)
  apply Wl.nil
  refine Mt.backE (fun _ h' => by first | exact ⟨h'.upd.heap hp10 nt0,h'.upd.heap hc10 nt0⟩ | exact ⟨h'.upd.heap hp9 nt0,h'.upd.heap hc9 nt0⟩ | exact ⟨h'.upd.heap hp8 nt0,h'.upd.heap hc8' nt0⟩) ?_
  refine Mt.e1 7 ?_
  apply Wl.callC
  ·exact rfl
  ·exact ke
  intro wq1 hq1
  refine ((T.quiet hq1).runA kn hknr).mono ?_
  rintro e w9 ⟨he,ma',hPa,T9⟩
  obtain rfl := he.trans (congrArg Ending.returned hev)
  have hp9 := (T9.kp _ (.head _)).1
  have hc9 := (T9.kp _ (.tail _ (.head _))).1
  simp only at hp9 hc9
  refine ⟨_,_,rfl,Hp.start w9,?_⟩
  clear hq1
  apply Wl.nil
  refine Mt.backE (fun _ h' => by first | exact ⟨h'.upd.heap hp10 nt0,h'.upd.heap hc10 nt0⟩ | exact ⟨h'.upd.heap hp9 nt0,h'.upd.heap hc9 nt0⟩ | exact ⟨h'.upd.heap hp8 nt0,h'.upd.heap hc8' nt0⟩) ?_
  refine Mt.e1 11 ?_
  apply Wl.callQ
  ·exact rfl
  ·exact ke
  ·intro wq hq
   exact hq.q (hstep wq)
  apply Wl.nil
  refine Mt.backE (fun _ h' => by first | exact ⟨h'.upd.heap hp10 nt0,h'.upd.heap hc10 nt0⟩ | exact ⟨h'.upd.heap hp9 nt0,h'.upd.heap hc9 nt0⟩ | exact ⟨h'.upd.heap hp8 nt0,h'.upd.heap hc8' nt0⟩) ?_
  refine Mt.e1 12 ?_
  apply Wl.callC
  ·exact rfl
  ·exact ke
  intro wq2 hq2
  refine ((T9.quiet hq2).runB kn hknr).mono ?_
  rintro e w10 ⟨he,mb',hPb,T10⟩
  rw [← hPP] at he hPb
  obtain rfl := he.trans (congrArg Ending.returned hev)
  have hp10 := (T10.kp _ (.head _)).1
  have hc10 := (T10.kp _ (.tail _ (.head _))).1
  simp only at hp10 hc10
  have hPP' : ma'.P = mb'.P := hPa.trans hPb.symm
  obtain ⟨tn,htn⟩ : ∃ tn,turnV ma'.P.t = tn := ⟨_,rfl⟩
  have htn2 : turnV mb'.P.t = tn := by rw [← hPP'];exact htn
  have dtn : decide (tn ≠ tn) = false := decide_eq_false fun h => h rfl
  refine ⟨_,_,rfl,Hp.start w10,?_⟩
  clear hq2
  apply Wl.nil
  refine Mt.backE (fun _ h' => by first | exact ⟨h'.upd.heap hp10 nt0,h'.upd.heap hc10 nt0⟩ | exact ⟨h'.upd.heap hp9 nt0,h'.upd.heap hc9 nt0⟩ | exact ⟨h'.upd.heap hp8 nt0,h'.upd.heap hc8' nt0⟩) ?_
  refine Mt.pu 13 ?_
  apply Wl.neqEv hx hy hz;exact rfl;exact rfl;exact rfl;apply Wl.nilB
  refine Mt.pm 14 ?_
  refine Mt.pu 15 ?_
  repeat' first | refine Wl.move rfl rfl ?_ | (apply Wl.on;exact rfl;exact rfl;exact ka) | apply Wl.nilB
  refine Mt.pu 20 ?_
  repeat' first | refine Wl.move rfl rfl ?_ | (apply Wl.on;exact rfl;exact rfl;exact ka) | apply Wl.nilB
  refine Mt.pu 16 ?_
  repeat' first | (apply Wl.on;exact rfl;exact rfl;exact ka) | refine Wl.nilCheck rfl rfl ?_ | apply Wl.nilB
  refine Mt.pu 17 ?_
  repeat' first | (apply Wl.on;exact rfl;exact rfl;exact ka) | refine Wl.fieldAddr0 rfl rfl ?_ | apply Wl.nilB
  refine Mt.pu 18 ?_
  repeat' first | (apply Wl.loadF;exact rfl;exact rfl;(intro w' h';first | exact cell_of h'.1 rfl | exact cell_of h'.2 rfl)) | (apply Wl.on;exact rfl;exact rfl;exact ka) | apply Wl.nilB
  refine Mt.e1 19 ?_
  refine Wl.on rfl rfl zd ?_
  apply Wl.callQ (v := .int .i64 tn)
  ·exact rfl
  ·exact ke
  ·intro wq hq
   refine (mTurn base I (ma'.mv pv ev) wq (T10.quiet hq).k1.mon).mono ?_
   rintro e wr ⟨rfl,hr⟩
   exact ⟨congrArg _ (congrArg _ htn),hq.keep hr⟩
  apply Wl.nil
  refine Mt.backE (fun _ h' => by first | exact ⟨h'.upd.heap hp10 nt0,h'.upd.heap hc10 nt0⟩ | exact ⟨h'.upd.heap hp9 nt0,h'.upd.heap hc9 nt0⟩ | exact ⟨h'.upd.heap hp8 nt0,h'.upd.heap hc8' nt0⟩) ?_
  refine Mt.e1 21 ?_
  refine Wl.on rfl rfl zd ?_
  apply Wl.callQ (v := .int .i64 tn)
  ·exact rfl
  ·exact ke
  ·intro wq hq
   refine (mTurn wq7.heap.size I2 (mb'.mv pv ev) wq (T10.quiet hq).k2.mon).mono ?_
   rintro e wr ⟨rfl,hr⟩
   exact ⟨congrArg _ (congrArg _ htn2),hq.keep hr⟩
  apply Wl.nil
  refine Mt.backE (fun _ h' => by first | exact ⟨h'.upd.heap hp10 nt0,h'.upd.heap hc10 nt0⟩ | exact ⟨h'.upd.heap hp9 nt0,h'.upd.heap hc9 nt0⟩ | exact ⟨h'.upd.heap hp8 nt0,h'.upd.heap hc8' nt0⟩) ?_
  refine Mt.pu 22 ?_
  repeat' first | (apply Wl.on;exact rfl;exact rfl;exact ka) | (apply Wl.neqIs;exact rfl;exact rfl;exact rfl;exact kv) | apply Wl.nilB
  refine Mt.pu 23 ?_
  apply Wl.pickF;exact rfl;exact rfl;exact ka;exact rfl;apply Wl.nilB
  refine Mt.toGt kg ?_
  repeat' first | refine Wl.move rfl rfl ?_ | (refine Wl.addI rfl rfl rfl ?_ ?_;constructor <;> omega) | apply Wl.nil | apply St.region | (apply St.condF;exact rfl;exact ka) | apply St.skip | apply Gt.next | apply Gt.inNormal
  refine Gt.reb (H' := []) fun w11 h11 => ⟨trivial,trivial,?_⟩
  refine Gt.round (j + 1,w11,ma',mb') ⟨by simp only;omega,T10.quiet h11,hPP'⟩ q7 kw (fun _ h => h)
 obtain rfl : j = 4 := by omega
 have hdj : decide (((4 : Nat) : Int) < 4) = false := by decide
 repeat' first | refine Wl.move rfl rfl ?_ | refine Wl.lss rfl rfl rfl ?_ | refine Wl.len rfl rfl ?_ | apply Wl.nil | apply St.seq | apply St.block | apply St.region | (apply St.condF;exact rfl;exact ka) | apply St.exit | apply Gt.next | apply Gt.thenExit | apply Gt.inExit
 refine St.reb (H' := []) fun w9 h9 => ⟨trivial,trivial,?_⟩
 have T9 := T.quiet h9
 clear h9 T hp8 hc8'
 refine St.loop (σ := Nat × World) (fun τ => τ.1 ≤ l.length ∧ TwS ⟨w,wS,base,wq7.heap.size,l.length,wq.heap.size,wS.heap.size,I,I2,pv,ev,begE l,[⟨p,[.pointer (some ⟨I.m,0,none⟩),rv],39⟩,⟨c4,[.int .i64 r0,.int .i64 r1],72⟩,⟨c8,[.int .i64 m.P.t,.slice (some ⟨sg,0,none⟩) (m.mv pv ev).L.length sc,.slice (some ⟨ig,0,none⟩) (m.mv pv ev).L.length ic,.slice (some ⟨bg,0,none⟩) (m.mv pv ev).L.length bc,.slice la (m.mv pv ev).ll.length lc,.pointer (some ⟨cM,0,none⟩)],54⟩]⟩ τ.2 ma mb) (fun τ => [(0,.slice a l.length cl),(2,.int .i64 bend),(4,.pointer (some ⟨c4,0,none⟩)),(7,.pointer (some ⟨p,0,none⟩)),(8,.pointer (some ⟨c8,0,none⟩)),(9,.pointer (some ⟨I2.m,0,none⟩)),(87,.int .i64 (l.length : Int)),(88,.int .i64 (τ.1 : Int))]) (fun τ => Hp τ.2 []) (fun τ => l.length - τ.1) (0,w9) ⟨Nat.zero_le _,T9⟩ kw (fun _ h => h) ?_
 clear T9
 rintro ⟨i,w9⟩ ⟨hi,T⟩
 simp only at hi T ⊢
 have hp8 := (T.kp _ (.head _)).1
 simp only at hp8
 have hp0 : w9.cell? ⟨p,0,none⟩ = some (.pointer (some ⟨I.m,0,none⟩)) := cell_of hp8 rfl
 have hlm : ma.P.L.length = l.length := T.k1.len
 by_cases hil : i < l.length
 ·have hdi : decide ((i : Int) < (l.length : Int)) = true := decide_eq_true ky
  obtain ⟨x,hx⟩ : ∃ x,ma.P.L[i]? = some x := ⟨_,List.getElem?_eq_getElem ky⟩
  obtain ⟨s,hs⟩ : ∃ s,ma.P.D.ins[i]? = some s := ⟨_,List.getElem?_eq_getElem (by rw [T.k1.pk.ok.ins.1];exact hil)⟩
  obtain ⟨nl,hnl⟩ : ∃ nl : Nat,((ma.mv pv ev).bx i).length = nl := ⟨_,rfl⟩
  have hx2 : mb.P.L[i]? = some x := by rw [← hPP];exact hx
  have hs2 : mb.P.D.ins[i]? = some s := by rw [← hPP];exact hs
  have hnl2 : ((mb.mv pv ev).bx i).length = nl := by rw [← hnl];show ((mb.P.D.bx i).map letV).length = ((ma.P.D.bx i).map letV).length;rw [hPP]
  have hxo := T.k1.mon.ward.2.1 x (List.mem_of_getElem? hx)
  have hxs : IntKind.i64.min ≤ x.s ∧ x.s ≤ IntKind.i64.max := by
   have := (T.k1.pk.set.1 x (List.mem_of_getElem? hx)).2.1
   have m1 : IntKind.i64.min = -9223372036854775808 := rfl
   have m2 : IntKind.i64.max = 9223372036854775807 := rfl
   omega
  have dn1 : decide ((nl : Int) ≠ (nl : Int)) = false := decide_eq_false fun h => h rfl
  have dn2 : decide ((s.length : Int) ≠ (s.length : Int)) = false := decide_eq_false fun h => h rfl
  have hLA : ∀ wq,Hp w9 [] wq → Calls Tryz.prog 30 #[.pointer (some ⟨I.m,0,none⟩),.int .i64 (i : Int)] wq fun e w' => e = .returned (.int .i64 (nl : Int)) ∧ Hp wq [] w' := fun wq hq => by rw [← hnl];exact mLetters base I _ i wq (T.quiet hq).k1.mon (by show i < ma.P.L.length;omega)
  have hLB : ∀ wq,Hp w9 [] wq → Calls Tryz.prog 30 #[.pointer (some ⟨I2.m,0,none⟩),.int .i64 (i : Int)] wq fun e w' => e = .returned (.int .i64 (nl : Int)) ∧ Hp wq [] w' := fun wq hq => by rw [← hnl2];exact mLetters _ I2 _ i wq (T.quiet hq).k2.mon (by show i < mb.P.L.length;rw [← hPP];omega)
  repeat' first | (apply Wl.loadO;exact rfl;exact rfl;exact zw;exact kh) | refine Wl.move rfl rfl ?_ | refine Wl.assign rfl rfl ?_ | refine Wl.nilCheck rfl rfl ?_ | refine Wl.fieldAddr0 rfl rfl ?_ | refine Wl.lss rfl rfl rfl ?_ | apply Wl.nil | apply St.seq | apply St.block | apply St.region | (apply St.condT;exact rfl;exact ka) | apply St.skip | apply Gt.next
  apply Wl.callQ
  exact rfl
  (focus repeat constructor)
  ·intro wq hq
   exact hq.q (mStatus base I (ma.mv pv ev) i x wq (T.quiet hq).k1.mon hx)
  repeat' first | refine Wl.move rfl rfl ?_
  apply Wl.callQ
  exact rfl
  (focus repeat constructor)
  ·intro wq hq
   exact hq.q (mStatus _ I2 (mb.mv pv ev) i x wq (T.quiet hq).k2.mon hx2)
  repeat' first | (apply Wl.neqSta hxo hxs;exact rfl;exact rfl;exact rfl) | (apply Wl.loadO;exact rfl;exact rfl;exact zw;exact kh) | refine Wl.move rfl rfl ?_ | (apply Wl.on;exact rfl;exact rfl;exact ka) | refine Wl.nilCheck rfl rfl ?_ | refine Wl.fieldAddr0 rfl rfl ?_
  apply Wl.callQ
  exact rfl
  (focus repeat constructor)
  ·intro wq hq
   exact hq.q (hLA wq hq)
  repeat' first | refine Wl.move rfl rfl ?_ | (apply Wl.on;exact rfl;exact rfl;exact ka)
  apply Wl.callQ
  exact rfl
  (focus repeat constructor)
  ·intro wq hq
   exact hq.q (hLB wq hq)
  repeat' first | (apply Wl.loadO;exact rfl;exact rfl;exact zw;exact kh) | refine Wl.move rfl rfl ?_ | (apply Wl.on;exact rfl;exact rfl;exact ka) | refine Wl.nilCheck rfl rfl ?_ | (apply Wl.pickF;exact rfl;exact rfl;exact ka;exact rfl) | refine Wl.fieldAddr0 rfl rfl ?_ | (apply Wl.neqIs;exact rfl;exact rfl;exact rfl;exact kv)
  apply Wl.callQ
  exact rfl
  (focus repeat constructor)
  ·intro wq hq
   exact hq.q (mWaits base I (ma.mv pv ev) i s wq (T.quiet hq).k1.mon hs)
  repeat' first | refine Wl.move rfl rfl ?_ | (apply Wl.on;exact rfl;exact rfl;exact ka)
  apply Wl.callQ
  exact rfl
  (focus repeat constructor)
  ·intro wq hq
   exact hq.q (mWaits _ I2 (mb.mv pv ev) i s wq (T.quiet hq).k2.mon hs2)
  repeat' first | refine Wl.move rfl rfl ?_ | (apply Wl.on;exact rfl;exact rfl;exact ka) | (apply Wl.pickF;exact rfl;exact rfl;exact ka;exact rfl) | (apply Wl.neqIs;exact rfl;exact rfl;exact rfl;exact kv) | (refine Wl.addI rfl rfl rfl ?_ ?_;constructor <;> omega) | apply Wl.nil | apply St.region | (apply St.condF;exact rfl;exact ka) | apply St.skip | apply Gt.next | apply Gt.inNormal
  refine Gt.reb (H' := []) fun w11 h11 => ⟨trivial,trivial,?_⟩
  refine Gt.round (i + 1,w11) ⟨by simp only;omega,T.quiet h11⟩ q7 kw (fun _ h => h)
 obtain rfl : i = l.length := by omega
 have hdi : decide ((l.length : Int) < (l.length : Int)) = false := decide_eq_false ky
 repeat' first | (apply Wl.loadO;exact rfl;exact rfl;exact zw;exact kh) | refine Wl.move rfl rfl ?_ | refine Wl.nilCheck rfl rfl ?_ | refine Wl.fieldAddr0 rfl rfl ?_ | refine Wl.lss rfl rfl rfl ?_ | apply Wl.nil | apply St.seq | apply St.region | (apply St.condF;exact rfl;exact ka) | apply St.exit | apply Gt.next | apply Gt.thenExit | apply Gt.inExit
 apply Wl.callC
 ·exact rfl
 ·exact ke
 intro wq1 hq1
 refine (mMemory base I _ wq1 (T.quiet hq1).k1.mon).mono ?_
 rintro e w10 ⟨d1,rfl,hd1,hmd1,u10⟩
 have T10 := (T.quiet hq1).new u10
 refine ⟨_,_,rfl,Hp.start w10,?_⟩
 clear hq1 u10 T hp8 hp0
 apply Wl.callC
 ·exact rfl
 ·exact ke
 intro wq2 hq2
 refine (mgetX d1 ma.P.D.f 2147483648 65536 wq2 (hq2.upd.heap hmd1 fun y => y trivial) T10.k1.pk.ok.f ze ze (by unfold inM;decide)).mono ?_
 rintro e w11 ⟨v1,rfl,hB1,ho1,u11⟩
 have hv1 : ∀ k,v1.ownBlock = some k → c8 < k := fun k hk => by have := ho1 k hk;have := lt_of_block (T10.kp _ (.tail _ (.tail _ (.head _)))).1;have := hq2.upd.size;simp only at *;omega
 generalize hml : memL ma.P.D.f _ _ = ml at hB1
 have T11 := (T10.quiet hq2).new u11
 refine ⟨_,_,rfl,Hp.start w11,?_⟩
 clear hq2 u11 T10 hmd1
 repeat' first | refine Wl.move rfl rfl ?_ | refine Wl.assign rfl rfl ?_ | refine Wl.extract rfl rfl rfl ?_ | apply Wl.nil | apply St.seq | apply St.region | apply Gt.next
 apply Wl.callC
 ·exact rfl
 ·exact ke
 intro wq3 hq3
 refine (mMemory _ I2 _ wq3 (T11.quiet hq3).k2.mon).mono ?_
 rintro e w12 ⟨d2,rfl,hd2,hmd2,u12⟩
 have T12 := (T11.quiet hq3).new u12
 have v12 : Upd (fun k => w11.heap.size ≤ k) w11 w12 := hq3.upd.comp u12 fun k _ h => h.elim (fun y => (y trivial).elim) fun h => by have := hq3.upd.size;omega
 refine ⟨_,_,rfl,Hp.start w12,?_⟩
 clear hq3 u12 T11
 apply Wl.callC
 ·exact rfl
 ·exact ke
 intro wq4 hq4
 refine (mgetX d2 mb.P.D.f 2147483648 65536 wq4 (hq4.upd.heap hmd2 fun y => y trivial) T12.k2.pk.ok.f ze ze (by unfold inM;decide)).mono ?_
 rintro e w13 ⟨v2,rfl,hB2,ho2,u13⟩
 have hv2 : ∀ k,v2.ownBlock = some k → c8 < k := fun k hk => by have := ho2 k hk;have := lt_of_block (T12.kp _ (.tail _ (.tail _ (.head _)))).1;have := hq4.upd.size;simp only at *;omega
 rw [← hPP,hml] at hB2
 have T13 := (T12.quiet hq4).new u13
 have v13 : Upd (fun k => w11.heap.size ≤ k) w11 w13 := (v12.comp hq4.upd (T := fun k => w11.heap.size ≤ k) fun k _ h => h.elim id fun y => (y trivial).elim).comp u13 fun k _ h => h.elim id fun h => by have := hq4.upd.size;have := v12.size;omega
 have hB1' : Bs w13 v1 ml := hB1.upd v13 fun k _ hk _ => Nat.not_le.2 hk
 refine ⟨_,_,rfl,Hp.start w13,?_⟩
 clear hq4 u13 T12 v12 v13 hmd2 hB1
 obtain ⟨q,hbq,hq8⟩ : ∃ q : Nat,bits .and .i64 bend 7 = (q : Int) ∧ q < 8 := ⟨(bits .and .i64 bend 7).toNat,by have := andb7 bend;omega,by have := andb7 bend;omega⟩
 repeat' first | refine Wl.move rfl rfl ?_ | refine Wl.assign rfl rfl ?_ | refine Wl.extract rfl rfl rfl ?_ | apply Wl.nil | apply Gt.next
 have hSt13 := hSt.upd hcM T13.us fun b h1 h2 (h : b < wq.heap.size ∨ wS.heap.size ≤ b) => by omega
 have hsh13 := T13.us.heap hsh (show ¬ (sg < wq.heap.size ∨ wS.heap.size ≤ sg) by omega)
 have hih13 := T13.us.heap hih (show ¬ (ig < wq.heap.size ∨ wS.heap.size ≤ ig) by omega)
 have hbh13 := T13.us.heap hbh (show ¬ (bg < wq.heap.size ∨ wS.heap.size ≤ bg) by omega)
 have e813 := (T13.kp _ (.tail _ (.tail _ (.head _)))).1
 have l813 := lt_of_block e813
 simp only at e813 l813
 have hMn : (ma.mv pv ev).L.length = (m.mv pv ev).L.length := T13.k1.len.trans hlen.symm
 have hN4 : 1 ≤ (m.mv pv ev).L.length ∧ (m.mv pv ev).L.length ≤ 4 := hl4
 have hinl : (m.mv pv ev).ins.length = (m.mv pv ev).L.length := by
  have := hpk.ok.ins.1
  exact this
 have hins : ∀ s ∈ m.P.D.ins,s.length ≤ 64 := hpk.ok.ins.2
 have hbx : ∀ j,BoxOk (m.mv pv ev).L.length (m.P.D.bx j) := fun j => ⟨(hpk.ok.bx j).1,fun x hx => ⟨((hpk.ok.bx j).2 x hx).2.2,fun e => by have := ((hpk.ok.bx j).2 x hx).1.1;rw [e] at this;simp at this⟩⟩
 have mk : ∀ (S : Nat → Prop) (w14 : World) (cs : List Value),Upd S w13 w14 → (∀ x,S x → (x = sg ∨ x = ig ∨ x = bg) ∨ x = c8 ∨ w13.heap.size ≤ x) → w14.heap[c8]? = some (.cells cs.toArray 54 (0,0)) → (cs.length = 6 ∧ cs.all Value.oneCell' = true) → (MonS w14 base I (ma.mv pv ev) → base ≤ w14.heap.size → ∀ wq',Hp w14 [] wq' → Calls Tryz.prog 29 #[.pointer (some ⟨I.m,0,none⟩),.agg cs.toArray] wq' fun e w' => e = .returned (.tuple #[.pointer none,.int .i64 3]) ∧ Upd (fun x => wq'.heap.size ≤ x) wq' w') → FinS w base wq7.heap.size I I2 (ma.mv pv ev) (mb.mv pv ev) p rv c8 v1 v2 ml w14 cs := fun S w14 cs u hS h8 hc hno => by
  obtain ⟨f1,f2,f3,f4,f5⟩ := T13.fin (B := ⟨c8,[.int .i64 m.P.t,.slice (some ⟨sg,0,none⟩) (m.mv pv ev).L.length sc,.slice (some ⟨ig,0,none⟩) (m.mv pv ev).L.length ic,.slice (some ⟨bg,0,none⟩) (m.mv pv ev).L.length bc,.slice la (m.mv pv ev).ll.length lc,.pointer (some ⟨cM,0,none⟩)],54⟩) (P := ⟨p,[.pointer (some ⟨I.m,0,none⟩),rv],39⟩) (.tail _ (.tail _ (.head _))) (.head _) u (fun x hx => by
   show (wq.heap.size ≤ x ∧ x < wS.heap.size) ∨ x = c8 ∨ w13.heap.size ≤ x
   rcases hS x hx with (h | h | h) | h | h <;> omega) (fun h => by have := hS p h;omega) ⟨hwq,show w.heap.size ≤ c8 by omega⟩
  exact ⟨f1,f2,f3,h8,hc,f4,hB1'.upd u fun k hk _ _ h => by have := hv1 k hk;have := hS k h;omega,hB2.upd u fun k hk _ _ h => by have := hv2 k hk;have := hS k h;omega,f5,hno f1 f5.1⟩
 have keyB : ∀ (X : List (Int × List UInt8)) (cc : Nat) (w14 : World),Hp w13 [⟨cc,(X.map lineC).flatten,78⟩,⟨bg,vs.set 0 (.slice (some ⟨cc,0,none⟩) X.length X.length) ++ bJ,76⟩,⟨c8,[.int .i64 m.P.t,.slice (some ⟨sg,0,none⟩) (m.mv pv ev).L.length sc,.slice (some ⟨ig,0,none⟩) (m.mv pv ev).L.length ic,.slice (some ⟨bg,0,none⟩) (m.mv pv ev).L.length bc,.slice la (m.mv pv ev).ll.length lc,.pointer (some ⟨cM,0,none⟩)],54⟩] w14 → w13.heap.size ≤ cc → (X.length ≤ 1000 ∧ ∀ x ∈ X,(0 ≤ x.1 ∧ x.1 ≤ 1000) ∧ x.2.length ≤ 16) → ¬ BoxOk (m.mv pv ev).L.length X → FinS w base wq7.heap.size I I2 (ma.mv pv ev) (mb.mv pv ev) p rv c8 v1 v2 ml w14 [.int .i64 m.P.t,.slice (some ⟨sg,0,none⟩) (m.mv pv ev).L.length sc,.slice (some ⟨ig,0,none⟩) (m.mv pv ev).L.length ic,.slice (some ⟨bg,0,none⟩) (m.mv pv ev).L.length bc,.slice la (m.mv pv ev).ll.length lc,.pointer (some ⟨cM,0,none⟩)] := fun X cc w14 h14 hcc hX hno => by
  have u14 : Upd (fun x => x = bg ∨ x = c8 ∨ w13.heap.size ≤ x) w13 w14 := h14.onS (Upd.refl _ _) qf
  have hb14 := h14.own.at (.tail _ (.head _))
  have hc14 := h14.own.at (.head _)
  simp only at hb14 hc14
  refine mk _ w14 _ u14 (fun x h => h.elim (fun h => .inl (.inr (.inr h))) .inr) (h14.own.at (.tail _ (.tail _ (.head _)))) ⟨rfl,rfl⟩ fun hM hg wq' hq' => noWithB hpk hN4 hMn hM hg hpvs.1 hpvs.2 hq' m.P.L m.P.t m.P.D.ins (fun j => if j = 0 then X else m.P.D.bx j) (vs := vs.set 0 (.slice (some ⟨cc,0,none⟩) X.length X.length)) (Sv.ofOwn (row_keepS hSt13.s hbh13 e813 ze ze u14)) rfl (fun x hx => (hpk.set.1 x hx).1) (.inl hpk.set) (Sv.ofOwn (row_keepS hSt13.i hbh13 e813 ze ze u14)) (fun s hs => by have := hins s hs;omega) (Sv.ofRow hb14 (by rw [List.length_set,hxt,Nat.mul_one]) hb1 hb2) (fun j hj => ?_) (fun j hj => ?_) (Sv.ofOwn (row_keepS hSt13.l hbh13 e813 ze ze u14)) (u14.heap hSt13.m fun h => by rcases h with h | h | h;exact blk_ne hSt13.m hbh13 ze h;exact blk_ne hSt13.m e813 ze h;exact absurd (lt_of_block hSt13.m) (Nat.not_lt.2 h)) fun _ _ h => hno (by have := h 0 ky;rwa [if_pos rfl] at this)
  ·by_cases h0 : j = 0
   ·subst h0
    refine ⟨_,List.getElem?_set_self ky,?_⟩
    simp only [if_pos]
    exact Sv.ofRow (J := []) (by rw [List.append_nil];exact hc14) (by rw [flat_len (k := 2) (fun y hy => by obtain ⟨z,_,rfl⟩ := List.mem_map.1 hy;rfl),List.length_map]) (Nat.le_refl _) (by have := hX.1;unfold maxLen;omega)
   ·obtain ⟨v,e1,e2⟩ := hSt13.bl.2 j hj
    simp only [if_neg h0]
    exact ⟨v,by rw [List.getElem?_set_ne (Ne.symm h0)];exact e1,Sv.ofOwn (row_keepS e2 hbh13 e813 ze ze u14)⟩
  ·by_cases h0 : j = 0
   ·simp only [if_pos h0];exact hX
   ·simp only [if_neg h0];exact bx_ok hpk.ok hN4.2 j
 refine St.cut (σ := World × List Value) (fun τ => FinS w base wq7.heap.size I I2 (ma.mv pv ev) (mb.mv pv ev) p rv c8 v1 v2 ml τ.1 τ.2) (fun _ => [(7,.pointer (some ⟨p,0,none⟩)),(8,.pointer (some ⟨c8,0,none⟩)),(9,.pointer (some ⟨I2.m,0,none⟩)),(12,v1),(14,v2)]) (fun τ => Hp τ.1 []) ?_ ?_
 ·refine St.cls (C' := Hp w13 [⟨c8,[.int .i64 m.P.t,.slice (some ⟨sg,0,none⟩) (m.mv pv ev).L.length sc,.slice (some ⟨ig,0,none⟩) (m.mv pv ev).L.length ic,.slice (some ⟨bg,0,none⟩) (m.mv pv ev).L.length bc,.slice la (m.mv pv ev).ll.length lc,.pointer (some ⟨cM,0,none⟩)],54⟩]) (fun _ h' => Hp.open h' e813) ?_
  have hq8' : q = 0 ∨ q = 1 ∨ q = 2 ∨ q = 3 ∨ q = 4 ∨ q = 5 ∨ q = 6 ∨ q = 7 := by omega
  rcases hq8' with rfl | rfl | rfl | rfl | rfl | rfl | rfl | rfl
  ·repeat' first | (apply Wl.andIs hbq;exact rfl;exact rfl;exact rfl) | refine Wl.move rfl rfl ?_ | refine Wl.assign rfl rfl ?_ | refine Wl.fieldAddrZ rfl rfl ?_ | refine Wl.eql rfl rfl rfl ?_ | (apply Wl.store;exact rfl;exact rfl;exact rfl;exact ke;exact kx) | apply Wl.nil | apply St.seq | apply St.block | apply St.region | (apply St.condT;exact rfl;exact ka) | apply Gt.next | apply Gt.inNormal
   refine Gt.reb (H' := []) fun w14 h14 => ⟨trivial,trivial,?_⟩
   apply Gt.meet (w14,[.int .i64 m.P.t,.slice (some ⟨sg,0,none⟩) (m.mv pv ev).L.length sc,.slice (some ⟨ig,0,none⟩) (m.mv pv ev).L.length ic,.slice (some ⟨bg,0,none⟩) (m.mv pv ev).L.length bc,.slice la (m.mv pv ev).ll.length lc,.pointer none])
   ·exact mk (fun x => x = c8) w14 _ (h14.on1 (Upd.refl _ _) rfl) (fun x h => .inr (.inl h)) (h14.own.at (.head _)) ⟨rfl,rfl⟩ fun hM _ wq' hq' => mWithBad base _ I _ hMn _ _ _ _ _ _ _ _ _ _ _ _ wq' (hM.upd hq'.upd fun _ _ y => y trivial)  (.inr ⟨rfl,rfl⟩)
   ·exact ke
   ·exact fun _ h => h
  ·have hsl : 1 ≤ (m.mv pv ev).L.length := hN4.1
   repeat' first | (apply Wl.andIs hbq;exact rfl;exact rfl;exact rfl) | refine Wl.move rfl rfl ?_ | refine Wl.assign rfl rfl ?_ | refine Wl.fieldAddrZ rfl rfl ?_ | (apply Wl.loadH;exact rfl;exact rfl;exact ke;exact rfl) | refine Wl.eql rfl rfl rfl ?_ | (apply Wl.store;exact rfl;exact rfl;exact rfl;exact ke;exact kx) | (apply Wl.sliceFull;exact rfl;exact rfl;exact qv;exact qv;exact qv;(first | exact fun _ => rfl | exact fun h => nomatch h);omega;omega;omega) | apply Wl.nil | apply St.seq | apply St.block | apply St.region | (apply St.condT;exact rfl;exact ka) | (apply St.condF;exact rfl;exact ka) | apply Gt.next | apply Gt.inNormal
   refine Gt.reb (H' := []) fun w14 h14 => ⟨trivial,trivial,?_⟩
   apply Gt.meet (w14,[.int .i64 m.P.t,.slice (if sc = 1 then some ⟨sg,0,none⟩ else (some (⟨sg,0,none⟩ : Addr)).map (·.add (1 * 35))) ((m.mv pv ev).L.length - 1) (sc - 1),.slice (some ⟨ig,0,none⟩) (m.mv pv ev).L.length ic,.slice (some ⟨bg,0,none⟩) (m.mv pv ev).L.length bc,.slice la (m.mv pv ev).ll.length lc,.pointer (some ⟨cM,0,none⟩)])
   ·exact mk (fun x => x = c8) w14 _ (h14.on1 (Upd.refl _ _) rfl) (fun x h => .inr (.inl h)) (h14.own.at (.head _)) ⟨rfl,rfl⟩ fun hM _ wq' hq' => mWithBad base _ I _ hMn _ _ _ _ _ _ _ _ _ _ _ _ wq' (hM.upd hq'.upd fun _ _ y => y trivial)  (.inl ky)
   ·exact ke
   ·exact fun _ h => h
  ·repeat' first | (apply Wl.andIs hbq;exact rfl;exact rfl;exact rfl) | refine Wl.move rfl rfl ?_ | refine Wl.assign rfl rfl ?_ | refine Wl.fieldAddr0 rfl rfl ?_ | refine Wl.eql rfl rfl rfl ?_ | refine Wl.len rfl rfl ?_ | (apply Wl.store;exact rfl;exact rfl;exact rfl;exact ke;exact kx) | apply Wl.nil | apply St.seq | apply St.block | apply St.region | (apply St.condT;exact rfl;exact ka) | (apply St.condF;exact rfl;exact ka) | apply Gt.next | apply Gt.inNormal
   refine Gt.reb (H' := []) fun w14 h14 => ⟨trivial,trivial,?_⟩
   apply Gt.meet (w14,[.int .i64 (l.length : Int),.slice (some ⟨sg,0,none⟩) (m.mv pv ev).L.length sc,.slice (some ⟨ig,0,none⟩) (m.mv pv ev).L.length ic,.slice (some ⟨bg,0,none⟩) (m.mv pv ev).L.length bc,.slice la (m.mv pv ev).ll.length lc,.pointer (some ⟨cM,0,none⟩)])
   ·have u14 : Upd (fun x => x = c8 ∨ x = c8 ∨ w13.heap.size ≤ x) w13 w14 := h14.onS (Upd.refl _ _) qf
    have hsn : SetNo m.P.L (l.length : Int) := .inl (by have : m.P.L.length = l.length := hlen;omega)
    exact mk _ w14 _ u14 (fun x h => .inr (h.elim .inl id)) (h14.own.at (.head _)) ⟨rfl,rfl⟩ fun hM hg wq' hq' => noWithB hpk hN4 hMn hM hg hpvs.1 hpvs.2 hq' m.P.L _ m.P.D.ins m.P.D.bx (Sv.ofOwn (row_keepS hSt13.s e813 e813 ze ze u14)) rfl (fun x hx => (hpk.set.1 x hx).1) (.inr hsn) (Sv.ofOwn (row_keepS hSt13.i e813 e813 ze ze u14)) (fun s hs => by have := hins s hs;omega) (Sv.ofOwn (row_keepS hSt13.b e813 e813 ze ze u14)) (fun j hj => by obtain ⟨v,e1,e2⟩ := hSt13.bl.2 j hj;exact ⟨v,e1,Sv.ofOwn (row_keepS e2 e813 e813 ze ze u14)⟩) (fun j _ => bx_ok hpk.ok hN4.2 j) (Sv.ofOwn (row_keepS hSt13.l e813 e813 ze ze u14)) (u14.heap hSt13.m fun h => by rcases h with h | h | h;exact blk_ne hSt13.m e813 ze h;exact blk_ne hSt13.m e813 ze h;exact absurd (lt_of_block hSt13.m) (Nat.not_lt.2 h)) fun h _ _ => hsn.not h
   ·exact ke
   ·exact fun _ h => h
  ·repeat' first | (apply Wl.andIs hbq;exact rfl;exact rfl;exact rfl) | refine Wl.move rfl rfl ?_ | refine Wl.assign rfl rfl ?_ | refine Wl.eql rfl rfl rfl ?_ | apply Wl.nil | apply St.seq | apply St.block | apply St.region | (apply St.condT;exact rfl;exact ka) | (apply St.condF;exact rfl;exact ka) | apply Gt.next
   refine St.cls (C' := Hp w13 [⟨ig,(m.mv pv ev).ins.map strV ++ iJ,9⟩,⟨c8,[.int .i64 m.P.t,.slice (some ⟨sg,0,none⟩) (m.mv pv ev).L.length sc,.slice (some ⟨ig,0,none⟩) (m.mv pv ev).L.length ic,.slice (some ⟨bg,0,none⟩) (m.mv pv ev).L.length bc,.slice la (m.mv pv ev).ll.length lc,.pointer (some ⟨cM,0,none⟩)],54⟩]) (fun _ h' => Hp.open h' hih13 ⟨by simp only;omega,trivial⟩) ?_
   refine St.tree (fun w' => w'.heap[c8]? = some (.cells ([.int .i64 m.P.t,.slice (some ⟨sg,0,none⟩) (m.mv pv ev).L.length sc,.slice (some ⟨ig,0,none⟩) (m.mv pv ev).L.length ic,.slice (some ⟨bg,0,none⟩) (m.mv pv ev).L.length bc,.slice la (m.mv pv ev).ll.length lc,.pointer (some ⟨cM,0,none⟩)] : List Value).toArray 54 (0,0))) mixed (fun _ h' => ⟨Hp.drew h',(Hp.drew h').own.at (.tail _ (.head _))⟩) ?_
   refine Mt.pz 0 ?_
   refine Mt.pu 1 ?_
   apply Wl.loadF;exact rfl;exact rfl;(intro w' h';exact cell_of h' rfl);apply Wl.nilB
   refine Mt.e1 2 ?_
   apply Wl.makeSlice (n := 65)
   ·exact rfl
   ·exact rfl
   ·exact rfl
   ·exact rfl
   ·decide
   intro st hst host
   rw [mz65]
   apply Wl.nil
   refine Mt.backE (fun _ h' => by first | exact h'.own.at (.tail _ (.tail _ (.head _))) | exact h'.own.at (.tail _ (.head _))) ?_
   refine Mt.e1 3 ?_
   apply Wl.convBS (l := List.replicate 65 0)
   ·exact rfl
   ·exact rfl
   ·exact fun _ h' => Bs.ofBlk (h'.own.at (.head _)) ze
   apply Wl.nil
   refine Mt.backE (fun _ h' => by first | exact h'.own.at (.tail _ (.tail _ (.head _))) | exact h'.own.at (.tail _ (.head _))) ?_
   refine Mt.pu 4 ?_
   refine Wl.indexAddr1 rfl rfl rfl ?_ ?_;constructor <;> omega;apply Wl.nilB
   refine Mt.e1 5 ?_
   repeat' first | (apply Wl.store;exact rfl;exact rfl;exact rfl;exact ke;exact LSet.left (by rw [List.length_map,hinl];simp;omega)) | apply Wl.nil
   refine Mt.backE (fun _ h' => by first | exact h'.own.at (.tail _ (.tail _ (.head _))) | exact h'.own.at (.tail _ (.head _))) ?_
   refine Mt.toGt kg ?_
   repeat' first | apply Gt.inNormal
   refine Gt.reb (H' := []) fun w14 h14 => ⟨trivial,trivial,?_⟩
   apply Gt.meet (w14,[.int .i64 m.P.t,.slice (some ⟨sg,0,none⟩) (m.mv pv ev).L.length sc,.slice (some ⟨ig,0,none⟩) (m.mv pv ev).L.length ic,.slice (some ⟨bg,0,none⟩) (m.mv pv ev).L.length bc,.slice la (m.mv pv ev).ll.length lc,.pointer (some ⟨cM,0,none⟩)])
   ·have u14 : Upd (fun x => x = ig ∨ x = c8 ∨ w13.heap.size ≤ x) w13 w14 := h14.onS (Upd.refl _ _) qf
    have hi14 : w14.heap[ig]? = some (.cells ((m.P.D.ins.set 0 (List.replicate 65 0)).map strV ++ iJ).toArray 9 (0,0)) := by rw [List.map_set];exact h14.own.at (.tail _ (.head _))
    exact mk _ w14 _ u14 (fun x h => h.elim (fun h => .inl (.inr (.inl h))) .inr) (h14.own.at (.tail _ (.tail _ (.head _)))) ⟨rfl,rfl⟩ fun hM hg wq' hq' => noWithB hpk hN4 hMn hM hg hpvs.1 hpvs.2 hq' m.P.L m.P.t (m.P.D.ins.set 0 (List.replicate 65 0)) m.P.D.bx (Sv.ofOwn (row_keepS hSt13.s hih13 e813 ze ze u14)) rfl (fun x hx => (hpk.set.1 x hx).1) (.inl hpk.set) (Sv.ofRow hi14 (by rw [List.length_map,List.length_set,Nat.mul_one];exact hinl) hi1 hi2) (fun s hs => by
     rcases List.mem_or_eq_of_mem_set hs with h | rfl
     ·have := hins s h;omega
     ·simp) (Sv.ofOwn (row_keepS hSt13.b hih13 e813 ze ze u14)) (fun j hj => by obtain ⟨v,e1,e2⟩ := hSt13.bl.2 j hj;exact ⟨v,e1,Sv.ofOwn (row_keepS e2 hih13 e813 ze ze u14)⟩) (fun j _ => bx_ok hpk.ok hN4.2 j) (Sv.ofOwn (row_keepS hSt13.l hih13 e813 ze ze u14)) (u14.heap hSt13.m fun h => by rcases h with h | h | h;exact blk_ne hSt13.m hih13 ze h;exact blk_ne hSt13.m e813 ze h;exact absurd (lt_of_block hSt13.m) (Nat.not_lt.2 h)) fun _ h _ => by
      have := h 0 (List.replicate 65 0) ky (List.getElem?_set_self (by have : m.P.D.ins.length = (m.mv pv ev).L.length := hinl;omega))
      simp at this
   ·exact ke
   ·exact fun _ h => h
  ·repeat' first | (apply Wl.andIs hbq;exact rfl;exact rfl;exact rfl) | refine Wl.move rfl rfl ?_ | refine Wl.assign rfl rfl ?_ | refine Wl.eql rfl rfl rfl ?_ | apply Wl.nil | apply St.seq | apply St.block | apply St.region | (apply St.condT;exact rfl;exact ka) | (apply St.condF;exact rfl;exact ka) | apply Gt.next
   refine St.cls (C' := Hp w13 [⟨bg,vs ++ bJ,76⟩,⟨c8,[.int .i64 m.P.t,.slice (some ⟨sg,0,none⟩) (m.mv pv ev).L.length sc,.slice (some ⟨ig,0,none⟩) (m.mv pv ev).L.length ic,.slice (some ⟨bg,0,none⟩) (m.mv pv ev).L.length bc,.slice la (m.mv pv ev).ll.length lc,.pointer (some ⟨cM,0,none⟩)],54⟩]) (fun _ h' => Hp.open h' hbh13 ⟨by simp only;omega,trivial⟩) ?_
   refine St.tree (fun w' => w'.heap[c8]? = some (.cells ([.int .i64 m.P.t,.slice (some ⟨sg,0,none⟩) (m.mv pv ev).L.length sc,.slice (some ⟨ig,0,none⟩) (m.mv pv ev).L.length ic,.slice (some ⟨bg,0,none⟩) (m.mv pv ev).L.length bc,.slice la (m.mv pv ev).ll.length lc,.pointer (some ⟨cM,0,none⟩)] : List Value).toArray 54 (0,0))) mixed (fun _ h' => ⟨Hp.drew h',(Hp.drew h').own.at (.tail _ (.head _))⟩) ?_
   refine Mt.pz 0 ?_
   refine Mt.pu 1 ?_
   apply Wl.loadF;exact rfl;exact rfl;(intro w' h';exact cell_of h' rfl);apply Wl.nilB
   refine Mt.e1 2 ?_
   apply Wl.makeSlice (n := 1)
   ·exact rfl
   ·exact rfl
   ·exact rfl
   ·exact rfl
   ·decide
   intro st hst host
   generalize hmz : (madeCells _ _).toList = zs
   have hz : zs = lineC (0,[]) := by rw [← hmz];kernel_rfl
   subst hz
   apply Wl.nil
   refine Mt.backE (fun _ h' => by first | exact h'.own.at (.tail _ (.tail _ (.head _))) | exact h'.own.at (.tail _ (.head _))) ?_
   refine Mt.pu 3 ?_
   refine Wl.indexAddr1 rfl rfl rfl ?_ ?_;constructor <;> omega;apply Wl.nilB
   refine Mt.e1 4 ?_
   repeat' first | (apply Wl.store;exact rfl;exact rfl;exact rfl;exact ke;exact LSet.left (by rw [hxt];simp;omega)) | apply Wl.nil
   refine Mt.backE (fun _ h' => by first | exact h'.own.at (.tail _ (.tail _ (.head _))) | exact h'.own.at (.tail _ (.head _))) ?_
   refine Mt.toGt kg ?_
   repeat' first | apply Gt.inNormal
   refine Gt.reb (H' := []) fun w14 h14 => ⟨trivial,trivial,?_⟩
   apply Gt.meet (w14,[.int .i64 m.P.t,.slice (some ⟨sg,0,none⟩) (m.mv pv ev).L.length sc,.slice (some ⟨ig,0,none⟩) (m.mv pv ev).L.length ic,.slice (some ⟨bg,0,none⟩) (m.mv pv ev).L.length bc,.slice la (m.mv pv ev).ll.length lc,.pointer (some ⟨cM,0,none⟩)])
   ·exact keyB [(0,[])] _ w14 h14 qg ze (fun h => by have := h.2 _ (.head _);simp at this)
   ·exact ke
   ·exact fun _ h => h
  ·refine St.cls (C' := Hp w13 [⟨bg,vs ++ bJ,76⟩,⟨c8,[.int .i64 m.P.t,.slice (some ⟨sg,0,none⟩) (m.mv pv ev).L.length sc,.slice (some ⟨ig,0,none⟩) (m.mv pv ev).L.length ic,.slice (some ⟨bg,0,none⟩) (m.mv pv ev).L.length bc,.slice la (m.mv pv ev).ll.length lc,.pointer (some ⟨cM,0,none⟩)],54⟩]) (fun _ h' => Hp.open h' hbh13 ⟨by simp only;omega,trivial⟩) ?_
   repeat' first | (apply Wl.andIs hbq;exact rfl;exact rfl;exact rfl) | (apply Wl.store;exact rfl;exact rfl;exact rfl;exact ke;exact LSet.left (by rw [hxt];simp;omega)) | refine Wl.move rfl rfl ?_ | refine Wl.assign rfl rfl ?_ | refine Wl.fieldAddrZ rfl rfl ?_ | (apply Wl.loadH;exact rfl;exact rfl;exact ke;exact rfl) | refine Wl.eql rfl rfl rfl ?_ | refine Wl.len rfl rfl ?_ | (apply Wl.buildS;exact rfl;exact ki;exact kc) | (apply Wl.lit;exact rfl;exact ki;exact rfl;exact rfl;exact kj;intro c hc ho) | (refine Wl.indexAddr1 rfl rfl rfl ?_ ?_;constructor <;> omega) | apply Wl.nil | apply St.seq | apply St.block | apply St.region | (apply St.condT;exact rfl;exact ka) | (apply St.condF;exact rfl;exact ka) | apply Gt.next | apply Gt.inNormal
   refine Gt.reb (H' := []) fun w14 h14 => ⟨trivial,trivial,?_⟩
   apply Gt.meet (w14,[.int .i64 m.P.t,.slice (some ⟨sg,0,none⟩) (m.mv pv ev).L.length sc,.slice (some ⟨ig,0,none⟩) (m.mv pv ev).L.length ic,.slice (some ⟨bg,0,none⟩) (m.mv pv ev).L.length bc,.slice la (m.mv pv ev).ll.length lc,.pointer (some ⟨cM,0,none⟩)])
   ·exact keyB [((l.length : Int),[120])] _ w14 h14 qg ⟨by simp,by simp only [List.mem_cons,List.not_mem_nil,or_false,forall_eq];exact ⟨by omega,by decide⟩⟩ (fun h => by have := (h.2 _ (.head _)).1;simp only at this;omega)
   ·exact ke
   ·exact fun _ h => h
  ·refine St.cls (C' := Hp w13 [⟨sg,(stas (m.mv pv ev).L).flatten ++ sJ,44⟩,⟨c8,[.int .i64 m.P.t,.slice (some ⟨sg,0,none⟩) (m.mv pv ev).L.length sc,.slice (some ⟨ig,0,none⟩) (m.mv pv ev).L.length ic,.slice (some ⟨bg,0,none⟩) (m.mv pv ev).L.length bc,.slice la (m.mv pv ev).ll.length lc,.pointer (some ⟨cM,0,none⟩)],54⟩]) (fun _ h' => Hp.open h' hsh13 ⟨by simp only;omega,trivial⟩) ?_
   obtain ⟨x,hx⟩ : ∃ x,m.P.L[0]? = some x := ⟨_,List.getElem?_eq_getElem (by have : m.P.L.length = (m.mv pv ev).L.length := rfl;omega)⟩
   have hxv := hpk.set.1 x (List.mem_of_getElem? hx)
   have h35 : (stas (m.mv pv ev).L).flatten.length = (m.mv pv ev).L.length * 35 := flat_len (stas_len fun x hx => (hpk.set.1 x hx).1) |>.trans (by unfold stas;rw [List.length_map];rfl)
   repeat' first | (apply Wl.andIs hbq;exact rfl;exact rfl;exact rfl) | (apply Wl.store;exact rfl;exact rfl;exact rfl;exact ke;exact LSet.left (by rw [h35];simp;omega)) | refine Wl.move rfl rfl ?_ | refine Wl.assign rfl rfl ?_ | refine Wl.fieldAddrZ rfl rfl ?_ | (apply Wl.loadH;exact rfl;exact rfl;exact ke;exact rfl) | refine Wl.eql rfl rfl rfl ?_ | (refine Wl.indexAddr rfl rfl rfl ?_ ?_;constructor <;> omega) | (refine Wl.indexArr rfl rfl rfl ?_ ?_;constructor <;> omega) | apply Wl.nil | apply St.seq | apply St.block | apply St.region | (apply St.condT;exact rfl;exact ka) | (apply St.condF;exact rfl;exact ka) | apply Gt.next | apply Gt.inNormal
   refine Gt.reb (H' := []) fun w14 h14 => ⟨trivial,trivial,?_⟩
   apply Gt.meet (w14,[.int .i64 m.P.t,.slice (some ⟨sg,0,none⟩) (m.mv pv ev).L.length sc,.slice (some ⟨ig,0,none⟩) (m.mv pv ev).L.length ic,.slice (some ⟨bg,0,none⟩) (m.mv pv ev).L.length bc,.slice la (m.mv pv ev).ll.length lc,.pointer (some ⟨cM,0,none⟩)])
   ·have u14 : Upd (fun x => x = sg ∨ x = c8 ∨ w13.heap.size ≤ x) w13 w14 := h14.onS (Upd.refl _ _) qf
    have hs14 : w14.heap[sg]? = some (.cells ((stas (m.P.L.set 0 ⟨x.s,x.c,x.p,x.xs.set 0 (.int .u32 1)⟩)).flatten ++ sJ).toArray 44 (0,0)) := by rw [← stas_x0 hx hxv.1.1.1];exact h14.own.at (.head _)
    have hxo : ∀ y ∈ m.P.L.set 0 ⟨x.s,x.c,x.p,x.xs.set 0 (.int .u32 1)⟩,StaOk y := fun y hy => by
     rcases List.mem_or_eq_of_mem_set hy with h | rfl
     ·exact (hpk.set.1 y h).1
     ·exact ⟨hxv.1.1.st (r := 0) (v := 1) ky,hxv.1.2⟩
    have hsn : SetNo (m.P.L.set 0 ⟨x.s,x.c,x.p,x.xs.set 0 (.int .u32 1)⟩) m.P.t := .inr ⟨by rw [List.length_set];exact hpk.set.2.1,_,1,List.getElem?_set_self (by have : m.P.L.length = (m.mv pv ev).L.length := rfl;omega),hxv.2.1,List.getElem?_set_self (by have := hxv.1.1.1;omega),by decide⟩
    exact mk _ w14 _ u14 (fun x h => h.elim (fun h => .inl (.inl h)) .inr) (h14.own.at (.tail _ (.head _))) ⟨rfl,rfl⟩ fun hM hg wq' hq' => noWithB hpk hN4 hMn hM hg hpvs.1 hpvs.2 hq' (m.P.L.set 0 ⟨x.s,x.c,x.p,x.xs.set 0 (.int .u32 1)⟩) m.P.t m.P.D.ins m.P.D.bx (Sv.ofRow hs14 (by rw [flat_len (stas_len hxo)];unfold stas;rw [List.length_map,List.length_set];rfl) hs1 hs2) (List.length_set ..) hxo (.inr hsn) (Sv.ofOwn (row_keepS hSt13.i hsh13 e813 ze ze u14)) (fun s hs => by have := hins s hs;omega) (Sv.ofOwn (row_keepS hSt13.b hsh13 e813 ze ze u14)) (fun j hj => by obtain ⟨v,e1,e2⟩ := hSt13.bl.2 j hj;exact ⟨v,e1,Sv.ofOwn (row_keepS e2 hsh13 e813 ze ze u14)⟩) (fun j _ => bx_ok hpk.ok hN4.2 j) (Sv.ofOwn (row_keepS hSt13.l hsh13 e813 ze ze u14)) (u14.heap hSt13.m fun h => by rcases h with h | h | h;exact blk_ne hSt13.m hsh13 ze h;exact blk_ne hSt13.m e813 ze h;exact absurd (lt_of_block hSt13.m) (Nat.not_lt.2 h)) fun h _ _ => hsn.not h
   ·exact ke
   ·exact fun _ h => h
  ·refine St.cls (C' := Hp w13 [⟨bg,vs ++ bJ,76⟩,⟨c8,[.int .i64 m.P.t,.slice (some ⟨sg,0,none⟩) (m.mv pv ev).L.length sc,.slice (some ⟨ig,0,none⟩) (m.mv pv ev).L.length ic,.slice (some ⟨bg,0,none⟩) (m.mv pv ev).L.length bc,.slice la (m.mv pv ev).ll.length lc,.pointer (some ⟨cM,0,none⟩)],54⟩]) (fun _ h' => Hp.open h' hbh13 ⟨by simp only;omega,trivial⟩) ?_
   repeat' first | (apply Wl.andIs hbq;exact rfl;exact rfl;exact rfl) | (apply Wl.store;exact rfl;exact rfl;exact rfl;exact ke;exact LSet.left (by rw [hxt];simp;omega)) | refine Wl.move rfl rfl ?_ | refine Wl.assign rfl rfl ?_ | refine Wl.fieldAddrZ rfl rfl ?_ | (apply Wl.loadH;exact rfl;exact rfl;exact ke;exact rfl) | refine Wl.eql rfl rfl rfl ?_ | (apply Wl.buildS;exact rfl;exact ki;exact kc) | (apply Wl.lit;exact rfl;exact ki;exact rfl;exact rfl;exact kj;intro c hc ho) | (refine Wl.indexAddr1 rfl rfl rfl ?_ ?_;constructor <;> omega) | apply Wl.nil | apply St.seq | apply St.block | apply St.region | (apply St.condF;exact rfl;exact ka) | apply Gt.next | apply Gt.inNormal
   refine Gt.reb (H' := []) fun w14 h14 => ⟨trivial,trivial,?_⟩
   apply Gt.meet (w14,[.int .i64 m.P.t,.slice (some ⟨sg,0,none⟩) (m.mv pv ev).L.length sc,.slice (some ⟨ig,0,none⟩) (m.mv pv ev).L.length ic,.slice (some ⟨bg,0,none⟩) (m.mv pv ev).L.length bc,.slice la (m.mv pv ev).ll.length lc,.pointer (some ⟨cM,0,none⟩)])
   ·exact keyB [(0,[97]),(0,[97]),(0,[97]),(0,[97]),(0,[97])] _ w14 h14 qg ze (fun h => by have := h.1;simp at this)
   ·exact ke
   ·exact fun _ h => h
 ·rintro ⟨w14,cs⟩ R
  simp only at R ⊢
  have hcl := R.cl.1
  have hpr := R.pr
  have hst := R.st
  repeat' first | apply St.seq
  refine St.tree (fun w' => w'.heap[p]? = some (.cells ([.pointer (some ⟨I.m,0,none⟩),rv] : List Value).toArray 39 (0,0)) ∧ w'.heap[c8]? = some (.cells cs.toArray 54 (0,0))) mixed (fun _ (h' : Hp w14 [] _) => ⟨Hp.drew h',(Hp.drew h').upd.heap hpr nt0,(Hp.drew h').upd.heap hst nt0⟩) ?_
  refine Mt.pm 0 ?_
  refine Mt.pu 4 ?_
  apply Wl.loadAF (xs := cs);exact rfl;exact rfl;exact hcl;(intro w' h' q u hq';rw [addLit];exact cell_of h'.2 jb);apply Wl.nilB
  refine Mt.pn 1 ?_
  refine Mt.pf 2 ?_
  refine Mt.pu 3 ?_
  apply Wl.loadF;exact rfl;exact rfl;(intro w' h';exact cell_of h'.1 rfl);apply Wl.nilB
  refine Mt.e1 5 ?_
  apply Wl.callC
  ·exact rfl
  ·exact ke
  intro wq5 hq5
  refine (R.no wq5 hq5).mono ?_
  rintro e w15 ⟨rfl,u15⟩
  have z5 := hq5.upd.size
  have v15 : Upd (fun k => w14.heap.size ≤ k) w14 w15 := hq5.upd.comp u15 fun k _ h => h.elim (fun y => (y trivial).elim) fun h => by omega
  have hpr15 := v15.heap hpr (Nat.not_le.2 (lt_of_block hpr))
  have hst15 := v15.heap hst (Nat.not_le.2 (lt_of_block hst))
  refine ⟨_,_,rfl,Hp.start w15,?_⟩
  apply Wl.nil
  refine Mt.backE (fun _ h' => ⟨h'.upd.heap hpr15 nt0,h'.upd.heap hst15 nt0⟩) ?_
  refine Mt.pm 6 ?_
  refine Mt.pu 7 ?_
  refine Wl.extract rfl rfl rfl (Wl.nilB ?_)
  refine Mt.pu 8 ?_
  refine Wl.extract rfl rfl rfl (Wl.nilB ?_)
  refine Mt.pu 9 ?_
  refine Wl.assign rfl rfl (Wl.nilB ?_)
  refine Mt.pu 10 ?_
  refine Wl.assign rfl rfl (Wl.nilB ?_)
  refine Mt.toGt kg ?_
  have z15 := v15.size
  have hp0 : w15.cell? ⟨p,0,none⟩ = some (.pointer (some ⟨I.m,0,none⟩)) := cell_of hpr15 rfl
  have hMa := R.a.new (w0 := w14) v15 (Nat.le_refl _)
  have hMb := R.b.new (w0 := w14) v15 (Nat.le_refl _)
  have hb1 := R.b1.upd v15 fun k _ hk _ => Nat.not_le.2 hk
  have hb2 := R.b2.upd v15 fun k _ hk _ => Nat.not_le.2 hk
  have dml : decide (ml = ml) = true := decide_eq_true rfl
  have hge := R.ge
  obtain ⟨nq,hnq⟩ : ∃ nq,ma.P.D.ll.length = nq := ⟨_,rfl⟩
  have hnq2 : mb.P.D.ll.length = nq := by rw [← hPP];exact hnq
  have hq1000 : ma.P.D.ll.length ≤ 1000 := by have := T13.k1.pk.ok.ll;have := T13.k1.pk.ok.used;omega
  repeat' first | (apply Wl.convBSo;exact rfl;exact rfl;(first | exact hb1 | exact hb2);exact (fun _ _ _ _ => trivial)) | (apply Wl.loadO;exact rfl;exact rfl;exact zw;exact kh) | refine Wl.move rfl rfl ?_ | (apply Wl.on;exact rfl;exact rfl;exact ka) | refine Wl.nilCheck rfl rfl ?_ | (apply Wl.pickT;exact rfl;exact rfl;exact ka;exact rfl) | refine Wl.fieldAddr0 rfl rfl ?_ | (apply Wl.eqlIs;exact rfl;exact rfl;exact rfl;exact kv) | refine Wl.eqlSB rfl rfl rfl ?_ | apply St.seq | apply St.region | apply Gt.next
  apply Wl.callC
  ·exact rfl
  ·exact ke
  intro wq6 hq6
  have z6' := hq6.upd.size
  refine (mLines base I _ wq6 (hMa.upd hq6.upd fun _ _ y => y trivial) ky hq1000).mono ?_
  rintro e w16 ⟨⟨a1,c1,he1⟩,u16⟩
  have he1' : e = .returned (.slice a1 nq c1) := he1.trans (by rw [← hnq];rfl)
  subst he1'
  have v16 : Upd (fun k => w15.heap.size ≤ k) w15 w16 := hq6.upd.comp u16 fun k _ h => h.elim (fun y => (y trivial).elim) fun h => by omega
  have z16 := v16.size
  refine ⟨_,_,rfl,Hp.start w16,?_⟩
  repeat' first | refine Wl.move rfl rfl ?_ | (apply Wl.on;exact rfl;exact rfl;exact ka) | refine Wl.len rfl rfl ?_
  apply Wl.callC
  ·exact rfl
  ·exact ke
  intro wq7' hq7'
  have z7' := hq7'.upd.size
  refine (mLines wq7.heap.size I2 _ wq7' ((hMb.new (w0 := w15) v16 (Nat.le_refl _)).upd hq7'.upd fun _ _ y => y trivial) ky (by show mb.P.D.ll.length ≤ 1000;omega)).mono ?_
  rintro e w17 ⟨⟨a2,c2,he2⟩,u17⟩
  have he2' : e = .returned (.slice a2 nq c2) := he2.trans (by rw [← hnq2];rfl)
  subst he2'
  have U17 : Upd (fun k => w.heap.size ≤ k) w w17 := (((R.up.comp v15 (T := fun k => w.heap.size ≤ k) fun k _ h => h.elim id fun h => Nat.le_trans R.up.size h).comp v16 (T := fun k => w.heap.size ≤ k) fun k _ h => h.elim id fun h => Nat.le_trans R.up.size (Nat.le_trans z15 h)).comp hq7'.upd (T := fun k => w.heap.size ≤ k) fun k _ h => h.elim id fun y => (y trivial).elim).comp u17 fun k _ h => h.elim id fun h => by have := R.up.size;omega
  refine ⟨_,_,rfl,Hp.start w17,?_⟩
  have dnq : decide ((nq : Int) = (nq : Int)) = true := decide_eq_true rfl
  repeat' first | refine Wl.assign rfl rfl ?_ | (apply Wl.on;exact rfl;exact rfl;exact ka) | (apply Wl.pickT;exact rfl;exact rfl;exact ka;exact rfl) | (apply Wl.eqlIs;exact rfl;exact rfl;exact rfl;exact kv) | refine Wl.len rfl rfl ?_ | apply Wl.nil | apply St.ret | apply Gt.next | (apply Gt.out1;exact rfl;exact rfl;intro w' hp)
  exact ⟨by first | rfl | rw [dnq],Hp.on0 hp U17⟩
end Go.Proofs.YtabbklpalbikdaaGreatDoor
end
section
namespace Go.Proofs.YtabbklpalbikdaaGreatDoor
open Go.RowKit Go.Pt Go.ChangeShapes Go.WideShapes Go.ChangeAt
def laid1 {H : Type} : List (String × DataW H) := [("math/bits.deBruijn32tab", Rows.laid_math_bits_deBruijn32tab)]
theorem laid1_eq : (Rows.laid_math_bits_deBruijn32tab : DataW Unit) = .agg (tabL.map fun (n : Int) => .lit (.int .u8 n)) := by kernel_rfl
theorem tabLaid {W : World} (h : laidMetH Tryz.prog laid1 W) : tabOk W := by
 intro r hr
 rw [MakeChecks.laidMetH_plain _ _ _ zg] at h
 obtain ⟨ps,⟨g,t,cs,fuel,p,q,hg,ht,hv,hd,_,_⟩,_,_⟩ := h
 obtain rfl := Option.some.inj ((show Tryz.prog.globalNamed "math/bits.deBruijn32tab" = some 0 by kernel_rfl).symm.trans hg)
 obtain rfl := Option.some.inj ((show (Tryz.prog.globals[0]?).map (·.type) = some 107 by kernel_rfl).symm.trans ht)
 rw [laid1_eq] at hd
 obtain ⟨xs,m,_,ex,_,hl,hel⟩ := DataW.trod_array Tryz.underlying107 hd
 have c5 : Tryz.prog.cellsOf 5 = 1 := by kernel_rfl
 have hE := hel r hr
 rw [c5,Nat.mul_one,List.getElem?_eq_getElem ky] at hE
 obtain ⟨z,e1,e2,_⟩ := DataW.trod_int Tryz.underlying5 hE
 have hlen : tabL.length = 32 := rfl
 have e3 : (xs.map (·.1)) = tabL.map fun (n : Int) => .lit (.int .u8 n) := (DataW.agg.inj (Prod.mk.inj ex).1).symm
 have e4 : (xs.map (·.1))[r]? = (tabL.map fun (n : Int) => (DataW.lit (.int .u8 n) : DataW Unit))[r]? := by rw [e3]
 rw [List.getElem?_map,List.getElem?_map,List.getElem?_eq_getElem (by omega : r < xs.length),List.getElem?_eq_getElem (by omega : r < tabL.length),e2] at e4
 have hz : z = tabL[r]'(by omega) := by
  simp only [Option.map_some,Option.some.injEq,DataW.lit.injEq,Lit.int.injEq,true_and] at e4
  exact e4
 refine ⟨tabL[r]'(by omega),List.getElem?_eq_getElem _,?_,?_⟩
 ·have : ∀ x ∈ tabL,(0 : Int) ≤ x ∧ x ≤ 31 := by decide
  exact this _ (List.getElem_mem _)
 ·rw [World.var?_cell hg hv r,← hz]
  have h0 : ((cs.toList.drop r).take 1)[0]? = some (.int .u8 z) := by rw [e1];rfl
  simpa using h0
end Go.Proofs.YtabbklpalbikdaaGreatDoor
end
