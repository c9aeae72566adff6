/-
 13 texts,one behind the other;each says what it proves. Conditions: as each text says.
-/
import Derived.Test.YtmjlceimjlabpaaDoorM04
import Derived.Test.YtmjlceimjlabpaaDoorM03
section
namespace Go.Proofs.YtmjlceimjlabpaaDoor
open Go.RowKit Go.Pt
set_option maxHeartbeats 2000000 in
theorem refCarry (ct : Nat) (f : Nat → Nat) (V : Nat) (w : World) (hb : w.heap[ct]? = some (.cells (cellsN .u64 33 f).toArray 148 (0,0))) (hf : ∀ j,j < 33 → f j < 1152921504606846976) (hV : hs f 0 33 = V) :
  Calls Tryd.prog 89 #[mp ct] w fun e w' => e = .returned (.tuple #[]) ∧ Hp w [⟨ct,cellsN .u64 33 (dg D16 V),148⟩] w' := by
 refine enter (args := [_]) (Γ := [(0,_)]) Tryd.func89 Tryd.ntmps89 rfl (of_decide_eq_true rfl) (.cons rfl .nil) ?_
 refine St.cls (C' := Hp w [⟨ct,cellsN .u64 33 f,148⟩]) (fun _ h' => Hp.open h' hb) ?_
 repeat' first | refine Wl.assign rfl rfl ?_ | apply Wl.nil | apply St.seq | apply St.block | apply St.region | apply Gt.next
 refine St.loop (σ := Nat × Nat) (fun τ => τ.1 ≤ 33 ∧ τ.2 < 18446744073709551616 / 65536 ∧ hi D16 V τ.1 = τ.2 + hs f τ.1 (33 - τ.1))
  (fun τ => [(0,mp ct),(2,.int .u64 τ.2),(3,.int .i64 τ.1)])
  (fun τ => Hp w [⟨ct,cellsN .u64 33 (fillN f (dg D16 V) τ.1),148⟩])
  (fun τ => 33 - τ.1) (0,0) ⟨by simp,by simp,by simp only [hi_zero,Nat.sub_zero,Nat.zero_add];exact hV.symm⟩ (by repeat constructor) (fun _ h => by simpa only [fillN_zero] using h) ?_
 rintro ⟨i,c⟩ ⟨hi33,hc,hic⟩
 simp only at hi33 hc hic ⊢
 by_cases hlt : i < 33
 ·have hfi := hf i hlt
  have hfl : fillN f (dg D16 V) i i = f i := fillN_at (Nat.le_refl _)
  rw [show 33 - i = (32 - i) + 1 by omega] at hic
  obtain ⟨p1,p2⟩ := carry_step hic
  have q0 : c + fillN f (dg D16 V) i i < 18446744073709551616 := by rw [hfl];omega
  repeat' first | (refine Wl.indexA rfl rfl rfl ?_ ?_;omega) | (apply Wl.loadN;exact rfl;exact rfl;(focus repeat constructor);omega) | (apply Wl.storeN;exact rfl;exact rfl;(focus repeat constructor);omega) | (apply Wl.addNU;exact rfl;exact rfl;exact rfl;(first | assumption | omega)) | (apply Wl.quoN (n := 65536);exact rfl;exact rfl;exact rfl;(decide);(first | exact IntWalk.u64_in _ (by omega) | exact IntWalk.i64_in _ (by omega))) | (apply Wl.remN (n := 65536);exact rfl;exact rfl;exact rfl;(decide)) | refine Wl.move rfl rfl ?_ | refine Wl.assign rfl rfl ?_ | refine Wl.nilCheck rfl rfl ?_ | refine Wl.lss rfl rfl rfl ?_ | (refine Wl.addI rfl rfl rfl ?_ ?_;constructor <;> omega) | apply Wl.nil | apply St.seq | apply St.block | apply St.region | apply St.skip | apply Gt.next | apply Gt.inNormal | (apply St.condP;exact rfl;all_goals (intros;try (exfalso;omega)))
  rw [hfl,← p1]
  apply Gt.round (i + 1,(c + f i) / 65536)
  rotate_left
  ·simp only;omega
  ·repeat constructor
  ·exact fun _ h => by rw [fillN_step] at h;exact h
  ·refine ⟨by simp only;omega,by simp only;omega,?_⟩
   rw [p2,show 33 - (i + 1) = 32 - i by omega]
 ·have hie : i = 33 := by omega
  subst hie
  rw [fillN_end]
  repeat' first | refine Wl.move rfl rfl ?_ | refine Wl.lss rfl rfl rfl ?_ | apply Wl.nil | apply St.seq | apply St.region | (apply St.condF;exact rfl;(with_reducible first | rfl | assumption | decide)) | apply St.exit | apply Gt.next | apply Gt.thenExit | apply Gt.inExit | (apply Gt.out0n;exact rfl;intro w' hp)
  exact ⟨rfl,hp⟩
end Go.Proofs.YtmjlceimjlabpaaDoor
end
section
namespace Go.Proofs.YtmjlceimjlabpaaDoor
def rowR (m k : Nat) : Nat := D16 ^ (16 + k) % m
def fs (U m : Nat) : Nat → Nat
 | 0 => U % W256
 | k + 1 => fs U m k + dg D16 U (16 + k) * rowR m k
theorem fs_mod (U m : Nat) : ∀ k,fs U m k % m = U % D16 ^ (16 + k) % m
 | 0 => by rw [fs,W256_eq16]
 | k + 1 => by
  rw [fs,Nat.add_mod,fs_mod U m k,rowR,Nat.mul_mod,Nat.mod_mod,← Nat.mul_mod,← Nat.add_mod,show 16 + (k + 1) = 16 + k + 1 by omega,mod_succ,Nat.mul_comm (dg D16 U (16 + k))]
theorem D32 : D16 ^ 32 = W256 * W256 := by decide
theorem fs_same {U m : Nat} (h : U < W256 * W256) : fs U m 16 % m = U % m := by
 rw [fs_mod,show 16 + 16 = 32 from rfl,D32,Nat.mod_eq_of_lt h]
theorem rowR_lt {m : Nat} (h : 0 < m) (k : Nat) : rowR m k < m := Nat.mod_lt _ h
def bnd : Nat → Nat
 | 0 => W256 * W256
 | 1 => 2097152 * W256
 | 2 => W256 + 2 ^ 247
 | _ => W256
theorem dg_zero {U k : Nat} (h : U < D16 ^ k) {j : Nat} (hj : k ≤ j) : dg D16 U j = 0 := by
 unfold dg
 rw [hi_top (Nat.lt_of_lt_of_le h (Nat.pow_le_pow_right (by decide) hj))]
 rfl
theorem fs_stay {U m : Nat} (a : Nat) (h : ∀ k,a ≤ k → dg D16 U (16 + k) = 0) : ∀ d,fs U m (a + d) = fs U m a
 | 0 => rfl
 | d + 1 => by rw [← Nat.add_assoc,fs,fs_stay a h d,h (a + d) (by omega),Nat.zero_mul,Nat.add_zero]
theorem fs_b0 {U m : Nat} (hm0 : 0 < m) (hm : m < W256) : ∀ k,fs U m k < W256 + k * (65536 * W256)
 | 0 => by rw [fs,Nat.zero_mul,Nat.add_zero];exact Nat.mod_lt _ (by decide)
 | k + 1 => by
  have ih := fs_b0 (U := U) hm0 hm k
  have h1 := rowR_lt hm0 k
  have h2 := dlt16 U (16 + k)
  have : dg D16 U (16 + k) * rowR m k ≤ 65536 * W256 := Nat.mul_le_mul (by omega) (by omega)
  rw [fs,Nat.succ_mul]
  omega
theorem d18 : 2097152 * W256 < D16 ^ 18 := by decide
theorem fs_bnd {U m r : Nat} (hm0 : 0 < m) (hm : m < W256) (h0 : rowR m 0 < 2 ^ 225) (h1 : rowR m 1 < 2 ^ 241) (h : U < bnd r) : fs U m 16 < bnd (r + 1) := by
 have hmod : U % W256 < W256 := Nat.mod_lt _ (by decide)
 match r with
 | 0 =>
  have := fs_b0 (U := U) hm0 hm 16
  have e : W256 + 16 * (65536 * W256) < 2097152 * W256 := by decide
  exact Nat.lt_trans this e
 | 1 =>
  have h : U < 2097152 * W256 := h
  have hz := fs_stay (U := U) (m := m) 2 (fun k hk => dg_zero (Nat.lt_trans h d18) (by omega)) 14
  rw [hz]
  have e2 : fs U m 2 = U % W256 + dg D16 U 16 * rowR m 0 + dg D16 U 17 * rowR m 1 := rfl
  have d0 := dlt16 U 16
  have d1 : dg D16 U 17 < 32 := by
   unfold dg hi
   refine Nat.lt_of_le_of_lt (Nat.mod_le _ _) ?_
   refine Nat.div_lt_of_lt_mul ?_
   exact Nat.lt_of_lt_of_eq h (by decide)
  have m0 : dg D16 U 16 * rowR m 0 ≤ 65536 * 2 ^ 225 := Nat.mul_le_mul (by omega) (by omega)
  have m1 : dg D16 U 17 * rowR m 1 ≤ 32 * 2 ^ 241 := Nat.mul_le_mul (by omega) (by omega)
  show fs U m 2 < W256 + 2 ^ 247
  rw [e2]
  have e : 65536 * 2 ^ 225 + 32 * 2 ^ 241 < 2 ^ 247 := by decide
  generalize (2 : Nat) ^ 247 = q at *
  generalize 65536 * 2 ^ 225 = q1 at *
  generalize 32 * 2 ^ 241 = q2 at *
  omega
 | 2 =>
  have h : U < W256 + 2 ^ 247 := h
  have hz := fs_stay (U := U) (m := m) 1 (fun k hk => dg_zero (k := 17) (Nat.lt_trans h (by decide)) (by omega)) 15
  rw [hz]
  have e2 : fs U m 1 = U % W256 + dg D16 U 16 * rowR m 0 := rfl
  have e16 : dg D16 U 16 = U / W256 := by
   unfold dg hi
   rw [← W256_eq16]
   refine Nat.mod_eq_of_lt ?_
   refine Nat.div_lt_of_lt_mul ?_
   exact Nat.lt_trans h (by decide)
  show fs U m 1 < W256
  rw [e2,e16]
  by_cases hlt : U < W256
  ·rw [Nat.div_eq_of_lt hlt,Nat.zero_mul,Nat.add_zero]
   exact hmod
  ·have : U / W256 = 1 := by
    have e : W256 + 2 ^ 247 < 2 * W256 := by decide
    have : U / W256 < 2 := Nat.div_lt_of_lt_mul (by rw [Nat.mul_comm];exact Nat.lt_trans h e)
    have := Nat.div_pos (show W256 ≤ U by omega) (show 0 < W256 by decide)
    omega
   have hm' : U % W256 = U - W256 := by
    have := Nat.div_add_mod U W256
    rw [‹U / W256 = 1›,Nat.mul_one] at this
    omega
   rw [this,hm',Nat.one_mul]
   have e : 2 ^ 247 + 2 ^ 225 < W256 := by decide
   generalize (2 : Nat) ^ 247 = q at *
   generalize (2 : Nat) ^ 225 = q1 at *
   omega
 | r + 3 =>
  have h : U < W256 := h
  have hz := fs_stay (U := U) (m := m) 0 (fun k hk => dg_zero (k := 16) (by rw [← W256_eq16];exact h) (by omega)) 16
  rw [show fs U m 16 = fs U m (0 + 16) from rfl,hz]
  exact hmod
theorem bnd_le (r : Nat) : bnd r ≤ W256 * W256 := by
 match r with
 | 0 => exact Nat.le_refl _
 | 1 => show 2097152 * W256 ≤ W256 * W256;decide
 | 2 => show W256 + 2 ^ 247 ≤ W256 * W256;decide
 | r + 3 => show W256 ≤ W256 * W256;decide
theorem bnd_s (r : Nat) : bnd (r + 1) ≤ 2097152 * W256 := by
 match r with
 | 0 => exact Nat.le_refl _
 | 1 => show W256 + 2 ^ 247 ≤ 2097152 * W256;decide
 | r + 2 => show W256 ≤ 2097152 * W256;decide
theorem small_of {U r : Nat} (h : U < bnd (r + 1)) (h0 : dg D16 U 16 = 0) (h1 : dg D16 U 17 = 0) : U < W256 := by
 have hU : U < D16 ^ 18 := Nat.lt_trans (Nat.lt_of_lt_of_le h (bnd_s r)) d18
 have e1 : U % D16 ^ 18 = U % D16 ^ 17 + D16 ^ 17 * dg D16 U 17 := mod_succ D16 U 17
 have e2 : U % D16 ^ 17 = U % D16 ^ 16 + D16 ^ 16 * dg D16 U 16 := mod_succ D16 U 16
 rw [h1,Nat.mul_zero,Nat.add_zero,Nat.mod_eq_of_lt hU] at e1
 rw [h0,Nat.mul_zero,Nat.add_zero,← e1,← W256_eq16] at e2
 rw [e2]
 exact Nat.mod_lt _ (by decide)
theorem bnd_0 : bnd 0 = W256 * W256 := by unfold bnd;rfl
theorem bnd_5 : bnd 5 = W256 := by unfold bnd;rfl
attribute [irreducible] bnd
end Go.Proofs.YtmjlceimjlabpaaDoor
end
section
namespace Go.Proofs.YtmjlceimjlabpaaDoor
open Go.RowKit Go.Pt
set_option maxHeartbeats 4000000 in
theorem refLow (a m : Nat) (w : World) (ha : a < W256) (hm : m < W256) (h2 : a < 2 * m) :
  Calls Tryd.prog 90 #[num16 a,num16 m] w fun e w' => e = .returned (num16 (a % m)) ∧ Hp w [] w' := by
 refine enter (args := [_,_]) (Γ := [(0,_),(1,_)]) Tryd.func90 Tryd.ntmps90 rfl (of_decide_eq_true rfl) (.cons rfl (.cons rfl .nil)) ?_
 apply St.seq
 repeat' first | (apply Wl.boxN;exact rfl;exact rfl;intro c hc ho) | (apply Wl.allocN;exact rfl;(first | exact z8 | exact z16 | exact z17 | exact z33 | exact z10);intro c hc ho) | apply Wl.nil | apply St.region | apply Gt.next
 rename_i ca hca hoa cm hcm hom
 generalize c = cr at *
 refine St.cut (σ := Unit) (fun _ => m ≤ a) (fun _ => [(2,mp ca),(3,mp cm),(4,mp cr)])
  (fun _ => Hp w [⟨cr,cellsN .u64 16 fun _ => 0,94⟩,⟨cm,cellsN .u64 16 (dg D16 m),94⟩,⟨ca,cellsN .u64 16 (dg D16 a),94⟩]) ?_ ?_
 ·repeat' first | refine Wl.assign rfl rfl ?_ | apply Wl.nil | apply St.seq | apply St.block | apply St.region | apply Gt.next
  refine St.loop (σ := Nat) (fun n => n ≤ 16 ∧ hi D16 a n = hi D16 m n)
   (fun n => [(2,mp ca),(3,mp cm),(4,mp cr),(5,.int .i64 ((n : Int) - 1))])
   (fun _ => Hp w [⟨cr,cellsN .u64 16 fun _ => 0,94⟩,⟨cm,cellsN .u64 16 (dg D16 m),94⟩,⟨ca,cellsN .u64 16 (dg D16 a),94⟩])
   (fun n => n) 16 ⟨by simp,by rw [hi16_lt ha,hi16_lt hm]⟩ (by repeat constructor) (fun _ h => h) ?_
  rintro i ⟨hi16,hic⟩
  cases i with
  | zero =>
   rw [hi_zero,hi_zero] at hic
   repeat' first | refine Wl.move rfl rfl ?_ | refine Wl.geq rfl rfl rfl ?_ | apply Wl.nil | apply St.seq | apply St.region | (apply St.condF;exact rfl;(with_reducible first | rfl | assumption | decide)) | apply St.exit | apply Gt.next | apply Gt.thenExit | apply Gt.inExit
   exact Gt.meet () (by omega) (by repeat constructor) fun _ h => h
  | succ i =>
   have e : (((i + 1 : Nat) : Int) - 1) = (i : Int) := by omega
   rw [e]
   have ea := hi_eq D16 a i
   have eb := hi_eq D16 m i
   rw [hic] at ea
   repeat' first | (apply Gt.outN;exact rfl;infer_instance;exact rfl;(focus repeat constructor);exact rfl;intro w' hp) | (refine Wl.indexA rfl rfl rfl ?_ ?_;omega) | (apply Wl.loadN;exact rfl;exact rfl;(focus repeat constructor);omega) | (apply Wl.loadW;exact rfl;exact rfl;(focus repeat constructor);exact rfl) | (apply Wl.storeW;exact rfl;exact rfl;(focus repeat constructor);exact rfl;(first | exact cellsN_len _ _ _ | exact rfl)) | refine Wl.move rfl rfl ?_ | refine Wl.assign rfl rfl ?_ | refine Wl.lss rfl rfl rfl ?_ | refine Wl.gtr rfl rfl rfl ?_ | refine Wl.geq rfl rfl rfl ?_ | (refine Wl.subI rfl rfl rfl ?_ ?_;constructor <;> omega) | apply Wl.nil | apply Wl.nilQ | apply St.seq | apply St.block | apply St.region | (apply St.draw;exact mixed;(kernel_rfl);exact (fun _ h => Hp.drew h)) | apply St.ret | apply St.skip | apply St.exit | apply Gt.next | apply Gt.thenRet | apply Gt.thenExit | apply Gt.inNormal | apply Gt.inRet | apply Gt.inExit | (apply Gt.inOther;exact rfl) | (apply St.condP;exact rfl;all_goals (intros;try (exfalso;omega)))
   ·refine ⟨?_,hp.drop (by simp;omega)⟩
    rw [Nat.mod_eq_of_lt (lt_of_hi (B := D16) (i := i) (by omega))]
   ·exact Gt.meet () (Nat.le_of_lt (lt_of_hi (B := D16) (i := i) (by omega))) (by repeat constructor) fun _ h => h
   ·apply Gt.round i
    rotate_left
    ·simp
    ·repeat constructor
    ·exact fun _ h => h
    ·exact ⟨by omega,by omega⟩
 ·intro _ hle
  repeat' first | refine Wl.assign rfl rfl ?_ | apply Wl.nil | apply St.seq | apply St.block | apply St.region | apply Gt.next
  refine St.loop (σ := Nat × Nat) (fun τ => τ.1 ≤ 16 ∧ τ.2 ≤ 1 ∧ hi D16 (a - m) τ.1 + hi D16 m τ.1 + τ.2 = hi D16 a τ.1)
   (fun τ => [(2,mp ca),(3,mp cm),(4,mp cr),(6,.int .u64 τ.2),(7,.int .i64 τ.1)])
   (fun τ => Hp w [⟨cr,cellsN .u64 16 fun _ => 0,94⟩,⟨cm,cellsN .u64 16 (dg D16 m),94⟩,⟨ca,cellsN .u64 16 (fillN (dg D16 a) (dg D16 (a - m)) τ.1),94⟩])
   (fun τ => 16 - τ.1) (0,0) ⟨by simp,by simp,by simp only [hi_zero];omega⟩ (by repeat constructor) (fun _ h => by simpa only [fillN_zero] using h) ?_
  rintro ⟨i,c⟩ ⟨hi16,hc1,hic⟩
  simp only at hi16 hc1 hic ⊢
  have hf : fillN (dg D16 a) (dg D16 (a - m)) i i = dg D16 a i := fillN_at (Nat.le_refl _)
  have hA := dlt16 a i
  have hB := dlt16 m i
  obtain ⟨p0,p1,p2,p3⟩ := take16 hc1 hic
  have hnext : (1 + 18446744073709551616 - (dg D16 a i + 65536 - dg D16 m i - c) / 65536) % 18446744073709551616 = 1 - (dg D16 a i + 65536 - dg D16 m i - c) / 65536 := by omega
  have hx : ((dg D16 a i + 65536 + 18446744073709551616 - dg D16 m i) % 18446744073709551616 + 18446744073709551616 - c) % 18446744073709551616 = dg D16 a i + 65536 - dg D16 m i - c := by omega
  by_cases hlt : i < 16
  ·have hF := hA
   rw [← hf] at hF
   repeat' first | (refine Wl.indexA rfl rfl rfl ?_ ?_;omega) | (apply Wl.loadN;exact rfl;exact rfl;(focus repeat constructor);omega) | (apply Wl.storeN;exact rfl;exact rfl;(focus repeat constructor);omega) | (apply Wl.addNU (n := 65536);exact rfl;exact rfl;exact rfl;omega) | (refine Wl.subNU rfl rfl rfl ?_ ?_;omega) | (apply Wl.quoN (n := 65536);exact rfl;exact rfl;exact rfl;(decide);(first | exact IntWalk.u64_in _ (by omega) | exact IntWalk.i64_in _ (by omega))) | (apply Wl.remN (n := 65536);exact rfl;exact rfl;exact rfl;(decide)) | refine Wl.move rfl rfl ?_ | refine Wl.assign rfl rfl ?_ | refine Wl.lss rfl rfl rfl ?_ | (refine Wl.addI rfl rfl rfl ?_ ?_;constructor <;> omega) | apply Wl.nil | apply Wl.nilQ | apply St.seq | apply St.block | apply St.region | (apply St.draw;exact mixed;(kernel_rfl);exact (fun _ h => Hp.drew h)) | apply St.skip | apply Gt.next | apply Gt.inNormal | (apply St.condP;exact rfl;all_goals (intros;try (exfalso;omega)))
   rw [hf,hx,p1,hnext]
   apply Gt.round (i + 1,1 - (dg D16 a i + 65536 - dg D16 m i - c) / 65536)
   rotate_left
   ·simp only;omega
   ·repeat constructor
   ·exact fun _ h => by rw [fillN_step] at h;exact h
   ·exact ⟨by simp only;omega,by simp only;omega,p3⟩
  ·have hie : i = 16 := by omega
   subst hie
   repeat' first | (apply Gt.outN;exact rfl;infer_instance;exact rfl;(focus repeat constructor);exact rfl;intro w' hp) | (apply Wl.loadW;exact rfl;exact rfl;(focus repeat constructor);exact rfl) | (apply Wl.storeW;exact rfl;exact rfl;(focus repeat constructor);exact rfl;(first | exact cellsN_len _ _ _ | exact rfl)) | refine Wl.move rfl rfl ?_ | refine Wl.lss rfl rfl rfl ?_ | apply Wl.nil | apply St.seq | apply St.region | (apply St.condF;exact rfl;(with_reducible first | rfl | assumption | decide)) | apply St.ret | apply St.exit | apply Gt.next | apply Gt.thenExit | apply Gt.inExit
   refine ⟨?_,hp.drop (by simp;omega)⟩
   rw [fillN_end,Nat.mod_eq_sub_mod hle,Nat.mod_eq_of_lt (by omega)]
structure FldV (w : World) (b m : Nat) : Prop where
 mod : ArrAt w b 0 .u64 16 (dg D16 m)
 rows : ∀ k i,k < 16 → i < 16 → w.cell? ⟨b,16 + k * 16 + i,none⟩ = some (.int .u64 (dg D16 (rowR m k) i))
 lt : m < W256
 gt : W256 ≤ 2 * m
 r0 : rowR m 0 < 2 ^ 225
 r1 : rowR m 1 < 2 ^ 241
theorem FldV.upd {S : Nat → Prop} {w w' : World} {b m : Nat} (h : FldV w b m) (u : Upd S w w') (hs : ¬ S b) : FldV w' b m :=
 ⟨h.mod.upd u hs,fun k i hk hi => u.cell (h.rows k i hk hi) hs,h.lt,h.gt,h.r0,h.r1⟩
theorem FldV.hp {w w' : World} {H : List Blk} {b m : Nat} (h : FldV w b m) (u : Hp w H w') (hs : Off H b) : FldV w' b m := h.upd u.upd fun y => y hs
theorem FldV.blk {w : World} {b m : Nat} (h : FldV w b m) : b < w.heap.size := h.mod.lt (by decide)
set_option maxHeartbeats 4000000 in
theorem refNeg (b m y : Nat) (w : World) (hF : FldV w b m) (hy : y ≤ m) :
  Calls Tryd.prog 99 #[mp b,num16 y] w fun e w' => e = .returned (num16 (m - y)) ∧ Hp w [] w' := by
 have hb := hF.blk
 have hM := hF.mod
 refine enter (args := [_,_]) (Γ := [(0,_),(1,_)]) Tryd.func99 Tryd.ntmps99 rfl (of_decide_eq_true rfl) (.cons rfl (.cons rfl .nil)) ?_
 repeat' first | (apply Wl.boxN;exact rfl;exact rfl;intro c hc ho) | (apply Wl.allocN;exact rfl;(first | exact z8 | exact z16 | exact z17 | exact z33 | exact z10);intro c hc ho) | refine Wl.assign rfl rfl ?_ | apply Wl.nil | apply St.seq | apply St.block | apply St.region | apply Gt.next
 rename_i cy hcy hoy cr hcr hor
 generalize c = co at *
 refine St.loop (σ := Nat × Nat) (fun τ => τ.1 ≤ 16 ∧ τ.2 ≤ 1 ∧ hi D16 (m - y) τ.1 + hi D16 y τ.1 + τ.2 = hi D16 m τ.1)
  (fun τ => [(0,mp b),(3,mp cy),(4,mp cr),(5,mp co),(6,.int .u64 τ.2),(7,.int .i64 τ.1)])
  (fun τ => Hp w [⟨co,cellsN .u64 16 (fillN (fun _ => 0) (dg D16 (m - y)) τ.1),94⟩,⟨cr,cellsN .u64 16 fun _ => 0,94⟩,⟨cy,cellsN .u64 16 (dg D16 y),94⟩])
  (fun τ => 16 - τ.1) (0,0) ⟨by simp,by simp,by simp only [hi_zero];omega⟩ (by repeat constructor) (fun _ h => by simpa only [fillN_zero] using h) ?_
 rintro ⟨i,c⟩ ⟨hi16,hc1,hic⟩
 simp only at hi16 hc1 hic ⊢
 have hA := dlt16 m i
 have hB := dlt16 y i
 obtain ⟨p0,p1,p2,p3⟩ := take16 hc1 hic
 have hnext : (1 + 18446744073709551616 - (dg D16 m i + 65536 - dg D16 y i - c) / 65536) % 18446744073709551616 = 1 - (dg D16 m i + 65536 - dg D16 y i - c) / 65536 := by omega
 have hx : ((dg D16 m i + 65536 + 18446744073709551616 - dg D16 y i) % 18446744073709551616 + 18446744073709551616 - c) % 18446744073709551616 = dg D16 m i + 65536 - dg D16 y i - c := by omega
 by_cases hlt : i < 16
 ·have hc : w.cell? ⟨b,0 + i,none⟩ = some (.int .u64 (dg D16 m i)) := hM i hlt
  repeat' first | (apply Wl.loadME;exact rfl;exact rfl;exact hM;(apply Off.of;simp;omega);omega) | (refine Wl.indexA rfl rfl rfl ?_ ?_;omega) | (apply Wl.loadN;exact rfl;exact rfl;(focus repeat constructor);omega) | (apply Wl.storeN;exact rfl;exact rfl;(focus repeat constructor);omega) | (apply Wl.addNU (n := 65536);exact rfl;exact rfl;exact rfl;omega) | (refine Wl.subNU rfl rfl rfl ?_ ?_;omega) | (apply Wl.quoN (n := 65536);exact rfl;exact rfl;exact rfl;(decide);(first | exact IntWalk.u64_in _ (by omega) | exact IntWalk.i64_in _ (by omega))) | (apply Wl.remN (n := 65536);exact rfl;exact rfl;exact rfl;(decide)) | refine Wl.move rfl rfl ?_ | refine Wl.assign rfl rfl ?_ | refine Wl.nilCheck rfl rfl ?_ | refine Wl.fieldAddr0 rfl rfl ?_ | refine Wl.lss rfl rfl rfl ?_ | (refine Wl.addI rfl rfl rfl ?_ ?_;constructor <;> omega) | apply Wl.nil | apply Wl.nilQ | apply St.seq | apply St.block | apply St.region | (apply St.draw;exact mixed;(kernel_rfl);exact (fun _ h => Hp.drew h)) | apply St.skip | apply Gt.next | apply Gt.inNormal | (apply St.condP;exact rfl;all_goals (intros;try (exfalso;omega)))
  rw [hx,p1,hnext]
  apply Gt.round (i + 1,1 - (dg D16 m i + 65536 - dg D16 y i - c) / 65536)
  rotate_left
  ·simp only;omega
  ·repeat constructor
  ·exact fun _ h => by rw [fillN_step] at h;exact h
  ·exact ⟨by simp only;omega,by simp only;omega,p3⟩
 ·have hie : i = 16 := by omega
  subst hie
  repeat' first | (apply Gt.outN;exact rfl;infer_instance;exact rfl;(focus repeat constructor);exact rfl;intro w' hp) | (apply Wl.loadW;exact rfl;exact rfl;(focus repeat constructor);exact rfl) | (apply Wl.storeW;exact rfl;exact rfl;(focus repeat constructor);exact rfl;(first | exact cellsN_len _ _ _ | exact rfl)) | refine Wl.move rfl rfl ?_ | refine Wl.lss rfl rfl rfl ?_ | apply Wl.nil | apply St.seq | apply St.region | (apply St.condF;exact rfl;(with_reducible first | rfl | assumption | decide)) | apply St.ret | apply St.exit | apply Gt.next | apply Gt.thenExit | apply Gt.inExit
  exact ⟨by rw [fillN_end],hp.drop (by simp;omega)⟩
set_option maxHeartbeats 4000000 in
theorem refFAdd (b m x y : Nat) (w : World) (hF : FldV w b m) (hx : x < m) (hy : y < m) :
  Calls Tryd.prog 88 #[mp b,num16 x,num16 y] w fun e w' => e = .returned (num16 ((x + y) % m)) ∧ Hp w [] w' := by
 have hb := hF.blk
 refine enter (args := [_,_,_]) (Γ := [(0,_),(1,_),(2,_)]) Tryd.func88 Tryd.ntmps88 rfl (of_decide_eq_true rfl) (.cons rfl (.cons rfl (.cons rfl .nil))) ?_
 repeat' first | (apply St.bagX 7 [];exact mixed;(decide +kernel);kernel_rfl) | apply OpsX.nil | (apply OpsX.v;(intro X hX;change Wl [_] _ _ _ _ _ _ _;apply Wl.catX;(focus repeat constructor))) | (apply Gt.endX;exact rfl) | (apply EndX.on;exact rfl) | (apply EndX.off;exact rfl) | (apply EndX.nil';apply Wl.catE;(focus repeat constructor)) | (apply Wl.loadM;exact rfl;exact rfl;exact hF.mod;(repeat (first | exact trivial | exact hX.off (by omega) | refine ⟨by first | assumption | omega | (simp only;omega),?_⟩));exact rfl) | (apply Wl.callQ (f := 83);exact rfl;(focus repeat constructor);(intro wq hq;exact hq.q (refAdd x y m wq hF.lt hx hy))) | (apply Gt.outN;exact rfl;infer_instance;exact rfl;(focus repeat constructor);exact rfl;intro w' hp) | (apply Wl.loadW;exact rfl;exact rfl;(focus repeat constructor);exact rfl) | (apply Wl.storeW;exact rfl;exact rfl;(focus repeat constructor);exact rfl;(first | exact cellsN_len _ _ _ | exact rfl)) | (apply Wl.boxN;exact rfl;exact rfl;intro c hc ho) | (apply Wl.allocN;exact rfl;(first | exact z8 | exact z16 | exact z17 | exact z33 | exact z10);intro c hc ho) | refine Wl.move rfl rfl ?_ | refine Wl.nilCheck rfl rfl ?_ | refine Wl.fieldAddr0 rfl rfl ?_ | apply Wl.nil | apply St.seq | apply St.region | apply St.ret | apply Gt.next
 exact ⟨rfl,hp.drop (by simp;omega)⟩
set_option maxHeartbeats 4000000 in
theorem refFSub (b m x y : Nat) (w : World) (hF : FldV w b m) (hx : x < m) (hy : y < m) :
  Calls Tryd.prog 86 #[mp b,num16 x,num16 y] w fun e w' => e = .returned (num16 ((x + (m - y)) % m)) ∧ Hp w [] w' := by
 have hb := hF.blk
 have e : (x + (m - y) % m) % m = (x + (m - y)) % m := by rw [Nat.add_mod_mod]
 have hl := Nat.mod_lt (m - y) (show 0 < m by omega)
 have hmW := hF.lt
 refine enter (args := [_,_,_]) (Γ := [(0,_),(1,_),(2,_)]) Tryd.func86 Tryd.ntmps86 rfl (of_decide_eq_true rfl) (.cons rfl (.cons rfl (.cons rfl .nil))) ?_
 repeat' first | (apply St.bagX 14 [];exact mixed;(decide +kernel);kernel_rfl) | apply OpsX.nil | (apply OpsX.v;(intro X hX;change Wl [_] _ _ _ _ _ _ _;apply Wl.catX;(focus repeat constructor))) | (apply Gt.endX;exact rfl) | (apply EndX.on;exact rfl) | (apply EndX.off;exact rfl) | (apply EndX.nil';apply Wl.catE;(focus repeat constructor)) | (apply Wl.loadM;exact rfl;exact rfl;exact hF.mod;(repeat (first | exact trivial | exact hX.off (by omega) | refine ⟨by first | assumption | omega | (simp only;omega),?_⟩));exact rfl) | (apply Wl.callQ (f := 99);exact rfl;(focus repeat constructor);(intro wq hq;refine (refNeg b m y wq (hF.hp hq (by (repeat (first | exact trivial | exact hX.off (by omega) | refine ⟨by first | assumption | omega | (simp only;omega),?_⟩)))) (Nat.le_of_lt hy)).mono ?_;rintro e wr ⟨rfl,hr⟩;exact ⟨rfl,hq.keep hr⟩)) | (apply Wl.callQ (f := 90);exact rfl;(focus repeat constructor);(intro wq hq;exact hq.q (refLow (m - y) m wq (by omega) hF.lt (by omega)))) | (apply Wl.callQ (f := 83);exact rfl;(focus repeat constructor);(intro wq hq;exact hq.q (refAdd x ((m - y) % m) m wq hF.lt hx hl))) | (apply Gt.outN;exact rfl;infer_instance;exact rfl;(focus repeat constructor);exact rfl;intro w' hp) | (apply Wl.loadW;exact rfl;exact rfl;(focus repeat constructor);exact rfl) | (apply Wl.storeW;exact rfl;exact rfl;(focus repeat constructor);exact rfl;(first | exact cellsN_len _ _ _ | exact rfl)) | (apply Wl.boxN;exact rfl;exact rfl;intro c hc ho) | (apply Wl.allocN;exact rfl;(first | exact z8 | exact z16 | exact z17 | exact z33 | exact z10);intro c hc ho) | refine Wl.move rfl rfl ?_ | refine Wl.nilCheck rfl rfl ?_ | refine Wl.fieldAddr0 rfl rfl ?_ | apply Wl.nil | apply St.seq | apply St.region | apply St.ret | apply Gt.next
 rw [e] at hp ⊢
 exact ⟨rfl,hp.drop (by simp;omega)⟩
end Go.Proofs.YtmjlceimjlabpaaDoor
end
section
namespace Go.Proofs.YtmjlceimjlabpaaDoor
open Go.RowKit Go.Pt
def Bq : Nat := 4294836225
theorem Bq16 {i : Nat} (h : i ≤ 16) : i * Bq ≤ 68717379600 := Nat.le_trans (Nat.mul_le_mul_right _ h) (by decide)
theorem Bq_lt : Bq < 4294967296 := by decide
theorem mulBq {a b : Nat} (ha : a < 65536) (hb : b < 65536) : a * b ≤ Bq := Nat.le_trans (Nat.mul_le_mul (Nat.le_of_lt_succ ha) (Nat.le_of_lt_succ hb)) (by decide)
theorem prod_step (X y d i k : Nat) : X + d * D16 ^ i * (y % D16 ^ k) + d * dg D16 y k * D16 ^ (i + k) = X + d * D16 ^ i * (y % D16 ^ (k + 1)) := by
 rw [mod_succ,Nat.mul_add,Nat.pow_add,← Nat.add_assoc]
 congr 1
 ac_rfl
theorem prod_row (x y i : Nat) (hy : y < W256) : x % D16 ^ i * y + dg D16 x i * D16 ^ i * (y % D16 ^ 16) = x % D16 ^ (i + 1) * y := by
 rw [mod_succ D16 x i,Nat.add_mul,← W256_eq16,Nat.mod_eq_of_lt hy]
 congr 1
 ac_rfl
theorem row_step (X r d i : Nat) : X + d * (r % D16 ^ i) + d * dg D16 r i * D16 ^ i = X + d * (r % D16 ^ (i + 1)) := by
 rw [mod_succ,Nat.mul_add,← Nat.add_assoc]
 congr 1
 ac_rfl
theorem hs_low (U : Nat) : hs (fillN (fun _ => 0) (dg D16 U) 16) 0 33 = U % W256 := by
 rw [show 33 = 16 + 17 from rfl,hs_split,hs_zeros 17 (0 + 16) (fun j h1 _ => fillN_at (by omega)),Nat.mul_zero,Nat.add_zero,hs_congr (g := dg D16 U) 16 0 (fun j _ h => fillN_lo (by omega)),hs_dg,hi_zero,W256_eq16]
set_option maxHeartbeats 16000000 in
theorem refFMul (b m x y : Nat) (w : World) (hF : FldV w b m) (hx : x < m) (hy : y < m) :
  Calls Tryd.prog 57 #[mp b,num16 x,num16 y] w fun e w' => e = .returned (num16 (x * y % m)) ∧ Hp w [] w' := by
 have hb := hF.blk
 have hm := hF.lt
 have hm0 : 0 < m := by omega
 have hxW : x < W256 := Nat.lt_trans hx hm
 have hyW : y < W256 := Nat.lt_trans hy hm
 refine enter (args := [_,_,_]) (Γ := [(0,_),(1,_),(2,_)]) Tryd.func57 Tryd.ntmps57 rfl (of_decide_eq_true rfl) (.cons rfl (.cons rfl (.cons rfl .nil))) ?_
 repeat' first | (apply Wl.boxN;exact rfl;exact rfl;intro c hc ho) | (apply Wl.allocN;exact rfl;(first | exact z8 | exact z16 | exact z17 | exact z33 | exact z10);intro c hc ho) | refine Wl.assign rfl rfl ?_ | apply Wl.nil | apply St.seq | apply St.block | apply St.region | apply Gt.next
 rename_i cx hcx hox cy hcy hoy cr hcr hor
 generalize c = ct at *
 refine St.loop (σ := Nat × (Nat → Nat)) (fun τ => τ.1 ≤ 16 ∧ hs τ.2 0 33 = x % D16 ^ τ.1 * y ∧ ∀ j,τ.2 j ≤ τ.1 * Bq)
  (fun τ => [(0,mp b),(4,mp cx),(5,mp cy),(6,mp cr),(7,mp ct),(8,.int .i64 τ.1)])
  (fun τ => Hp w [⟨ct,cellsN .u64 33 τ.2,148⟩,⟨cr,cellsN .u64 16 fun _ => 0,94⟩,⟨cy,cellsN .u64 16 (dg D16 y),94⟩,⟨cx,cellsN .u64 16 (dg D16 x),94⟩])
  (fun τ => 16 - τ.1) (0,fun _ => 0) ⟨by simp,by simp only [hs_zero,Nat.pow_zero,Nat.mod_one,Nat.zero_mul],fun _ => Nat.zero_le _⟩ (by repeat constructor) (fun _ h => h) ?_
 rintro ⟨i,f⟩ ⟨hi16,hf,hfb⟩
 simp only at hi16 hf hfb ⊢
 by_cases hlt : i < 16
 ·have hxi := dlt16 x i
  have hiB := Bq16 (show i ≤ 16 by omega)
  have hsB : (i + 1) * Bq = i * Bq + Bq := Nat.succ_mul _ _
  have hBl := Bq_lt
  repeat' first | refine Wl.move rfl rfl ?_ | refine Wl.assign rfl rfl ?_ | refine Wl.lss rfl rfl rfl ?_ | apply Wl.nil | apply St.seq | apply St.block | apply St.region | apply St.skip | apply Gt.next | (apply St.condP;exact rfl;all_goals (intros;try (exfalso;omega)))
  refine St.loop (σ := Nat × (Nat → Nat)) (fun τ => τ.1 ≤ 16 ∧ hs τ.2 0 33 = x % D16 ^ i * y + dg D16 x i * D16 ^ i * (y % D16 ^ τ.1) ∧ ∀ j,τ.2 j ≤ (if j < i + τ.1 then i + 1 else i) * Bq)
   (fun τ => [(0,mp b),(4,mp cx),(5,mp cy),(6,mp cr),(7,mp ct),(8,.int .i64 i),(9,.int .i64 τ.1)])
   (fun τ => Hp w [⟨ct,cellsN .u64 33 τ.2,148⟩,⟨cr,cellsN .u64 16 fun _ => 0,94⟩,⟨cy,cellsN .u64 16 (dg D16 y),94⟩,⟨cx,cellsN .u64 16 (dg D16 x),94⟩])
   (fun τ => 16 - τ.1) (0,f) ⟨by simp,by simp only [Nat.pow_zero,Nat.mod_one,Nat.mul_zero,Nat.add_zero];exact hf,fun j => by
    have := hfb j
    simp only
    split <;> omega⟩ (by repeat constructor) (fun _ h => h) ?_
  rintro ⟨k,g⟩ ⟨hk16,hg,hgb⟩
  simp only at hk16 hg hgb ⊢
  by_cases hkl : k < 16
  ·have hyk := dlt16 y k
   have hp := mulBq hxi hyk
   have hgk := hgb (i + k)
   rw [if_neg (by omega)] at hgk
   have q0 : dg D16 x i * dg D16 y k < 18446744073709551616 := by omega
   have q1 : g (i + k) + dg D16 x i * dg D16 y k < 18446744073709551616 := by omega
   have hik : i + k < 33 := by omega
   repeat' first | (apply St.bagX 14 [];exact mixed;(decide +kernel);kernel_rfl) | apply OpsX.nil | (apply OpsX.v;(intro X hX;change Wl [_] _ _ _ _ _ _ _;apply Wl.catX;(focus repeat constructor))) | (apply Gt.endX;exact rfl) | (apply EndX.on;exact rfl) | (apply EndX.off;exact rfl) | (apply EndX.nil';apply Wl.catE;(focus repeat constructor)) | (refine Wl.indexA rfl rfl rfl ?_ ?_;omega) | (apply Wl.loadN;exact rfl;exact rfl;(focus repeat constructor);omega) | (apply Wl.storeN;exact rfl;exact rfl;(focus repeat constructor);omega) | (apply Wl.addNU;exact rfl;exact rfl;exact rfl;(first | assumption | omega)) | (apply Wl.mulNU;exact rfl;exact rfl;exact rfl;(first | assumption | omega)) | (refine Wl.addNI rfl rfl rfl ?_ ?_;omega) | refine Wl.move rfl rfl ?_ | refine Wl.assign rfl rfl ?_ | refine Wl.lss rfl rfl rfl ?_ | (refine Wl.addI rfl rfl rfl ?_ ?_;constructor <;> omega) | apply Wl.nil | apply St.seq | apply St.block | apply St.region | apply St.skip | apply Gt.next | apply Gt.inNormal | (apply St.condP;exact rfl;all_goals (intros;try (exfalso;omega)))
   apply Gt.round (k + 1,updN g (i + k) (g (i + k) + dg D16 x i * dg D16 y k))
   rotate_left
   ·simp only;omega
   ·repeat constructor
   ·exact fun _ h => h
   ·refine ⟨by simp only;omega,?_,fun j => ?_⟩
    ·simp only
     rw [hs_add _ _ hik,hg,prod_step]
    ·simp only
     unfold updN
     by_cases hj : j = i + k
     ·subst hj
      rw [if_pos rfl,if_pos (by omega)]
      omega
     ·rw [if_neg hj]
      have := hgb j
      split at this <;> split <;> omega
  ·have hke : k = 16 := by omega
   subst hke
   repeat' first | refine Wl.move rfl rfl ?_ | refine Wl.assign rfl rfl ?_ | refine Wl.lss rfl rfl rfl ?_ | (refine Wl.addI rfl rfl rfl ?_ ?_;constructor <;> omega) | apply Wl.nil | apply St.seq | apply St.region | (apply St.condF;exact rfl;(with_reducible first | rfl | assumption | decide)) | apply St.exit | apply Gt.next | apply Gt.thenExit | apply Gt.inNormal | apply Gt.inExit
   apply Gt.round (i + 1,g)
   rotate_left
   ·simp only;omega
   ·repeat constructor
   ·exact fun _ h => h
   ·refine ⟨by simp only;omega,?_,fun j => ?_⟩
    ·simp only
     rw [hg,prod_row x y i hyW]
    ·have := hgb j
     simp only
     split at this <;> omega
 ·have hie : i = 16 := by omega
  subst hie
  rw [← W256_eq16,Nat.mod_eq_of_lt hxW] at hf
  generalize hV : x * y = V at *
  have hVb : V < W256 * W256 := by rw [← hV];exact Nat.mul_lt_mul'' hxW hyW
  repeat' first | refine Wl.move rfl rfl ?_ | refine Wl.lss rfl rfl rfl ?_ | apply Wl.nil | apply St.seq | apply St.region | (apply St.condF;exact rfl;(with_reducible first | rfl | assumption | decide)) | apply St.exit | apply Gt.next | apply Gt.thenExit | apply Gt.inExit
  apply Wl.callC
  exact rfl
  (focus repeat constructor)
  intro wq hq
  refine (refCarry ct f V wq (hq.own.at (.head _)) (fun j _ => by have := hfb j;have := Bq16 (Nat.le_refl 16);omega) hf).mono ?_
  rintro e wr ⟨rfl,hp⟩
  refine ⟨_,_,rfl,hq.callSet (by repeat constructor) hp,?_⟩
  clear hp hq wq wr
  repeat' first | apply Wl.nil | apply Gt.next
  refine St.cut (σ := Nat) (fun U => U < W256 ∧ U % m = V % m) (fun _ => [(0,mp b),(6,mp cr),(7,mp ct)])
   (fun U => Hp w [⟨ct,cellsN .u64 33 (dg D16 U),148⟩,⟨cr,cellsN .u64 16 fun _ => 0,94⟩,⟨cy,cellsN .u64 16 (dg D16 y),94⟩,⟨cx,cellsN .u64 16 (dg D16 x),94⟩]) ?_ ?_
  ·repeat' first | refine Wl.assign rfl rfl ?_ | apply Wl.nil | apply St.seq | apply St.block | apply St.region | apply Gt.next
   refine St.loop (σ := Nat × Nat) (fun τ => τ.1 ≤ 5 ∧ τ.2 < bnd τ.1 ∧ τ.2 % m = V % m)
    (fun τ => [(0,mp b),(6,mp cr),(7,mp ct),(10,.int .i64 τ.1)])
    (fun τ => Hp w [⟨ct,cellsN .u64 33 (dg D16 τ.2),148⟩,⟨cr,cellsN .u64 16 fun _ => 0,94⟩,⟨cy,cellsN .u64 16 (dg D16 y),94⟩,⟨cx,cellsN .u64 16 (dg D16 x),94⟩])
    (fun τ => 5 - τ.1) (0,V) ⟨by simp,by simp only;rw [bnd_0];exact hVb,rfl⟩ (by repeat constructor) (fun _ h => h) ?_
   rintro ⟨r,U⟩ ⟨hr5,hU,hUm⟩
   simp only at hr5 hU hUm ⊢
   by_cases hrl : r < 5
   ·have hUs : U < W256 * W256 := Nat.lt_of_lt_of_le hU (bnd_le r)
    repeat' first | (apply Wl.allocN;exact rfl;(first | exact z8 | exact z16 | exact z17 | exact z33 | exact z10);intro c hc ho) | refine Wl.move rfl rfl ?_ | refine Wl.assign rfl rfl ?_ | refine Wl.lss rfl rfl rfl ?_ | apply Wl.nil | apply St.seq | apply St.block | apply St.region | apply St.skip | apply Gt.next | (apply St.condP;exact rfl;all_goals (intros;try (exfalso;omega)))
    generalize c = cs at *
    refine St.loop (σ := Nat) (fun i => i ≤ 16) (fun i => [(0,mp b),(6,mp cr),(7,mp ct),(10,.int .i64 r),(11,mp cs),(12,.int .i64 i)])
     (fun i => Hp w [⟨cs,cellsN .u64 33 (fillN (fun _ => 0) (dg D16 U) i),148⟩,⟨ct,cellsN .u64 33 (dg D16 U),148⟩,⟨cr,cellsN .u64 16 fun _ => 0,94⟩,⟨cy,cellsN .u64 16 (dg D16 y),94⟩,⟨cx,cellsN .u64 16 (dg D16 x),94⟩])
     (fun i => 16 - i) 0 (by simp) (by repeat constructor) (fun _ h => by simpa only [fillN_zero] using h) ?_
    intro i hi16'
    by_cases hil : i < 16
    ·repeat' first | (refine Wl.indexA rfl rfl rfl ?_ ?_;omega) | (apply Wl.loadN;exact rfl;exact rfl;(focus repeat constructor);omega) | (apply Wl.storeN;exact rfl;exact rfl;(focus repeat constructor);omega) | refine Wl.move rfl rfl ?_ | refine Wl.assign rfl rfl ?_ | refine Wl.lss rfl rfl rfl ?_ | (refine Wl.addI rfl rfl rfl ?_ ?_;constructor <;> omega) | apply Wl.nil | apply St.seq | apply St.block | apply St.region | apply St.skip | apply Gt.next | apply Gt.inNormal | (apply St.condP;exact rfl;all_goals (intros;try (exfalso;omega)))
     apply Gt.round (i + 1)
     rotate_left
     ·omega
     ·repeat constructor
     ·exact fun _ h => by rw [fillN_step] at h;exact h
     ·omega
    have hie : i = 16 := by omega
    subst hie
    repeat' first | refine Wl.move rfl rfl ?_ | refine Wl.assign rfl rfl ?_ | refine Wl.lss rfl rfl rfl ?_ | apply Wl.nil | apply St.seq | apply St.block | apply St.region | (apply St.condF;exact rfl;(with_reducible first | rfl | assumption | decide)) | apply St.exit | apply Gt.next | apply Gt.thenExit | apply Gt.inExit
    refine St.loop (σ := Nat × (Nat → Nat)) (fun τ => τ.1 ≤ 16 ∧ hs τ.2 0 33 = fs U m τ.1 ∧ ∀ j,τ.2 j ≤ 65535 + τ.1 * Bq) (fun τ => [(0,mp b),(6,mp cr),(7,mp ct),(10,.int .i64 r),(11,mp cs),(13,.int .i64 τ.1)])
     (fun τ => Hp w [⟨cs,cellsN .u64 33 τ.2,148⟩,⟨ct,cellsN .u64 33 (dg D16 U),148⟩,⟨cr,cellsN .u64 16 fun _ => 0,94⟩,⟨cy,cellsN .u64 16 (dg D16 y),94⟩,⟨cx,cellsN .u64 16 (dg D16 x),94⟩])
     (fun τ => 16 - τ.1) (0,fillN (fun _ => 0) (dg D16 U) 16) ⟨by simp,by simp only;rw [hs_low,fs],fun j => by
      have := dlt16 U j
      show (if j < 16 then dg D16 U j else 0) ≤ 65535 + 0 * Bq
      split <;> omega⟩ (by repeat constructor) (fun _ h => h) ?_
    rintro ⟨k,g⟩ ⟨hk16,hg,hgb⟩
    simp only at hk16 hg hgb ⊢
    have hkB := Bq16 hk16
    have hBl := Bq_lt
    by_cases hkl : k < 16
    ·have hd := dlt16 U (16 + k)
     have hsB : (k + 1) * Bq = k * Bq + Bq := Nat.succ_mul _ _
     by_cases hd0 : dg D16 U (16 + k) = 0
     ·have hcond : ¬ (0 : Int) < ((dg D16 U (16 + k) : Nat) : Int) := by omega
      repeat' first | (apply Wl.addNI (m := 16);exact rfl;exact rfl;exact rfl;omega) | (refine Wl.indexA rfl rfl rfl ?_ ?_;omega) | (apply Wl.loadN;exact rfl;exact rfl;(focus repeat constructor);omega) | refine Wl.move rfl rfl ?_ | refine Wl.assign rfl rfl ?_ | refine Wl.lss rfl rfl rfl ?_ | refine Wl.gtr rfl rfl rfl ?_ | (refine Wl.addI rfl rfl rfl ?_ ?_;constructor <;> omega) | apply Wl.nil | apply St.seq | apply St.block | apply St.region | apply St.skip | apply Gt.next | apply Gt.inNormal | (apply St.condP;exact rfl;all_goals (intros;try (exfalso;omega)))
      apply Gt.round (k + 1,g)
      rotate_left
      ·simp only;omega
      ·repeat constructor
      ·exact fun _ h => h
      ·refine ⟨by simp only;omega,?_,fun j => ?_⟩
       ·simp only
        rw [fs,hd0,Nat.zero_mul,Nat.add_zero,hg]
       ·have := hgb j
        simp only
        omega
     ·have hcond : (0 : Int) < ((dg D16 U (16 + k) : Nat) : Int) := by omega
      repeat' first | (apply Wl.addNI (m := 16);exact rfl;exact rfl;exact rfl;omega) | (refine Wl.indexA rfl rfl rfl ?_ ?_;omega) | (apply Wl.loadN;exact rfl;exact rfl;(focus repeat constructor);omega) | refine Wl.move rfl rfl ?_ | refine Wl.assign rfl rfl ?_ | refine Wl.lss rfl rfl rfl ?_ | refine Wl.gtr rfl rfl rfl ?_ | apply Wl.nil | apply St.seq | apply St.block | apply St.region | apply St.skip | apply Gt.next | (apply St.condP;exact rfl;all_goals (intros;try (exfalso;omega)))
      refine St.loop (σ := Nat × (Nat → Nat)) (fun τ => τ.1 ≤ 16 ∧ hs τ.2 0 33 = fs U m k + dg D16 U (16 + k) * (rowR m k % D16 ^ τ.1) ∧ ∀ j,τ.2 j ≤ 65535 + (if j < τ.1 then k + 1 else k) * Bq)
       (fun τ => [(0,mp b),(6,mp cr),(7,mp ct),(10,.int .i64 r),(11,mp cs),(13,.int .i64 k),(14,.int .i64 τ.1)])
       (fun τ => Hp w [⟨cs,cellsN .u64 33 τ.2,148⟩,⟨ct,cellsN .u64 33 (dg D16 U),148⟩,⟨cr,cellsN .u64 16 fun _ => 0,94⟩,⟨cy,cellsN .u64 16 (dg D16 y),94⟩,⟨cx,cellsN .u64 16 (dg D16 x),94⟩])
       (fun τ => 16 - τ.1) (0,g) ⟨by simp,by simp only [Nat.pow_zero,Nat.mod_one,Nat.mul_zero,Nat.add_zero];exact hg,fun j => by
        have := hgb j
        simp only
        split <;> omega⟩ (by repeat constructor) (fun _ h => h) ?_
      rintro ⟨i,g'⟩ ⟨hi16',hg',hgb'⟩
      simp only at hi16' hg' hgb' ⊢
      by_cases hil : i < 16
      ·have hri := dlt16 (rowR m k) i
       have hpB := mulBq hd hri
       have hgi := hgb' i
       rw [if_neg (by omega)] at hgi
       have q0 : dg D16 U (16 + k) * dg D16 (rowR m k) i < 18446744073709551616 := by omega
       have q1 : g' i + dg D16 U (16 + k) * dg D16 (rowR m k) i < 18446744073709551616 := by omega
       have hrow := hF.rows k i hkl hil
       repeat' first | (apply St.bagX 18 [];exact mixed;(decide +kernel);kernel_rfl) | apply OpsX.nil | (apply OpsX.v;(intro X hX;change Wl [_] _ _ _ _ _ _ _;apply Wl.catX;(focus repeat constructor))) | (apply Gt.endX;exact rfl) | (apply EndX.on;exact rfl) | (apply EndX.off;exact rfl) | (apply EndX.nil';apply Wl.catE;(focus repeat constructor)) | (apply Wl.addNI (m := 16);exact rfl;exact rfl;exact rfl;omega) | (apply Wl.loadO;exact rfl;exact rfl;exact hrow;(repeat (first | exact trivial | exact hX.off (by omega) | refine ⟨by first | assumption | omega | (simp only;omega),?_⟩))) | (refine Wl.indexA rfl rfl rfl ?_ ?_;omega) | (refine Wl.indexAo rfl rfl rfl ?_ ?_;omega) | (apply Wl.loadN;exact rfl;exact rfl;(focus repeat constructor);omega) | (apply Wl.storeN;exact rfl;exact rfl;(focus repeat constructor);omega) | (apply Wl.addNU;exact rfl;exact rfl;exact rfl;(first | assumption | omega)) | (apply Wl.mulNU;exact rfl;exact rfl;exact rfl;(first | assumption | omega)) | refine Wl.move rfl rfl ?_ | refine Wl.assign rfl rfl ?_ | refine Wl.nilCheck rfl rfl ?_ | refine Wl.fieldAddrZ rfl rfl ?_ | refine Wl.lss rfl rfl rfl ?_ | (refine Wl.addI rfl rfl rfl ?_ ?_;constructor <;> omega) | (refine Wl.indexArr rfl rfl rfl ?_ ?_;constructor <;> omega) | apply Wl.nil | apply St.seq | apply St.block | apply St.region | apply St.skip | apply Gt.next | apply Gt.inNormal | (apply St.condP;exact rfl;all_goals (intros;try (exfalso;omega)))
       apply Gt.round (i + 1,updN g' i (g' i + dg D16 U (16 + k) * dg D16 (rowR m k) i))
       rotate_left
       ·simp only;omega
       ·repeat constructor
       ·exact fun _ h => h
       ·refine ⟨by simp only;omega,?_,fun j => ?_⟩
        ·simp only
         rw [hs_add _ _ (by omega),hg',row_step]
        ·simp only
         unfold updN
         by_cases hj : j = i
         ·subst hj
          rw [if_pos rfl,if_pos (by omega)]
          omega
         ·rw [if_neg hj]
          have := hgb' j
          split at this <;> split <;> omega
      ·have hie : i = 16 := by omega
       subst hie
       repeat' first | refine Wl.move rfl rfl ?_ | refine Wl.assign rfl rfl ?_ | refine Wl.lss rfl rfl rfl ?_ | (refine Wl.addI rfl rfl rfl ?_ ?_;constructor <;> omega) | apply Wl.nil | apply St.seq | apply St.region | (apply St.condF;exact rfl;(with_reducible first | rfl | assumption | decide)) | apply St.exit | apply Gt.next | apply Gt.thenExit | apply Gt.inNormal | apply Gt.inExit
       apply Gt.round (k + 1,g')
       rotate_left
       ·simp only;omega
       ·repeat constructor
       ·exact fun _ h => h
       ·refine ⟨by simp only;omega,?_,fun j => ?_⟩
        ·simp only
         rw [hg',fs,← W256_eq16,Nat.mod_eq_of_lt (Nat.lt_trans (rowR_lt hm0 k) hm)]
        ·have := hgb' j
         simp only
         split at this <;> omega
    ·have hke : k = 16 := by omega
     subst hke
     have hU' := fs_bnd hm0 hm hF.r0 hF.r1 hU
     have hUm' := fs_same (m := m) hUs
     generalize hW : fs U m 16 = U' at *
     repeat' first | refine Wl.move rfl rfl ?_ | refine Wl.lss rfl rfl rfl ?_ | apply Wl.nil | apply St.seq | apply St.region | (apply St.condF;exact rfl;(with_reducible first | rfl | assumption | decide)) | apply St.exit | apply Gt.next | apply Gt.thenExit | apply Gt.inExit
     apply Wl.callC
     exact rfl
     (focus repeat constructor)
     intro wq hq
     refine (refCarry cs g U' wq (hq.own.at (.head _)) (fun j _ => by have := hgb j;omega) hg).mono ?_
     rintro e wr ⟨rfl,hp⟩
     refine ⟨_,_,rfl,hq.callSet (by repeat constructor) hp,?_⟩
     clear hp hq wq wr
     by_cases h16 : dg D16 U' 16 = 0
     ·by_cases h17 : dg D16 U' 17 = 0
      ·repeat' first | (apply Wl.indexA (j := 16);exact rfl;exact rfl;exact rfl;(decide)) | (apply Wl.indexA (j := 17);exact rfl;exact rfl;exact rfl;(decide)) | (apply Wl.loadN;exact rfl;exact rfl;(focus repeat constructor);omega) | (apply Wl.loadW;exact rfl;exact rfl;(focus repeat constructor);exact rfl) | (apply Wl.storeW;exact rfl;exact rfl;(focus repeat constructor);exact rfl;(first | exact cellsN_len _ _ _ | exact rfl)) | refine Wl.move rfl rfl ?_ | (apply Wl.on;exact rfl;exact rfl;(with_reducible first | rfl | assumption | decide)) | (apply Wl.pickT;exact rfl;exact rfl;(with_reducible first | rfl | assumption | decide);exact rfl) | refine Wl.eql rfl rfl rfl ?_ | apply Wl.nil | apply St.seq | apply St.region | apply St.exit | apply Gt.next | apply Gt.thenExit | apply Gt.inExit | (apply Gt.inOther;exact rfl) | (apply Wl.splitP;exact rfl;exact rfl;all_goals (intros;try (exfalso;omega))) | (apply St.condP;exact rfl;all_goals (intros;try (exfalso;omega)))
       exact Gt.meet U' ⟨small_of hU' h16 h17,hUm'.trans hUm⟩ (by repeat constructor) fun _ h => hpPop h (by simp only;omega)
      ·repeat' first | (apply Wl.indexA (j := 16);exact rfl;exact rfl;exact rfl;(decide)) | (apply Wl.indexA (j := 17);exact rfl;exact rfl;exact rfl;(decide)) | (apply Wl.loadN;exact rfl;exact rfl;(focus repeat constructor);omega) | (apply Wl.loadW;exact rfl;exact rfl;(focus repeat constructor);exact rfl) | (apply Wl.storeW;exact rfl;exact rfl;(focus repeat constructor);exact rfl;(first | exact cellsN_len _ _ _ | exact rfl)) | refine Wl.move rfl rfl ?_ | refine Wl.assign rfl rfl ?_ | (apply Wl.on;exact rfl;exact rfl;(with_reducible first | rfl | assumption | decide)) | (apply Wl.pickT;exact rfl;exact rfl;(with_reducible first | rfl | assumption | decide);exact rfl) | refine Wl.eql rfl rfl rfl ?_ | (refine Wl.addI rfl rfl rfl ?_ ?_;constructor <;> omega) | apply Wl.nil | apply St.seq | apply St.region | apply St.skip | apply Gt.next | apply Gt.inNormal | (apply Wl.splitP;exact rfl;exact rfl;all_goals (intros;try (exfalso;omega))) | (apply St.condP;exact rfl;all_goals (intros;try (exfalso;omega)))
       apply Gt.round (r + 1,U')
       rotate_left
       ·simp only;omega
       ·repeat constructor
       ·exact fun _ h => hpPop h (by simp only;omega)
       ·exact ⟨by simp only;omega,hU',hUm'.trans hUm⟩
     ·repeat' first | (apply Wl.indexA (j := 16);exact rfl;exact rfl;exact rfl;(decide)) | (apply Wl.loadN;exact rfl;exact rfl;(focus repeat constructor);omega) | (apply Wl.loadW;exact rfl;exact rfl;(focus repeat constructor);exact rfl) | (apply Wl.storeW;exact rfl;exact rfl;(focus repeat constructor);exact rfl;(first | exact cellsN_len _ _ _ | exact rfl)) | refine Wl.move rfl rfl ?_ | refine Wl.assign rfl rfl ?_ | (apply Wl.off;exact rfl;exact rfl;exact rfl;(first | with_reducible rfl | (show _ = false;with_reducible assumption) | (show _ = true;with_reducible assumption) | decide)) | (apply Wl.pickF;exact rfl;exact rfl;(with_reducible first | rfl | assumption | decide);exact rfl) | refine Wl.eql rfl rfl rfl ?_ | (refine Wl.addI rfl rfl rfl ?_ ?_;constructor <;> omega) | apply Wl.nil | apply St.seq | apply St.region | (apply St.condF;exact rfl;(with_reducible first | rfl | assumption | decide)) | apply St.skip | apply Gt.next | apply Gt.inNormal | (apply Wl.splitP;exact rfl;exact rfl;all_goals (intros;try (exfalso;omega)))
      apply Gt.round (r + 1,U')
      rotate_left
      ·simp only;omega
      ·repeat constructor
      ·exact fun _ h => hpPop h (by simp only;omega)
      ·exact ⟨by simp only;omega,hU',hUm'.trans hUm⟩
   ·have hre : r = 5 := by omega
    subst hre
    repeat' first | refine Wl.move rfl rfl ?_ | refine Wl.lss rfl rfl rfl ?_ | apply Wl.nil | apply St.seq | apply St.region | (apply St.condF;exact rfl;(with_reducible first | rfl | assumption | decide)) | apply St.exit | apply Gt.next | apply Gt.thenExit | apply Gt.inExit
    rw [bnd_5] at hU
    exact Gt.meet U ⟨hU,hUm⟩ (by repeat constructor) fun _ h => h
  ·rintro U ⟨hU,hUm⟩
   repeat' first | (apply Wl.allocN;exact rfl;(first | exact z8 | exact z16 | exact z17 | exact z33 | exact z10);intro c hc ho) | refine Wl.assign rfl rfl ?_ | apply Wl.nil | apply St.seq | apply St.block | apply St.region | apply Gt.next
   generalize c = co at *
   refine St.loop (σ := Nat) (fun i => i ≤ 16) (fun i => [(0,mp b),(6,mp cr),(7,mp ct),(15,mp co),(16,.int .i64 i)])
    (fun i => Hp w [⟨co,cellsN .u64 16 (fillN (fun _ => 0) (dg D16 U) i),94⟩,⟨ct,cellsN .u64 33 (dg D16 U),148⟩,⟨cr,cellsN .u64 16 fun _ => 0,94⟩,⟨cy,cellsN .u64 16 (dg D16 y),94⟩,⟨cx,cellsN .u64 16 (dg D16 x),94⟩])
    (fun i => 16 - i) 0 (by simp) (by repeat constructor) (fun _ h => by simpa only [fillN_zero] using h) ?_
   intro i hi16'
   by_cases hil : i < 16
   ·repeat' first | (refine Wl.indexA rfl rfl rfl ?_ ?_;omega) | (apply Wl.loadN;exact rfl;exact rfl;(focus repeat constructor);omega) | (apply Wl.storeN;exact rfl;exact rfl;(focus repeat constructor);omega) | refine Wl.move rfl rfl ?_ | refine Wl.assign rfl rfl ?_ | refine Wl.lss rfl rfl rfl ?_ | (refine Wl.addI rfl rfl rfl ?_ ?_;constructor <;> omega) | apply Wl.nil | apply St.seq | apply St.block | apply St.region | apply St.skip | apply Gt.next | apply Gt.inNormal | (apply St.condP;exact rfl;all_goals (intros;try (exfalso;omega)))
    apply Gt.round (i + 1)
    rotate_left
    ·omega
    ·repeat constructor
    ·exact fun _ h => by rw [fillN_step] at h;exact h
    ·omega
   have hie : i = 16 := by omega
   subst hie
   rw [fillN_end]
   have hgt := hF.gt
   repeat' first | (apply St.bagX 6 [];exact mixed;(decide +kernel);kernel_rfl) | apply OpsX.nil | (apply OpsX.v;(intro X hX;change Wl [_] _ _ _ _ _ _ _;apply Wl.catX;(focus repeat constructor))) | (apply Gt.endX;exact rfl) | (apply EndX.on;exact rfl) | (apply EndX.off;exact rfl) | (apply EndX.nil';apply Wl.catE;(focus repeat constructor)) | (apply Wl.loadM;exact rfl;exact rfl;exact hF.mod;(repeat (first | exact trivial | exact hX.off (by omega) | refine ⟨by first | assumption | omega | (simp only;omega),?_⟩));exact rfl) | (apply Wl.callQ (f := 90);exact rfl;(focus repeat constructor);(intro wq hq;exact hq.q (refLow U m wq hU hm (by omega)))) | (apply Gt.outN;exact rfl;infer_instance;exact rfl;(focus repeat constructor);exact rfl;intro w' hp) | (apply Wl.loadW;exact rfl;exact rfl;(focus repeat constructor);exact rfl) | (apply Wl.storeW;exact rfl;exact rfl;(focus repeat constructor);exact rfl;(first | exact cellsN_len _ _ _ | exact rfl)) | refine Wl.move rfl rfl ?_ | refine Wl.nilCheck rfl rfl ?_ | refine Wl.fieldAddr0 rfl rfl ?_ | refine Wl.lss rfl rfl rfl ?_ | apply Wl.nil | apply St.seq | apply St.region | (apply St.condF;exact rfl;(with_reducible first | rfl | assumption | decide)) | apply St.ret | apply St.exit | apply Gt.next | apply Gt.thenExit | apply Gt.inExit
   rw [hUm] at hp ⊢
   exact ⟨rfl,hp.drop (by simp;omega)⟩
end Go.Proofs.YtmjlceimjlabpaaDoor
end
section
namespace Go.Proofs.YtmjlceimjlabpaaDoor
open Go.RowKit Go.Pt
attribute [local irreducible] Prim.P256
def jin : Ec.Pt → Ec.F × Ec.F × Ec.F
 | none => (1,1,0)
 | some (x,y) => (x,y,1)
theorem ptC0 (x y : Nat) : ptC x y (mg 0) = ptC x y 0 := by rw [mg_zero]
set_option maxHeartbeats 4000000 in
theorem curIn (c bm : Nat) (A : Ec.Pt) (w : World) (hV : CurV w c bm) : Calls Tryd.prog 72 #[mp c,poV A] w fun e w' => e = .returned (ptV (jin A)) ∧ Hp w [] w' := by
 obtain ⟨hc,hb⟩ := hV.lt
 match A with
 | none =>
  unfold poV
  rw [poD_none]
  refine enter (args := [_,_]) (Γ := [(0,_),(1,_)]) Tryd.func72 Tryd.ntmps72 rfl (of_decide_eq_true rfl) (.cons rfl (.cons rfl .nil)) ?_
  repeat' first | (apply St.bagX 12 [];exact mixed;(decide +kernel);kernel_rfl) | apply OpsX.nil | (apply OpsX.v;(intro X hX;change Wl [_] _ _ _ _ _ _ _;apply Wl.catX;(focus repeat constructor))) | (apply Gt.endX;exact rfl) | (apply EndX.on;exact rfl) | (apply EndX.off;exact rfl) | (apply EndX.nil';apply Wl.catE;(focus repeat constructor)) | (apply Wl.loadO;exact rfl;exact rfl;exact hV.mod;(repeat (first | exact trivial | exact hX.off (by omega) | refine ⟨by first | assumption | omega | (simp only;omega),?_⟩))) | (apply Wl.loadH;exact rfl;exact rfl;(focus repeat constructor);(first | exact poC_n _ _ _ | exact poD_n _)) | (apply Wl.storeAll;exact rfl;exact rfl;(focus repeat constructor);(first | exact ptC_len _ _ _ | exact poC_len _ _ _ | exact poD_len _);(first | exact rfl | exact ptC_len _ _ _ | exact poC_len _ _ _ | exact poD_len _);(first | exact ptC_one _ _ _ | exact poC_one _ _ _ | exact poD_one _)) | (apply Wl.buildPt;exact rfl;(focus ((repeat (first | exact Parts.nil | apply Parts.cons rfl));done))) | (apply Wl.callQ (f := 74);exact rfl;(focus repeat constructor);(intro wq hq;refine (fOne (hV.val.hp hq (by (repeat (first | exact trivial | exact hX.off (by omega) | refine ⟨by first | assumption | omega | (simp only;omega),?_⟩))))).mono ?_;rintro e wr ⟨rfl,hr⟩;exact ⟨rfl,hq.keep hr⟩)) | (apply Gt.outC';exact rfl;infer_instance;exact rfl;(focus repeat constructor);(first | exact LSub.whole (ptC_len _ _ _) | exact LSub.whole (poC_len _ _ _) | exact LSub.whole (poD_len _));intro w' hp) | (apply Wl.buildN;exact rfl;(repeat (first | exact Parts.nil | apply Parts.cons rfl));(repeat (first | apply Fills.nil | (apply Fills.one;exact rfl;exact rfl;(repeat (first | apply LSet.z | apply LSet.s))) | (apply Fills.agg;exact rfl;exact rfl;(repeat (first | apply LPut.s | apply LPut.z | apply LOver.nil | apply LOver.cons)))));(first | exact one8 | exact zero8 | exact two8 | exact one16)) | refine Wl.move rfl rfl ?_ | refine Wl.nilCheck rfl rfl ?_ | refine Wl.fieldAddr0 rfl rfl ?_ | refine Wl.fieldAddrZ rfl rfl ?_ | (apply Wl.boxA;exact rfl;exact rfl;intro c hc ho) | (apply Wl.alloc;exact rfl;intro c hc ho) | apply Wl.nil | apply St.seq | apply St.region | (apply St.condT;exact rfl;(with_reducible first | rfl | assumption | decide)) | apply St.ret | apply Gt.next | apply Gt.thenRet
  refine ⟨?_,hp.drop (by simp;omega)⟩
  unfold ptV ptF jin
  rw [ptC0]
 | some (x,y) =>
  unfold poV
  rw [poD_some]
  refine enter (args := [_,_]) (Γ := [(0,_),(1,_)]) Tryd.func72 Tryd.ntmps72 rfl (of_decide_eq_true rfl) (.cons rfl (.cons rfl .nil)) ?_
  repeat' first | (apply St.bagX 19 [];exact mixed;(decide +kernel);kernel_rfl) | apply OpsX.nil | (apply OpsX.v;(intro X hX;change Wl [_] _ _ _ _ _ _ _;apply Wl.catX;(focus repeat constructor))) | (apply Gt.endX;exact rfl) | (apply EndX.on;exact rfl) | (apply EndX.off;exact rfl) | (apply EndX.nil';apply Wl.catE;(focus repeat constructor)) | (apply Wl.loadO;exact rfl;exact rfl;exact hV.mod;(repeat (first | exact trivial | exact hX.off (by omega) | refine ⟨by first | assumption | omega | (simp only;omega),?_⟩))) | (apply Wl.loadAH;exact rfl;exact rfl;(focus repeat constructor);(first | exact ptC_x _ _ _ | exact ptC_y _ _ _ | exact ptC_z _ _ _ | exact poC_x _ _ _ | exact poC_y _ _ _ | exact poD_x _ | exact poD_y _ | exact LSub.whole (ptC_len _ _ _) | exact LSub.whole (poC_len _ _ _) | exact LSub.whole (poD_len _))) | (apply Wl.loadH;exact rfl;exact rfl;(focus repeat constructor);(first | exact poC_n _ _ _ | exact poD_n _)) | (apply Wl.storeAll;exact rfl;exact rfl;(focus repeat constructor);(first | exact ptC_len _ _ _ | exact poC_len _ _ _ | exact poD_len _);(first | exact rfl | exact ptC_len _ _ _ | exact poC_len _ _ _ | exact poD_len _);(first | exact ptC_one _ _ _ | exact poC_one _ _ _ | exact poD_one _)) | (apply Wl.buildPt;exact rfl;(focus ((repeat (first | exact Parts.nil | apply Parts.cons rfl));done))) | (apply Wl.callQ (f := 74);exact rfl;(focus repeat constructor);(intro wq hq;refine (fOne (hV.val.hp hq (by (repeat (first | exact trivial | exact hX.off (by omega) | refine ⟨by first | assumption | omega | (simp only;omega),?_⟩))))).mono ?_;rintro e wr ⟨rfl,hr⟩;exact ⟨rfl,hq.keep hr⟩)) | (apply Wl.callQ (f := 35);exact rfl;(focus repeat constructor);(intro wq hq;refine (fInF (hV.val.hp hq (by (repeat (first | exact trivial | exact hX.off (by omega) | refine ⟨by first | assumption | omega | (simp only;omega),?_⟩)))) _).mono ?_;rintro e wr ⟨rfl,hr⟩;exact ⟨rfl,hq.keep hr⟩)) | (apply Gt.outC';exact rfl;infer_instance;exact rfl;(focus repeat constructor);(first | exact LSub.whole (ptC_len _ _ _) | exact LSub.whole (poC_len _ _ _) | exact LSub.whole (poD_len _));intro w' hp) | refine Wl.move rfl rfl ?_ | refine Wl.nilCheck rfl rfl ?_ | refine Wl.fieldAddr0 rfl rfl ?_ | refine Wl.fieldAddrZ rfl rfl ?_ | (apply Wl.boxA;exact rfl;exact rfl;intro c hc ho) | (apply Wl.alloc;exact rfl;intro c hc ho) | apply Wl.nil | apply St.seq | apply St.region | (apply St.condF;exact rfl;(with_reducible first | rfl | assumption | decide)) | apply St.ret | apply St.skip | apply Gt.next
  exact ⟨rfl,hp.drop (by simp;omega)⟩
theorem jdbl_zero {p : Ec.F × Ec.F × Ec.F} (h : p.2.2 = 0) : Ec.jdbl p = p := by unfold Ec.jdbl;rw [if_pos h]
theorem jdbl_nz {x y z : Ec.F} (h : ¬ z = 0) : Ec.jdbl (x,y,z) = (let s2 := x * (y * y) + x * (y * y)
 let s := s2 + s2
 let t := (x - z * z) * (x + z * z)
 let m := t + t + t
 let x' := m * m - (s + s)
 let e0 := y * y * (y * y)
 let e1 := e0 + e0
 let e2 := e1 + e1
 let e := e2 + e2
 let yz := y * z
 (x',m * (s - x') - e,yz + yz)) := by unfold Ec.jdbl;rw [if_neg h]
set_option maxHeartbeats 8000000 in
theorem curDbl (c bm : Nat) (p : Ec.F × Ec.F × Ec.F) (w : World) (hV : CurV w c bm) : Calls Tryd.prog 75 #[mp c,ptV p] w fun e w' => e = .returned (ptV (Ec.jdbl p)) ∧ Hp w [] w' := by
 obtain ⟨hc,hb⟩ := hV.lt
 obtain ⟨x,y,z⟩ := p
 refine enter (args := [_,_]) (Γ := [(0,_),(1,_)]) Tryd.func75 Tryd.ntmps75 rfl (of_decide_eq_true rfl) (.cons rfl (.cons rfl .nil)) ?_
 by_cases hz : z = 0
 ·have hd : decide (z = 0) = true := decide_eq_true hz
  repeat' first | (apply Wl.loadO;exact rfl;exact rfl;exact hV.mod;(repeat (first | exact trivial | exact hX.off (by omega) | refine ⟨by first | assumption | omega | (simp only;omega),?_⟩))) | (apply Wl.loadAH;exact rfl;exact rfl;(focus repeat constructor);(first | exact ptC_x _ _ _ | exact ptC_y _ _ _ | exact ptC_z _ _ _ | exact poC_x _ _ _ | exact poC_y _ _ _ | exact poD_x _ | exact poD_y _ | exact LSub.whole (ptC_len _ _ _) | exact LSub.whole (poC_len _ _ _) | exact LSub.whole (poD_len _))) | (apply Wl.storeAll;exact rfl;exact rfl;(focus repeat constructor);(first | exact ptC_len _ _ _ | exact poC_len _ _ _ | exact poD_len _);(first | exact rfl | exact ptC_len _ _ _ | exact poC_len _ _ _ | exact poD_len _);(first | exact ptC_one _ _ _ | exact poC_one _ _ _ | exact poD_one _)) | (apply Wl.callQ (f := 64);exact rfl;(focus repeat constructor);(intro wq hq;exact hq.q (fZero _ wq))) | (apply Gt.outC';exact rfl;infer_instance;exact rfl;(focus repeat constructor);(first | exact LSub.whole (ptC_len _ _ _) | exact LSub.whole (poC_len _ _ _) | exact LSub.whole (poD_len _));intro w' hp) | refine Wl.move rfl rfl ?_ | refine Wl.assign rfl rfl ?_ | refine Wl.nilCheck rfl rfl ?_ | refine Wl.fieldAddr0 rfl rfl ?_ | refine Wl.fieldAddrZ rfl rfl ?_ | (apply Wl.boxA;exact rfl;exact rfl;intro c hc ho) | (apply Wl.alloc;exact rfl;intro c hc ho) | apply Wl.nil | apply St.seq | apply St.region | (apply St.condT;exact rfl;(with_reducible first | rfl | assumption | decide)) | apply St.ret | apply Gt.next | apply Gt.thenRet
  rw [jdbl_zero hz]
  exact ⟨rfl,hp.drop (by simp;omega)⟩
 ·have hd : decide (z = 0) = false := decide_eq_false hz
  obtain ⟨zz,h_zz⟩ : ∃ q_ : Ec.F,q_ = z * z := ⟨_,rfl⟩
  obtain ⟨yy,h_yy⟩ : ∃ q_ : Ec.F,q_ = y * y := ⟨_,rfl⟩
  obtain ⟨s0,h_s0⟩ : ∃ q_ : Ec.F,q_ = x * yy := ⟨_,rfl⟩
  obtain ⟨s1,h_s1⟩ : ∃ q_ : Ec.F,q_ = s0 + s0 := ⟨_,rfl⟩
  obtain ⟨s,h_s⟩ : ∃ q_ : Ec.F,q_ = s1 + s1 := ⟨_,rfl⟩
  obtain ⟨d,h_d⟩ : ∃ q_ : Ec.F,q_ = x - zz := ⟨_,rfl⟩
  obtain ⟨a,h_a⟩ : ∃ q_ : Ec.F,q_ = x + zz := ⟨_,rfl⟩
  obtain ⟨t,h_t⟩ : ∃ q_ : Ec.F,q_ = d * a := ⟨_,rfl⟩
  obtain ⟨m0,h_m0⟩ : ∃ q_ : Ec.F,q_ = t + t := ⟨_,rfl⟩
  obtain ⟨m,h_m⟩ : ∃ q_ : Ec.F,q_ = m0 + t := ⟨_,rfl⟩
  obtain ⟨mm,h_mm⟩ : ∃ q_ : Ec.F,q_ = m * m := ⟨_,rfl⟩
  obtain ⟨ss,h_ss⟩ : ∃ q_ : Ec.F,q_ = s + s := ⟨_,rfl⟩
  obtain ⟨x',h_x'⟩ : ∃ q_ : Ec.F,q_ = mm - ss := ⟨_,rfl⟩
  obtain ⟨e0,h_e0⟩ : ∃ q_ : Ec.F,q_ = yy * yy := ⟨_,rfl⟩
  obtain ⟨e1,h_e1⟩ : ∃ q_ : Ec.F,q_ = e0 + e0 := ⟨_,rfl⟩
  obtain ⟨e2,h_e2⟩ : ∃ q_ : Ec.F,q_ = e1 + e1 := ⟨_,rfl⟩
  obtain ⟨e,h_e⟩ : ∃ q_ : Ec.F,q_ = e2 + e2 := ⟨_,rfl⟩
  obtain ⟨yz,h_yz⟩ : ∃ q_ : Ec.F,q_ = y * z := ⟨_,rfl⟩
  obtain ⟨d2,h_d2⟩ : ∃ q_ : Ec.F,q_ = s - x' := ⟨_,rfl⟩
  obtain ⟨md,h_md⟩ : ∃ q_ : Ec.F,q_ = m * d2 := ⟨_,rfl⟩
  obtain ⟨y',h_y'⟩ : ∃ q_ : Ec.F,q_ = md - e := ⟨_,rfl⟩
  obtain ⟨z',h_z'⟩ : ∃ q_ : Ec.F,q_ = yz + yz := ⟨_,rfl⟩
  repeat' first | (apply St.bagX 14 [];exact mixed;(decide +kernel);kernel_rfl) | (apply St.bagX 13 [];exact mixed;(decide +kernel);kernel_rfl) | (apply St.bagX 8 [];exact mixed;(decide +kernel);kernel_rfl) | (apply St.bagX 11 [];exact mixed;(decide +kernel);kernel_rfl) | (apply St.bagX 16 [];exact mixed;(decide +kernel);kernel_rfl) | apply OpsX.nil | (apply OpsX.b;exact rfl) | (apply OpsX.v;(intro X hX;change Wl [_] _ _ _ _ _ _ _;apply Wl.catX;(focus repeat constructor))) | (apply Gt.endX;exact rfl) | (apply EndX.new;intro c hc ho) | (apply EndX.on;exact rfl) | (apply EndX.off;exact rfl) | (apply EndX.nil';apply Wl.catE;(focus repeat constructor)) | (apply Wl.loadO;exact rfl;exact rfl;exact hV.mod;(repeat (first | exact trivial | exact hX.off (by omega) | refine ⟨by first | assumption | omega | (simp only;omega),?_⟩))) | (apply Wl.loadAH;exact rfl;exact rfl;(focus repeat constructor);(first | exact ptC_x _ _ _ | exact ptC_y _ _ _ | exact ptC_z _ _ _ | exact poC_x _ _ _ | exact poC_y _ _ _ | exact poD_x _ | exact poD_y _ | exact LSub.whole (ptC_len _ _ _) | exact LSub.whole (poC_len _ _ _) | exact LSub.whole (poD_len _))) | (apply Wl.storeAll;exact rfl;exact rfl;(focus repeat constructor);(first | exact ptC_len _ _ _ | exact poC_len _ _ _ | exact poD_len _);(first | exact rfl | exact ptC_len _ _ _ | exact poC_len _ _ _ | exact poD_len _);(first | exact ptC_one _ _ _ | exact poC_one _ _ _ | exact poD_one _)) | (apply Wl.buildPt;exact rfl;(focus ((repeat (first | exact Parts.nil | apply Parts.cons rfl));done))) | (apply Wl.callQ (f := 37);exact rfl;(focus repeat constructor);(intro wq hq;refine (gTimes (hV.val.hp hq (by (repeat (first | exact trivial | exact hX.off (by omega) | refine ⟨by first | assumption | omega | (simp only;omega),?_⟩)))) (by with_reducible assumption)).mono ?_;rintro e wr ⟨rfl,hr⟩;exact ⟨rfl,hq.keep hr⟩)) | (apply Wl.callQ (f := 66);exact rfl;(focus repeat constructor);(intro wq hq;refine (gAdd (hV.val.hp hq (by (repeat (first | exact trivial | exact hX.off (by omega) | refine ⟨by first | assumption | omega | (simp only;omega),?_⟩)))) (by with_reducible assumption)).mono ?_;rintro e wr ⟨rfl,hr⟩;exact ⟨rfl,hq.keep hr⟩)) | (apply Wl.callQ (f := 93);exact rfl;(focus repeat constructor);(intro wq hq;refine (gSub (hV.val.hp hq (by (repeat (first | exact trivial | exact hX.off (by omega) | refine ⟨by first | assumption | omega | (simp only;omega),?_⟩)))) (by with_reducible assumption)).mono ?_;rintro e wr ⟨rfl,hr⟩;exact ⟨rfl,hq.keep hr⟩)) | (apply Wl.callQ (f := 64);exact rfl;(focus repeat constructor);(intro wq hq;exact hq.q (fZero _ wq))) | (apply Gt.outC';exact rfl;infer_instance;exact rfl;(focus repeat constructor);(first | exact LSub.whole (ptC_len _ _ _) | exact LSub.whole (poC_len _ _ _) | exact LSub.whole (poD_len _));intro w' hp) | apply Gt.nextR | (apply St.loopN 600) | (apply StR.step;(repeat (first | apply Clean.nil | (apply Clean.skip;exact rfl) | (apply Clean.keep;exact rfl)))) | (apply Wl.loadW;exact rfl;exact rfl;(focus repeat constructor);exact rfl) | (apply Wl.storeW;exact rfl;exact rfl;(focus repeat constructor);exact rfl;(first | exact cellsN_len _ _ _ | exact rfl)) | (apply Wl.allocN;exact rfl;(first | exact z8 | exact z16 | exact z17 | exact z33 | exact z10);intro c hc ho) | refine Wl.move rfl rfl ?_ | refine Wl.assign rfl rfl ?_ | refine Wl.nilCheck rfl rfl ?_ | refine Wl.fieldAddr0 rfl rfl ?_ | refine Wl.fieldAddrZ rfl rfl ?_ | refine Wl.lss rfl rfl rfl ?_ | (refine Wl.addI rfl rfl rfl ?_ ?_;constructor <;> omega) | (apply Wl.boxA;exact rfl;exact rfl;intro c hc ho) | (apply Wl.alloc;exact rfl;intro c hc ho) | apply Wl.nil | apply St.seq | apply St.block | apply St.region | (apply St.condT;exact rfl;(with_reducible first | rfl | assumption | decide)) | (apply St.condF;exact rfl;(with_reducible first | rfl | assumption | decide)) | apply St.ret | apply St.skip | apply St.exit | apply Gt.next | apply Gt.thenExit | apply Gt.inNormal | apply Gt.inExit
  rw [jdbl_nz hz]
  subst_vars
  exact ⟨rfl,hp.drop (by simp;omega)⟩
end Go.Proofs.YtmjlceimjlabpaaDoor
end
section
namespace Go.Proofs.YtmjlceimjlabpaaDoor
open Go.RowKit Go.Pt
attribute [local irreducible] Prim.P256
theorem jadd_l {p q : Ec.F × Ec.F × Ec.F} (h : p.2.2 = 0) : Ec.jadd p q = q := by unfold Ec.jadd;rw [if_pos h]
theorem jadd_r {p q : Ec.F × Ec.F × Ec.F} (h : ¬ p.2.2 = 0) (h' : q.2.2 = 0) : Ec.jadd p q = p := by unfold Ec.jadd;rw [if_neg h,if_pos h']
theorem jadd_nz {x1 y1 z1 x2 y2 z2 : Ec.F} (h1 : ¬ z1 = 0) (h2 : ¬ z2 = 0) : Ec.jadd (x1,y1,z1) (x2,y2,z2) = (let az := z1 * z1;let bz := z2 * z2
 let u := x1 * bz;let v := x2 * az
 let s := y1 * (bz * z2);let t := y2 * (az * z1)
 let h := v - u;let r := t - s
 if h = 0 then (if r = 0 then Ec.jdbl (x1,y1,z1) else (1,1,0)) else
 let hh := h * h
 let hhh := hh * h;let w := u * hh
 let x := r * r - hhh - (w + w)
 (x,r * (w - x) - s * hhh,h * (z1 * z2))) := by unfold Ec.jadd;rw [if_neg h1,if_neg h2]
set_option maxHeartbeats 16000000 in
theorem curAdd (c bm : Nat) (p q : Ec.F × Ec.F × Ec.F) (w : World) (hV : CurV w c bm) : Calls Tryd.prog 73 #[mp c,ptV p,ptV q] w fun e w' => e = .returned (ptV (Ec.jadd p q)) ∧ Hp w [] w' := by
 obtain ⟨hc,hb⟩ := hV.lt
 obtain ⟨x1,y1,z1⟩ := p
 obtain ⟨x2,y2,z2⟩ := q
 refine enter (args := [_,_,_]) (Γ := [(0,_),(1,_),(2,_)]) Tryd.func73 Tryd.ntmps73 rfl (of_decide_eq_true rfl) (.cons rfl (.cons rfl (.cons rfl .nil))) ?_
 by_cases hz1 : z1 = 0
 ·have hd1 : decide (z1 = 0) = true := decide_eq_true hz1
  repeat' first | (apply Wl.loadO;exact rfl;exact rfl;exact hV.mod;(repeat (first | exact trivial | exact hX.off (by omega) | refine ⟨by first | assumption | omega | (simp only;omega),?_⟩))) | (apply Wl.loadAH;exact rfl;exact rfl;(focus repeat constructor);(first | exact ptC_x _ _ _ | exact ptC_y _ _ _ | exact ptC_z _ _ _ | exact poC_x _ _ _ | exact poC_y _ _ _ | exact poD_x _ | exact poD_y _ | exact LSub.whole (ptC_len _ _ _) | exact LSub.whole (poC_len _ _ _) | exact LSub.whole (poD_len _))) | (apply Wl.storeAll;exact rfl;exact rfl;(focus repeat constructor);(first | exact ptC_len _ _ _ | exact poC_len _ _ _ | exact poD_len _);(first | exact rfl | exact ptC_len _ _ _ | exact poC_len _ _ _ | exact poD_len _);(first | exact ptC_one _ _ _ | exact poC_one _ _ _ | exact poD_one _)) | (apply Wl.callQ (f := 64);exact rfl;(focus repeat constructor);(intro wq hq;exact hq.q (fZero _ wq))) | (apply Gt.outC';exact rfl;infer_instance;exact rfl;(focus repeat constructor);(first | exact LSub.whole (ptC_len _ _ _) | exact LSub.whole (poC_len _ _ _) | exact LSub.whole (poD_len _));intro w' hp) | refine Wl.move rfl rfl ?_ | refine Wl.assign rfl rfl ?_ | refine Wl.nilCheck rfl rfl ?_ | refine Wl.fieldAddr0 rfl rfl ?_ | refine Wl.fieldAddrZ rfl rfl ?_ | (apply Wl.boxA;exact rfl;exact rfl;intro c hc ho) | (apply Wl.alloc;exact rfl;intro c hc ho) | apply Wl.nil | apply St.seq | apply St.block | apply St.region | (apply St.condT;exact rfl;(with_reducible first | rfl | assumption | decide)) | apply St.ret | apply Gt.next | apply Gt.thenRet | apply Gt.inRet
  rw [jadd_l hz1]
  exact ⟨rfl,hp.drop (by simp;omega)⟩
 have hd1 : decide (z1 = 0) = false := decide_eq_false hz1
 by_cases hz2 : z2 = 0
 ·have hd2 : decide (z2 = 0) = true := decide_eq_true hz2
  repeat' first | (apply Wl.loadO;exact rfl;exact rfl;exact hV.mod;(repeat (first | exact trivial | exact hX.off (by omega) | refine ⟨by first | assumption | omega | (simp only;omega),?_⟩))) | (apply Wl.loadAH;exact rfl;exact rfl;(focus repeat constructor);(first | exact ptC_x _ _ _ | exact ptC_y _ _ _ | exact ptC_z _ _ _ | exact poC_x _ _ _ | exact poC_y _ _ _ | exact poD_x _ | exact poD_y _ | exact LSub.whole (ptC_len _ _ _) | exact LSub.whole (poC_len _ _ _) | exact LSub.whole (poD_len _))) | (apply Wl.storeAll;exact rfl;exact rfl;(focus repeat constructor);(first | exact ptC_len _ _ _ | exact poC_len _ _ _ | exact poD_len _);(first | exact rfl | exact ptC_len _ _ _ | exact poC_len _ _ _ | exact poD_len _);(first | exact ptC_one _ _ _ | exact poC_one _ _ _ | exact poD_one _)) | (apply Wl.callQ (f := 64);exact rfl;(focus repeat constructor);(intro wq hq;exact hq.q (fZero _ wq))) | (apply Gt.outC';exact rfl;infer_instance;exact rfl;(focus repeat constructor);(first | exact LSub.whole (ptC_len _ _ _) | exact LSub.whole (poC_len _ _ _) | exact LSub.whole (poD_len _));intro w' hp) | refine Wl.move rfl rfl ?_ | refine Wl.assign rfl rfl ?_ | refine Wl.nilCheck rfl rfl ?_ | refine Wl.fieldAddr0 rfl rfl ?_ | refine Wl.fieldAddrZ rfl rfl ?_ | (apply Wl.boxA;exact rfl;exact rfl;intro c hc ho) | (apply Wl.alloc;exact rfl;intro c hc ho) | apply Wl.nil | apply St.seq | apply St.block | apply St.region | (apply St.condT;exact rfl;(with_reducible first | rfl | assumption | decide)) | (apply St.condF;exact rfl;(with_reducible first | rfl | assumption | decide)) | apply St.ret | apply Gt.next | apply Gt.thenRet | apply Gt.inRet
  rw [jadd_r hz1 hz2]
  exact ⟨rfl,hp.drop (by simp;omega)⟩
 have hd2 : decide (z2 = 0) = false := decide_eq_false hz2
 obtain ⟨az,h_az⟩ : ∃ q_ : Ec.F,q_ = z1 * z1 := ⟨_,rfl⟩
 obtain ⟨bz,h_bz⟩ : ∃ q_ : Ec.F,q_ = z2 * z2 := ⟨_,rfl⟩
 obtain ⟨u,h_u⟩ : ∃ q_ : Ec.F,q_ = x1 * bz := ⟨_,rfl⟩
 obtain ⟨v,h_v⟩ : ∃ q_ : Ec.F,q_ = x2 * az := ⟨_,rfl⟩
 obtain ⟨b3,h_b3⟩ : ∃ q_ : Ec.F,q_ = bz * z2 := ⟨_,rfl⟩
 obtain ⟨s,h_s⟩ : ∃ q_ : Ec.F,q_ = y1 * b3 := ⟨_,rfl⟩
 obtain ⟨a3,h_a3⟩ : ∃ q_ : Ec.F,q_ = az * z1 := ⟨_,rfl⟩
 obtain ⟨t,h_t⟩ : ∃ q_ : Ec.F,q_ = y2 * a3 := ⟨_,rfl⟩
 obtain ⟨h,h_h⟩ : ∃ q_ : Ec.F,q_ = v - u := ⟨_,rfl⟩
 obtain ⟨r,h_r⟩ : ∃ q_ : Ec.F,q_ = t - s := ⟨_,rfl⟩
 rw [jadd_nz hz1 hz2]
 simp only
 rw [← h_az,← h_bz,← h_u,← h_v,← h_b3,← h_s,← h_a3,← h_t,← h_h,← h_r]
 by_cases hh0 : h = 0
 ·have hd3 : decide (h = 0) = true := decide_eq_true hh0
  rw [if_pos hh0]
  by_cases hr0 : r = 0
  ·have hd4 : decide (r = 0) = true := decide_eq_true hr0
   rw [if_pos hr0]
   repeat' first | (apply St.bagX 14 [];exact mixed;(decide +kernel);kernel_rfl) | (apply St.bagX 12 [];exact mixed;(decide +kernel);kernel_rfl) | (apply St.bagX 20 [];exact mixed;(decide +kernel);kernel_rfl) | (apply St.bagX 10 [];exact mixed;(decide +kernel);kernel_rfl) | apply OpsX.nil | (apply OpsX.b;exact rfl) | (apply OpsX.v;(intro X hX;change Wl [_] _ _ _ _ _ _ _;apply Wl.catX;(focus repeat constructor))) | (apply Gt.endX;exact rfl) | (apply EndX.new;intro c hc ho) | (apply EndX.on;exact rfl) | (apply EndX.off;exact rfl) | (apply EndX.nil';apply Wl.catE;(focus repeat constructor)) | (apply Wl.loadO;exact rfl;exact rfl;exact hV.mod;(repeat (first | exact trivial | exact hX.off (by omega) | refine ⟨by first | assumption | omega | (simp only;omega),?_⟩))) | (apply Wl.loadAH;exact rfl;exact rfl;(focus repeat constructor);(first | exact ptC_x _ _ _ | exact ptC_y _ _ _ | exact ptC_z _ _ _ | exact poC_x _ _ _ | exact poC_y _ _ _ | exact poD_x _ | exact poD_y _ | exact LSub.whole (ptC_len _ _ _) | exact LSub.whole (poC_len _ _ _) | exact LSub.whole (poD_len _))) | (apply Wl.storeAll;exact rfl;exact rfl;(focus repeat constructor);(first | exact ptC_len _ _ _ | exact poC_len _ _ _ | exact poD_len _);(first | exact rfl | exact ptC_len _ _ _ | exact poC_len _ _ _ | exact poD_len _);(first | exact ptC_one _ _ _ | exact poC_one _ _ _ | exact poD_one _)) | (apply Wl.callQ (f := 37);exact rfl;(focus repeat constructor);(intro wq hq;refine (gTimes (hV.val.hp hq (by (repeat (first | exact trivial | exact hX.off (by omega) | refine ⟨by first | assumption | omega | (simp only;omega),?_⟩)))) (by with_reducible assumption)).mono ?_;rintro e wr ⟨rfl,hr⟩;exact ⟨rfl,hq.keep hr⟩)) | (apply Wl.callQ (f := 93);exact rfl;(focus repeat constructor);(intro wq hq;refine (gSub (hV.val.hp hq (by (repeat (first | exact trivial | exact hX.off (by omega) | refine ⟨by first | assumption | omega | (simp only;omega),?_⟩)))) (by with_reducible assumption)).mono ?_;rintro e wr ⟨rfl,hr⟩;exact ⟨rfl,hq.keep hr⟩)) | (apply Wl.callQ (f := 64);exact rfl;(focus repeat constructor);(intro wq hq;exact hq.q (fZero _ wq))) | (apply Gt.outC';exact rfl;infer_instance;exact rfl;(focus repeat constructor);(first | exact LSub.whole (ptC_len _ _ _) | exact LSub.whole (poC_len _ _ _) | exact LSub.whole (poD_len _));intro w' hp) | (apply Wl.callQ (f := 75);exact rfl;(focus repeat constructor);(intro wq hq;refine (curDbl _ _ (_,_,_) wq (hV.hp hq (by (repeat (first | exact trivial | exact hX.off (by omega) | refine ⟨by first | assumption | omega | (simp only;omega),?_⟩))) (by (repeat (first | exact trivial | exact hX.off (by omega) | refine ⟨by first | assumption | omega | (simp only;omega),?_⟩))))).mono ?_;rintro e wr ⟨rfl,hr⟩;exact ⟨rfl,hq.keep hr⟩)) | (apply Wl.loadW;exact rfl;exact rfl;(focus repeat constructor);exact rfl) | (apply Wl.storeW;exact rfl;exact rfl;(focus repeat constructor);exact rfl;(first | exact cellsN_len _ _ _ | exact rfl)) | refine Wl.move rfl rfl ?_ | refine Wl.assign rfl rfl ?_ | refine Wl.nilCheck rfl rfl ?_ | refine Wl.fieldAddr0 rfl rfl ?_ | refine Wl.fieldAddrZ rfl rfl ?_ | (apply Wl.boxA;exact rfl;exact rfl;intro c hc ho) | (apply Wl.alloc;exact rfl;intro c hc ho) | apply Wl.nil | apply St.seq | apply St.block | apply St.region | (apply St.condT;exact rfl;(with_reducible first | rfl | assumption | decide)) | (apply St.condF;exact rfl;(with_reducible first | rfl | assumption | decide)) | apply St.ret | apply St.skip | apply Gt.next | apply Gt.thenRet | apply Gt.inNormal
   exact ⟨rfl,hp.drop (by simp;omega)⟩
  ·have hd4 : decide (r = 0) = false := decide_eq_false hr0
   rw [if_neg hr0]
   repeat' first | (apply St.bagX 14 [];exact mixed;(decide +kernel);kernel_rfl) | (apply St.bagX 12 [];exact mixed;(decide +kernel);kernel_rfl) | (apply St.bagX 20 [];exact mixed;(decide +kernel);kernel_rfl) | (apply St.bagX 10 [];exact mixed;(decide +kernel);kernel_rfl) | apply OpsX.nil | (apply OpsX.b;exact rfl) | (apply OpsX.v;(intro X hX;change Wl [_] _ _ _ _ _ _ _;apply Wl.catX;(focus repeat constructor))) | (apply Gt.endX;exact rfl) | (apply EndX.new;intro c hc ho) | (apply EndX.on;exact rfl) | (apply EndX.off;exact rfl) | (apply EndX.nil';apply Wl.catE;(focus repeat constructor)) | (apply Wl.loadO;exact rfl;exact rfl;exact hV.mod;(repeat (first | exact trivial | exact hX.off (by omega) | refine ⟨by first | assumption | omega | (simp only;omega),?_⟩))) | (apply Wl.loadAH;exact rfl;exact rfl;(focus repeat constructor);(first | exact ptC_x _ _ _ | exact ptC_y _ _ _ | exact ptC_z _ _ _ | exact poC_x _ _ _ | exact poC_y _ _ _ | exact poD_x _ | exact poD_y _ | exact LSub.whole (ptC_len _ _ _) | exact LSub.whole (poC_len _ _ _) | exact LSub.whole (poD_len _))) | (apply Wl.storeAll;exact rfl;exact rfl;(focus repeat constructor);(first | exact ptC_len _ _ _ | exact poC_len _ _ _ | exact poD_len _);(first | exact rfl | exact ptC_len _ _ _ | exact poC_len _ _ _ | exact poD_len _);(first | exact ptC_one _ _ _ | exact poC_one _ _ _ | exact poD_one _)) | (apply Wl.buildPt;exact rfl;(focus ((repeat (first | exact Parts.nil | apply Parts.cons rfl));done))) | (apply Wl.callQ (f := 37);exact rfl;(focus repeat constructor);(intro wq hq;refine (gTimes (hV.val.hp hq (by (repeat (first | exact trivial | exact hX.off (by omega) | refine ⟨by first | assumption | omega | (simp only;omega),?_⟩)))) (by with_reducible assumption)).mono ?_;rintro e wr ⟨rfl,hr⟩;exact ⟨rfl,hq.keep hr⟩)) | (apply Wl.callQ (f := 93);exact rfl;(focus repeat constructor);(intro wq hq;refine (gSub (hV.val.hp hq (by (repeat (first | exact trivial | exact hX.off (by omega) | refine ⟨by first | assumption | omega | (simp only;omega),?_⟩)))) (by with_reducible assumption)).mono ?_;rintro e wr ⟨rfl,hr⟩;exact ⟨rfl,hq.keep hr⟩)) | (apply Wl.callQ (f := 74);exact rfl;(focus repeat constructor);(intro wq hq;refine (fOne (hV.val.hp hq (by (repeat (first | exact trivial | exact hX.off (by omega) | refine ⟨by first | assumption | omega | (simp only;omega),?_⟩))))).mono ?_;rintro e wr ⟨rfl,hr⟩;exact ⟨rfl,hq.keep hr⟩)) | (apply Wl.callQ (f := 64);exact rfl;(focus repeat constructor);(intro wq hq;exact hq.q (fZero _ wq))) | (apply Gt.outC';exact rfl;infer_instance;exact rfl;(focus repeat constructor);(first | exact LSub.whole (ptC_len _ _ _) | exact LSub.whole (poC_len _ _ _) | exact LSub.whole (poD_len _));intro w' hp) | (apply Wl.loadW;exact rfl;exact rfl;(focus repeat constructor);exact rfl) | (apply Wl.storeW;exact rfl;exact rfl;(focus repeat constructor);exact rfl;(first | exact cellsN_len _ _ _ | exact rfl)) | (apply Wl.buildN;exact rfl;(repeat (first | exact Parts.nil | apply Parts.cons rfl));(repeat (first | apply Fills.nil | (apply Fills.one;exact rfl;exact rfl;(repeat (first | apply LSet.z | apply LSet.s))) | (apply Fills.agg;exact rfl;exact rfl;(repeat (first | apply LPut.s | apply LPut.z | apply LOver.nil | apply LOver.cons)))));(first | exact one8 | exact zero8 | exact two8 | exact one16)) | refine Wl.move rfl rfl ?_ | refine Wl.assign rfl rfl ?_ | refine Wl.nilCheck rfl rfl ?_ | refine Wl.fieldAddr0 rfl rfl ?_ | refine Wl.fieldAddrZ rfl rfl ?_ | (apply Wl.boxA;exact rfl;exact rfl;intro c hc ho) | (apply Wl.alloc;exact rfl;intro c hc ho) | apply Wl.nil | apply St.seq | apply St.block | apply St.region | (apply St.condT;exact rfl;(with_reducible first | rfl | assumption | decide)) | (apply St.condF;exact rfl;(with_reducible first | rfl | assumption | decide)) | apply St.ret | apply St.skip | apply Gt.next | apply Gt.thenRet | apply Gt.inNormal
   refine ⟨?_,hp.drop (by simp;omega)⟩
   unfold ptV ptF
   rw [ptC0]
 ·have hd3 : decide (h = 0) = false := decide_eq_false hh0
  rw [if_neg hh0]
  obtain ⟨hh,h_hh⟩ : ∃ q_ : Ec.F,q_ = h * h := ⟨_,rfl⟩
  obtain ⟨hhh,h_hhh⟩ : ∃ q_ : Ec.F,q_ = hh * h := ⟨_,rfl⟩
  obtain ⟨wv,h_wv⟩ : ∃ q_ : Ec.F,q_ = u * hh := ⟨_,rfl⟩
  obtain ⟨rr,h_rr⟩ : ∃ q_ : Ec.F,q_ = r * r := ⟨_,rfl⟩
  obtain ⟨rh,h_rh⟩ : ∃ q_ : Ec.F,q_ = rr - hhh := ⟨_,rfl⟩
  obtain ⟨ww,h_ww⟩ : ∃ q_ : Ec.F,q_ = wv + wv := ⟨_,rfl⟩
  obtain ⟨x3,h_x3⟩ : ∃ q_ : Ec.F,q_ = rh - ww := ⟨_,rfl⟩
  obtain ⟨wx,h_wx⟩ : ∃ q_ : Ec.F,q_ = wv - x3 := ⟨_,rfl⟩
  obtain ⟨rw1,h_rw1⟩ : ∃ q_ : Ec.F,q_ = r * wx := ⟨_,rfl⟩
  obtain ⟨sh,h_sh⟩ : ∃ q_ : Ec.F,q_ = s * hhh := ⟨_,rfl⟩
  obtain ⟨y3,h_y3⟩ : ∃ q_ : Ec.F,q_ = rw1 - sh := ⟨_,rfl⟩
  obtain ⟨zz,h_zz⟩ : ∃ q_ : Ec.F,q_ = z1 * z2 := ⟨_,rfl⟩
  obtain ⟨z3,h_z3⟩ : ∃ q_ : Ec.F,q_ = h * zz := ⟨_,rfl⟩
  rw [← h_hh,← h_hhh,← h_wv,← h_rr,← h_rh,← h_ww,← h_x3,← h_wx,← h_rw1,← h_sh,← h_y3,← h_zz,← h_z3]
  repeat' first | (apply St.bagX 14 [];exact mixed;(decide +kernel);kernel_rfl) | (apply St.bagX 12 [];exact mixed;(decide +kernel);kernel_rfl) | (apply St.bagX 20 [];exact mixed;(decide +kernel);kernel_rfl) | (apply St.bagX 10 [];exact mixed;(decide +kernel);kernel_rfl) | (apply St.bagX 24 [];exact mixed;(decide +kernel);kernel_rfl) | apply OpsX.nil | (apply OpsX.b;exact rfl) | (apply OpsX.v;(intro X hX;change Wl [_] _ _ _ _ _ _ _;apply Wl.catX;(focus repeat constructor))) | (apply Gt.endX;exact rfl) | (apply EndX.new;intro c hc ho) | (apply EndX.on;exact rfl) | (apply EndX.off;exact rfl) | (apply EndX.nil';apply Wl.catE;(focus repeat constructor)) | (apply Wl.loadO;exact rfl;exact rfl;exact hV.mod;(repeat (first | exact trivial | exact hX.off (by omega) | refine ⟨by first | assumption | omega | (simp only;omega),?_⟩))) | (apply Wl.loadAH;exact rfl;exact rfl;(focus repeat constructor);(first | exact ptC_x _ _ _ | exact ptC_y _ _ _ | exact ptC_z _ _ _ | exact poC_x _ _ _ | exact poC_y _ _ _ | exact poD_x _ | exact poD_y _ | exact LSub.whole (ptC_len _ _ _) | exact LSub.whole (poC_len _ _ _) | exact LSub.whole (poD_len _))) | (apply Wl.storeAll;exact rfl;exact rfl;(focus repeat constructor);(first | exact ptC_len _ _ _ | exact poC_len _ _ _ | exact poD_len _);(first | exact rfl | exact ptC_len _ _ _ | exact poC_len _ _ _ | exact poD_len _);(first | exact ptC_one _ _ _ | exact poC_one _ _ _ | exact poD_one _)) | (apply Wl.buildPt;exact rfl;(focus ((repeat (first | exact Parts.nil | apply Parts.cons rfl));done))) | (apply Wl.callQ (f := 37);exact rfl;(focus repeat constructor);(intro wq hq;refine (gTimes (hV.val.hp hq (by (repeat (first | exact trivial | exact hX.off (by omega) | refine ⟨by first | assumption | omega | (simp only;omega),?_⟩)))) (by with_reducible assumption)).mono ?_;rintro e wr ⟨rfl,hr⟩;exact ⟨rfl,hq.keep hr⟩)) | (apply Wl.callQ (f := 66);exact rfl;(focus repeat constructor);(intro wq hq;refine (gAdd (hV.val.hp hq (by (repeat (first | exact trivial | exact hX.off (by omega) | refine ⟨by first | assumption | omega | (simp only;omega),?_⟩)))) (by with_reducible assumption)).mono ?_;rintro e wr ⟨rfl,hr⟩;exact ⟨rfl,hq.keep hr⟩)) | (apply Wl.callQ (f := 93);exact rfl;(focus repeat constructor);(intro wq hq;refine (gSub (hV.val.hp hq (by (repeat (first | exact trivial | exact hX.off (by omega) | refine ⟨by first | assumption | omega | (simp only;omega),?_⟩)))) (by with_reducible assumption)).mono ?_;rintro e wr ⟨rfl,hr⟩;exact ⟨rfl,hq.keep hr⟩)) | (apply Wl.callQ (f := 64);exact rfl;(focus repeat constructor);(intro wq hq;exact hq.q (fZero _ wq))) | (apply Gt.outC';exact rfl;infer_instance;exact rfl;(focus repeat constructor);(first | exact LSub.whole (ptC_len _ _ _) | exact LSub.whole (poC_len _ _ _) | exact LSub.whole (poD_len _));intro w' hp) | (apply Wl.loadW;exact rfl;exact rfl;(focus repeat constructor);exact rfl) | (apply Wl.storeW;exact rfl;exact rfl;(focus repeat constructor);exact rfl;(first | exact cellsN_len _ _ _ | exact rfl)) | (apply Wl.allocN;exact rfl;(first | exact z8 | exact z16 | exact z17 | exact z33 | exact z10);intro c hc ho) | refine Wl.move rfl rfl ?_ | refine Wl.assign rfl rfl ?_ | refine Wl.nilCheck rfl rfl ?_ | refine Wl.fieldAddr0 rfl rfl ?_ | refine Wl.fieldAddrZ rfl rfl ?_ | (apply Wl.boxA;exact rfl;exact rfl;intro c hc ho) | (apply Wl.alloc;exact rfl;intro c hc ho) | apply Wl.nil | apply St.seq | apply St.block | apply St.region | (apply St.condF;exact rfl;(with_reducible first | rfl | assumption | decide)) | apply St.ret | apply St.skip | apply Gt.next | apply Gt.inNormal
  exact ⟨rfl,hp.drop (by simp;omega)⟩
end Go.Proofs.YtmjlceimjlabpaaDoor
end
section
namespace Go.Proofs.YtmjlceimjlabpaaDoor
open Go.RowKit Go.Pt
attribute [local irreducible] Prim.P256
set_option maxHeartbeats 8000000 in
theorem curOut (c bm : Nat) (p : Ec.F × Ec.F × Ec.F) (w : World) (hV : CurV w c bm) : Calls Tryd.prog 77 #[mp c,ptV p] w fun e w' => e = .returned (poV (Ec.jpt p)) ∧ Hp w [] w' := by
 obtain ⟨hc,hb⟩ := hV.lt
 obtain ⟨x,y,z⟩ := p
 refine enter (args := [_,_]) (Γ := [(0,_),(1,_)]) Tryd.func77 Tryd.ntmps77 rfl (of_decide_eq_true rfl) (.cons rfl (.cons rfl .nil)) ?_
 unfold Ec.jpt Ec.jac
 by_cases hz : z = 0
 ·have hd : decide (z = 0) = true := decide_eq_true hz
  repeat' first | (apply Wl.loadAH;exact rfl;exact rfl;(focus repeat constructor);(first | exact ptC_x _ _ _ | exact ptC_y _ _ _ | exact ptC_z _ _ _ | exact poC_x _ _ _ | exact poC_y _ _ _ | exact poD_x _ | exact poD_y _ | exact LSub.whole (ptC_len _ _ _) | exact LSub.whole (poC_len _ _ _) | exact LSub.whole (poD_len _))) | (apply Wl.storeAll;exact rfl;exact rfl;(focus repeat constructor);(first | exact ptC_len _ _ _ | exact poC_len _ _ _ | exact poD_len _);(first | exact rfl | exact ptC_len _ _ _ | exact poC_len _ _ _ | exact poD_len _);(first | exact ptC_one _ _ _ | exact poC_one _ _ _ | exact poD_one _)) | (apply Wl.buildPn;exact rfl;(focus ((repeat (first | exact Parts.nil | apply Parts.cons rfl));done))) | (apply Wl.callQ (f := 64);exact rfl;(focus repeat constructor);(intro wq hq;exact hq.q (fZero _ wq))) | (apply Gt.outC';exact rfl;infer_instance;exact rfl;(focus repeat constructor);(first | exact LSub.whole (ptC_len _ _ _) | exact LSub.whole (poC_len _ _ _) | exact LSub.whole (poD_len _));intro w' hp) | refine Wl.fieldAddrZ rfl rfl ?_ | (apply Wl.boxA;exact rfl;exact rfl;intro c hc ho) | (apply Wl.alloc;exact rfl;intro c hc ho) | apply Wl.nil | apply St.seq | apply St.region | (apply St.condT;exact rfl;(with_reducible first | rfl | assumption | decide)) | apply St.ret | apply Gt.next | apply Gt.thenRet
  rw [if_pos hz,poV,poD_none]
  exact ⟨rfl,hp.drop (by simp;omega)⟩
 ·have hd : decide (z = 0) = false := decide_eq_false hz
  obtain ⟨i,h_i⟩ : ∃ q_ : Ec.F,q_ = Ec.finv z := ⟨_,rfl⟩
  obtain ⟨ii,h_ii⟩ : ∃ q_ : Ec.F,q_ = i * i := ⟨_,rfl⟩
  obtain ⟨xi,h_xi⟩ : ∃ q_ : Ec.F,q_ = x * ii := ⟨_,rfl⟩
  obtain ⟨i3,h_i3⟩ : ∃ q_ : Ec.F,q_ = ii * i := ⟨_,rfl⟩
  obtain ⟨yi,h_yi⟩ : ∃ q_ : Ec.F,q_ = y * i3 := ⟨_,rfl⟩
  repeat' first | (apply St.bagX 8 [];exact mixed;(decide +kernel);kernel_rfl) | (apply St.bagX 33 [];exact mixed;(decide +kernel);kernel_rfl) | apply OpsX.nil | (apply OpsX.b;exact rfl) | (apply OpsX.v;(intro X hX;change Wl [_] _ _ _ _ _ _ _;apply Wl.catX;(focus repeat constructor))) | (apply Gt.endX;exact rfl) | (apply EndX.new;intro c hc ho) | (apply EndX.on;exact rfl) | (apply EndX.off;exact rfl) | (apply EndX.nil';apply Wl.catE;(focus repeat constructor)) | (apply Wl.loadO;exact rfl;exact rfl;exact hV.mod;(repeat (first | exact trivial | exact hX.off (by omega) | refine ⟨by first | assumption | omega | (simp only;omega),?_⟩))) | (apply Wl.loadAH;exact rfl;exact rfl;(focus repeat constructor);(first | exact ptC_x _ _ _ | exact ptC_y _ _ _ | exact ptC_z _ _ _ | exact poC_x _ _ _ | exact poC_y _ _ _ | exact poD_x _ | exact poD_y _ | exact LSub.whole (ptC_len _ _ _) | exact LSub.whole (poC_len _ _ _) | exact LSub.whole (poD_len _))) | (apply Wl.storeAll;exact rfl;exact rfl;(focus repeat constructor);(first | exact ptC_len _ _ _ | exact poC_len _ _ _ | exact poD_len _);(first | exact rfl | exact ptC_len _ _ _ | exact poC_len _ _ _ | exact poD_len _);(first | exact ptC_one _ _ _ | exact poC_one _ _ _ | exact poD_one _)) | (apply Wl.buildPo;exact rfl;(focus ((repeat (first | exact Parts.nil | apply Parts.cons rfl));done))) | (apply Wl.callQ (f := 37);exact rfl;(focus repeat constructor);(intro wq hq;refine (gTimes (hV.val.hp hq (by (repeat (first | exact trivial | exact hX.off (by omega) | refine ⟨by first | assumption | omega | (simp only;omega),?_⟩)))) (by with_reducible assumption)).mono ?_;rintro e wr ⟨rfl,hr⟩;exact ⟨rfl,hq.keep hr⟩)) | (apply Wl.callQ (f := 36);exact rfl;(focus repeat constructor);(intro wq hq;refine (fOut (hV.val.hp hq (by (repeat (first | exact trivial | exact hX.off (by omega) | refine ⟨by first | assumption | omega | (simp only;omega),?_⟩)))) _).mono ?_;rintro e wr ⟨rfl,hr⟩;exact ⟨rfl,hq.keep hr⟩)) | (apply Wl.callQ (f := 34);exact rfl;(focus repeat constructor);(intro wq hq;refine (gInv (hV.val.hp hq (by (repeat (first | exact trivial | exact hX.off (by omega) | refine ⟨by first | assumption | omega | (simp only;omega),?_⟩)))) (by with_reducible assumption)).mono ?_;rintro e wr ⟨rfl,hr⟩;exact ⟨rfl,hq.keep hr⟩)) | (apply Wl.callQ (f := 64);exact rfl;(focus repeat constructor);(intro wq hq;exact hq.q (fZero _ wq))) | (apply Gt.outC';exact rfl;infer_instance;exact rfl;(focus repeat constructor);(first | exact LSub.whole (ptC_len _ _ _) | exact LSub.whole (poC_len _ _ _) | exact LSub.whole (poD_len _));intro w' hp) | (apply Wl.loadW;exact rfl;exact rfl;(focus repeat constructor);exact rfl) | (apply Wl.storeW;exact rfl;exact rfl;(focus repeat constructor);exact rfl;(first | exact cellsN_len _ _ _ | exact rfl)) | refine Wl.move rfl rfl ?_ | refine Wl.nilCheck rfl rfl ?_ | refine Wl.fieldAddr0 rfl rfl ?_ | refine Wl.fieldAddrZ rfl rfl ?_ | (apply Wl.boxA;exact rfl;exact rfl;intro c hc ho) | (apply Wl.alloc;exact rfl;intro c hc ho) | apply Wl.nil | apply St.seq | apply St.region | (apply St.condF;exact rfl;(with_reducible first | rfl | assumption | decide)) | apply St.ret | apply St.skip | apply Gt.next
  rw [if_neg hz]
  simp only
  rw [← h_i,← h_ii,← h_xi,← h_i3,← h_yi,poV,poD_some]
  exact ⟨rfl,hp.drop (by simp;omega)⟩
def curG : Ec.F × Ec.F := (nF 0x6B17D1F2E12C4247F8BCE6E563A440F277037D812DEB33A0F4A13945D898C296,nF 0x4FE342E2FE1A7F9B8EE7EB4A7C0F9E162BCE33576B315ECECBB6406837BF51F5)
theorem gx8 : [Value.int .u32 3633889942,.int .u32 4104206661,.int .u32 770388896,.int .u32 1996717441,.int .u32 1671708914,.int .u32 4173129445,.int .u32 3777774151,.int .u32 1796723186] = cellsN .u32 8 (dg W32 curG.1.val) := by kernel_rfl
theorem gy8 : [Value.int .u32 935285237,.int .u32 3417718888,.int .u32 1798397646,.int .u32 734933847,.int .u32 2081398294,.int .u32 2397563722,.int .u32 4263149467,.int .u32 1340293858] = cellsN .u32 8 (dg W32 curG.2.val) := by kernel_rfl
theorem b8 : [Value.int .u32 668098635,.int .u32 1003371582,.int .u32 3428036854,.int .u32 1696401072,.int .u32 1989707452,.int .u32 3018571093,.int .u32 2855965671,.int .u32 1522939352] = cellsN .u32 8 (dg W32 curB.val) := by kernel_rfl
theorem curBase (w : World) : Calls Tryd.prog 40 #[] w fun e w' => e = .returned (poV (some curG)) ∧ Hp w [] w' := by
 refine enter (args := []) (Γ := []) Tryd.func40 Tryd.ntmps40 rfl (of_decide_eq_true rfl) .nil ?_
 repeat' first | (apply Wl.buildN;exact rfl;(repeat (first | exact Parts.nil | apply Parts.cons rfl));(repeat (first | apply Fills.nil | (apply Fills.one;exact rfl;exact rfl;(repeat (first | apply LSet.z | apply LSet.s))) | (apply Fills.agg;exact rfl;exact rfl;(repeat (first | apply LPut.s | apply LPut.z | apply LOver.nil | apply LOver.cons)))));(first | exact gx8 | exact gy8)) | (apply Wl.storeAll;exact rfl;exact rfl;(focus repeat constructor);(first | exact ptC_len _ _ _ | exact poC_len _ _ _ | exact poD_len _);(first | exact rfl | exact ptC_len _ _ _ | exact poC_len _ _ _ | exact poD_len _);(first | exact ptC_one _ _ _ | exact poC_one _ _ _ | exact poD_one _)) | (apply Wl.buildPo;exact rfl;(focus ((repeat (first | exact Parts.nil | apply Parts.cons rfl));done))) | (apply Gt.outC';exact rfl;infer_instance;exact rfl;(focus repeat constructor);(first | exact LSub.whole (ptC_len _ _ _) | exact LSub.whole (poC_len _ _ _) | exact LSub.whole (poD_len _));intro w' hp) | (apply Wl.alloc;exact rfl;intro c hc ho) | apply Wl.nil | apply St.seq | apply St.region | apply St.ret | apply Gt.next
 exact ⟨by rw [poV,show some curG = some (curG.1,curG.2) from rfl,poD_some],hp.drop (by simp;omega)⟩
theorem curOrder (w : World) : Calls Tryd.prog 33 #[] w fun e w' => e = .returned (numV Prim.N256) ∧ Hp w [] w' := by
 refine enter (args := []) (Γ := []) Tryd.func33 Tryd.ntmps33 rfl (of_decide_eq_true rfl) .nil ?_
 repeat' first | (apply Wl.buildN;exact rfl;(repeat (first | exact Parts.nil | apply Parts.cons rfl));(repeat (first | apply Fills.nil | (apply Fills.one;exact rfl;exact rfl;(repeat (first | apply LSet.z | apply LSet.s))) | (apply Fills.agg;exact rfl;exact rfl;(repeat (first | apply LPut.s | apply LPut.z | apply LOver.nil | apply LOver.cons)))));exact n8) | (apply Gt.outN;exact rfl;infer_instance;exact rfl;(focus repeat constructor);exact rfl;intro w' hp) | (apply Wl.storeW;exact rfl;exact rfl;(focus repeat constructor);exact rfl;(first | exact cellsN_len _ _ _ | exact rfl)) | (apply Wl.allocN;exact rfl;(first | exact z8 | exact z16 | exact z17 | exact z33 | exact z10);intro c hc ho) | apply Wl.nil | apply St.seq | apply St.region | apply St.ret | apply Gt.next
 exact ⟨rfl,hp.drop (by simp;omega)⟩
abbrev OnP (A : Ec.Pt) : Prop := Ec.OnC Ec.A3 curB A
abbrev add3 (A B : Ec.Pt) : Ec.Pt := Ec.padd Ec.A3 A B
abbrev sm3 (n : Nat) (A : Ec.Pt) : Ec.Pt := Ec.sm Ec.A3 n A
theorem disc3 : 4 * (Ec.A3 * Ec.A3 * Ec.A3) + 27 * (curB * curB) ≠ 0 := by decide +kernel
theorem onG : OnP (some curG) := by
 show _ = _
 decide +kernel
theorem jin_pt (A : Ec.Pt) : Ec.jpt (jin A) = A := by
 match A with
 | none => exact Ec.jac_zero _ _
 | some (x,y) =>
  have h1 : (1 : Ec.F) ≠ 0 := fun e => Ec.two_ne (by grobner)
  have := Ec.jac_of (x := x) (y := y) h1
  unfold Ec.jpt jin
  simp only
  rw [show x * (1 * 1) = x by grobner,show y * (1 * 1 * 1) = y by grobner] at this
  exact this
end Go.Proofs.YtmjlceimjlabpaaDoor
end
section
namespace Go.Proofs.YtmjlceimjlabpaaDoor
open Go.RowKit Go.Pt
attribute [local irreducible] Prim.P256 jin
theorem asc {p q r : Ec.Pt} (hp : OnP p) (hq : OnP q) (hr : OnP r) : add3 (add3 p q) r = add3 p (add3 q r) := Ec.assoc disc3 hp hq hr
theorem on_sm {A : Ec.Pt} (hA : OnP A) (n : Nat) : OnP (sm3 n A) := Ec.sm_on hA n
section
variable {A B : Ec.Pt} (hA : OnP A) (hB : OnP B) (n m : Nat)
include hA hB
theorem two_dbl : add3 (add3 (sm3 n A) (sm3 m B)) (add3 (sm3 n A) (sm3 m B)) = add3 (sm3 (2 * n) A) (sm3 (2 * m) B) := by
 unfold add3 sm3
 rw [Ec.padd4 disc3 (on_sm hA n) (on_sm hB m) (on_sm hA n) (on_sm hB m),← Ec.sm_two disc3 hA,← Ec.sm_two disc3 hB]
theorem two_a : add3 (add3 (sm3 n A) (sm3 m B)) A = add3 (sm3 (n + 1) A) (sm3 m B) := by
 rw [asc (on_sm hA n) (on_sm hB m) hA,show add3 (sm3 m B) A = add3 A (sm3 m B) from Ec.padd_comm _ _,← asc (on_sm hA n) hA (on_sm hB m)];rfl
theorem two_b : add3 (add3 (sm3 n A) (sm3 m B)) B = add3 (sm3 n A) (sm3 (m + 1) B) := by
 rw [asc (on_sm hA n) (on_sm hB m) hB];rfl
theorem two_ab : add3 (add3 (sm3 n A) (sm3 m B)) (add3 A B) = add3 (sm3 (n + 1) A) (sm3 (m + 1) B) := by
 unfold add3 sm3
 rw [Ec.padd4 disc3 (on_sm hA n) (on_sm hB m) hA hB];rfl
end
theorem gBit {a i : Nat} {k : Int} (hi : i < 256) (e : a / 2 ^ i % 2 = k.toNat) (hk : 0 ≤ k) (w : World) : Calls Tryd.prog 76 #[numV a,.int .i64 i] w fun e w' => e = .returned (.int .u32 k) ∧ Hp w [] w' := by
 have := limbBit a i hi w
 rw [e,Int.toNat_of_nonneg hk] at this
 exact this
theorem step0 {n i N : Nat} (h : n / 2 ^ i % 2 = 0) : 2 * (n / 2 ^ (i + 1)) = n / 2 ^ i := by have := bit_step n i;omega
theorem step1 {n i N : Nat} (h : n / 2 ^ i % 2 = 1) : 2 * (n / 2 ^ (i + 1)) + 1 = n / 2 ^ i := by have := bit_step n i;omega
set_option maxHeartbeats 16000000 in
theorem curTwo (k bm : Nat) (A B : Ec.Pt) (n m : Nat) (w : World) (hV : CurV w k bm) (hA : OnP A) (hB : OnP B) (hn : n < W256) (hm : m < W256) : Calls Tryd.prog 39 #[mp k,numV n,poV A,numV m,poV B] w fun e w' => e = .returned (poV (add3 (sm3 n A) (sm3 m B))) ∧ Hp w [] w' := by
 obtain ⟨hc,hb⟩ := hV.lt
 have p256 : (2 : Nat) ^ 256 = W256 := by decide
 refine enter (args := [_,_,_,_,_]) (Γ := [(0,_),(1,_),(2,_),(3,_),(4,_)]) Tryd.func39 Tryd.ntmps39 rfl (of_decide_eq_true rfl) (.cons rfl (.cons rfl (.cons rfl (.cons rfl (.cons rfl .nil))))) ?_
 repeat' first | (apply St.bagX 8 [];exact mixed;(decide +kernel);kernel_rfl) | (apply St.bagX 13 [];exact mixed;(decide +kernel);kernel_rfl) | apply OpsX.nil | (apply OpsX.b;exact rfl) | (apply OpsX.v;(intro X hX;change Wl [_] _ _ _ _ _ _ _;apply Wl.catX;(focus repeat constructor))) | (apply Gt.endX;exact rfl) | (apply EndX.new;intro c hc ho) | (apply EndX.on;exact rfl) | (apply EndX.off;exact rfl) | (apply EndX.nil';apply Wl.catE;(focus repeat constructor)) | (apply Wl.loadO;exact rfl;exact rfl;exact hV.mod;(repeat (first | exact trivial | exact hX.off (by omega) | refine ⟨by first | assumption | omega | (simp only;omega),?_⟩))) | (apply Wl.loadAH;exact rfl;exact rfl;(focus repeat constructor);(first | exact ptC_x _ _ _ | exact ptC_y _ _ _ | exact ptC_z _ _ _ | exact poC_x _ _ _ | exact poC_y _ _ _ | exact poD_x _ | exact poD_y _ | exact LSub.whole (ptC_len _ _ _) | exact LSub.whole (poC_len _ _ _) | exact LSub.whole (poD_len _))) | (apply Wl.storeAll;exact rfl;exact rfl;(focus repeat constructor);(first | exact ptC_len _ _ _ | exact poC_len _ _ _ | exact poD_len _);(first | exact rfl | exact ptC_len _ _ _ | exact poC_len _ _ _ | exact poD_len _);(first | exact ptC_one _ _ _ | exact poC_one _ _ _ | exact poD_one _)) | (apply Wl.buildPt;exact rfl;(focus ((repeat (first | exact Parts.nil | apply Parts.cons rfl));done))) | (apply Wl.callQ (f := 74);exact rfl;(focus repeat constructor);(intro wq hq;refine (fOne (hV.val.hp hq (by (repeat (first | exact trivial | exact hX.off (by omega) | refine ⟨by first | assumption | omega | (simp only;omega),?_⟩))))).mono ?_;rintro e wr ⟨rfl,hr⟩;exact ⟨rfl,hq.keep hr⟩)) | (apply Wl.callQ (f := 73);exact rfl;(focus repeat constructor);(intro wq hq;refine (curAdd _ _ _ _ wq (hV.hp hq (by (repeat (first | exact trivial | exact hX.off (by omega) | refine ⟨by first | assumption | omega | (simp only;omega),?_⟩))) (by (repeat (first | exact trivial | exact hX.off (by omega) | refine ⟨by first | assumption | omega | (simp only;omega),?_⟩))))).mono ?_;rintro e wr ⟨rfl,hr⟩;exact ⟨rfl,hq.keep hr⟩)) | (apply Wl.callQ (f := 72);exact rfl;(focus repeat constructor);(intro wq hq;refine (curIn _ _ _ wq (hV.hp hq (by (repeat (first | exact trivial | exact hX.off (by omega) | refine ⟨by first | assumption | omega | (simp only;omega),?_⟩))) (by (repeat (first | exact trivial | exact hX.off (by omega) | refine ⟨by first | assumption | omega | (simp only;omega),?_⟩))))).mono ?_;rintro e wr ⟨rfl,hr⟩;exact ⟨rfl,hq.keep hr⟩)) | (apply Wl.boxN;exact rfl;exact rfl;intro c hc ho) | (apply Wl.buildN;exact rfl;(repeat (first | exact Parts.nil | apply Parts.cons rfl));(repeat (first | apply Fills.nil | (apply Fills.one;exact rfl;exact rfl;(repeat (first | apply LSet.z | apply LSet.s))) | (apply Fills.agg;exact rfl;exact rfl;(repeat (first | apply LPut.s | apply LPut.z | apply LOver.nil | apply LOver.cons)))));(first | exact one8 | exact zero8 | exact two8 | exact one16)) | refine Wl.move rfl rfl ?_ | refine Wl.assign rfl rfl ?_ | refine Wl.nilCheck rfl rfl ?_ | refine Wl.fieldAddr0 rfl rfl ?_ | refine Wl.eqlPN rfl rfl rfl ?_ | (apply Wl.boxA;exact rfl;exact rfl;intro c hc ho) | (apply Wl.alloc;exact rfl;intro c hc ho) | apply Wl.nil | apply St.seq | apply St.block | apply St.region | (apply St.condF;exact rfl;(with_reducible first | rfl | assumption | decide)) | apply St.skip | apply Gt.next
 rename_i c6 h6 o6 c7 h7 o7 c8 h8 o8 c9 h9 o9 c10 h10 o10 c11 h11 o11 c12 h12 o12 c13 h13 o13
 generalize c = c14 at *
 refine St.loop (σ := Nat × (Ec.F × Ec.F × Ec.F)) (fun τ => τ.1 ≤ 256 ∧ Ec.jpt τ.2 = add3 (sm3 (n / 2 ^ τ.1) A) (sm3 (m / 2 ^ τ.1) B))
  (fun τ => [(0,mp k),(6,mp c6),(8,mp c8),(10,mp c10),(11,mp c11),(12,mp c12),(13,mp c13),(14,mp c14),(15,.int .i64 ((τ.1 : Int) - 1))])
  (fun τ => Hp w [⟨c14,ptF τ.2,133⟩,⟨c13,ptF (Ec.jadd (jin A) (jin B)),133⟩,⟨c12,ptF (jin B),133⟩,⟨c11,ptF (jin A),133⟩,⟨c10,[Value.int .u32 0,.int .u32 0,.int .u32 0,.int .u32 0,.int .u32 0,.int .u32 0,.int .u32 0,.int .u32 0,.int .u32 0,.int .u32 0,.int .u32 0,.int .u32 0,.int .u32 0,.int .u32 0,.int .u32 0,.int .u32 0,.bool false],71⟩,⟨c9,poD B,71⟩,⟨c8,cellsN .u32 8 (dg W32 m),69⟩,⟨c7,poD A,71⟩,⟨c6,cellsN .u32 8 (dg W32 n),69⟩])
  (fun τ => τ.1) (256,(1,1,0)) ⟨by simp,by
   show _ = add3 (sm3 (n / 2 ^ 256) A) (sm3 (m / 2 ^ 256) B)
   rw [p256,Nat.div_eq_of_lt hn,Nat.div_eq_of_lt hm]
   exact Ec.jac_zero _ _⟩ (by repeat constructor) (fun _ h => by
   have h' := h
   rw [← ptC0] at h'
   exact h') ?_
 rintro ⟨i,r⟩ ⟨hi256,hr⟩
 simp only at hi256 hr ⊢
 cases i with
 | zero =>
  rw [Nat.pow_zero,Nat.div_one,Nat.div_one] at hr
  repeat' first | (apply Wl.loadAH;exact rfl;exact rfl;(focus repeat constructor);(first | exact ptC_x _ _ _ | exact ptC_y _ _ _ | exact ptC_z _ _ _ | exact poC_x _ _ _ | exact poC_y _ _ _ | exact poD_x _ | exact poD_y _ | exact LSub.whole (ptC_len _ _ _) | exact LSub.whole (poC_len _ _ _) | exact LSub.whole (poD_len _))) | (apply Wl.storeAll;exact rfl;exact rfl;(focus repeat constructor);(first | exact ptC_len _ _ _ | exact poC_len _ _ _ | exact poD_len _);(first | exact rfl | exact ptC_len _ _ _ | exact poC_len _ _ _ | exact poD_len _);(first | exact ptC_one _ _ _ | exact poC_one _ _ _ | exact poD_one _)) | (apply Wl.callQ (f := 77);exact rfl;(focus repeat constructor);(intro wq hq;refine (curOut _ _ _ wq (hV.hp hq (by (repeat (first | exact trivial | exact hX.off (by omega) | refine ⟨by first | assumption | omega | (simp only;omega),?_⟩))) (by (repeat (first | exact trivial | exact hX.off (by omega) | refine ⟨by first | assumption | omega | (simp only;omega),?_⟩))))).mono ?_;rintro e wr ⟨rfl,hr⟩;exact ⟨rfl,hq.keep hr⟩)) | (apply Gt.outC';exact rfl;infer_instance;exact rfl;(focus repeat constructor);(first | exact LSub.whole (ptC_len _ _ _) | exact LSub.whole (poC_len _ _ _) | exact LSub.whole (poD_len _));intro w' hp) | refine Wl.move rfl rfl ?_ | refine Wl.geq rfl rfl rfl ?_ | apply Wl.nil | apply St.seq | apply St.region | (apply St.condF;exact rfl;(with_reducible first | rfl | assumption | decide)) | apply St.ret | apply St.exit | apply Gt.next | apply Gt.thenExit | apply Gt.inExit
  rw [hr] at hp ⊢
  exact ⟨rfl,hp.drop (by simp;omega)⟩
 | succ i =>
  have ei : (((i + 1 : Nat) : Int) - 1) = (i : Int) := by omega
  rw [ei]
  have hd : Ec.jpt (Ec.jdbl r) = add3 (sm3 (2 * (n / 2 ^ (i + 1))) A) (sm3 (2 * (m / 2 ^ (i + 1))) B) := by
   rw [Ec.jdbl_pt,hr]
   exact two_dbl hA hB _ _
  have cases2 : ∀ x : Nat,x % 2 = 0 ∨ x % 2 = 1 := fun x => by omega
  have jB : Ec.jpt (Ec.jadd (jin A) (jin B)) = add3 A B := by rw [Ec.jadd_pt,jin_pt,jin_pt]
  rcases cases2 (n / 2 ^ i) with bn | bn
  ·rcases cases2 (m / 2 ^ i) with bm' | bm'
   ·have en : n / 2 ^ i % 2 = Int.toNat 0 := bn
    have em : m / 2 ^ i % 2 = Int.toNat 0 := bm'
    have hs : Ec.jpt (Ec.jdbl r) = add3 (sm3 (n / 2 ^ i) A) (sm3 (m / 2 ^ i) B) := by
     rw [← step0 (N := 0) bn,← step0 (N := 0) bm']
     exact (hd)
    repeat' first | (apply St.bagX 8 [7];exact mixed;(decide +kernel);kernel_rfl) | apply OpsX.nil | (apply OpsX.v;(intro X hX;change Wl [_] _ _ _ _ _ _ _;apply Wl.catX;(focus repeat constructor))) | (apply Gt.endX;exact rfl) | (apply EndX.on;exact rfl) | (apply EndX.off;exact rfl) | (apply EndX.nil';apply Wl.catE;(focus repeat constructor)) | (apply Wl.loadAH;exact rfl;exact rfl;(focus repeat constructor);(first | exact ptC_x _ _ _ | exact ptC_y _ _ _ | exact ptC_z _ _ _ | exact poC_x _ _ _ | exact poC_y _ _ _ | exact poD_x _ | exact poD_y _ | exact LSub.whole (ptC_len _ _ _) | exact LSub.whole (poC_len _ _ _) | exact LSub.whole (poD_len _))) | (apply Wl.storeAll;exact rfl;exact rfl;(focus repeat constructor);(first | exact ptC_len _ _ _ | exact poC_len _ _ _ | exact poD_len _);(first | exact rfl | exact ptC_len _ _ _ | exact poC_len _ _ _ | exact poD_len _);(first | exact ptC_one _ _ _ | exact poC_one _ _ _ | exact poD_one _)) | (apply Wl.callQ (f := 76);exact rfl;(focus repeat constructor);(intro wq hq;exact hq.q (gBit (show i < 256 by omega) (by with_reducible assumption) (by decide) wq))) | (apply Wl.callQ (f := 75);exact rfl;(focus repeat constructor);(intro wq hq;refine (curDbl _ _ _ wq (hV.hp hq (by (repeat (first | exact trivial | exact hX.off (by omega) | refine ⟨by first | assumption | omega | (simp only;omega),?_⟩))) (by (repeat (first | exact trivial | exact hX.off (by omega) | refine ⟨by first | assumption | omega | (simp only;omega),?_⟩))))).mono ?_;rintro e wr ⟨rfl,hr⟩;exact ⟨rfl,hq.keep hr⟩)) | (apply Wl.loadW;exact rfl;exact rfl;(focus repeat constructor);exact rfl) | refine Wl.mulN32 rfl rfl rfl ?_ | refine Wl.addN32 rfl rfl rfl ?_ | refine Wl.move rfl rfl ?_ | refine Wl.assign rfl rfl ?_ | refine Wl.eql rfl rfl rfl ?_ | refine Wl.geq rfl rfl rfl ?_ | (refine Wl.subI rfl rfl rfl ?_ ?_;constructor <;> omega) | apply Wl.nil | apply St.seq | apply St.block | apply St.region | (apply St.condF;exact rfl;(with_reducible first | rfl | assumption | decide)) | apply St.skip | apply Gt.next | apply Gt.inNormal | (apply St.condP;exact rfl;all_goals (intros;try (exfalso;omega)))
    apply Gt.round (i,Ec.jdbl r)
    rotate_left
    ·simp only;omega
    ·repeat constructor
    ·exact fun _ h => h
    ·exact ⟨by simp only;omega,hs⟩
   ·have en : n / 2 ^ i % 2 = Int.toNat 0 := bn
    have em : m / 2 ^ i % 2 = Int.toNat 1 := bm'
    have hs : Ec.jpt (Ec.jadd (Ec.jdbl r) (jin B)) = add3 (sm3 (n / 2 ^ i) A) (sm3 (m / 2 ^ i) B) := by
     rw [← step0 (N := 0) bn,← step1 (N := 0) bm']
     exact (by rw [Ec.jadd_pt,hd,jin_pt];exact two_b hA hB _ _)
    repeat' first | (apply St.bagX 8 [7];exact mixed;(decide +kernel);kernel_rfl) | apply OpsX.nil | (apply OpsX.v;(intro X hX;change Wl [_] _ _ _ _ _ _ _;apply Wl.catX;(focus repeat constructor))) | (apply Gt.endX;exact rfl) | (apply EndX.on;exact rfl) | (apply EndX.off;exact rfl) | (apply EndX.nil';apply Wl.catE;(focus repeat constructor)) | (apply Wl.loadAH;exact rfl;exact rfl;(focus repeat constructor);(first | exact ptC_x _ _ _ | exact ptC_y _ _ _ | exact ptC_z _ _ _ | exact poC_x _ _ _ | exact poC_y _ _ _ | exact poD_x _ | exact poD_y _ | exact LSub.whole (ptC_len _ _ _) | exact LSub.whole (poC_len _ _ _) | exact LSub.whole (poD_len _))) | (apply Wl.storeAll;exact rfl;exact rfl;(focus repeat constructor);(first | exact ptC_len _ _ _ | exact poC_len _ _ _ | exact poD_len _);(first | exact rfl | exact ptC_len _ _ _ | exact poC_len _ _ _ | exact poD_len _);(first | exact ptC_one _ _ _ | exact poC_one _ _ _ | exact poD_one _)) | (apply Wl.callQ (f := 76);exact rfl;(focus repeat constructor);(intro wq hq;exact hq.q (gBit (show i < 256 by omega) (by with_reducible assumption) (by decide) wq))) | (apply Wl.callQ (f := 75);exact rfl;(focus repeat constructor);(intro wq hq;refine (curDbl _ _ _ wq (hV.hp hq (by (repeat (first | exact trivial | exact hX.off (by omega) | refine ⟨by first | assumption | omega | (simp only;omega),?_⟩))) (by (repeat (first | exact trivial | exact hX.off (by omega) | refine ⟨by first | assumption | omega | (simp only;omega),?_⟩))))).mono ?_;rintro e wr ⟨rfl,hr⟩;exact ⟨rfl,hq.keep hr⟩)) | (apply Wl.callQ (f := 73);exact rfl;(focus repeat constructor);(intro wq hq;refine (curAdd _ _ _ _ wq (hV.hp hq (by (repeat (first | exact trivial | exact hX.off (by omega) | refine ⟨by first | assumption | omega | (simp only;omega),?_⟩))) (by (repeat (first | exact trivial | exact hX.off (by omega) | refine ⟨by first | assumption | omega | (simp only;omega),?_⟩))))).mono ?_;rintro e wr ⟨rfl,hr⟩;exact ⟨rfl,hq.keep hr⟩)) | (apply Wl.loadW;exact rfl;exact rfl;(focus repeat constructor);exact rfl) | refine Wl.mulN32 rfl rfl rfl ?_ | refine Wl.addN32 rfl rfl rfl ?_ | refine Wl.move rfl rfl ?_ | refine Wl.assign rfl rfl ?_ | refine Wl.eql rfl rfl rfl ?_ | refine Wl.geq rfl rfl rfl ?_ | (refine Wl.subI rfl rfl rfl ?_ ?_;constructor <;> omega) | apply Wl.nil | apply St.seq | apply St.block | apply St.region | (apply St.condT;exact rfl;(with_reducible first | rfl | assumption | decide)) | (apply St.condF;exact rfl;(with_reducible first | rfl | assumption | decide)) | apply St.skip | apply Gt.next | apply Gt.inNormal | (apply St.condP;exact rfl;all_goals (intros;try (exfalso;omega)))
    apply Gt.round (i,Ec.jadd (Ec.jdbl r) (jin B))
    rotate_left
    ·simp only;omega
    ·repeat constructor
    ·exact fun _ h => h
    ·exact ⟨by simp only;omega,hs⟩
  ·rcases cases2 (m / 2 ^ i) with bm' | bm'
   ·have en : n / 2 ^ i % 2 = Int.toNat 1 := bn
    have em : m / 2 ^ i % 2 = Int.toNat 0 := bm'
    have hs : Ec.jpt (Ec.jadd (Ec.jdbl r) (jin A)) = add3 (sm3 (n / 2 ^ i) A) (sm3 (m / 2 ^ i) B) := by
     rw [← step1 (N := 0) bn,← step0 (N := 0) bm']
     exact (by rw [Ec.jadd_pt,hd,jin_pt];exact two_a hA hB _ _)
    repeat' first | (apply St.bagX 8 [7];exact mixed;(decide +kernel);kernel_rfl) | apply OpsX.nil | (apply OpsX.v;(intro X hX;change Wl [_] _ _ _ _ _ _ _;apply Wl.catX;(focus repeat constructor))) | (apply Gt.endX;exact rfl) | (apply EndX.on;exact rfl) | (apply EndX.off;exact rfl) | (apply EndX.nil';apply Wl.catE;(focus repeat constructor)) | (apply Wl.loadAH;exact rfl;exact rfl;(focus repeat constructor);(first | exact ptC_x _ _ _ | exact ptC_y _ _ _ | exact ptC_z _ _ _ | exact poC_x _ _ _ | exact poC_y _ _ _ | exact poD_x _ | exact poD_y _ | exact LSub.whole (ptC_len _ _ _) | exact LSub.whole (poC_len _ _ _) | exact LSub.whole (poD_len _))) | (apply Wl.storeAll;exact rfl;exact rfl;(focus repeat constructor);(first | exact ptC_len _ _ _ | exact poC_len _ _ _ | exact poD_len _);(first | exact rfl | exact ptC_len _ _ _ | exact poC_len _ _ _ | exact poD_len _);(first | exact ptC_one _ _ _ | exact poC_one _ _ _ | exact poD_one _)) | (apply Wl.callQ (f := 76);exact rfl;(focus repeat constructor);(intro wq hq;exact hq.q (gBit (show i < 256 by omega) (by with_reducible assumption) (by decide) wq))) | (apply Wl.callQ (f := 75);exact rfl;(focus repeat constructor);(intro wq hq;refine (curDbl _ _ _ wq (hV.hp hq (by (repeat (first | exact trivial | exact hX.off (by omega) | refine ⟨by first | assumption | omega | (simp only;omega),?_⟩))) (by (repeat (first | exact trivial | exact hX.off (by omega) | refine ⟨by first | assumption | omega | (simp only;omega),?_⟩))))).mono ?_;rintro e wr ⟨rfl,hr⟩;exact ⟨rfl,hq.keep hr⟩)) | (apply Wl.callQ (f := 73);exact rfl;(focus repeat constructor);(intro wq hq;refine (curAdd _ _ _ _ wq (hV.hp hq (by (repeat (first | exact trivial | exact hX.off (by omega) | refine ⟨by first | assumption | omega | (simp only;omega),?_⟩))) (by (repeat (first | exact trivial | exact hX.off (by omega) | refine ⟨by first | assumption | omega | (simp only;omega),?_⟩))))).mono ?_;rintro e wr ⟨rfl,hr⟩;exact ⟨rfl,hq.keep hr⟩)) | (apply Wl.loadW;exact rfl;exact rfl;(focus repeat constructor);exact rfl) | refine Wl.mulN32 rfl rfl rfl ?_ | refine Wl.addN32 rfl rfl rfl ?_ | refine Wl.move rfl rfl ?_ | refine Wl.assign rfl rfl ?_ | refine Wl.eql rfl rfl rfl ?_ | refine Wl.geq rfl rfl rfl ?_ | (refine Wl.subI rfl rfl rfl ?_ ?_;constructor <;> omega) | apply Wl.nil | apply St.seq | apply St.block | apply St.region | (apply St.condT;exact rfl;(with_reducible first | rfl | assumption | decide)) | apply St.skip | apply Gt.next | apply Gt.inNormal | (apply St.condP;exact rfl;all_goals (intros;try (exfalso;omega)))
    apply Gt.round (i,Ec.jadd (Ec.jdbl r) (jin A))
    rotate_left
    ·simp only;omega
    ·repeat constructor
    ·exact fun _ h => h
    ·exact ⟨by simp only;omega,hs⟩
   ·have en : n / 2 ^ i % 2 = Int.toNat 1 := bn
    have em : m / 2 ^ i % 2 = Int.toNat 1 := bm'
    have hs : Ec.jpt (Ec.jadd (Ec.jdbl r) (Ec.jadd (jin A) (jin B))) = add3 (sm3 (n / 2 ^ i) A) (sm3 (m / 2 ^ i) B) := by
     rw [← step1 (N := 0) bn,← step1 (N := 0) bm']
     exact (by rw [Ec.jadd_pt,hd,jB];exact two_ab hA hB _ _)
    repeat' first | (apply St.bagX 8 [7];exact mixed;(decide +kernel);kernel_rfl) | apply OpsX.nil | (apply OpsX.v;(intro X hX;change Wl [_] _ _ _ _ _ _ _;apply Wl.catX;(focus repeat constructor))) | (apply Gt.endX;exact rfl) | (apply EndX.on;exact rfl) | (apply EndX.off;exact rfl) | (apply EndX.nil';apply Wl.catE;(focus repeat constructor)) | (apply Wl.loadAH;exact rfl;exact rfl;(focus repeat constructor);(first | exact ptC_x _ _ _ | exact ptC_y _ _ _ | exact ptC_z _ _ _ | exact poC_x _ _ _ | exact poC_y _ _ _ | exact poD_x _ | exact poD_y _ | exact LSub.whole (ptC_len _ _ _) | exact LSub.whole (poC_len _ _ _) | exact LSub.whole (poD_len _))) | (apply Wl.storeAll;exact rfl;exact rfl;(focus repeat constructor);(first | exact ptC_len _ _ _ | exact poC_len _ _ _ | exact poD_len _);(first | exact rfl | exact ptC_len _ _ _ | exact poC_len _ _ _ | exact poD_len _);(first | exact ptC_one _ _ _ | exact poC_one _ _ _ | exact poD_one _)) | (apply Wl.callQ (f := 76);exact rfl;(focus repeat constructor);(intro wq hq;exact hq.q (gBit (show i < 256 by omega) (by with_reducible assumption) (by decide) wq))) | (apply Wl.callQ (f := 75);exact rfl;(focus repeat constructor);(intro wq hq;refine (curDbl _ _ _ wq (hV.hp hq (by (repeat (first | exact trivial | exact hX.off (by omega) | refine ⟨by first | assumption | omega | (simp only;omega),?_⟩))) (by (repeat (first | exact trivial | exact hX.off (by omega) | refine ⟨by first | assumption | omega | (simp only;omega),?_⟩))))).mono ?_;rintro e wr ⟨rfl,hr⟩;exact ⟨rfl,hq.keep hr⟩)) | (apply Wl.callQ (f := 73);exact rfl;(focus repeat constructor);(intro wq hq;refine (curAdd _ _ _ _ wq (hV.hp hq (by (repeat (first | exact trivial | exact hX.off (by omega) | refine ⟨by first | assumption | omega | (simp only;omega),?_⟩))) (by (repeat (first | exact trivial | exact hX.off (by omega) | refine ⟨by first | assumption | omega | (simp only;omega),?_⟩))))).mono ?_;rintro e wr ⟨rfl,hr⟩;exact ⟨rfl,hq.keep hr⟩)) | (apply Wl.loadW;exact rfl;exact rfl;(focus repeat constructor);exact rfl) | refine Wl.mulN32 rfl rfl rfl ?_ | refine Wl.addN32 rfl rfl rfl ?_ | refine Wl.move rfl rfl ?_ | refine Wl.assign rfl rfl ?_ | refine Wl.eql rfl rfl rfl ?_ | refine Wl.geq rfl rfl rfl ?_ | (refine Wl.subI rfl rfl rfl ?_ ?_;constructor <;> omega) | apply Wl.nil | apply St.seq | apply St.block | apply St.region | (apply St.condT;exact rfl;(with_reducible first | rfl | assumption | decide)) | (apply St.condF;exact rfl;(with_reducible first | rfl | assumption | decide)) | apply St.skip | apply Gt.next | apply Gt.inNormal | (apply St.condP;exact rfl;all_goals (intros;try (exfalso;omega)))
    apply Gt.round (i,Ec.jadd (Ec.jdbl r) (Ec.jadd (jin A) (jin B)))
    rotate_left
    ·simp only;omega
    ·repeat constructor
    ·exact fun _ h => h
    ·exact ⟨by simp only;omega,hs⟩
end Go.Proofs.YtmjlceimjlabpaaDoor
end
section
namespace Go.Proofs.YtmjlceimjlabpaaDoor
open Go.RowKit Go.Pt
attribute [local irreducible] Prim.P256 jin
theorem p8P : [Value.int .u32 4294967295,.int .u32 4294967295,.int .u32 4294967295,.int .u32 0,.int .u32 0,.int .u32 0,.int .u32 1,.int .u32 4294967295] = cellsN .u32 8 (dg W32 Prim.P256) := p8
theorem b8N : [Value.int .u32 668098635,.int .u32 1003371582,.int .u32 3428036854,.int .u32 1696401072,.int .u32 1989707452,.int .u32 3018571093,.int .u32 2855965671,.int .u32 1522939352] = cellsN .u32 8 (dg W32 curB.val) := b8
section
variable {md : Md} {N : Nat} {ops : Array Oper} {rest : List Oper} {Γ : Env} {C : World → Prop} {Q : Exit → Act → World → Prop} {d : Nat} {ty : TypeId} {pos : String} {af : Array Edge} {parts : Array (Nat × Operand)}
theorem Wl.buildCv {b x : Nat} (hd : Nat.blt d N = true) (hp : Parts Γ parts.toList [(0,mp b),(1,numV x)]) (h : Wl rest Tryd.prog md ops N ((d,.agg (mp b :: cellsN .u32 8 (dg W32 x)).toArray) :: Γ) C Q) :
  Wl (⟨some d,.build 131 parts,ty,pos,af,none⟩ :: rest) Tryd.prog md ops N Γ C Q := by
 refine Wl.build hd hp (fun _ => run_build_struct ?_) h
 have h2 : LPut (mp b :: cellsN .u32 8 (dg W32 0)) 1 (cellsN .u32 8 (dg W32 x)) (mp b :: cellsN .u32 8 (dg W32 x)) := by
  have := LPut.app (p := [mp b]) (l := cellsN .u32 8 (dg W32 0)) (xs := cellsN .u32 8 (dg W32 x)) (r := []) (n := 1) rfl (by rw [cellsN_len,cellsN_len])
  simpa using this
 rw [← zero8] at h2
 exact .one rfl rfl .z (.agg rfl (by rw [cellsN_len];rfl) h2 .nil)
end
def NewC (w : World) (e : Ending) (w' : World) : Prop := ∃ c bm,e = .returned (mp c) ∧ w.heap.size ≤ c ∧ w.heap.size ≤ bm ∧ CurV w' c bm ∧ Hp w [] w'
set_option maxHeartbeats 4000000 in
theorem curNew (w : World) : Calls Tryd.prog 38 #[] w (NewC w) := by
 refine enter (args := []) (Γ := []) Tryd.func38 Tryd.ntmps38 rfl (of_decide_eq_true rfl) .nil ?_
 repeat' first | (apply Wl.buildN;exact rfl;(repeat (first | exact Parts.nil | apply Parts.cons rfl));(repeat (first | apply Fills.nil | (apply Fills.one;exact rfl;exact rfl;(repeat (first | apply LSet.z | apply LSet.s))) | (apply Fills.agg;exact rfl;exact rfl;(repeat (first | apply LPut.s | apply LPut.z | apply LOver.nil | apply LOver.cons)))));(first | exact p8P | exact b8N)) | refine Wl.assign rfl rfl ?_ | apply Wl.nil | apply St.seq | apply St.region | apply Gt.next
 apply Wl.callC
 ·exact rfl
 ·repeat constructor
 intro wq hq
 refine (modNew Prim.P256 pW wq).mono ?_
 rintro e wr (⟨_,_,bm,rfl,hb,hM,hr⟩ | ⟨hno,rfl,hr⟩)
 ·refine ⟨_,_,rfl,hpRb (hq.keep hr),?_⟩
  have hu : Upd (fun k => w.heap.size ≤ k) w wr := hpOn (hq.keep hr) (Upd.refl _ _) (by simp)
  have hsz := hq.upd.size
  clear hq hr
  have hlt := hM.blk
  repeat' first | (apply Wl.buildN;exact rfl;(repeat (first | exact Parts.nil | apply Parts.cons rfl));(repeat (first | apply Fills.nil | (apply Fills.one;exact rfl;exact rfl;(repeat (first | apply LSet.z | apply LSet.s))) | (apply Fills.agg;exact rfl;exact rfl;(repeat (first | apply LPut.s | apply LPut.z | apply LOver.nil | apply LOver.cons)))));(first | exact p8P | exact b8N)) | (apply Wl.buildCv;exact rfl;(focus ((repeat (first | exact Parts.nil | apply Parts.cons rfl));done))) | (apply Wl.callQ (f := 35);exact rfl;(focus repeat constructor);(intro wq hq;refine (fInF (hM.hp hq (by (repeat (first | exact trivial | exact hX.off (by omega) | refine ⟨by first | assumption | omega | (simp only;omega),?_⟩)))) _).mono ?_;rintro e wr ⟨rfl,hr⟩;exact ⟨rfl,hq.keep hr⟩)) | refine Wl.move rfl rfl ?_ | refine Wl.assign rfl rfl ?_ | refine Wl.extract rfl rfl rfl ?_ | (apply Wl.boxA;exact rfl;exact rfl;intro c hc ho) | apply Wl.nil | apply St.seq | apply St.region | apply St.ret | apply Gt.next | (apply Gt.out1;exact rfl;exact rfl;intro w' hp)
  have hm : (⟨c,mp bm :: cellsN .u32 8 (dg W32 (mg curB)),131⟩ : Blk) ∈ [⟨c,mp bm :: cellsN .u32 8 (dg W32 (mg curB)),131⟩] := .head _
  refine ⟨c,bm,rfl,by have := hu.size;omega,by omega,⟨hp.cell hm rfl,fun j hj => ?_,hM.hp hp ⟨by simp only;omega,trivial⟩⟩,hpFin hp hu (by simp;have := hu.size;omega)⟩
  refine hp.cell hm ?_
  rw [Nat.add_comm,List.getElem?_cons_succ,cellsN_get hj]
 ·exact absurd ⟨pOdd,by have := p3;omega⟩ hno
end Go.Proofs.YtmjlceimjlabpaaDoor
end
section
namespace Go.Pt
theorem LPut.list {l xs : List Value} {n : Nat} (h : n + xs.length ≤ l.length) : LPut l n xs (l.take n ++ xs ++ l.drop (n + xs.length)) := by
 have e : l = l.take n ++ ((l.drop n).take xs.length ++ l.drop (n + xs.length)) := by
  rw [← List.drop_drop,List.take_append_drop,List.take_append_drop]
 have := LPut.app (p := l.take n) (l := (l.drop n).take xs.length) (xs := xs) (r := l.drop (n + xs.length)) (n := n) (by rw [List.length_take];omega) (by rw [List.length_take,List.length_drop];omega)
 rw [← e] at this
 rw [List.append_assoc]
 exact this
theorem cellsN_put {K : IntKind} {n i l : Nat} {f g h : Nat → Nat} (hl : i + l ≤ n) (h1 : ∀ j,i ≤ j → j < i + l → h j = g (j - i)) (h2 : ∀ j,j < i ∨ i + l ≤ j → h j = f j) : LPut (cellsN K n f) i (cellsN K l g) (cellsN K n h) := by
 have e : cellsN K n h = (cellsN K n f).take i ++ cellsN K l g ++ (cellsN K n f).drop (i + (cellsN K l g).length) := by
  apply List.ext_getElem?
  intro j
  rw [cellsN_len]
  by_cases hj : j < n
  ·rw [cellsN_get hj]
   by_cases h3 : j < i
   ·rw [h2 j (.inl h3),List.append_assoc,List.getElem?_append_left (by rw [List.length_take,cellsN_len];omega),List.getElem?_take_of_lt h3,cellsN_get hj]
   ·by_cases h4 : j < i + l
    ·rw [h1 j (by omega) h4,List.append_assoc,List.getElem?_append_right (by rw [List.length_take,cellsN_len];omega),List.getElem?_append_left (by rw [List.length_take,cellsN_len,cellsN_len];omega),List.length_take,cellsN_len,Nat.min_eq_left (by omega),cellsN_get (by omega)]
    ·rw [h2 j (.inr (by omega)),List.getElem?_append_right (by rw [List.length_append,List.length_take,cellsN_len,cellsN_len];omega),List.getElem?_drop,List.length_append,List.length_take,cellsN_len,cellsN_len,Nat.min_eq_left (by omega),show i + l + (j - (i + l)) = j by omega,cellsN_get hj]
  ·rw [List.getElem?_eq_none (by rw [cellsN_len];omega),List.getElem?_eq_none (by rw [List.length_append,List.length_append,List.length_take,List.length_drop,cellsN_len,cellsN_len];omega)]
 rw [e]
 exact LPut.list (by rw [cellsN_len,cellsN_len];exact hl)
end Go.Pt
namespace Go.Proofs.YtmjlceimjlabpaaDoor
open Go.RowKit Go.Pt
attribute [local irreducible] Prim.P256
theorem ref4P (w : World) : Calls Tryd.prog 53 #[] w fun e w' => e = .returned (num16 Prim.P256) ∧ Hp w [] w' := by
 refine enter (args := []) (Γ := []) Tryd.func53 Tryd.ntmps53 rfl (of_decide_eq_true rfl) .nil ?_
 repeat' first | (apply Wl.buildN;exact rfl;(repeat (first | exact Parts.nil | apply Parts.cons rfl));(repeat (first | apply Fills.nil | (apply Fills.one;exact rfl;exact rfl;(repeat (first | apply LSet.z | apply LSet.s))) | (apply Fills.agg;exact rfl;exact rfl;(repeat (first | apply LPut.s | apply LPut.z | apply LOver.nil | apply LOver.cons)))));exact p8P) | (apply Wl.callQ (f := 84);exact rfl;(focus repeat constructor);(intro wq hq;exact hq.q (refOf _ wq))) | (apply Gt.outN;exact rfl;infer_instance;exact rfl;(focus repeat constructor);exact rfl;intro w' hp) | (apply Wl.storeW;exact rfl;exact rfl;(focus repeat constructor);exact rfl;(first | exact cellsN_len _ _ _ | exact rfl)) | (apply Wl.allocN;exact rfl;(first | exact z8 | exact z16 | exact z17 | exact z33 | exact z10);intro c hc ho) | apply Wl.nil | apply St.seq | apply St.region | apply St.ret | apply Gt.next
 exact ⟨rfl,hp.drop (by simp;omega)⟩
theorem ref4b (w : World) : Calls Tryd.prog 96 #[] w fun e w' => e = .returned (num16 curB.val) ∧ Hp w [] w' := by
 refine enter (args := []) (Γ := []) Tryd.func96 Tryd.ntmps96 rfl (of_decide_eq_true rfl) .nil ?_
 repeat' first | (apply Wl.buildN;exact rfl;(repeat (first | exact Parts.nil | apply Parts.cons rfl));(repeat (first | apply Fills.nil | (apply Fills.one;exact rfl;exact rfl;(repeat (first | apply LSet.z | apply LSet.s))) | (apply Fills.agg;exact rfl;exact rfl;(repeat (first | apply LPut.s | apply LPut.z | apply LOver.nil | apply LOver.cons)))));exact b8N) | (apply Wl.callQ (f := 84);exact rfl;(focus repeat constructor);(intro wq hq;exact hq.q (refOf _ wq))) | (apply Gt.outN;exact rfl;infer_instance;exact rfl;(focus repeat constructor);exact rfl;intro w' hp) | (apply Wl.storeW;exact rfl;exact rfl;(focus repeat constructor);exact rfl;(first | exact cellsN_len _ _ _ | exact rfl)) | (apply Wl.allocN;exact rfl;(first | exact z8 | exact z16 | exact z17 | exact z33 | exact z10);intro c hc ho) | apply Wl.nil | apply St.seq | apply St.region | apply St.ret | apply Gt.next
 exact ⟨rfl,hp.drop (by simp;omega)⟩
theorem ref4N (w : World) : Calls Tryd.prog 49 #[] w fun e w' => e = .returned (num16 Prim.N256) ∧ Hp w [] w' := by
 refine enter (args := []) (Γ := []) Tryd.func49 Tryd.ntmps49 rfl (of_decide_eq_true rfl) .nil ?_
 repeat' first | (apply Wl.buildN;exact rfl;(repeat (first | exact Parts.nil | apply Parts.cons rfl));(repeat (first | apply Fills.nil | (apply Fills.one;exact rfl;exact rfl;(repeat (first | apply LSet.z | apply LSet.s))) | (apply Fills.agg;exact rfl;exact rfl;(repeat (first | apply LPut.s | apply LPut.z | apply LOver.nil | apply LOver.cons)))));exact n8) | (apply Wl.callQ (f := 84);exact rfl;(focus repeat constructor);(intro wq hq;exact hq.q (refOf _ wq))) | (apply Gt.outN;exact rfl;infer_instance;exact rfl;(focus repeat constructor);exact rfl;intro w' hp) | (apply Wl.storeW;exact rfl;exact rfl;(focus repeat constructor);exact rfl;(first | exact cellsN_len _ _ _ | exact rfl)) | (apply Wl.allocN;exact rfl;(first | exact z8 | exact z16 | exact z17 | exact z33 | exact z10);intro c hc ho) | apply Wl.nil | apply St.seq | apply St.region | apply St.ret | apply Gt.next
 exact ⟨rfl,hp.drop (by simp;omega)⟩
def hF (m k : Nat) : Nat → Nat := fun j => if j < 16 then dg D16 m j else if j < 16 + k * 16 then dg D16 (rowR m ((j - 16) / 16)) ((j - 16) % 16) else 0
def dblR (m k i : Nat) : Nat := D16 ^ (16 + k) * 2 ^ i % m
theorem dblR_zero (m k : Nat) : dblR m k 0 = rowR m k := by unfold dblR rowR;rw [Nat.pow_zero,Nat.mul_one]
theorem dblR_step (m k i : Nat) : (dblR m k i + dblR m k i) % m = dblR m k (i + 1) := by
 unfold dblR
 rw [Nat.pow_succ,← Nat.mul_assoc,Nat.mul_two,← Nat.add_mod]
theorem dblR_end (m k : Nat) : dblR m k 16 = rowR m (k + 1) := by
 unfold dblR rowR
 have e : (2 : Nat) ^ 16 = D16 := by decide
 rw [e,show 16 + (k + 1) = 16 + k + 1 by omega,Nat.pow_succ]
theorem rowR_0 (m : Nat) : W256 % m = rowR m 0 := by unfold rowR;rw [W256_eq16]
theorem hF_put (m k : Nat) (hk : k < 16) : LPut (cellsN .u64 272 (hF m k)) (16 + k * 16) (cellsN .u64 16 (dg D16 (rowR m k))) (cellsN .u64 272 (hF m (k + 1))) :=
 cellsN_put (by omega) (fun j h1 h2 => by
  unfold hF
  rw [if_neg (by omega),if_pos (by omega),show (j - 16) / 16 = k by omega,show (j - 16) % 16 = j - (16 + k * 16) by omega]) fun j h => by
  unfold hF
  by_cases h1 : j < 16
  ·rw [if_pos h1,if_pos h1]
  ·rw [if_neg h1,if_neg h1]
   by_cases h2 : j < 16 + k * 16
   ·rw [if_pos h2,if_pos (by omega)]
   ·rw [if_neg h2,if_neg (by omega)]
theorem hF_first (m : Nat) : LPut (cellsN .u64 272 fun _ => 0) 0 (cellsN .u64 16 (dg D16 m)) (cellsN .u64 272 (hF m 0)) :=
 cellsN_put (by omega) (fun j h1 h2 => by unfold hF;rw [if_pos (by omega)];rfl) fun j h => by
  unfold hF
  rw [if_neg (by omega),if_neg (by omega)]
section
variable {md : Md} {N : Nat} {ops : Array Oper} {rest : List Oper} {Γ : Env} {C : World → Prop} {Q : Exit → Act → World → Prop} {d : Nat} {ty : TypeId} {pos : String} {af : Array Edge} {parts : Array (Nat × Operand)}
instance tyFl : TyP Tryd.prog 106 [(0,16),(16,256)] (List.replicate 272 (.int .u64 0)) := ⟨by kernel_rfl⟩
theorem Wl.buildFl {x : Nat} (hd : Nat.blt d N = true) (hp : Parts Γ parts.toList [(0,num16 x)]) (h : Wl rest Tryd.prog md ops N ((d,.agg (cellsN .u64 272 (hF x 0)).toArray) :: Γ) C Q) :
  Wl (⟨some d,.build 106 parts,ty,pos,af,none⟩ :: rest) Tryd.prog md ops N Γ C Q := by
 refine Wl.build hd hp (fun _ => run_build_struct ?_) h
 have h2 := hF_first x
 refine .agg rfl (by rw [cellsN_len];rfl) (cs1 := cellsN .u64 272 (hF x 0)) ?_ .nil
 have e : ∀ n,cellsN .u64 n (fun _ => 0) = List.replicate n (.int .u64 0) := fun n => by
  apply List.ext_getElem
  ·simp [cellsN_len]
  ·intro i h1 h2
   have := cellsN_get (k := .u64) (n := n) (i := i) (f := fun _ => 0) (by rw [cellsN_len] at h1;exact h1)
   rw [List.getElem?_eq_getElem h1] at this
   simp at this
   simp [this]
 rw [e] at h2
 exact h2
end
set_option maxHeartbeats 8000000 in
theorem newField (m : Nat) (w : World) (hm : m < W256) (hg : W256 ≤ 2 * m) (h0 : rowR m 0 < 2 ^ 225) (h1 : rowR m 1 < 2 ^ 241) : Calls Tryd.prog 48 #[num16 m] w fun e w' => ∃ b,e = .returned (mp b) ∧ w.heap.size ≤ b ∧ FldV w' b m ∧ Hp w [] w' := by
 have hm1 : 1 < m := by unfold W256 at hg;omega
 refine enter (args := [_]) (Γ := [(0,_)]) Tryd.func48 Tryd.ntmps48 rfl (of_decide_eq_true rfl) (.cons rfl .nil) ?_
 have hR := fun wq => refR m wq hm hm1
 rw [rowR_0] at hR
 have hlt : ∀ k i,dblR m k i < m := fun k i => Nat.mod_lt _ (by omega)
 repeat' first | (apply Wl.buildFl;exact rfl;(focus ((repeat (first | exact Parts.nil | apply Parts.cons rfl));done))) | (apply Wl.callQ (f := 82);exact rfl;(focus repeat constructor);(intro wq hq;exact hq.q (hR wq))) | (apply Wl.loadW;exact rfl;exact rfl;(focus repeat constructor);exact rfl) | (apply Wl.storeW;exact rfl;exact rfl;(focus repeat constructor);exact rfl;(first | exact cellsN_len _ _ _ | exact rfl)) | (apply Wl.boxN;exact rfl;exact rfl;intro c hc ho) | (apply Wl.allocN;exact rfl;(first | exact z8 | exact z16 | exact z17 | exact z33 | exact z10);intro c hc ho) | refine Wl.assign rfl rfl ?_ | apply Wl.nil | apply St.seq | apply St.block | apply St.region | apply Gt.next
 rename_i c1 hc1 ho1 cf hcf hof
 generalize c = cr at *
 refine St.loop (σ := Nat) (fun k => k ≤ 16) (fun k => [(1,mp c1),(3,mp cf),(4,mp cr),(5,.int .i64 k)])
  (fun k => Hp w [⟨cr,cellsN .u64 16 (dg D16 (rowR m k)),94⟩,⟨cf,cellsN .u64 272 (hF m k),106⟩,⟨c1,cellsN .u64 16 (dg D16 m),94⟩])
  (fun k => 16 - k) 0 (by simp) (by repeat constructor) (fun _ h => h) ?_
 intro k hk16
 by_cases hkl : k < 16
 ·repeat' first | (apply St.bagX 6 [];exact mixed;(decide +kernel);kernel_rfl) | apply OpsX.nil | (apply OpsX.v;(intro X hX;change Wl [_] _ _ _ _ _ _ _;apply Wl.catX;(focus repeat constructor))) | (apply Gt.endX;exact rfl) | (apply EndX.on;exact rfl) | (apply EndX.off;exact rfl) | (apply EndX.nil';apply Wl.catE;(focus repeat constructor)) | (apply Wl.storeA;exact rfl;exact rfl;exact cellsN_len _ _ _;exact cellsN_one _ _ _;(focus repeat constructor);exact hF_put m k hkl) | (apply Wl.loadW;exact rfl;exact rfl;(focus repeat constructor);exact rfl) | refine Wl.move rfl rfl ?_ | refine Wl.assign rfl rfl ?_ | refine Wl.nilCheck rfl rfl ?_ | refine Wl.fieldAddrZ rfl rfl ?_ | refine Wl.lss rfl rfl rfl ?_ | (refine Wl.indexArr rfl rfl rfl ?_ ?_;constructor <;> omega) | apply Wl.nil | apply St.seq | apply St.block | apply St.region | apply St.skip | apply Gt.next | (apply St.condP;exact rfl;all_goals (intros;try (exfalso;omega)))
  refine St.loop (σ := Nat) (fun i => i ≤ 16) (fun i => [(1,mp c1),(3,mp cf),(4,mp cr),(5,.int .i64 k),(6,.int .i64 i)])
   (fun i => Hp w [⟨cr,cellsN .u64 16 (dg D16 (dblR m k i)),94⟩,⟨cf,cellsN .u64 272 (hF m (k + 1)),106⟩,⟨c1,cellsN .u64 16 (dg D16 m),94⟩])
   (fun i => 16 - i) 0 (by simp) (by repeat constructor) (fun _ h => by rw [dblR_zero];exact h) ?_
  intro i hi16
  by_cases hil : i < 16
  ·repeat' first | (apply Wl.callQ (f := 83);exact rfl;(focus repeat constructor);(intro wq hq;exact hq.q (refAdd _ _ m wq hm (hlt _ _) (hlt _ _)))) | (apply Wl.loadW;exact rfl;exact rfl;(focus repeat constructor);exact rfl) | (apply Wl.storeW;exact rfl;exact rfl;(focus repeat constructor);exact rfl;(first | exact cellsN_len _ _ _ | exact rfl)) | refine Wl.move rfl rfl ?_ | refine Wl.assign rfl rfl ?_ | refine Wl.lss rfl rfl rfl ?_ | (refine Wl.addI rfl rfl rfl ?_ ?_;constructor <;> omega) | apply Wl.nil | apply St.seq | apply St.block | apply St.region | apply St.skip | apply Gt.next | apply Gt.inNormal | (apply St.condP;exact rfl;all_goals (intros;try (exfalso;omega)))
   rw [dblR_step]
   apply Gt.round (i + 1)
   rotate_left
   ·omega
   ·repeat constructor
   ·exact fun _ h => h
   ·omega
  ·have hie : i = 16 := by omega
   subst hie
   rw [dblR_end]
   repeat' first | refine Wl.move rfl rfl ?_ | refine Wl.assign rfl rfl ?_ | refine Wl.lss rfl rfl rfl ?_ | (refine Wl.addI rfl rfl rfl ?_ ?_;constructor <;> omega) | apply Wl.nil | apply St.seq | apply St.region | (apply St.condF;exact rfl;(with_reducible first | rfl | assumption | decide)) | apply St.exit | apply Gt.next | apply Gt.thenExit | apply Gt.inNormal | apply Gt.inExit
   apply Gt.round (k + 1)
   rotate_left
   ·omega
   ·repeat constructor
   ·exact fun _ h => h
   ·omega
 ·have hke : k = 16 := by omega
  subst hke
  repeat' first | refine Wl.move rfl rfl ?_ | refine Wl.assign rfl rfl ?_ | refine Wl.lss rfl rfl rfl ?_ | apply Wl.nil | apply St.seq | apply St.region | (apply St.condF;exact rfl;(with_reducible first | rfl | assumption | decide)) | apply St.ret | apply St.exit | apply Gt.next | apply Gt.thenExit | apply Gt.inExit | (apply Gt.out1;exact rfl;exact rfl;intro w' hp)
  have hmem : (⟨cf,cellsN .u64 272 (hF m 16),106⟩ : Blk) ∈ [(⟨cr,cellsN .u64 16 (dg D16 (rowR m 16)),94⟩ : Blk),⟨cf,cellsN .u64 272 (hF m 16),106⟩,⟨c1,cellsN .u64 16 (dg D16 m),94⟩] := .tail _ (.head _)
  refine ⟨cf,rfl,hcf,⟨fun j hj => ?_,fun k i hk hi => ?_,hm,hg,h0,h1⟩,hp.drop (by simp;omega)⟩
  ·refine hp.cell hmem ?_
   rw [cellsN_get (by omega),Nat.zero_add]
   unfold hF
   rw [if_pos hj]
  ·refine hp.cell hmem ?_
   rw [cellsN_get (by omega)]
   unfold hF
   rw [if_neg (by omega),if_pos (by omega),show (16 + k * 16 + i - 16) / 16 = k by omega,show (16 + k * 16 + i - 16) % 16 = i by omega]
end Go.Proofs.YtmjlceimjlabpaaDoor
end
section
namespace Go.Proofs.YtmjlceimjlabpaaDoor
open Go.RowKit Go.Pt
attribute [local irreducible] Prim.P256
def pwm (m x k : Nat) : Nat := x ^ k % m
theorem pwm_zero (m x : Nat) (h : 1 < m) : pwm m x 0 = 1 := by unfold pwm;rw [Nat.pow_zero,Nat.mod_eq_of_lt h]
theorem pwm_dbl (m x k : Nat) : pwm m x k * pwm m x k % m = pwm m x (2 * k) := by unfold pwm;rw [← Nat.mul_mod,Nat.two_mul,Nat.pow_add]
theorem pwm_one (m x k : Nat) : pwm m x k * x % m = pwm m x (k + 1) := by unfold pwm;rw [Nat.mod_mul_mod,Nat.pow_succ]
theorem pwm_lt {m : Nat} (x k : Nat) (h : 0 < m) : pwm m x k < m := Nat.mod_lt _ h
attribute [irreducible] pwm
theorem dg_less {m : Nat} (h : 2 ≤ dg D16 m 0) (j : Nat) : updN (dg D16 m) 0 (dg D16 m 0 - 2) j = dg D16 (m - 2) j := by
 have e : dg D16 m 0 = m % 65536 := by unfold dg;rw [hi_zero]
 have e' : dg D16 (m - 2) 0 = (m - 2) % 65536 := by unfold dg;rw [hi_zero]
 unfold updN
 by_cases hj : j = 0
 ·subst hj
  rw [if_pos rfl,e,e']
  omega
 ·rw [if_neg hj]
  obtain ⟨k,rfl⟩ : ∃ k,j = k + 1 := ⟨j - 1,by omega⟩
  have : ∀ n,dg D16 n (k + 1) = dg D16 (n / 65536) k := fun n => by
   unfold dg hi
   rw [Nat.div_div_eq_div_mul,Nat.pow_succ,Nat.mul_comm (D16 ^ k)]
  rw [this,this]
  congr 1
  omega
set_option maxHeartbeats 8000000 in
theorem refFInv (b m x : Nat) (w : World) (hF : FldV w b m) (hx : x < m) (h2 : 2 ≤ dg D16 m 0) : Calls Tryd.prog 52 #[mp b,num16 x] w fun e w' => e = .returned (num16 (pwm m x (m - 2))) ∧ Hp w [] w' := by
 have hb := hF.blk
 have hm1 : 1 < m := by have := hF.gt;unfold W256 at this;omega
 have hm0 : 0 < m := by omega
 have hmW := hF.lt
 refine enter (args := [_,_]) (Γ := [(0,_),(1,_)]) Tryd.func52 Tryd.ntmps52 rfl (of_decide_eq_true rfl) (.cons rfl (.cons rfl .nil)) ?_
 have hs : dg D16 m 0 < 65536 := dlt16 m 0
 have q0 : (dg D16 m 0 + 18446744073709551616 - 2) % 18446744073709551616 = dg D16 m 0 - 2 := by omega
 repeat' first | (apply Wl.loadM;exact rfl;exact rfl;exact hF.mod;(repeat (first | exact trivial | exact hX.off (by omega) | refine ⟨by first | assumption | omega | (simp only;omega),?_⟩));exact rfl) | (apply Wl.indexA (j := 0);exact rfl;exact rfl;exact rfl;(decide)) | (apply Wl.subNU (n := 2);exact rfl;exact rfl;exact rfl;omega) | (apply Wl.loadN;exact rfl;exact rfl;(focus repeat constructor);omega) | (apply Wl.storeN;exact rfl;exact rfl;(focus repeat constructor);omega) | (apply Wl.storeW;exact rfl;exact rfl;(focus repeat constructor);exact rfl;(first | exact cellsN_len _ _ _ | exact rfl)) | (apply Wl.boxN;exact rfl;exact rfl;intro c hc ho) | (apply Wl.buildN;exact rfl;(repeat (first | exact Parts.nil | apply Parts.cons rfl));(repeat (first | apply Fills.nil | (apply Fills.one;exact rfl;exact rfl;(repeat (first | apply LSet.z | apply LSet.s))) | (apply Fills.agg;exact rfl;exact rfl;(repeat (first | apply LPut.s | apply LPut.z | apply LOver.nil | apply LOver.cons)))));(first | exact one8 | exact zero8 | exact two8 | exact one16)) | (apply Wl.allocN;exact rfl;(first | exact z8 | exact z16 | exact z17 | exact z33 | exact z10);intro c hc ho) | refine Wl.move rfl rfl ?_ | refine Wl.assign rfl rfl ?_ | refine Wl.nilCheck rfl rfl ?_ | refine Wl.fieldAddr0 rfl rfl ?_ | apply Wl.nil | apply St.seq | apply St.block | apply St.region | apply Gt.next
 rw [q0,cellsN_congr (g := dg D16 (m - 2)) (fun j _ => dg_less h2 j)]
 rename_i c3 h3 o3 c4 h4 o4 c5 h5 o5
 generalize c = c6 at *
 have e0 : (m - 2) / 2 ^ 256 = 0 := Nat.div_eq_of_lt (by rw [show (2 : Nat) ^ 256 = W256 by decide];omega)
 refine St.loop (σ := Nat) (fun n => n ≤ 256) (fun n => [(0,mp b),(3,mp c3),(4,mp c4),(5,mp c5),(6,mp c6),(7,.int .i64 ((n : Int) - 1))])
  (fun n => Hp w [⟨c6,cellsN .u64 16 (dg D16 (m - 2)),94⟩,⟨c5,cellsN .u64 16 (dg D16 (pwm m x ((m - 2) / 2 ^ n))),94⟩,⟨c4,cellsN .u64 16 fun _ => 0,94⟩,⟨c3,cellsN .u64 16 (dg D16 x),94⟩])
  (fun n => n) 256 (Nat.le_refl _) (by repeat constructor) (fun _ h => by
   show Hp w [_,⟨c5,cellsN .u64 16 (dg D16 (pwm m x ((m - 2) / 2 ^ 256))),_⟩,_,_] _
   rw [e0,pwm_zero m x hm1]
   exact h) ?_
 intro n hn
 cases n with
 | zero =>
  rw [Nat.pow_zero,Nat.div_one]
  repeat' first | (apply Gt.outN;exact rfl;infer_instance;exact rfl;(focus repeat constructor);exact rfl;intro w' hp) | (apply Wl.loadW;exact rfl;exact rfl;(focus repeat constructor);exact rfl) | (apply Wl.storeW;exact rfl;exact rfl;(focus repeat constructor);exact rfl;(first | exact cellsN_len _ _ _ | exact rfl)) | refine Wl.move rfl rfl ?_ | refine Wl.geq rfl rfl rfl ?_ | apply Wl.nil | apply St.seq | apply St.region | (apply St.condF;exact rfl;(with_reducible first | rfl | assumption | decide)) | apply St.ret | apply St.exit | apply Gt.next | apply Gt.thenExit | apply Gt.inExit
  exact ⟨rfl,hp.drop (by simp;omega)⟩
 | succ i =>
  have ei : (((i + 1 : Nat) : Int) - 1) = (i : Int) := by omega
  rw [ei]
  have hr := pwm_lt x ((m - 2) / 2 ^ (i + 1)) hm0
  have hr2 := pwm_lt x (2 * ((m - 2) / 2 ^ (i + 1))) hm0
  have hd := pwm_dbl m x ((m - 2) / 2 ^ (i + 1))
  have hbit := bit_dg16 (m - 2) i
  have hst := bit_step (m - 2) i
  have hdl := dlt16 (m - 2) (i / 16)
  have h16 : i / 16 < 16 := by omega
  have hb2 := Nat.mod_lt ((m - 2) / 2 ^ i) (show 0 < 2 by decide)
  repeat' first | (apply Wl.loadW;exact rfl;exact rfl;(focus repeat constructor);exact rfl) | refine Wl.move rfl rfl ?_ | refine Wl.geq rfl rfl rfl ?_ | apply Wl.nil | apply St.seq | apply St.block | apply St.region | apply St.skip | apply Gt.next | (apply St.condP;exact rfl;all_goals (intros;try (exfalso;omega)))
  apply Wl.callQ
  exact rfl
  (focus repeat constructor)
  ·intro wq hq
   exact hq.q (refFMul b m _ _ wq (hF.hp hq (by apply Off.of;simp;omega)) hr hr)
  rw [hd]
  repeat' first | (refine Wl.indexA rfl rfl rfl ?_ ?_;omega) | (apply Wl.loadN;exact rfl;exact rfl;(focus repeat constructor);omega) | (apply Wl.storeW;exact rfl;exact rfl;(focus repeat constructor);exact rfl;(first | exact cellsN_len _ _ _ | exact rfl)) | (apply Wl.remN (n := 2);exact rfl;exact rfl;exact rfl;(decide)) | (apply Wl.quoN (n := 16);exact rfl;exact rfl;exact rfl;(decide);(first | exact IntWalk.u64_in _ (by omega) | exact IntWalk.i64_in _ (by omega))) | (apply Wl.remN (n := 16);exact rfl;exact rfl;exact rfl;(decide)) | (apply Wl.shrV;exact rfl;exact rfl;exact rfl;(first | (show _ ≤ 32;omega) | (show _ ≤ 64;omega))) | refine Wl.move rfl rfl ?_ | refine Wl.eql rfl rfl rfl ?_ | apply Wl.nil | apply St.seq | apply St.region | apply Gt.next
  rw [hbit]
  by_cases hbi : (m - 2) / 2 ^ i % 2 = 1
  ·have e1 : 2 * ((m - 2) / 2 ^ (i + 1)) + 1 = (m - 2) / 2 ^ i := by omega
   have h1 := pwm_one m x (2 * ((m - 2) / 2 ^ (i + 1)))
   rw [e1] at h1
   rw [hbi]
   repeat' first | (apply Wl.callQ (f := 57);exact rfl;(focus repeat constructor);(intro wq hq;refine (refFMul b m _ x wq (hF.hp hq (by (repeat (first | exact trivial | exact hX.off (by omega) | refine ⟨by first | assumption | omega | (simp only;omega),?_⟩)))) hr2 hx).mono ?_;rintro e wr ⟨rfl,hr⟩;exact ⟨rfl,hq.keep hr⟩)) | (apply Wl.loadW;exact rfl;exact rfl;(focus repeat constructor);exact rfl) | (apply Wl.storeW;exact rfl;exact rfl;(focus repeat constructor);exact rfl;(first | exact cellsN_len _ _ _ | exact rfl)) | refine Wl.move rfl rfl ?_ | refine Wl.assign rfl rfl ?_ | (refine Wl.subI rfl rfl rfl ?_ ?_;constructor <;> omega) | apply Wl.nil | apply St.region | (apply St.condT;exact rfl;(with_reducible first | rfl | assumption | decide)) | apply Gt.next | apply Gt.inNormal
   rw [h1]
   apply Gt.round i
   rotate_left
   ·omega
   ·repeat constructor
   ·exact fun _ h => h
   ·omega
  ·have hb0 : (m - 2) / 2 ^ i % 2 = 0 := by omega
   have e1 : 2 * ((m - 2) / 2 ^ (i + 1)) = (m - 2) / 2 ^ i := by omega
   rw [hb0,e1]
   repeat' first | refine Wl.move rfl rfl ?_ | refine Wl.assign rfl rfl ?_ | (refine Wl.subI rfl rfl rfl ?_ ?_;constructor <;> omega) | apply Wl.nil | apply St.region | (apply St.condF;exact rfl;(with_reducible first | rfl | assumption | decide)) | apply St.skip | apply Gt.next | apply Gt.inNormal
   apply Gt.round i
   rotate_left
   ·omega
   ·repeat constructor
   ·exact fun _ h => h
   ·omega
end Go.Proofs.YtmjlceimjlabpaaDoor
end
section
namespace Go.Proofs.YtmjlceimjlabpaaDoor
open Go.RowKit Go.Pt
attribute [local irreducible] Prim.P256
section
variable {b : Nat} {w : World} {x y r : Ec.F}
theorem hMul (h : FldV w b Prim.P256) (e : r = x * y) : Calls Tryd.prog 57 #[mp b,num16 x.val,num16 y.val] w fun e w' => e = .returned (num16 r.val) ∧ Hp w [] w' := by
 rw [e,Fin.val_mul];exact refFMul b _ _ _ w h x.isLt y.isLt
theorem hAdd (h : FldV w b Prim.P256) (e : r = x + y) : Calls Tryd.prog 88 #[mp b,num16 x.val,num16 y.val] w fun e w' => e = .returned (num16 r.val) ∧ Hp w [] w' := by
 rw [e,Fin.val_add];exact refFAdd b _ _ _ w h x.isLt y.isLt
theorem hSub (h : FldV w b Prim.P256) (e : r = x - y) : Calls Tryd.prog 86 #[mp b,num16 x.val,num16 y.val] w fun e w' => e = .returned (num16 r.val) ∧ Hp w [] w' := by
 have e2 : (x - y).val = (x.val + (Prim.P256 - y.val)) % Prim.P256 := by rw [Fin.sub_def,Nat.add_comm]
 rw [e,e2];exact refFSub b _ _ _ w h x.isLt y.isLt
theorem dgP0 : 2 ≤ dg D16 Prim.P256 0 := by decide +kernel
theorem hInv (h : FldV w b Prim.P256) (e : r = Ec.finv x) : Calls Tryd.prog 52 #[mp b,num16 x.val] w fun e w' => e = .returned (num16 r.val) ∧ Hp w [] w' := by
 have e2 : (Ec.finv x).val = pwm Prim.P256 x.val (Prim.P256 - 2) := by unfold pwm Ec.finv;rfl
 rw [e,e2];exact refFInv b _ _ w h x.isLt dgP0
end
theorem cell64 (n : Nat) : ∀ j,j < 16 → IntKind.u64.min ≤ (dg D16 n j : Int) ∧ (dg D16 n j : Int) ≤ IntKind.u64.max := fun j _ => by
 have := dlt16 n j
 show (0 : Int) ≤ _ ∧ _ ≤ (18446744073709551615 : Int)
 omega
theorem d16_inj {a b : Nat} (ha : a < W256) (hb : b < W256) : decide (a = b) = true ↔ ∀ j,j < 16 → dg D16 a j = dg D16 b j := by
 rw [decide_eq_true_iff]
 exact ⟨fun h j _ => by rw [h],fun h => dg_ext (B := D16) (k := 16) (by rw [← W256_eq16];exact ha) (by rw [← W256_eq16];exact hb) h⟩
theorem eq16Z (x : Ec.F) : decide (x = 0) = true ↔ ∀ j,j < 16 → dg D16 x.val j = dg D16 0 j := by
 rw [← d16_inj (val_W x) (by decide),decide_eq_true_iff,decide_eq_true_iff]
 exact ⟨fun h => by rw [h,val_zero],fun h => Fin.ext (by rw [h,val_zero])⟩
theorem eq16F (x y : Ec.F) : decide (x = y) = true ↔ ∀ j,j < 16 → dg D16 x.val j = dg D16 y.val j := by
 rw [← d16_inj (val_W x) (val_W y),decide_eq_true_iff,decide_eq_true_iff]
 exact ⟨fun h => by rw [h],fun h => Fin.ext h⟩
theorem zero16 : [Value.int .u64 0,.int .u64 0,.int .u64 0,.int .u64 0,.int .u64 0,.int .u64 0,.int .u64 0,.int .u64 0,.int .u64 0,.int .u64 0,.int .u64 0,.int .u64 0,.int .u64 0,.int .u64 0,.int .u64 0,.int .u64 0] = cellsN .u64 16 (dg D16 0) := by kernel_rfl
def rpC (x y z : Nat) : List Value := cellsN .u64 16 (dg D16 x) ++ (cellsN .u64 16 (dg D16 y) ++ cellsN .u64 16 (dg D16 z))
theorem rpC_len (x y z : Nat) : (rpC x y z).length = 48 := by simp [rpC,cellsN_len]
theorem rpC_one (x y z : Nat) : (rpC x y z).all Value.oneCell' = true := by
 unfold rpC
 rw [List.all_append,List.all_append,cellsN_one,cellsN_one,cellsN_one];rfl
theorem rpC_x (x y z : Nat) : LSub (rpC x y z) 0 16 (cellsN .u64 16 (dg D16 x)) := LSub.mid (a := []) rfl (cellsN_len _ _ _)
theorem rpC_y (x y z : Nat) : LSub (rpC x y z) 16 16 (cellsN .u64 16 (dg D16 y)) := LSub.mid (cellsN_len _ _ _) (cellsN_len _ _ _)
theorem rpC_z (x y z : Nat) : LSub (rpC x y z) 32 16 (cellsN .u64 16 (dg D16 z)) := LSub.into (cellsN_len _ _ _) (LSub.end' (cellsN_len _ _ _) (cellsN_len _ _ _)) rfl
theorem rp_zero : [Value.int .u64 0,.int .u64 0,.int .u64 0,.int .u64 0,.int .u64 0,.int .u64 0,.int .u64 0,.int .u64 0,.int .u64 0,.int .u64 0,.int .u64 0,.int .u64 0,.int .u64 0,.int .u64 0,.int .u64 0,.int .u64 0] ++ ([Value.int .u64 0,.int .u64 0,.int .u64 0,.int .u64 0,.int .u64 0,.int .u64 0,.int .u64 0,.int .u64 0,.int .u64 0,.int .u64 0,.int .u64 0,.int .u64 0,.int .u64 0,.int .u64 0,.int .u64 0,.int .u64 0] ++ [Value.int .u64 0,.int .u64 0,.int .u64 0,.int .u64 0,.int .u64 0,.int .u64 0,.int .u64 0,.int .u64 0,.int .u64 0,.int .u64 0,.int .u64 0,.int .u64 0,.int .u64 0,.int .u64 0,.int .u64 0,.int .u64 0]) = rpC 0 0 0 := by
 unfold rpC;rw [zero16]
theorem fill3R {place : Nat → Option (Nat × Nat)} {za zb zc xs ys zs : List Value} (ha : za.length = 16) (hb : zb.length = 16) (hc : zc.length = 16) (hx : xs.length = 16) (hy : ys.length = 16) (hz : zs.length = 16) (p0 : place 0 = some (0,16)) (p1 : place 1 = some (16,16)) (p2 : place 2 = some (32,16)) :
  Fills place (za ++ (zb ++ zc)) [(0,.agg xs.toArray),(1,.agg ys.toArray),(2,.agg zs.toArray)] (xs ++ (ys ++ zs)) := by
 have h1 : LPut (za ++ (zb ++ zc)) 0 xs (xs ++ (zb ++ zc)) := LPut.app (p := []) rfl (by rw [ha,hx])
 have h2 : LPut (xs ++ (zb ++ zc)) 16 ys (xs ++ (ys ++ zc)) := LPut.app hx (by rw [hb,hy])
 have h3 : LPut (xs ++ (ys ++ zc)) 32 zs (xs ++ (ys ++ zs)) := by
  have := LPut.app (p := xs ++ ys) (l := zc) (xs := zs) (r := []) (n := 32) (by simp [hx,hy]) (by rw [hc,hz])
  simpa using this
 exact .agg p0 (by rw [hx];rfl) h1 (.agg p1 (by rw [hy];rfl) h2 (.agg p2 (by rw [hz];rfl) h3 .nil))
theorem rpC_set (x y z x' y' z' : Nat) : Fills ([(0,16),(16,16),(32,16)].toArray[·]?) (rpC x y z) [(0,num16 x'),(1,num16 y'),(2,num16 z')] (rpC x' y' z') :=
 fill3R (cellsN_len _ _ _) (cellsN_len _ _ _) (cellsN_len _ _ _) (cellsN_len _ _ _) (cellsN_len _ _ _) (cellsN_len _ _ _) rfl rfl rfl
theorem rpC_y1 (x y z y' : Nat) : Fills ([(0,16),(16,16),(32,16)].toArray[·]?) (rpC x y z) [(1,num16 y')] (rpC x y' z) :=
 .agg rfl (by rw [cellsN_len];rfl) (LPut.app (cellsN_len _ _ _) (by rw [cellsN_len,cellsN_len])) .nil
attribute [irreducible] rpC
section
variable {md : Md} {N : Nat} {ops : Array Oper} {rest : List Oper} {Γ : Env} {C : World → Prop} {Q : Exit → Act → World → Prop} {d : Nat} {ty : TypeId} {pos : String} {af : Array Edge} {parts : Array (Nat × Operand)}
theorem Wl.buildRp {x y z : Nat} (hd : Nat.blt d N = true) (hp : Parts Γ parts.toList [(0,num16 x),(1,num16 y),(2,num16 z)]) (h : Wl rest Tryd.prog md ops N ((d,.agg (rpC x y z).toArray) :: Γ) C Q) :
  Wl (⟨some d,.build 96 parts,ty,pos,af,none⟩ :: rest) Tryd.prog md ops N Γ C Q := by
 refine Wl.build hd hp (fun _ => run_build_struct ?_) h
 have := rpC_set 0 0 0 x y z
 rw [← rp_zero] at this
 exact this
theorem Wl.buildRq {y : Nat} (hd : Nat.blt d N = true) (hp : Parts Γ parts.toList [(1,num16 y)]) (h : Wl rest Tryd.prog md ops N ((d,.agg (rpC 0 y 0).toArray) :: Γ) C Q) :
  Wl (⟨some d,.build 96 parts,ty,pos,af,none⟩ :: rest) Tryd.prog md ops N Γ C Q := by
 refine Wl.build hd hp (fun _ => run_build_struct ?_) h
 have := rpC_y1 0 0 0 y
 rw [← rp_zero] at this
 exact this
end
abbrev rpF (p : Ec.F × Ec.F × Ec.F) : List Value := rpC p.1.val p.2.1.val p.2.2.val
abbrev rpV (p : Ec.F × Ec.F × Ec.F) : Value := .agg (rpF p).toArray
set_option maxHeartbeats 8000000 in
theorem refOn (b : Nat) (x y : Ec.F) (w : World) (hF : FldV w b Prim.P256) : Calls Tryd.prog 81 #[mp b,num16 x.val,num16 y.val] w fun e w' => e = .returned (.bool (decide (y * y = x * x * x - (x + x + x) + curB))) ∧ Hp w [] w' := by
 have hb := hF.blk
 obtain ⟨l,h_l⟩ : ∃ q_ : Ec.F,q_ = y * y := ⟨_,rfl⟩
 obtain ⟨xx,h_xx⟩ : ∃ q_ : Ec.F,q_ = x * x := ⟨_,rfl⟩
 obtain ⟨xxx,h_xxx⟩ : ∃ q_ : Ec.F,q_ = xx * x := ⟨_,rfl⟩
 obtain ⟨x2,h_x2⟩ : ∃ q_ : Ec.F,q_ = x + x := ⟨_,rfl⟩
 obtain ⟨x3,h_x3⟩ : ∃ q_ : Ec.F,q_ = x2 + x := ⟨_,rfl⟩
 obtain ⟨d,h_d⟩ : ∃ q_ : Ec.F,q_ = xxx - x3 := ⟨_,rfl⟩
 obtain ⟨rr,h_rr⟩ : ∃ q_ : Ec.F,q_ = d + curB := ⟨_,rfl⟩
 rw [← h_xx,← h_xxx,← h_x2,← h_x3,← h_d,← h_rr,← h_l]
 refine enter (args := [_,_,_]) (Γ := [(0,_),(1,_),(2,_)]) Tryd.func81 Tryd.ntmps81 rfl (of_decide_eq_true rfl) (.cons rfl (.cons rfl (.cons rfl .nil))) ?_
 repeat' first | (apply St.bagX 20 [];exact mixed;(decide +kernel);kernel_rfl) | apply OpsX.nil | (apply OpsX.b;exact rfl) | (apply OpsX.v;(intro X hX;change Wl [_] _ _ _ _ _ _ _;apply Wl.catX;(focus repeat constructor))) | (apply Gt.endX;exact rfl) | (apply EndX.new;intro c hc ho) | (apply EndX.on;exact rfl) | (apply EndX.off;exact rfl) | (apply EndX.nil';apply Wl.catE;(focus repeat constructor)) | (apply Wl.callQ (f := 57);exact rfl;(focus repeat constructor);(intro wq hq;refine (hMul (hF.hp hq (by (repeat (first | exact trivial | exact hX.off (by omega) | refine ⟨by first | assumption | omega | (simp only;omega),?_⟩)))) (by with_reducible assumption)).mono ?_;rintro e wr ⟨rfl,hr⟩;exact ⟨rfl,hq.keep hr⟩)) | (apply Wl.callQ (f := 88);exact rfl;(focus repeat constructor);(intro wq hq;refine (hAdd (hF.hp hq (by (repeat (first | exact trivial | exact hX.off (by omega) | refine ⟨by first | assumption | omega | (simp only;omega),?_⟩)))) (by with_reducible assumption)).mono ?_;rintro e wr ⟨rfl,hr⟩;exact ⟨rfl,hq.keep hr⟩)) | (apply Wl.callQ (f := 86);exact rfl;(focus repeat constructor);(intro wq hq;refine (hSub (hF.hp hq (by (repeat (first | exact trivial | exact hX.off (by omega) | refine ⟨by first | assumption | omega | (simp only;omega),?_⟩)))) (by with_reducible assumption)).mono ?_;rintro e wr ⟨rfl,hr⟩;exact ⟨rfl,hq.keep hr⟩)) | (apply Wl.callQ (f := 96);exact rfl;(focus repeat constructor);(intro wq hq;exact hq.q (ref4b wq))) | (apply Wl.eqlA;exact rfl;exact rfl;exact rfl;kernel_rfl;kernel_rfl;kernel_rfl;kernel_rfl;exact cell64 _;exact cell64 _;exact eq16F _ _) | (apply Wl.loadW;exact rfl;exact rfl;(focus repeat constructor);exact rfl) | (apply Wl.storeW;exact rfl;exact rfl;(focus repeat constructor);exact rfl;(first | exact cellsN_len _ _ _ | exact rfl)) | (apply Wl.boxN;exact rfl;exact rfl;intro c hc ho) | (apply Wl.allocN;exact rfl;(first | exact z8 | exact z16 | exact z17 | exact z33 | exact z10);intro c hc ho) | refine Wl.move rfl rfl ?_ | refine Wl.assign rfl rfl ?_ | apply Wl.nil | apply St.seq | apply St.region | apply St.ret | apply Gt.next | (apply Gt.out1;exact rfl;exact rfl;intro w' hp)
 exact ⟨rfl,hp.drop (by simp;omega)⟩
theorem pdbl_zero {p : Ec.F × Ec.F × Ec.F} (h : p.2.2 = 0) : Ec.pdbl p = p := by unfold Ec.pdbl;rw [if_pos h]
theorem pdbl_nz {x y z : Ec.F} (h : ¬ z = 0) : Ec.pdbl (x,y,z) = (let w0 := x * x - z * z
 let w := w0 + w0 + w0
 let s := y * z
 let ys := y * s
 let q := x * ys
 let q4 := q + q + (q + q)
 let h := w * w - (q4 + q4)
 let hs := h * s
 let yy := ys * ys
 let y8 := yy + yy + (yy + yy) + (yy + yy + (yy + yy))
 let sss := s * (s * s)
 let z' := sss + sss + (sss + sss)
 (hs + hs,w * (q4 - h) - y8,z' + z')) := by unfold Ec.pdbl;rw [if_neg h]
set_option maxHeartbeats 16000000 in
theorem refDbl (b : Nat) (p : Ec.F × Ec.F × Ec.F) (w : World) (hF : FldV w b Prim.P256) : Calls Tryd.prog 87 #[mp b,rpV p] w fun e w' => e = .returned (rpV (Ec.pdbl p)) ∧ Hp w [] w' := by
 have hb := hF.blk
 obtain ⟨x,y,z⟩ := p
 refine enter (args := [_,_]) (Γ := [(0,_),(1,_)]) Tryd.func87 Tryd.ntmps87 rfl (of_decide_eq_true rfl) (.cons rfl (.cons rfl .nil)) ?_
 by_cases hz : z = 0
 ·have hd : decide (z = 0) = true := decide_eq_true hz
  repeat' first | (apply Wl.loadAH;exact rfl;exact rfl;(focus repeat constructor);(first | exact rpC_x _ _ _ | exact rpC_y _ _ _ | exact rpC_z _ _ _ | exact LSub.whole (rpC_len _ _ _))) | (apply Wl.storeAll;exact rfl;exact rfl;(focus repeat constructor);(first | exact rpC_len _ _ _);(first | exact rfl | exact rpC_len _ _ _);(first | exact rpC_one _ _ _)) | (apply Wl.buildN;exact rfl;(repeat (first | exact Parts.nil | apply Parts.cons rfl));(repeat (first | apply Fills.nil | (apply Fills.one;exact rfl;exact rfl;(repeat (first | apply LSet.z | apply LSet.s))) | (apply Fills.agg;exact rfl;exact rfl;(repeat (first | apply LPut.s | apply LPut.z | apply LOver.nil | apply LOver.cons)))));exact zero16) | (apply Wl.eqlA;exact rfl;exact rfl;exact rfl;kernel_rfl;kernel_rfl;kernel_rfl;kernel_rfl;exact cell64 _;exact cell64 _;exact eq16Z _) | (apply Gt.outC';exact rfl;infer_instance;exact rfl;(focus repeat constructor);(first | exact LSub.whole (rpC_len _ _ _));intro w' hp) | refine Wl.fieldAddrZ rfl rfl ?_ | (apply Wl.boxA;exact rfl;exact rfl;intro c hc ho) | (apply Wl.alloc;exact rfl;intro c hc ho) | apply Wl.nil | apply St.seq | apply St.region | (apply St.condT;exact rfl;(with_reducible first | rfl | assumption | decide)) | apply St.ret | apply Gt.next | apply Gt.thenRet
  rw [pdbl_zero hz]
  exact ⟨rfl,hp.drop (by simp;omega)⟩
 ·have hd : decide (z = 0) = false := decide_eq_false hz
  obtain ⟨xx,h_xx⟩ : ∃ q_ : Ec.F,q_ = x * x := ⟨_,rfl⟩
  obtain ⟨zz,h_zz⟩ : ∃ q_ : Ec.F,q_ = z * z := ⟨_,rfl⟩
  obtain ⟨w0,h_w0⟩ : ∃ q_ : Ec.F,q_ = xx - zz := ⟨_,rfl⟩
  obtain ⟨w1,h_w1⟩ : ∃ q_ : Ec.F,q_ = w0 + w0 := ⟨_,rfl⟩
  obtain ⟨wv,h_wv⟩ : ∃ q_ : Ec.F,q_ = w1 + w0 := ⟨_,rfl⟩
  obtain ⟨s,h_s⟩ : ∃ q_ : Ec.F,q_ = y * z := ⟨_,rfl⟩
  obtain ⟨ys,h_ys⟩ : ∃ q_ : Ec.F,q_ = y * s := ⟨_,rfl⟩
  obtain ⟨q,h_q⟩ : ∃ q_ : Ec.F,q_ = x * ys := ⟨_,rfl⟩
  obtain ⟨q2,h_q2⟩ : ∃ q_ : Ec.F,q_ = q + q := ⟨_,rfl⟩
  obtain ⟨q4,h_q4⟩ : ∃ q_ : Ec.F,q_ = q2 + q2 := ⟨_,rfl⟩
  obtain ⟨ww,h_ww⟩ : ∃ q_ : Ec.F,q_ = wv * wv := ⟨_,rfl⟩
  obtain ⟨q8,h_q8⟩ : ∃ q_ : Ec.F,q_ = q4 + q4 := ⟨_,rfl⟩
  obtain ⟨h,h_h⟩ : ∃ q_ : Ec.F,q_ = ww - q8 := ⟨_,rfl⟩
  obtain ⟨hs',h_hs'⟩ : ∃ q_ : Ec.F,q_ = h * s := ⟨_,rfl⟩
  obtain ⟨yy,h_yy⟩ : ∃ q_ : Ec.F,q_ = ys * ys := ⟨_,rfl⟩
  obtain ⟨yy2,h_yy2⟩ : ∃ q_ : Ec.F,q_ = yy + yy := ⟨_,rfl⟩
  obtain ⟨yy4,h_yy4⟩ : ∃ q_ : Ec.F,q_ = yy2 + yy2 := ⟨_,rfl⟩
  obtain ⟨y8,h_y8⟩ : ∃ q_ : Ec.F,q_ = yy4 + yy4 := ⟨_,rfl⟩
  obtain ⟨ss,h_ss⟩ : ∃ q_ : Ec.F,q_ = s * s := ⟨_,rfl⟩
  obtain ⟨sss,h_sss⟩ : ∃ q_ : Ec.F,q_ = s * ss := ⟨_,rfl⟩
  obtain ⟨s2,h_s2⟩ : ∃ q_ : Ec.F,q_ = sss + sss := ⟨_,rfl⟩
  obtain ⟨zv,h_zv⟩ : ∃ q_ : Ec.F,q_ = s2 + s2 := ⟨_,rfl⟩
  obtain ⟨X3,h_X3⟩ : ∃ q_ : Ec.F,q_ = hs' + hs' := ⟨_,rfl⟩
  obtain ⟨d,h_d⟩ : ∃ q_ : Ec.F,q_ = q4 - h := ⟨_,rfl⟩
  obtain ⟨wd,h_wd⟩ : ∃ q_ : Ec.F,q_ = wv * d := ⟨_,rfl⟩
  obtain ⟨Y3,h_Y3⟩ : ∃ q_ : Ec.F,q_ = wd - y8 := ⟨_,rfl⟩
  obtain ⟨Z3,h_Z3⟩ : ∃ q_ : Ec.F,q_ = zv + zv := ⟨_,rfl⟩
  repeat' first | (apply St.bagX 15 [];exact mixed;(decide +kernel);kernel_rfl) | (apply St.bagX 7 [];exact mixed;(decide +kernel);kernel_rfl) | (apply St.bagX 11 [];exact mixed;(decide +kernel);kernel_rfl) | (apply St.bagX 23 [];exact mixed;(decide +kernel);kernel_rfl) | (apply St.bagX 8 [];exact mixed;(decide +kernel);kernel_rfl) | (apply St.bagX 19 [];exact mixed;(decide +kernel);kernel_rfl) | apply OpsX.nil | (apply OpsX.b;exact rfl) | (apply OpsX.v;(intro X hX;change Wl [_] _ _ _ _ _ _ _;apply Wl.catX;(focus repeat constructor))) | (apply Gt.endX;exact rfl) | (apply EndX.new;intro c hc ho) | (apply EndX.on;exact rfl) | (apply EndX.off;exact rfl) | (apply EndX.nil';apply Wl.catE;(focus repeat constructor)) | (apply Wl.callQ (f := 57);exact rfl;(focus repeat constructor);(intro wq hq;refine (hMul (hF.hp hq (by (repeat (first | exact trivial | exact hX.off (by omega) | refine ⟨by first | assumption | omega | (simp only;omega),?_⟩)))) (by with_reducible assumption)).mono ?_;rintro e wr ⟨rfl,hr⟩;exact ⟨rfl,hq.keep hr⟩)) | (apply Wl.callQ (f := 88);exact rfl;(focus repeat constructor);(intro wq hq;refine (hAdd (hF.hp hq (by (repeat (first | exact trivial | exact hX.off (by omega) | refine ⟨by first | assumption | omega | (simp only;omega),?_⟩)))) (by with_reducible assumption)).mono ?_;rintro e wr ⟨rfl,hr⟩;exact ⟨rfl,hq.keep hr⟩)) | (apply Wl.callQ (f := 86);exact rfl;(focus repeat constructor);(intro wq hq;refine (hSub (hF.hp hq (by (repeat (first | exact trivial | exact hX.off (by omega) | refine ⟨by first | assumption | omega | (simp only;omega),?_⟩)))) (by with_reducible assumption)).mono ?_;rintro e wr ⟨rfl,hr⟩;exact ⟨rfl,hq.keep hr⟩)) | (apply Wl.loadAH;exact rfl;exact rfl;(focus repeat constructor);(first | exact rpC_x _ _ _ | exact rpC_y _ _ _ | exact rpC_z _ _ _ | exact LSub.whole (rpC_len _ _ _))) | (apply Wl.storeAll;exact rfl;exact rfl;(focus repeat constructor);(first | exact rpC_len _ _ _);(first | exact rfl | exact rpC_len _ _ _);(first | exact rpC_one _ _ _)) | (apply Wl.buildRp;exact rfl;(focus ((repeat (first | exact Parts.nil | apply Parts.cons rfl));done))) | (apply Wl.buildN;exact rfl;(repeat (first | exact Parts.nil | apply Parts.cons rfl));(repeat (first | apply Fills.nil | (apply Fills.one;exact rfl;exact rfl;(repeat (first | apply LSet.z | apply LSet.s))) | (apply Fills.agg;exact rfl;exact rfl;(repeat (first | apply LPut.s | apply LPut.z | apply LOver.nil | apply LOver.cons)))));exact zero16) | (apply Wl.eqlA;exact rfl;exact rfl;exact rfl;kernel_rfl;kernel_rfl;kernel_rfl;kernel_rfl;exact cell64 _;exact cell64 _;exact eq16Z _) | (apply Gt.outC';exact rfl;infer_instance;exact rfl;(focus repeat constructor);(first | exact LSub.whole (rpC_len _ _ _));intro w' hp) | (apply Wl.loadW;exact rfl;exact rfl;(focus repeat constructor);exact rfl) | (apply Wl.storeW;exact rfl;exact rfl;(focus repeat constructor);exact rfl;(first | exact cellsN_len _ _ _ | exact rfl)) | (apply Wl.allocN;exact rfl;(first | exact z8 | exact z16 | exact z17 | exact z33 | exact z10);intro c hc ho) | refine Wl.move rfl rfl ?_ | refine Wl.fieldAddr0 rfl rfl ?_ | refine Wl.fieldAddrZ rfl rfl ?_ | (apply Wl.boxA;exact rfl;exact rfl;intro c hc ho) | (apply Wl.alloc;exact rfl;intro c hc ho) | apply Wl.nil | apply St.seq | apply St.region | (apply St.condF;exact rfl;(with_reducible first | rfl | assumption | decide)) | apply St.ret | apply St.skip | apply Gt.next
  rw [pdbl_nz hz]
  subst_vars
  exact ⟨rfl,hp.drop (by simp;omega)⟩
theorem pplus_l {p q : Ec.F × Ec.F × Ec.F} (h : p.2.2 = 0) : Ec.pplus p q = q := by unfold Ec.pplus;rw [if_pos h]
theorem pplus_r {p q : Ec.F × Ec.F × Ec.F} (h : ¬ p.2.2 = 0) (h' : q.2.2 = 0) : Ec.pplus p q = p := by unfold Ec.pplus;rw [if_neg h,if_pos h']
theorem pplus_nz {x1 y1 z1 x2 y2 z2 : Ec.F} (h1 : ¬ z1 = 0) (h2 : ¬ z2 = 0) : Ec.pplus (x1,y1,z1) (x2,y2,z2) = (let a1 := y1 * z2;let b1 := x1 * z2
 let u := y2 * z1 - a1;let v := x2 * z1 - b1
 if v = 0 then (if u = 0 then Ec.pdbl (x1,y1,z1) else (1,1,0)) else
 let zz := z1 * z2
 let vv := v * v
 let vvv := v * vv
 let r := vv * b1
 let a := u * u * zz - vvv - (r + r)
 (v * a,u * (r - a) - vvv * a1,vvv * zz)) := by unfold Ec.pplus;rw [if_neg h1,if_neg h2]
theorem rp110 : rpV (1,1,0) = .agg (rpC 1 1 0).toArray := by
 unfold rpV rpF
 simp only
 rw [val_one,val_zero]
set_option maxHeartbeats 16000000 in
theorem refPlus (b : Nat) (p q : Ec.F × Ec.F × Ec.F) (w : World) (hF : FldV w b Prim.P256) : Calls Tryd.prog 55 #[mp b,rpV p,rpV q] w fun e w' => e = .returned (rpV (Ec.pplus p q)) ∧ Hp w [] w' := by
 have hb := hF.blk
 obtain ⟨x1,y1,z1⟩ := p
 obtain ⟨x2,y2,z2⟩ := q
 refine enter (args := [_,_,_]) (Γ := [(0,_),(1,_),(2,_)]) Tryd.func55 Tryd.ntmps55 rfl (of_decide_eq_true rfl) (.cons rfl (.cons rfl (.cons rfl .nil))) ?_
 by_cases hz1 : z1 = 0
 ·have hd1 : decide (z1 = 0) = true := decide_eq_true hz1
  repeat' first | (apply Wl.loadAH;exact rfl;exact rfl;(focus repeat constructor);(first | exact rpC_x _ _ _ | exact rpC_y _ _ _ | exact rpC_z _ _ _ | exact LSub.whole (rpC_len _ _ _))) | (apply Wl.storeAll;exact rfl;exact rfl;(focus repeat constructor);(first | exact rpC_len _ _ _);(first | exact rfl | exact rpC_len _ _ _);(first | exact rpC_one _ _ _)) | (apply Wl.buildN;exact rfl;(repeat (first | exact Parts.nil | apply Parts.cons rfl));(repeat (first | apply Fills.nil | (apply Fills.one;exact rfl;exact rfl;(repeat (first | apply LSet.z | apply LSet.s))) | (apply Fills.agg;exact rfl;exact rfl;(repeat (first | apply LPut.s | apply LPut.z | apply LOver.nil | apply LOver.cons)))));exact zero16) | (apply Wl.eqlA;exact rfl;exact rfl;exact rfl;kernel_rfl;kernel_rfl;kernel_rfl;kernel_rfl;exact cell64 _;exact cell64 _;exact eq16Z _) | (apply Gt.outC';exact rfl;infer_instance;exact rfl;(focus repeat constructor);(first | exact LSub.whole (rpC_len _ _ _));intro w' hp) | refine Wl.fieldAddrZ rfl rfl ?_ | (apply Wl.boxA;exact rfl;exact rfl;intro c hc ho) | (apply Wl.alloc;exact rfl;intro c hc ho) | apply Wl.nil | apply St.seq | apply St.region | (apply St.condT;exact rfl;(with_reducible first | rfl | assumption | decide)) | apply St.ret | apply Gt.next | apply Gt.thenRet
  rw [pplus_l hz1]
  exact ⟨rfl,hp.drop (by simp;omega)⟩
 have hd1 : decide (z1 = 0) = false := decide_eq_false hz1
 by_cases hz2 : z2 = 0
 ·have hd2 : decide (z2 = 0) = true := decide_eq_true hz2
  repeat' first | (apply Wl.loadAH;exact rfl;exact rfl;(focus repeat constructor);(first | exact rpC_x _ _ _ | exact rpC_y _ _ _ | exact rpC_z _ _ _ | exact LSub.whole (rpC_len _ _ _))) | (apply Wl.storeAll;exact rfl;exact rfl;(focus repeat constructor);(first | exact rpC_len _ _ _);(first | exact rfl | exact rpC_len _ _ _);(first | exact rpC_one _ _ _)) | (apply Wl.buildN;exact rfl;(repeat (first | exact Parts.nil | apply Parts.cons rfl));(repeat (first | apply Fills.nil | (apply Fills.one;exact rfl;exact rfl;(repeat (first | apply LSet.z | apply LSet.s))) | (apply Fills.agg;exact rfl;exact rfl;(repeat (first | apply LPut.s | apply LPut.z | apply LOver.nil | apply LOver.cons)))));exact zero16) | (apply Wl.eqlA;exact rfl;exact rfl;exact rfl;kernel_rfl;kernel_rfl;kernel_rfl;kernel_rfl;exact cell64 _;exact cell64 _;exact eq16Z _) | (apply Gt.outC';exact rfl;infer_instance;exact rfl;(focus repeat constructor);(first | exact LSub.whole (rpC_len _ _ _));intro w' hp) | refine Wl.fieldAddrZ rfl rfl ?_ | (apply Wl.boxA;exact rfl;exact rfl;intro c hc ho) | (apply Wl.alloc;exact rfl;intro c hc ho) | apply Wl.nil | apply St.seq | apply St.region | (apply St.condT;exact rfl;(with_reducible first | rfl | assumption | decide)) | (apply St.condF;exact rfl;(with_reducible first | rfl | assumption | decide)) | apply St.ret | apply St.skip | apply Gt.next | apply Gt.thenRet
  rw [pplus_r hz1 hz2]
  exact ⟨rfl,hp.drop (by simp;omega)⟩
 have hd2 : decide (z2 = 0) = false := decide_eq_false hz2
 obtain ⟨a1,h_a1⟩ : ∃ q_ : Ec.F,q_ = y1 * z2 := ⟨_,rfl⟩
 obtain ⟨b1,h_b1⟩ : ∃ q_ : Ec.F,q_ = x1 * z2 := ⟨_,rfl⟩
 obtain ⟨c1,h_c1⟩ : ∃ q_ : Ec.F,q_ = y2 * z1 := ⟨_,rfl⟩
 obtain ⟨u,h_u⟩ : ∃ q_ : Ec.F,q_ = c1 - a1 := ⟨_,rfl⟩
 obtain ⟨d1,h_d1⟩ : ∃ q_ : Ec.F,q_ = x2 * z1 := ⟨_,rfl⟩
 obtain ⟨v,h_v⟩ : ∃ q_ : Ec.F,q_ = d1 - b1 := ⟨_,rfl⟩
 rw [pplus_nz hz1 hz2]
 simp only
 rw [← h_a1,← h_b1,← h_c1,← h_u,← h_d1,← h_v]
 by_cases hv0 : v = 0
 ·have hd3 : decide (v = 0) = true := decide_eq_true hv0
  rw [if_pos hv0]
  by_cases hu0 : u = 0
  ·have hd4 : decide (u = 0) = true := decide_eq_true hu0
   rw [if_pos hu0]
   repeat' first | (apply St.bagX 14 [];exact mixed;(decide +kernel);kernel_rfl) | (apply St.bagX 20 [];exact mixed;(decide +kernel);kernel_rfl) | apply OpsX.nil | (apply OpsX.b;exact rfl) | (apply OpsX.v;(intro X hX;change Wl [_] _ _ _ _ _ _ _;apply Wl.catX;(focus repeat constructor))) | (apply Gt.endX;exact rfl) | (apply EndX.new;intro c hc ho) | (apply EndX.on;exact rfl) | (apply EndX.off;exact rfl) | (apply EndX.nil';apply Wl.catE;(focus repeat constructor)) | (apply Wl.callQ (f := 57);exact rfl;(focus repeat constructor);(intro wq hq;refine (hMul (hF.hp hq (by (repeat (first | exact trivial | exact hX.off (by omega) | refine ⟨by first | assumption | omega | (simp only;omega),?_⟩)))) (by with_reducible assumption)).mono ?_;rintro e wr ⟨rfl,hr⟩;exact ⟨rfl,hq.keep hr⟩)) | (apply Wl.callQ (f := 86);exact rfl;(focus repeat constructor);(intro wq hq;refine (hSub (hF.hp hq (by (repeat (first | exact trivial | exact hX.off (by omega) | refine ⟨by first | assumption | omega | (simp only;omega),?_⟩)))) (by with_reducible assumption)).mono ?_;rintro e wr ⟨rfl,hr⟩;exact ⟨rfl,hq.keep hr⟩)) | (apply Wl.callQ (f := 87);exact rfl;(focus repeat constructor);(intro wq hq;refine (refDbl _ (_,_,_) wq (hF.hp hq (by (repeat (first | exact trivial | exact hX.off (by omega) | refine ⟨by first | assumption | omega | (simp only;omega),?_⟩))))).mono ?_;rintro e wr ⟨rfl,hr⟩;exact ⟨rfl,hq.keep hr⟩)) | (apply Wl.loadAH;exact rfl;exact rfl;(focus repeat constructor);(first | exact rpC_x _ _ _ | exact rpC_y _ _ _ | exact rpC_z _ _ _ | exact LSub.whole (rpC_len _ _ _))) | (apply Wl.storeAll;exact rfl;exact rfl;(focus repeat constructor);(first | exact rpC_len _ _ _);(first | exact rfl | exact rpC_len _ _ _);(first | exact rpC_one _ _ _)) | (apply Wl.buildN;exact rfl;(repeat (first | exact Parts.nil | apply Parts.cons rfl));(repeat (first | apply Fills.nil | (apply Fills.one;exact rfl;exact rfl;(repeat (first | apply LSet.z | apply LSet.s))) | (apply Fills.agg;exact rfl;exact rfl;(repeat (first | apply LPut.s | apply LPut.z | apply LOver.nil | apply LOver.cons)))));exact zero16) | (apply Wl.eqlA;exact rfl;exact rfl;exact rfl;kernel_rfl;kernel_rfl;kernel_rfl;kernel_rfl;exact cell64 _;exact cell64 _;exact eq16Z _) | (apply Gt.outC';exact rfl;infer_instance;exact rfl;(focus repeat constructor);(first | exact LSub.whole (rpC_len _ _ _));intro w' hp) | (apply Wl.loadW;exact rfl;exact rfl;(focus repeat constructor);exact rfl) | (apply Wl.storeW;exact rfl;exact rfl;(focus repeat constructor);exact rfl;(first | exact cellsN_len _ _ _ | exact rfl)) | refine Wl.move rfl rfl ?_ | refine Wl.fieldAddr0 rfl rfl ?_ | refine Wl.fieldAddrZ rfl rfl ?_ | (apply Wl.boxA;exact rfl;exact rfl;intro c hc ho) | (apply Wl.alloc;exact rfl;intro c hc ho) | apply Wl.nil | apply St.seq | apply St.region | (apply St.condT;exact rfl;(with_reducible first | rfl | assumption | decide)) | (apply St.condF;exact rfl;(with_reducible first | rfl | assumption | decide)) | apply St.ret | apply St.skip | apply Gt.next | apply Gt.thenRet
   exact ⟨rfl,hp.drop (by simp;omega)⟩
  ·have hd4 : decide (u = 0) = false := decide_eq_false hu0
   rw [if_neg hu0,rp110]
   repeat' first | (apply St.bagX 14 [];exact mixed;(decide +kernel);kernel_rfl) | (apply St.bagX 20 [];exact mixed;(decide +kernel);kernel_rfl) | apply OpsX.nil | (apply OpsX.b;exact rfl) | (apply OpsX.v;(intro X hX;change Wl [_] _ _ _ _ _ _ _;apply Wl.catX;(focus repeat constructor))) | (apply Gt.endX;exact rfl) | (apply EndX.new;intro c hc ho) | (apply EndX.on;exact rfl) | (apply EndX.off;exact rfl) | (apply EndX.nil';apply Wl.catE;(focus repeat constructor)) | (apply Wl.callQ (f := 57);exact rfl;(focus repeat constructor);(intro wq hq;refine (hMul (hF.hp hq (by (repeat (first | exact trivial | exact hX.off (by omega) | refine ⟨by first | assumption | omega | (simp only;omega),?_⟩)))) (by with_reducible assumption)).mono ?_;rintro e wr ⟨rfl,hr⟩;exact ⟨rfl,hq.keep hr⟩)) | (apply Wl.callQ (f := 86);exact rfl;(focus repeat constructor);(intro wq hq;refine (hSub (hF.hp hq (by (repeat (first | exact trivial | exact hX.off (by omega) | refine ⟨by first | assumption | omega | (simp only;omega),?_⟩)))) (by with_reducible assumption)).mono ?_;rintro e wr ⟨rfl,hr⟩;exact ⟨rfl,hq.keep hr⟩)) | (apply Wl.loadAH;exact rfl;exact rfl;(focus repeat constructor);(first | exact rpC_x _ _ _ | exact rpC_y _ _ _ | exact rpC_z _ _ _ | exact LSub.whole (rpC_len _ _ _))) | (apply Wl.storeAll;exact rfl;exact rfl;(focus repeat constructor);(first | exact rpC_len _ _ _);(first | exact rfl | exact rpC_len _ _ _);(first | exact rpC_one _ _ _)) | (apply Wl.buildRp;exact rfl;(focus ((repeat (first | exact Parts.nil | apply Parts.cons rfl));done))) | (apply Wl.buildN;exact rfl;(repeat (first | exact Parts.nil | apply Parts.cons rfl));(repeat (first | apply Fills.nil | (apply Fills.one;exact rfl;exact rfl;(repeat (first | apply LSet.z | apply LSet.s))) | (apply Fills.agg;exact rfl;exact rfl;(repeat (first | apply LPut.s | apply LPut.z | apply LOver.nil | apply LOver.cons)))));exact zero16) | (apply Wl.eqlA;exact rfl;exact rfl;exact rfl;kernel_rfl;kernel_rfl;kernel_rfl;kernel_rfl;exact cell64 _;exact cell64 _;exact eq16Z _) | (apply Gt.outC';exact rfl;infer_instance;exact rfl;(focus repeat constructor);(first | exact LSub.whole (rpC_len _ _ _));intro w' hp) | (apply Wl.loadW;exact rfl;exact rfl;(focus repeat constructor);exact rfl) | (apply Wl.storeW;exact rfl;exact rfl;(focus repeat constructor);exact rfl;(first | exact cellsN_len _ _ _ | exact rfl)) | (apply Wl.buildN;exact rfl;(repeat (first | exact Parts.nil | apply Parts.cons rfl));(repeat (first | apply Fills.nil | (apply Fills.one;exact rfl;exact rfl;(repeat (first | apply LSet.z | apply LSet.s))) | (apply Fills.agg;exact rfl;exact rfl;(repeat (first | apply LPut.s | apply LPut.z | apply LOver.nil | apply LOver.cons)))));(first | exact one8 | exact zero8 | exact two8 | exact one16)) | refine Wl.move rfl rfl ?_ | refine Wl.fieldAddr0 rfl rfl ?_ | refine Wl.fieldAddrZ rfl rfl ?_ | (apply Wl.boxA;exact rfl;exact rfl;intro c hc ho) | (apply Wl.alloc;exact rfl;intro c hc ho) | apply Wl.nil | apply St.seq | apply St.region | (apply St.condT;exact rfl;(with_reducible first | rfl | assumption | decide)) | (apply St.condF;exact rfl;(with_reducible first | rfl | assumption | decide)) | apply St.ret | apply St.skip | apply Gt.next | apply Gt.thenRet
   exact ⟨rfl,hp.drop (by simp;omega)⟩
 ·have hd3 : decide (v = 0) = false := decide_eq_false hv0
  rw [if_neg hv0]
  obtain ⟨zz,h_zz⟩ : ∃ q_ : Ec.F,q_ = z1 * z2 := ⟨_,rfl⟩
  obtain ⟨vv,h_vv⟩ : ∃ q_ : Ec.F,q_ = v * v := ⟨_,rfl⟩
  obtain ⟨vvv,h_vvv⟩ : ∃ q_ : Ec.F,q_ = v * vv := ⟨_,rfl⟩
  obtain ⟨r,h_r⟩ : ∃ q_ : Ec.F,q_ = vv * b1 := ⟨_,rfl⟩
  obtain ⟨uu,h_uu⟩ : ∃ q_ : Ec.F,q_ = u * u := ⟨_,rfl⟩
  obtain ⟨uz,h_uz⟩ : ∃ q_ : Ec.F,q_ = uu * zz := ⟨_,rfl⟩
  obtain ⟨uv,h_uv⟩ : ∃ q_ : Ec.F,q_ = uz - vvv := ⟨_,rfl⟩
  obtain ⟨rr,h_rr⟩ : ∃ q_ : Ec.F,q_ = r + r := ⟨_,rfl⟩
  obtain ⟨a,h_a⟩ : ∃ q_ : Ec.F,q_ = uv - rr := ⟨_,rfl⟩
  obtain ⟨X3,h_X3⟩ : ∃ q_ : Ec.F,q_ = v * a := ⟨_,rfl⟩
  obtain ⟨ra,h_ra⟩ : ∃ q_ : Ec.F,q_ = r - a := ⟨_,rfl⟩
  obtain ⟨ur,h_ur⟩ : ∃ q_ : Ec.F,q_ = u * ra := ⟨_,rfl⟩
  obtain ⟨vy,h_vy⟩ : ∃ q_ : Ec.F,q_ = vvv * a1 := ⟨_,rfl⟩
  obtain ⟨Y3,h_Y3⟩ : ∃ q_ : Ec.F,q_ = ur - vy := ⟨_,rfl⟩
  obtain ⟨Z3,h_Z3⟩ : ∃ q_ : Ec.F,q_ = vvv * zz := ⟨_,rfl⟩
  rw [← h_zz,← h_vv,← h_vvv,← h_r,← h_uu,← h_uz,← h_uv,← h_rr,← h_a,← h_X3,← h_ra,← h_ur,← h_vy,← h_Y3,← h_Z3]
  repeat' first | (apply St.bagX 14 [];exact mixed;(decide +kernel);kernel_rfl) | (apply St.bagX 20 [];exact mixed;(decide +kernel);kernel_rfl) | (apply St.bagX 17 [];exact mixed;(decide +kernel);kernel_rfl) | apply OpsX.nil | (apply OpsX.b;exact rfl) | (apply OpsX.v;(intro X hX;change Wl [_] _ _ _ _ _ _ _;apply Wl.catX;(focus repeat constructor))) | (apply Gt.endX;exact rfl) | (apply EndX.new;intro c hc ho) | (apply EndX.on;exact rfl) | (apply EndX.off;exact rfl) | (apply EndX.nil';apply Wl.catE;(focus repeat constructor)) | (apply Wl.callQ (f := 57);exact rfl;(focus repeat constructor);(intro wq hq;refine (hMul (hF.hp hq (by (repeat (first | exact trivial | exact hX.off (by omega) | refine ⟨by first | assumption | omega | (simp only;omega),?_⟩)))) (by with_reducible assumption)).mono ?_;rintro e wr ⟨rfl,hr⟩;exact ⟨rfl,hq.keep hr⟩)) | (apply Wl.callQ (f := 88);exact rfl;(focus repeat constructor);(intro wq hq;refine (hAdd (hF.hp hq (by (repeat (first | exact trivial | exact hX.off (by omega) | refine ⟨by first | assumption | omega | (simp only;omega),?_⟩)))) (by with_reducible assumption)).mono ?_;rintro e wr ⟨rfl,hr⟩;exact ⟨rfl,hq.keep hr⟩)) | (apply Wl.callQ (f := 86);exact rfl;(focus repeat constructor);(intro wq hq;refine (hSub (hF.hp hq (by (repeat (first | exact trivial | exact hX.off (by omega) | refine ⟨by first | assumption | omega | (simp only;omega),?_⟩)))) (by with_reducible assumption)).mono ?_;rintro e wr ⟨rfl,hr⟩;exact ⟨rfl,hq.keep hr⟩)) | (apply Wl.loadAH;exact rfl;exact rfl;(focus repeat constructor);(first | exact rpC_x _ _ _ | exact rpC_y _ _ _ | exact rpC_z _ _ _ | exact LSub.whole (rpC_len _ _ _))) | (apply Wl.storeAll;exact rfl;exact rfl;(focus repeat constructor);(first | exact rpC_len _ _ _);(first | exact rfl | exact rpC_len _ _ _);(first | exact rpC_one _ _ _)) | (apply Wl.buildRp;exact rfl;(focus ((repeat (first | exact Parts.nil | apply Parts.cons rfl));done))) | (apply Wl.buildN;exact rfl;(repeat (first | exact Parts.nil | apply Parts.cons rfl));(repeat (first | apply Fills.nil | (apply Fills.one;exact rfl;exact rfl;(repeat (first | apply LSet.z | apply LSet.s))) | (apply Fills.agg;exact rfl;exact rfl;(repeat (first | apply LPut.s | apply LPut.z | apply LOver.nil | apply LOver.cons)))));exact zero16) | (apply Wl.eqlA;exact rfl;exact rfl;exact rfl;kernel_rfl;kernel_rfl;kernel_rfl;kernel_rfl;exact cell64 _;exact cell64 _;exact eq16Z _) | (apply Gt.outC';exact rfl;infer_instance;exact rfl;(focus repeat constructor);(first | exact LSub.whole (rpC_len _ _ _));intro w' hp) | (apply Wl.loadW;exact rfl;exact rfl;(focus repeat constructor);exact rfl) | (apply Wl.storeW;exact rfl;exact rfl;(focus repeat constructor);exact rfl;(first | exact cellsN_len _ _ _ | exact rfl)) | (apply Wl.allocN;exact rfl;(first | exact z8 | exact z16 | exact z17 | exact z33 | exact z10);intro c hc ho) | refine Wl.move rfl rfl ?_ | refine Wl.fieldAddr0 rfl rfl ?_ | refine Wl.fieldAddrZ rfl rfl ?_ | (apply Wl.boxA;exact rfl;exact rfl;intro c hc ho) | (apply Wl.alloc;exact rfl;intro c hc ho) | apply Wl.nil | apply St.seq | apply St.region | (apply St.condF;exact rfl;(with_reducible first | rfl | assumption | decide)) | apply St.ret | apply St.skip | apply Gt.next
  exact ⟨rfl,hp.drop (by simp;omega)⟩
end Go.Proofs.YtmjlceimjlabpaaDoor
end
section
namespace Go.Proofs.YtmjlceimjlabpaaDoor
open Go.RowKit Go.Pt
def u64s (l : List Nat) : List Value := l.map fun (x : Nat) => Value.int .u64 (x : Int)
theorem u64s_app (l m : List Nat) : u64s (l ++ m) = u64s l ++ u64s m := by unfold u64s;rw [List.map_append]
theorem pl2 : Sha.pl 2 = [] := by decide +kernel
set_option maxHeartbeats 8000000 in
theorem refRoots (n k E : Nat) (w : World) (hk : k = 2 ∨ k = 3) (hE : E ≤ 312) (h2 : 2 ≤ E) (hn : n < 1000) (hc : ∀ p,p < E → (Sha.pl p).length < n) (hl : (Sha.pl E).length = n) :
  Calls Tryd.prog 59 #[.int .i64 n,.int .i64 k] w fun e w' => ∃ v,e = .returned v ∧ w'.ownsRow w.heap.size 92 1 v n (u64s (Sha.rl E k)) ∧ Upd (fun k => w.heap.size ≤ k) w w' := by
 refine enter (args := [_,_]) (Γ := [(0,_),(1,_)]) Tryd.func59 Tryd.ntmps59 rfl (of_decide_eq_true rfl) (.cons rfl (.cons rfl .nil)) ?_
 repeat' first | refine Wl.assign rfl rfl ?_ | apply Wl.nil | apply St.seq | apply St.block | apply St.region | apply Gt.next
 refine St.loop (σ := Nat × World × Value) (fun τ => 2 ≤ τ.1 ∧ τ.1 ≤ E ∧ Upd (fun k => w.heap.size ≤ k) w τ.2.1 ∧ τ.2.1.ownsRow w.heap.size 92 1 τ.2.2 (Sha.pl τ.1).length (u64s (Sha.rl τ.1 k)))
  (fun τ => [(0,.int .i64 n),(1,.int .i64 k),(5,τ.2.2),(6,.int .u64 τ.1)]) (fun τ => Hp τ.2.1 []) (fun τ => E - τ.1) (2,w,.slice none 0 0) ⟨by simp,h2,Upd.refl _ _,by unfold Sha.rl;simp only [pl2];exact World.ownsRow_nil _ _ _ _⟩ (by repeat constructor) (fun _ h => h) ?_
 rintro ⟨p,w0,v⟩ ⟨hp2,hpE,hu,hol⟩
 simp only at hp2 hpE hu hol ⊢
 obtain ⟨a,cap,rfl⟩ : ∃ a cap,v = .slice a (Sha.pl p).length cap := by
  rcases hol.2 with ⟨rfl,h0⟩ | ⟨g,cap,cur,rfl,_⟩
  ·exact ⟨none,0,by rw [h0]⟩
  ·exact ⟨_,_,rfl⟩
 generalize hL : (Sha.pl p).length = L at *
 by_cases hlt : p < E
 ·have hcp := hc p hlt
  rw [hL] at hcp
  have hd : decide ((L : Int) < (n : Int)) = true := decide_eq_true (by omega)
  repeat' first | refine Wl.move rfl rfl ?_ | refine Wl.assign rfl rfl ?_ | refine Wl.lss rfl rfl rfl ?_ | refine Wl.len rfl rfl ?_ | apply Wl.nil | apply St.seq | apply St.block | apply St.region | (apply St.condT;exact rfl;(with_reducible first | rfl | assumption | decide)) | apply St.skip | apply Gt.next
  refine St.loop (σ := Nat) (fun d => 2 ≤ d ∧ d ≤ 18 ∧ (d = 2 ∨ (d - 1) * (d - 1) ≤ p)) (fun d => [(0,.int .i64 n),(1,.int .i64 k),(5,.slice a L cap),(6,.int .u64 p),(7,.bool (Sha.allB p d)),(8,.int .u64 d)])
   (fun _ => Hp w0 []) (fun d => 18 - d) 2 ⟨by omega,by omega,.inl rfl⟩ (by rw [Sha.allB_2];(focus repeat constructor)) (fun _ h => h) ?_
  rintro d ⟨hd2,hd18,hdp⟩
  by_cases hlq : d * d ≤ p
  ·have hdd : d * d < 18446744073709551616 := by omega
   have hd17 : d ≤ 17 := by
    rcases Nat.lt_or_ge 17 d with h | h
    ·have := Nat.mul_le_mul h h
     omega
    ·exact h
   have hds : decide (((d * d : Nat) : Int) ≤ (p : Int)) = true := decide_eq_true (by omega)
   have hsu := Sha.allB_succ p d hd2
   have hnx : (d + 1) - 1 = d := by omega
   have hdn : ((d : Int)) ≠ 0 := by omega
   have hp313 : (p % d) < 18446744073709551616 := by have := Nat.mod_lt p (show 0 < d by omega);omega
   cases hA : Sha.allB p d with
   | false =>
    rw [hA,Bool.false_and] at hsu
    repeat' first | (apply Wl.mulNU;exact rfl;exact rfl;exact rfl;exact hdd) | refine Wl.move rfl rfl ?_ | refine Wl.assign rfl rfl ?_ | (apply Wl.off;exact rfl;exact rfl;exact rfl;(first | with_reducible rfl | (show _ = false;with_reducible assumption) | (show _ = true;with_reducible assumption) | decide)) | (apply Wl.pickF;exact rfl;exact rfl;(with_reducible first | rfl | assumption | decide);exact rfl) | refine Wl.leq rfl rfl rfl ?_ | (refine Wl.addU rfl rfl rfl ?_ ?_;constructor <;> omega) | apply Wl.nil | apply St.seq | apply St.block | apply St.region | (apply St.condT;exact rfl;(with_reducible first | rfl | assumption | decide)) | apply St.skip | apply Gt.next | apply Gt.inNormal
    apply Gt.round (d + 1)
    rotate_left
    ·omega
    ·rw [hsu];(focus repeat constructor)
    ·exact fun _ h => h
    ·exact ⟨by omega,by omega,.inr (by rw [hnx];exact hlq)⟩
   | true =>
    rw [hA,Bool.true_and] at hsu
    have hgt : decide (((p % d : Nat) : Int) > 0) = decide (0 < p % d) := decide_eq_decide.2 (by omega)
    repeat' first | (apply Wl.mulNU;exact rfl;exact rfl;exact rfl;exact hdd) | (refine Wl.remN rfl rfl rfl ?_ ?_;omega) | refine Wl.move rfl rfl ?_ | refine Wl.assign rfl rfl ?_ | (apply Wl.on;exact rfl;exact rfl;(with_reducible first | rfl | assumption | decide)) | (apply Wl.pickT;exact rfl;exact rfl;(with_reducible first | rfl | assumption | decide);exact rfl) | refine Wl.leq rfl rfl rfl ?_ | refine Wl.gtr rfl rfl rfl ?_ | (refine Wl.addU rfl rfl rfl ?_ ?_;constructor <;> omega) | apply Wl.nil | apply St.seq | apply St.block | apply St.region | (apply St.condT;exact rfl;(with_reducible first | rfl | assumption | decide)) | apply St.skip | apply Gt.next | apply Gt.inNormal
    rw [hgt,← hsu]
    apply Gt.round (d + 1)
    rotate_left
    ·omega
    ·repeat constructor
    ·exact fun _ h => h
    ·exact ⟨by omega,by omega,.inr (by rw [hnx];exact hlq)⟩
  have hfin := Sha.allB_end p (by omega) hp2 d (by omega) hd2 hdp (by omega)
  have hds : decide (((d * d : Nat) : Int) ≤ (p : Int)) = false := decide_eq_false (by omega)
  have hdd : d * d < 18446744073709551616 := by
   have := Nat.mul_le_mul hd18 hd18
   omega
  have hsu := Sha.pl_succ p
  rw [hfin]
  cases hP : Sha.isP p with
  | false =>
   rw [hP] at hsu
   repeat' first | (apply Wl.mulNU;exact rfl;exact rfl;exact rfl;exact hdd) | refine Wl.addW rfl rfl rfl ?_ | refine Wl.move rfl rfl ?_ | refine Wl.assign rfl rfl ?_ | refine Wl.leq rfl rfl rfl ?_ | apply Wl.nil | apply St.seq | apply St.region | (apply St.condF;exact rfl;(with_reducible first | rfl | assumption | decide)) | apply St.skip | apply St.exit | apply Gt.next | apply Gt.thenExit | apply Gt.inNormal | apply Gt.inExit
   have hp64 : (p + 1) % 18446744073709551616 = p + 1 := Nat.mod_eq_of_lt (by omega)
   try rw [hp64]
   apply Gt.round (p + 1,w0,.slice a L cap)
   rotate_left
   ·simp only;omega
   ·repeat constructor
   ·exact fun _ h => h
   ·refine ⟨by simp only;omega,by simp only;omega,hu,?_⟩
    simp only
    unfold Sha.rl
    rw [hsu,if_neg (by decide),hL]
    exact hol
  | true =>
   rw [hP,if_pos rfl] at hsu
   repeat' first | (apply Wl.mulNU;exact rfl;exact rfl;exact rfl;exact hdd) | refine Wl.move rfl rfl ?_ | refine Wl.leq rfl rfl rfl ?_ | apply Wl.nil | apply St.seq | apply St.region | (apply St.condT;exact rfl;(with_reducible first | rfl | assumption | decide)) | (apply St.condF;exact rfl;(with_reducible first | rfl | assumption | decide)) | apply St.exit | apply Gt.next | apply Gt.thenExit | apply Gt.inExit
   apply Wl.callQ
   exact rfl
   (focus repeat constructor)
   ·intro wq hq
    exact hq.q (refRoot p k wq hk)
   repeat' first | (apply Wl.lit;exact rfl;(repeat (first | exact Parts.nil | apply Parts.cons rfl));exact rfl;exact rfl;(repeat (first | apply CatP.nil | (apply CatP.one;exact rfl;exact rfl) | (apply CatP.agg;exact rfl) | apply LApp.nil | apply LApp.cons));intro c hc ho)
   apply Wl.appendT
   ·exact rfl
   ·exact rfl
   ·exact rfl
   ·exact hc
   ·exact rfl
   ·exact hol
   ·exact fun k hk => trivial
   ·exact rfl
   ·exact rfl
   ·decide
   ·unfold maxLen;omega
   ·omega
   ·exact hu.size
   intro v' w1 ho1 u1 _ hoff1
   have hu1 : Upd (fun k => w.heap.size ≤ k) w w1 := hu.comp u1 fun k hk hs => hs.elim id fun hs => hs.elim (fun e => (hol.lt k e).1) fun y => (y trivial).elim
   repeat' first | refine Wl.addW rfl rfl rfl ?_ | refine Wl.move rfl rfl ?_ | refine Wl.assign rfl rfl ?_ | apply Wl.nil | apply St.region | apply Gt.next | apply Gt.inNormal
   have hp64 : (p + 1) % 18446744073709551616 = p + 1 := Nat.mod_eq_of_lt (by omega)
   try rw [hp64]
   apply Gt.round (p + 1,w1,v')
   rotate_left
   ·simp only;omega
   ·repeat constructor
   ·exact fun _ h => h
   ·refine ⟨by simp only;omega,by simp only;omega,hu1,?_⟩
    simp only
    have e1 : u64s (Sha.rl (p + 1) k) = u64s (Sha.rl p k) ++ [Value.int .u64 (Sha.root p k : Nat)] := by
     unfold Sha.rl
     rw [hsu,List.map_append,u64s_app]
     rfl
    rw [e1,hsu,List.length_append,hL]
    exact ho1
 have hpe : p = E := by omega
 subst hpe
 have hLn : L = n := by omega
 subst hLn
 have hd : decide ((L : Int) < (L : Int)) = false := decide_eq_false (by omega)
 repeat' first | refine Wl.move rfl rfl ?_ | refine Wl.assign rfl rfl ?_ | refine Wl.lss rfl rfl rfl ?_ | refine Wl.len rfl rfl ?_ | apply Wl.nil | apply St.seq | apply St.region | (apply St.condF;exact rfl;(with_reducible first | rfl | assumption | decide)) | apply St.ret | apply St.exit | apply Gt.next | apply Gt.thenExit | apply Gt.inExit | (apply Gt.out1;exact rfl;exact rfl;intro w' hp)
 exact ⟨_,rfl,ownsRow_upd hol hp.upd (fun k _ y => y trivial),hu.comp hp.upd fun k _ hs => hs.elim id fun y => (y trivial).elim⟩
end Go.Proofs.YtmjlceimjlabpaaDoor
end
