/-
  3 texts, one behind the other; each says what it proves. Conditions: as each text says.
-/
import Derived.Test.YtcefkbnachnciaaDoorM04
import Derived.Test.YtcefkbnachnciaaDoorM02
import Derived.Test.YtcefkbnachnciaaDoorMOpen2
section
namespace Go.Proofs.YtcefkbnachnciaaDoor
open Go.RowKit Go.Pt
theorem due00 (st : Int) : dueOf 0 st 128 0 = false := by unfold dueOf; rw [show decide (bits .and .u32 (bits .and .u32 128 0) 128 ≠ 0) = false by decide]; rfl
theorem due11 (st : Int) : dueOf 0 st 128 128 = true := by unfold dueOf; rw [show decide (bits .and .u32 (bits .and .u32 128 128) 128 ≠ 0) = true by decide]; rfl
theorem stepCnt {w' : World} {h cf cM : Nat} {xs : List Value} {pc : Int} {F : Fs} {f : Nat → Int} {v : Value} (hmd : F.md = 0) (hmie : F.mie = 128) (hmip : F.mip = 0) (k : StepO w' h cf cM xs pc F f v) :
    ∃ (wd c1 tl1 at_ wi : Int) (tr st : Bool) (xs' : List Value) (pc' : Int) (F' : Fs) (f' : Nat → Int), v = trc wd tr c1 tl1 at_ wi st ∧ c1 ≠ 2147483655 ∧ SS w' h cf cM xs' pc' F' f' ∧ F'.mie = 128 ∧ F'.mip = 0 ∧ F'.tv = F.tv ∧ F'.cy = IntKind.u64.wrap (F.cy + 1) ∧
      ((tr = true ∧ F'.re = F.re) ∨ (tr = false ∧ F'.re = IntKind.u64.wrap (F.re + 1))) := by
  rcases k with ⟨hd, _⟩ | ⟨_, ⟨wd, c1, tl1, at_, wi, tr, st, rfl, hc1, hO⟩, _⟩
  · rw [hmd, hmie, hmip, due00] at hd
    cases hd
  · rcases hO with ⟨rfl, s', _, _, _, hS⟩ | ⟨rfl, _, xs', pc', f', hS, _⟩
    · exact ⟨_, _, _, _, _, _, _, _, _, _, _, rfl, hc1, hS, hmie, hmip, rfl, rfl, .inl ⟨rfl, rfl⟩⟩
    · exact ⟨_, _, _, _, _, _, _, _, _, _, _, rfl, hc1, hS, hmie, hmip, rfl, rfl, .inr ⟨rfl, rfl⟩⟩
theorem wr64s {n : Nat} (h : n < 100) : IntKind.u64.wrap ((n : Int) + 1) = ((n + 1 : Nat) : Int) := by
  exact (Int.emod_eq_of_lt (by omega) (by show _ < (18446744073709551616 : Int); omega)).trans (by omega)
theorem wr32s {n : Nat} (h : n < 100) : IntKind.u32.wrap (n : Int) = (n : Int) := Int.emod_eq_of_lt (by omega) (by show _ < (4294967296 : Int); omega)
set_option maxHeartbeats 32000000 in
theorem counts16 (wa xa la ca : Option Addr) (wn wc xn xc ln lc cn cc : Nat) (us : Bool) (pc0 n : Int) (tm : Bool) (w : World) (hW : WordS w wa wn) (hX : PairS w xa xn) (hL : EntS w la ln) (hT : tabOk w) :
    Calls Tryd.prog 5 #[.agg #[.slice wa wn wc, .slice xa xn xc, .slice la ln lc, .bool us, .slice ca cn cc, .int .u32 pc0], .int .i64 n, .bool tm] w fun e w' => e = .returned (.bool true) ∧ Hp w [] w' := by
  have hT0 := hT.lt
  obtain ⟨K, hK, hK60, hn1, hn2⟩ := k60 n
  refine enter (args := [_, _, _]) (Γ := [(0, _), (1, _), (2, _)]) Tryd.func5 Tryd.ntmps5 rfl (of_decide_eq_true rfl) (.cons rfl (.cons rfl (.cons rfl .nil))) ?_
  apply St.seq
  apply St.region
  apply Wl.boxA
  · exact rfl
  · exact rfl
  intro c1 hc1 ho1
  by_cases hsm : wn ≤ 300 ∧ xn ≤ 100 ∧ ln ≤ 16 ∧ cn ≤ 100
  rotate_left
  · have hd : decide (wn ≤ 300 ∧ xn ≤ 100 ∧ ln ≤ 16 ∧ cn ≤ 100) = false := decide_eq_false hsm
    have hd2 : (!decide (wn ≤ 300 ∧ xn ≤ 100 ∧ ln ≤ 16 ∧ cn ≤ 100)) = true := by rw [hd]; rfl
    repeat' (first | (apply Wl.callQ (f := 7); exact rfl; (repeat (first | exact Evs.nil | apply Evs.cons rfl)); (intro wq hq; refine (fit16 wq).mono ?_; rintro e wr ⟨rfl, hr⟩; exact ⟨rfl, hq.keep hr⟩)) | (apply Wl.callQ (f := 10); exact rfl; (repeat (first | exact Evs.nil | apply Evs.cons rfl)); (intro wq hq; refine (small16 _ _ _ _ _ _ _ _ _ _ _ _ _ _ wq).mono ?_; rintro e wr ⟨rfl, hr⟩; exact ⟨rfl, hq.keep hr⟩)) | (apply Wl.assign; exact rfl; exact rfl) | (apply Wl.not; exact rfl; exact rfl) | (apply Wl.loadAH; exact rfl; exact rfl; (repeat (first | exact List.Mem.head _ | apply List.Mem.tail)); (repeat (first | apply LSub.z | apply LSub.t | apply LSub.s))) | (apply Wl.nil) | (apply St.seq) | (apply St.region) | (apply St.condT; exact rfl; (first | with_reducible rfl | with_reducible assumption | decide)) | (apply St.condF; exact rfl; (first | with_reducible rfl | with_reducible assumption | decide)) | (apply St.ret) | (apply St.skip) | (apply Gt.next) | (apply Gt.thenRet) | (apply Gt.out1; exact rfl; exact rfl; intro w' hp))
    exact ⟨rfl, hp.drop (by simp; omega)⟩
  have hd : decide (wn ≤ 300 ∧ xn ≤ 100 ∧ ln ≤ 16 ∧ cn ≤ 100) = true := decide_eq_true hsm
  have hd2 : (!decide (wn ≤ 300 ∧ xn ≤ 100 ∧ ln ≤ 16 ∧ cn ≤ 100)) = false := by rw [hd]; rfl
  obtain ⟨s1, s2, s3, s4⟩ := hsm
  repeat' (first | (apply Wl.callQ (f := 7); exact rfl; (repeat (first | exact Evs.nil | apply Evs.cons rfl)); (intro wq hq; refine (fit16 wq).mono ?_; rintro e wr ⟨rfl, hr⟩; exact ⟨rfl, hq.keep hr⟩)) | (apply Wl.callQ (f := 10); exact rfl; (repeat (first | exact Evs.nil | apply Evs.cons rfl)); (intro wq hq; refine (small16 _ _ _ _ _ _ _ _ _ _ _ _ _ _ wq).mono ?_; rintro e wr ⟨rfl, hr⟩; exact ⟨rfl, hq.keep hr⟩)) | (apply Wl.assign; exact rfl; exact rfl) | (apply Wl.not; exact rfl; exact rfl) | (apply Wl.fieldAddrZ; exact rfl; exact rfl) | (apply Wl.store; exact rfl; exact rfl; exact rfl; (repeat (first | apply HSet.here | apply HSet.there)); (repeat (first | apply LSet.z | apply LSet.s))) | (apply Wl.loadAH; exact rfl; exact rfl; (repeat (first | exact List.Mem.head _ | apply List.Mem.tail)); (repeat (first | apply LSub.z | apply LSub.t | apply LSub.s))) | (apply Wl.buildA; exact rfl; (repeat (first | exact Parts.nil | apply Parts.cons rfl)); (repeat (first | apply Fills.nil | (apply Fills.one; exact rfl; exact rfl; (repeat (first | apply LSet.z | apply LSet.s))) | (apply Fills.agg; exact rfl; exact rfl; (repeat (first | apply LPut.s | apply LPut.z | apply LOver.nil | apply LOver.cons)))))) | (apply Wl.lit; exact rfl; (repeat (first | exact Parts.nil | apply Parts.cons rfl)); exact rfl; exact rfl; (repeat (first | apply CatP.nil | (apply CatP.one; exact rfl; exact rfl) | (apply CatP.agg; exact rfl) | apply LApp.nil | apply LApp.cons)); intro c hc ho) | (apply Wl.nil) | (apply St.seq) | (apply St.region) | (apply St.condF; exact rfl; (first | with_reducible rfl | with_reducible assumption | decide)) | (apply St.skip) | (apply Gt.next))
  generalize c = cb at *
  have hcb : w.heap.size ≤ cb := by assumption
  apply Wl.callC
  · exact rfl
  · (repeat (first | exact Evs.nil | apply Evs.cons rfl))
  intro wq hq
  have ou : ∀ k, k < w.heap.size → ¬ ¬ Off [⟨cb, [.int .u32 772, .int .u32 128, .int .u32 773, .int .u32 2147487744], 56⟩, ⟨c1, [.slice wa wn wc, .slice xa xn xc, .slice la ln lc, .bool true, .slice (some ⟨cb, 0, none⟩) 2 2, .int .u32 pc0], 39⟩] k := fun k hk y => y ⟨by simp only; omega, by simp only; omega, trivial⟩
  have cu : ∀ {a : Addr} {v : Value}, w.cell? a = some v → wq.cell? a = some v := fun {a v} ha => hq.upd.cell ha (ou _ (World.block_lt_of_cell? w _ ha))
  have hcs : CsrS wq (some ⟨cb, 0, none⟩) := fun i hi => by
    have hb := hq.own.at (.head _)
    rcases i with _ | _ | i
    · exact ⟨cb, 0, rfl, 772, 128, ⟨cell_of hb rfl, by decide⟩, ⟨cell_of hb rfl, by decide⟩, .inl ⟨rfl, rfl, rfl⟩⟩
    · exact ⟨cb, 0, rfl, 773, 2147487744, ⟨cell_of hb rfl, by decide⟩, ⟨cell_of hb rfl, by decide⟩, .inr ⟨rfl, rfl, rfl⟩⟩
    · omega
  refine (begin_cnt wa xa la (some ⟨cb, 0, none⟩) wn wc xn xc ln lc 2 2 pc0 wq (fun i hi => by obtain ⟨b, o, e, x, h1, h2⟩ := hW i hi; exact ⟨b, o, e, x, cu h1, h2⟩) (fun i hi => by obtain ⟨b, o, e, x, y, h1, h2⟩ := hX i hi; exact ⟨b, o, e, x, y, ⟨cu h1.1, h1.2⟩, ⟨cu h2.1, h2.2⟩⟩) (fun i hi => by obtain ⟨b, o, e, x, y, z, h1, h2, h3⟩ := hL i hi; exact ⟨b, o, e, x, y, z, cu h1, cu h2, cu h3⟩) hcs s1 s2 s3 rfl (hT.upd hq.upd (ou 0 hT0))).mono ?_
  rintro e w1 ⟨p, h, cf, cM, cH, xs0, pc1, F0, f0, rfl, hP1, hS1, ⟨hmd1, hmie1, hmip1, htv1, hcy1, hre1⟩, ⟨gp, gh, gf, gM⟩, ⟨n1, n2, n3⟩, u1⟩
  have lq := hq.own.lt (.tail _ (.head _))
  simp only at lq
  have sq := hq.upd.size
  have hq1 := hq.newer u1
  have hu1 : Upd (fun k => w.heap.size ≤ k) w w1 := hq1.on (Upd.refl _ _) (by simp; omega)
  refine ⟨_, Hp w1 [⟨c1, [.slice wa wn wc, .slice xa xn xc, .slice la ln lc, .bool true, .slice (some ⟨cb, 0, none⟩) 2 2, .int .u32 pc0], 39⟩], rfl, ⟨Upd.refl _ _, hq1.own.2, hq1.apart.2⟩, ?_⟩
  clear hq hq1 u1 cu ou hcs
  have lt1 := hS1.lts
  have lp1 := lt_of_block hP1
  obtain ⟨nz1, nz2, nz3⟩ := hS1.2.2.2.2.2.2.2.1
  repeat' (first | (apply Wl.move; exact rfl; exact rfl) | (apply Wl.assign; exact rfl; exact rfl) | (apply Wl.addI; exact rfl; exact rfl; exact rfl; (constructor <;> omega)) | (apply Wl.rem; exact rfl; exact rfl; exact rfl; (first | decide | omega)) | (apply Wl.nil) | (apply St.seq) | (apply St.block) | (apply St.region) | (apply Gt.next))
  rw [hK]
  repeat' (first | (apply Wl.move; exact rfl; exact rfl) | (apply Wl.assign; exact rfl; exact rfl) | (apply Wl.on; exact rfl; exact rfl; (first | with_reducible rfl | with_reducible assumption | decide)) | (apply Wl.off; exact rfl; exact rfl; exact rfl; (first | with_reducible rfl | (show _ = false; with_reducible assumption) | (show _ = true; with_reducible assumption) | decide)) | (apply Wl.offU; exact rfl; exact rfl; exact rfl) | (apply Wl.extract; exact rfl; exact rfl; exact rfl) | (apply Wl.nilCheck; exact rfl; exact rfl) | (apply Wl.pickT; exact rfl; exact rfl; (first | with_reducible rfl | with_reducible assumption | decide); exact rfl) | (apply Wl.pickF; exact rfl; exact rfl; (first | with_reducible rfl | with_reducible assumption | decide); exact rfl) | (apply Wl.not; exact rfl; exact rfl) | (apply Wl.fieldAddr0; exact rfl; exact rfl) | (apply Wl.fieldAddrZ; exact rfl; exact rfl) | (apply Wl.fieldAddr; exact rfl; exact rfl) | (apply Wl.loadH; exact rfl; exact rfl; (repeat (first | exact List.Mem.head _ | apply List.Mem.tail)); exact rfl) | (apply Wl.loadO; exact rfl; exact rfl; (assumption); (repeat (first | exact trivial | refine ⟨by first | assumption | omega, ?_⟩))) | (apply Wl.eqlPN; exact rfl; exact rfl; exact rfl) | (apply Wl.neqPN; exact rfl; exact rfl; exact rfl) | (apply Wl.eqlNN; exact rfl; exact rfl; exact rfl) | (apply Wl.neqNN; exact rfl; exact rfl; exact rfl) | (apply Wl.eqlIs; exact rfl; exact rfl; exact rfl; (first | with_reducible assumption | with_reducible rfl)) | (apply Wl.neqIs; exact rfl; exact rfl; exact rfl; (first | with_reducible assumption | with_reducible rfl)) | (apply Wl.eql; exact rfl; exact rfl; exact rfl) | (apply Wl.neq; exact rfl; exact rfl; exact rfl) | (apply Wl.lss; exact rfl; exact rfl; exact rfl) | (apply Wl.leq; exact rfl; exact rfl; exact rfl) | (apply Wl.gtr; exact rfl; exact rfl; exact rfl) | (apply Wl.geq; exact rfl; exact rfl; exact rfl) | (apply Wl.addI; exact rfl; exact rfl; exact rfl; (constructor <;> omega)) | (apply Wl.subI; exact rfl; exact rfl; exact rfl; (constructor <;> omega)) | (apply Wl.mulI; exact rfl; exact rfl; exact rfl; (constructor <;> omega)) | (apply Wl.addU; exact rfl; exact rfl; exact rfl; (constructor <;> omega)) | (apply Wl.add; exact rfl; exact rfl; exact rfl) | (apply Wl.sub'; exact rfl; exact rfl; exact rfl) | (apply Wl.mul; exact rfl; exact rfl; exact rfl) | (apply Wl.quo; exact rfl; exact rfl; exact rfl; (first | decide | omega)) | (apply Wl.rem; exact rfl; exact rfl; exact rfl; (first | decide | omega)) | (apply Wl.and; exact rfl; exact rfl; exact rfl) | (apply Wl.or; exact rfl; exact rfl; exact rfl) | (apply Wl.xor; exact rfl; exact rfl; exact rfl) | (apply Wl.andNot; exact rfl; exact rfl; exact rfl) | (apply Wl.shl; exact rfl; exact rfl; exact rfl; (omega)) | (apply Wl.shr; exact rfl; exact rfl; exact rfl; (omega)) | (apply Wl.eqlBs; exact rfl; exact rfl; exact rfl; (first | with_reducible assumption | with_reducible rfl)) | (apply Wl.neqBs; exact rfl; exact rfl; exact rfl; (first | with_reducible assumption | with_reducible rfl)) | (apply Wl.eqlB; exact rfl; exact rfl; exact rfl) | (apply Wl.neqB; exact rfl; exact rfl; exact rfl) | (apply Wl.eqlSB; exact rfl; exact rfl; exact rfl) | (apply Wl.neqSB; exact rfl; exact rfl; exact rfl) | (apply Wl.eqlS; exact rfl; exact rfl; exact rfl) | (apply Wl.neqS; exact rfl; exact rfl; exact rfl) | (apply Wl.convI64; exact rfl; exact rfl; (constructor <;> omega)) | (apply Wl.convU64; exact rfl; exact rfl; (constructor <;> omega)) | (apply Wl.convU32; exact rfl; exact rfl; (constructor <;> omega)) | (apply Wl.convU8; exact rfl; exact rfl; (constructor <;> omega)) | (apply Wl.convI; exact rfl; exact rfl) | (apply Wl.neg; exact rfl; exact rfl) | (apply Wl.compl; exact rfl; exact rfl) | (apply Wl.len; exact rfl; exact rfl) | (apply Wl.lenS; exact rfl; exact rfl) | (apply Wl.store; exact rfl; exact rfl; exact rfl; (repeat (first | apply HSet.here | apply HSet.there)); (repeat (first | apply LSet.z | apply LSet.s))) | (apply Wl.storeA; exact rfl; exact rfl; exact rfl; exact rfl; (repeat (first | apply HSet.here | apply HSet.there)); (repeat (first | apply LPut.s | apply LPut.z | apply LOver.nil | apply LOver.cons))) | (apply Wl.loadAH; exact rfl; exact rfl; (repeat (first | exact List.Mem.head _ | apply List.Mem.tail)); (repeat (first | apply LSub.z | apply LSub.t | apply LSub.s))) | (apply Wl.buildS; exact rfl; (repeat (first | exact Parts.nil | apply Parts.cons rfl)); (repeat (first | apply Fills.nil | (apply Fills.one; exact rfl; exact rfl; (repeat (first | apply LSet.z | apply LSet.s))) | (apply Fills.agg; exact rfl; exact rfl; (repeat (first | apply LPut.s | apply LPut.z | apply LOver.nil | apply LOver.cons)))))) | (apply Wl.buildA; exact rfl; (repeat (first | exact Parts.nil | apply Parts.cons rfl)); (repeat (first | apply Fills.nil | (apply Fills.one; exact rfl; exact rfl; (repeat (first | apply LSet.z | apply LSet.s))) | (apply Fills.agg; exact rfl; exact rfl; (repeat (first | apply LPut.s | apply LPut.z | apply LOver.nil | apply LOver.cons)))))) | (apply Wl.lit; exact rfl; (repeat (first | exact Parts.nil | apply Parts.cons rfl)); exact rfl; exact rfl; (repeat (first | apply CatP.nil | (apply CatP.one; exact rfl; exact rfl) | (apply CatP.agg; exact rfl) | apply LApp.nil | apply LApp.cons)); intro c hc ho) | (apply Wl.boxA; exact rfl; exact rfl; intro c hc ho) | (apply Wl.box1; exact rfl; exact rfl; exact rfl; intro c hc ho) | (apply Wl.alloc; exact rfl; intro c hc ho) | (apply Wl.slice0; exact rfl; exact rfl; (first | exact BoundIs.no | exact BoundIs.yes rfl (by omega)); (first | exact BoundIs.no | exact BoundIs.yes rfl (by omega)); (first | exact fun _ => rfl | exact fun h => nomatch h); (omega); (omega)) | (apply Wl.sliceFull; exact rfl; exact rfl; (first | exact BoundIs.no | exact BoundIs.yes rfl (by omega)); (first | exact BoundIs.no | exact BoundIs.yes rfl (by omega)); (first | exact BoundIs.no | exact BoundIs.yes rfl (by omega)); (first | exact fun _ => rfl | exact fun h => nomatch h); (omega); (omega); (omega)) | (apply Wl.indexAddr1; exact rfl; exact rfl; exact rfl; (constructor <;> omega)) | (apply Wl.indexAddr; exact rfl; exact rfl; exact rfl; (constructor <;> omega)) | (apply Wl.indexArr; exact rfl; exact rfl; exact rfl; (constructor <;> omega)) | (apply Wl.nil) | (apply Wl.nilQ) | (apply Wl.nilM) | (apply St.seq) | (apply St.block) | (apply St.region) | (apply St.condT; exact rfl; (first | with_reducible rfl | with_reducible assumption | decide)) | (apply St.condF; exact rfl; (first | with_reducible rfl | with_reducible assumption | decide)) | (apply St.ret) | (apply St.skip) | (apply St.exit) | (apply Gt.next) | (apply Gt.thenRet) | (apply Gt.thenExit) | (apply Gt.inNormal) | (apply Gt.inRet) | (apply Gt.inExit) | (apply Gt.inOther; exact rfl) | (apply Gt.out1; exact rfl; exact rfl; intro w' hp) | (apply Gt.out2; exact rfl; exact rfl; exact rfl; intro w' hp) | (apply Gt.out3; exact rfl; exact rfl; exact rfl; exact rfl; intro w' hp) | (apply Gt.out4; exact rfl; exact rfl; exact rfl; exact rfl; exact rfl; intro w' hp) | (apply Gt.out0; exact rfl; intro w' hp) | (apply Gt.out0n; exact rfl; intro w' hp) | (apply Wl.splitP; exact rfl; exact rfl; all_goals (intros; try (exfalso; omega))) | (apply Wl.splitB; exact rfl; exact rfl; all_goals intros) | (apply St.condP; exact rfl; all_goals (intros; try (exfalso; omega))) | (apply St.condB; exact rfl; all_goals intros))
  refine St.loop (σ := Nat × Nat × World × List Value × Int × Fs × (Nat → Int)) (fun τ => τ.1 ≤ K ∧ τ.2.1 ≤ τ.1 ∧ SS τ.2.2.1 h cf cM τ.2.2.2.1 τ.2.2.2.2.1 τ.2.2.2.2.2.1 τ.2.2.2.2.2.2 ∧ (τ.2.2.2.2.2.1.md = 0 ∧ τ.2.2.2.2.2.1.mie = 128 ∧ τ.2.2.2.2.2.1.mip = 0 ∧ τ.2.2.2.2.2.1.tv = 2147487744 ∧ τ.2.2.2.2.2.1.cy = (τ.1 : Int) ∧ τ.2.2.2.2.2.1.re = (τ.2.1 : Int)) ∧ τ.2.2.1.heap[p]? = some (.cells #[.pointer (some ⟨h, 0, none⟩), .pointer (some ⟨cH, 0, none⟩)] 44 (0, 0)) ∧ Upd (fun k => w.heap.size ≤ k) w τ.2.2.1 ∧ w1.heap.size ≤ τ.2.2.1.heap.size)
    (fun τ => [(2, .bool tm), (1, .int .i64 (K : Int)), (7, .pointer (some ⟨p, 0, none⟩)), (8, .int .i64 (τ.2.1 : Int)), (35, .int .i64 (K : Int)), (36, .int .i64 (τ.1 : Int))]) (fun τ => Hp τ.2.2.1 [⟨c1, [.slice wa wn wc, .slice xa xn xc, .slice la ln lc, .bool true, .slice (some ⟨cb, 0, none⟩) 2 2, .int .u32 pc0], 39⟩]) (fun τ => K - τ.1) (0, 0, w1, xs0, pc1, F0, f0) ⟨Nat.zero_le _, Nat.le_refl _, hS1, ⟨hmd1, hmie1, hmip1, htv1, hcy1, hre1⟩, hP1, hu1, Nat.le_refl _⟩ (by (repeat (first | exact Sub.nil | apply Sub.cons rfl))) (fun _ h => h) ?_
  clear hS1 hmd1 hu1 hmie1 hmip1 htv1 hcy1 hre1 hP1
  rintro ⟨i, dn, w3, xs, pc, F, f⟩ ⟨hi, hdn, hS3, ⟨hmd, hmie, hmip, htv, hcy, hre⟩, hP3, hu3, s23⟩
  simp only at hi hdn hS3 hmd hmie hmip htv hcy hre hP3 hu3 s23 ⊢
  have p0 : w3.cell? ⟨p, 0, none⟩ = some (.pointer (some ⟨h, 0, none⟩)) := cell_of hP3 rfl
  obtain ⟨c32, c33, c34⟩ := hS3.1.at1
  have lt3 := hS3.lts
  by_cases hlt : i < K
  · have hd3 : decide ((i : Int) < (K : Int)) = true := decide_eq_true (by omega)
    repeat' (first | (apply Wl.loadO; exact rfl; exact rfl; (first | assumption); (repeat (first | exact trivial | refine ⟨by first | omega | (simp only; omega), ?_⟩))) | (apply Wl.move; exact rfl; exact rfl) | (apply Wl.nilCheck; exact rfl; exact rfl) | (apply Wl.fieldAddr0; exact rfl; exact rfl) | (apply Wl.lss; exact rfl; exact rfl; exact rfl) | (apply Wl.nil) | (apply St.seq) | (apply St.block) | (apply St.region) | (apply St.condT; exact rfl; (first | with_reducible rfl | with_reducible assumption | decide)) | (apply St.skip) | (apply Gt.next))
    apply Wl.callC
    · exact rfl
    · (repeat (first | exact Evs.nil | apply Evs.cons rfl))
    intro wq hq
    have sq3 := hq.upd.size
    have hSq := hS3.upd hq.upd (fun y => y (by repeat (first | exact trivial | refine ⟨by first | omega | (simp only; omega), ?_⟩))) (fun y => y (by repeat (first | exact trivial | refine ⟨by first | omega | (simp only; omega), ?_⟩))) (fun y => y (by repeat (first | exact trivial | refine ⟨by first | omega | (simp only; omega), ?_⟩))) (fun y => y (by repeat (first | exact trivial | refine ⟨by first | omega | (simp only; omega), ?_⟩)))
    refine (stepU h cf cM xs pc F f wq hSq hmd).mono ?_
    rintro e w4 ⟨v, rfl, hO, u4⟩
    have hq4 := Hp.rest hq u4 (by simp only [List.mem_cons, List.not_mem_nil, or_false, forall_eq_or_imp, forall_eq]; omega)
    obtain ⟨wd, c1a, tl1, at_, wi, tr, sto, xs', pc', F', f', rfl, hc1a, hS4, g1, g2, g3, g4, hcase⟩ := stepCnt hmd hmie hmip hO
    refine ⟨_, _, rfl, hq4, ?_⟩
    have hP4 := u4.heap (hq.upd.heap hP3 (fun y => y (by repeat (first | exact trivial | refine ⟨by first | omega | (simp only; omega), ?_⟩)))) (by omega)
    have hu4 : Upd (fun k => w.heap.size ≤ k) w w4 := (hq.on hu3 (by simp; omega)).comp u4 fun k hk hs => by omega
    have sz4 := u4.size
    clear hq hq4 u4 hSq hO hS3 hP3 p0 c32 c33 c34 hu3
    have p0 : w4.cell? ⟨p, 0, none⟩ = some (.pointer (some ⟨h, 0, none⟩)) := cell_of hP4 rfl
    obtain ⟨c32, c33, c34⟩ := hS4.1.at1
    have lt4 := hS4.lts
    obtain ⟨hfl, hfk, hfc⟩ := hS4.2.1
    obtain ⟨md', st', mie', mip', tv', sc', ep', ca', tl', cy', re', cf'⟩ := F'
    simp only [Fs.cells] at hfl hfk hfc g1 g2 g3 g4 hcase
    have hnext : cy' = ((i + 1 : Nat) : Int) := by rw [g4, hcy]; exact wr64s (by omega)
    have htv4 : tv' = 2147487744 := g3.trans htv
    have hcs : (tr = true ∧ re' = (dn : Int)) ∨ (tr = false ∧ re' = ((dn + 1 : Nat) : Int)) := by
      rcases hcase with ⟨a, b⟩ | ⟨a, b⟩
      · exact .inl ⟨a, b.trans hre⟩
      · exact .inr ⟨a, by rw [b, hre]; exact wr64s (by omega)⟩
    clear hcase g3 g4
    rcases hcs with ⟨rfl, rfl⟩ | ⟨rfl, rfl⟩
    · obtain ⟨ne1, ne2, ne3⟩ := hS4.2.2.2.2.2.2.2.2
      refine Wl.cls (fun _ h' => Hp.open h' hfc (by repeat (first | exact trivial | refine ⟨by first | omega | (simp only; omega), ?_⟩))) ?_
      repeat' (first | (apply Wl.loadO; exact rfl; exact rfl; (first | assumption); (repeat (first | exact trivial | refine ⟨by first | omega | (simp only; omega), ?_⟩))) | (apply Wl.move; exact rfl; exact rfl) | (apply Wl.nilCheck; exact rfl; exact rfl) | (apply Wl.not; exact rfl; exact rfl) | (apply Wl.fieldAddr0; exact rfl; exact rfl) | (apply Wl.fieldAddrZ; exact rfl; exact rfl) | (apply Wl.loadH; exact rfl; exact rfl; (repeat (first | exact List.Mem.head _ | apply List.Mem.tail)); exact rfl) | (apply Wl.addI; exact rfl; exact rfl; exact rfl; (constructor <;> omega)) | (apply Wl.store; exact rfl; exact rfl; exact rfl; (repeat (first | apply HSet.here | apply HSet.there)); (repeat (first | apply LSet.z | apply LSet.s))) | (apply Wl.storeA; exact rfl; exact rfl; exact rfl; exact rfl; (repeat (first | apply HSet.here | apply HSet.there)); (repeat (first | apply LPut.s | apply LPut.z | apply LOver.nil | apply LOver.cons))) | (apply Wl.alloc; exact rfl; intro c hc ho) | (apply Wl.nil) | (apply St.seq) | (apply St.region) | (apply St.condF; exact rfl; (first | with_reducible rfl | with_reducible assumption | decide)) | (apply St.skip) | (apply Gt.next) | (apply Gt.inNormal))
      generalize c = c9 at *
      have hc9 : w4.heap.size ≤ c9 := by assumption
      apply Gt.reb (H' := [⟨c1, [.slice wa wn wc, .slice xa xn xc, .slice la ln lc, .bool true, .slice (some ⟨cb, 0, none⟩) 2 2, .int .u32 pc0], 39⟩])
      intro w8 hw8
      refine ⟨hw8.own.2.2, hw8.apart.2.2, ?_⟩
      have hF8 : FX w8 cf ⟨0, st', mie', mip', tv', sc', ep', ca', tl', cy', ((dn : Nat) : Int), cf'⟩ := ⟨hfl, hfk, hw8.own.at (.tail _ (.head _))⟩
      have hS8 : SS w8 h cf cM xs' pc' ⟨0, st', mie', mip', tv', sc', ep', ca', tl', cy', ((dn : Nat) : Int), cf'⟩ f' :=
        ⟨hS4.1.upd hw8.upd (fun y => y (by repeat (first | exact trivial | refine ⟨by first | omega | (simp only; omega), ?_⟩))), hF8, hw8.upd.heap hS4.2.2.1 (fun y => y (by repeat (first | exact trivial | refine ⟨by first | omega | (simp only; omega), ?_⟩))), hS4.2.2.2.1, hS4.2.2.2.2.1, hS4.2.2.2.2.2.1, hS4.2.2.2.2.2.2.1.upd hw8.upd (fun y => y (by repeat (first | exact trivial | refine ⟨by first | omega | (simp only; omega), ?_⟩))), hS4.2.2.2.2.2.2.2⟩
      have hu8 : Upd (fun k => w.heap.size ≤ k) w w8 := hw8.on hu4 (by simp; omega)
      have sz8 := hw8.upd.size
      apply Gt.round (i + 1, dn, w8, xs', pc', ⟨0, st', mie', mip', tv', sc', ep', ca', tl', cy', ((dn : Nat) : Int), cf'⟩, f')
      rotate_left
      · simp only; omega
      · (repeat (first | exact Sub.nil | apply Sub.cons rfl))
      · exact fun _ h => h
      · exact ⟨hlt, by simp only; omega, hS8, ⟨rfl, g1, g2, htv4, hnext, rfl⟩, hw8.upd.heap hP4 (fun y => y (by repeat (first | exact trivial | refine ⟨by first | omega | (simp only; omega), ?_⟩))), hu8, by simp only; omega⟩
    · obtain ⟨ne1, ne2, ne3⟩ := hS4.2.2.2.2.2.2.2.2
      refine Wl.cls (fun _ h' => Hp.open h' hfc (by repeat (first | exact trivial | refine ⟨by first | omega | (simp only; omega), ?_⟩))) ?_
      repeat' (first | (apply Wl.loadO; exact rfl; exact rfl; (first | assumption); (repeat (first | exact trivial | refine ⟨by first | omega | (simp only; omega), ?_⟩))) | (apply Wl.move; exact rfl; exact rfl) | (apply Wl.assign; exact rfl; exact rfl) | (apply Wl.nilCheck; exact rfl; exact rfl) | (apply Wl.not; exact rfl; exact rfl) | (apply Wl.fieldAddr0; exact rfl; exact rfl) | (apply Wl.fieldAddrZ; exact rfl; exact rfl) | (apply Wl.loadH; exact rfl; exact rfl; (repeat (first | exact List.Mem.head _ | apply List.Mem.tail)); exact rfl) | (apply Wl.addI; exact rfl; exact rfl; exact rfl; (constructor <;> omega)) | (apply Wl.store; exact rfl; exact rfl; exact rfl; (repeat (first | apply HSet.here | apply HSet.there)); (repeat (first | apply LSet.z | apply LSet.s))) | (apply Wl.storeA; exact rfl; exact rfl; exact rfl; exact rfl; (repeat (first | apply HSet.here | apply HSet.there)); (repeat (first | apply LPut.s | apply LPut.z | apply LOver.nil | apply LOver.cons))) | (apply Wl.alloc; exact rfl; intro c hc ho) | (apply Wl.nil) | (apply St.seq) | (apply St.region) | (apply St.condT; exact rfl; (first | with_reducible rfl | with_reducible assumption | decide)) | (apply Gt.next) | (apply Gt.inNormal))
      generalize c = c9 at *
      have hc9 : w4.heap.size ≤ c9 := by assumption
      apply Gt.reb (H' := [⟨c1, [.slice wa wn wc, .slice xa xn xc, .slice la ln lc, .bool true, .slice (some ⟨cb, 0, none⟩) 2 2, .int .u32 pc0], 39⟩])
      intro w8 hw8
      refine ⟨hw8.own.2.2, hw8.apart.2.2, ?_⟩
      have hF8 : FX w8 cf ⟨0, st', mie', mip', tv', sc', ep', ca', tl', cy', ((dn + 1 : Nat) : Int), cf'⟩ := ⟨hfl, hfk, hw8.own.at (.tail _ (.head _))⟩
      have hS8 : SS w8 h cf cM xs' pc' ⟨0, st', mie', mip', tv', sc', ep', ca', tl', cy', ((dn + 1 : Nat) : Int), cf'⟩ f' :=
        ⟨hS4.1.upd hw8.upd (fun y => y (by repeat (first | exact trivial | refine ⟨by first | omega | (simp only; omega), ?_⟩))), hF8, hw8.upd.heap hS4.2.2.1 (fun y => y (by repeat (first | exact trivial | refine ⟨by first | omega | (simp only; omega), ?_⟩))), hS4.2.2.2.1, hS4.2.2.2.2.1, hS4.2.2.2.2.2.1, hS4.2.2.2.2.2.2.1.upd hw8.upd (fun y => y (by repeat (first | exact trivial | refine ⟨by first | omega | (simp only; omega), ?_⟩))), hS4.2.2.2.2.2.2.2⟩
      have hu8 : Upd (fun k => w.heap.size ≤ k) w w8 := hw8.on hu4 (by simp; omega)
      have sz8 := hw8.upd.size
      apply Gt.round (i + 1, dn + 1, w8, xs', pc', ⟨0, st', mie', mip', tv', sc', ep', ca', tl', cy', ((dn + 1 : Nat) : Int), cf'⟩, f')
      rotate_left
      · simp only; omega
      · (repeat (first | exact Sub.nil | apply Sub.cons rfl))
      · exact fun _ h => h
      · exact ⟨hlt, by simp only; omega, hS8, ⟨rfl, g1, g2, htv4, hnext, rfl⟩, hw8.upd.heap hP4 (fun y => y (by repeat (first | exact trivial | refine ⟨by first | omega | (simp only; omega), ?_⟩))), hu8, by simp only; omega⟩
  · have hie : i = K := by omega
    subst hie
    have hd3 : decide ((i : Int) < (i : Int)) = false := decide_eq_false (by omega)
    obtain ⟨md, st, mie, mip, tv, sc, ep, ca, tl, cy, re, cf0⟩ := F
    simp only at hmd hmie hmip htv hcy hre
    subst hmd hmie hmip htv hcy hre
    have hw1 : IntKind.u32.wrap (i : Int) = (i : Int) := wr32s (by omega)
    have hw2 : IntKind.u32.wrap (dn : Int) = (dn : Int) := wr32s (by omega)
    have hrc : ∀ wq, FX wq cf _ → Calls Tryd.prog 13 #[.pointer (some ⟨cf, 0, none⟩), .int .u32 2816] wq fun e w' => e = .returned (.tuple #[.int .u32 (i : Int), .bool true]) ∧ Hp wq [] w' := fun wq hx => by have k := freadCy cf ⟨0, st, 128, 0, 2147487744, sc, ep, ca, tl, i, dn, cf0⟩ wq hx; rw [hw1] at k; exact k
    have hrr : ∀ wq, FX wq cf _ → Calls Tryd.prog 13 #[.pointer (some ⟨cf, 0, none⟩), .int .u32 2818] wq fun e w' => e = .returned (.tuple #[.int .u32 (dn : Int), .bool true]) ∧ Hp wq [] w' := fun wq hx => by have k := freadRe cf ⟨0, st, 128, 0, 2147487744, sc, ep, ca, tl, i, dn, cf0⟩ wq hx; rw [hw2] at k; exact k
    have hFq : ∀ {wq : World}, Hp w3 [⟨c1, [.slice wa wn wc, .slice xa xn xc, .slice la ln lc, .bool true, .slice (some ⟨cb, 0, none⟩) 2 2, .int .u32 pc0], 39⟩] wq → FX wq cf ⟨0, st, 128, 0, 2147487744, sc, ep, ca, tl, i, dn, cf0⟩ := fun hq => hS3.2.1.upd hq.upd (fun y => y (by repeat (first | exact trivial | refine ⟨by first | omega | (simp only; omega), ?_⟩)))
    repeat' (first | (apply Wl.loadO; exact rfl; exact rfl; (first | assumption); (repeat (first | exact trivial | refine ⟨by first | omega | (simp only; omega), ?_⟩))) | (apply Wl.move; exact rfl; exact rfl) | (apply Wl.nilCheck; exact rfl; exact rfl) | (apply Wl.fieldAddr0; exact rfl; exact rfl) | (apply Wl.fieldAddrZ; exact rfl; exact rfl) | (apply Wl.lss; exact rfl; exact rfl; exact rfl) | (apply Wl.nil) | (apply St.seq) | (apply St.region) | (apply St.condF; exact rfl; (first | with_reducible rfl | with_reducible assumption | decide)) | (apply St.exit) | (apply Gt.next) | (apply Gt.thenExit) | (apply Gt.inExit))
    apply Wl.callQ
    exact rfl
    (repeat (first | exact Evs.nil | apply Evs.cons rfl))
    · intro wq hq
      refine (hrc wq (hFq hq)).mono ?_
      rintro e wr ⟨rfl, hr⟩
      exact ⟨rfl, hq.keep hr⟩
    repeat' (first | (apply Wl.loadO; exact rfl; exact rfl; (first | assumption); (repeat (first | exact trivial | refine ⟨by first | omega | (simp only; omega), ?_⟩))) | (apply Wl.move; exact rfl; exact rfl) | (apply Wl.assign; exact rfl; exact rfl) | (apply Wl.extract; exact rfl; exact rfl; exact rfl) | (apply Wl.nilCheck; exact rfl; exact rfl) | (apply Wl.fieldAddr0; exact rfl; exact rfl) | (apply Wl.fieldAddrZ; exact rfl; exact rfl) | (apply Wl.nil) | (apply St.seq) | (apply St.region) | (apply Gt.next))
    apply Wl.callQ
    exact rfl
    (repeat (first | exact Evs.nil | apply Evs.cons rfl))
    · intro wq hq
      refine (hrr wq (hFq hq)).mono ?_
      rintro e wr ⟨rfl, hr⟩
      exact ⟨rfl, hq.keep hr⟩
    repeat' (first | (apply Wl.loadO; exact rfl; exact rfl; (first | assumption); (repeat (first | exact trivial | refine ⟨by first | omega | (simp only; omega), ?_⟩))) | (apply Wl.move; exact rfl; exact rfl) | (apply Wl.assign; exact rfl; exact rfl) | (apply Wl.on; exact rfl; exact rfl; (first | with_reducible rfl | with_reducible assumption | decide)) | (apply Wl.extract; exact rfl; exact rfl; exact rfl) | (apply Wl.nilCheck; exact rfl; exact rfl) | (apply Wl.pickF; exact rfl; exact rfl; (first | with_reducible rfl | with_reducible assumption | decide); exact rfl) | (apply Wl.fieldAddr0; exact rfl; exact rfl) | (apply Wl.fieldAddrZ; exact rfl; exact rfl) | (apply Wl.neqIs; exact rfl; exact rfl; exact rfl; (first | with_reducible assumption | with_reducible rfl)) | (apply Wl.convI64; exact rfl; exact rfl; (constructor <;> omega)) | (apply Wl.nil) | (apply St.seq) | (apply St.region) | (apply St.condF; exact rfl; (first | with_reducible rfl | with_reducible assumption | decide)) | (apply St.skip) | (apply Gt.next))
    apply Wl.callC
    · exact rfl
    · (repeat (first | exact Evs.nil | apply Evs.cons rfl))
    intro wq hq
    have sq3 := hq.upd.size
    have hSq := hS3.upd hq.upd (fun y => y (by repeat (first | exact trivial | refine ⟨by first | omega | (simp only; omega), ?_⟩))) (fun y => y (by repeat (first | exact trivial | refine ⟨by first | omega | (simp only; omega), ?_⟩))) (fun y => y (by repeat (first | exact trivial | refine ⟨by first | omega | (simp only; omega), ?_⟩))) (fun y => y (by repeat (first | exact trivial | refine ⟨by first | omega | (simp only; omega), ?_⟩)))
    refine (ftimerX cf tm _ wq hSq.2.1 rfl).mono ?_
    rintro e w4 ⟨rfl, hF4, u4⟩
    have hq4 := Hp.rest hq u4 (by simp only [List.mem_cons, List.not_mem_nil, or_false, forall_eq_or_imp, forall_eq]; omega)
    refine ⟨_, _, rfl, hq4, ?_⟩
    have hP4 := u4.heap (hq.upd.heap hP3 (fun y => y (by repeat (first | exact trivial | refine ⟨by first | omega | (simp only; omega), ?_⟩)))) (by omega)
    obtain ⟨ne1, ne2, ne3⟩ := hSq.2.2.2.2.2.2.2.2
    have hS4 : SS w4 h cf cM xs pc ⟨0, st, 128, if tm then 128 else 0, 2147487744, sc, ep, ca, tl, i, dn, cf0⟩ f :=
      ⟨hSq.1.upd u4 (by omega), hF4, u4.heap hSq.2.2.1 (by omega), hSq.2.2.2.1, hSq.2.2.2.2.1, hSq.2.2.2.2.2.1, hSq.2.2.2.2.2.2.1.upd u4 (by omega), hSq.2.2.2.2.2.2.2⟩
    have hu4 : Upd (fun k => w.heap.size ≤ k) w w4 := (hq.on hu3 (by simp; omega)).comp u4 fun k hk hs => by omega
    have sz4 := u4.size
    clear hq hq4 u4 hSq hS3 hP3 p0 c32 c33 c34 hu3 hF4 hFq hrc hrr
    have p0 : w4.cell? ⟨p, 0, none⟩ = some (.pointer (some ⟨h, 0, none⟩)) := cell_of hP4 rfl
    obtain ⟨c32, c33, c34⟩ := hS4.1.at1
    have lt4 := hS4.lts
    obtain ⟨g, hgx, hgr⟩ := rgN hS4.2.2.2.1
    subst hgx
    have hKp : ∀ {H : List Blk} {w' : World}, Hp w4 H w' → Off H h → Off H cf → Off H cM → Off H 0 → Off H p → SS w' h cf cM (cellsN .u32 32 g) pc ⟨0, st, 128, if tm then 128 else 0, 2147487744, sc, ep, ca, tl, i, dn, cf0⟩ f ∧ w'.cell? ⟨p, 0, none⟩ = some (.pointer (some ⟨h, 0, none⟩)) := fun hq a b c d e => ⟨hS4.upd hq.upd (fun y => y a) (fun y => y b) (fun y => y c) (fun y => y d), hq.old p0 e⟩
    repeat' (first | (apply Wl.nil) | (apply St.seq) | (apply Gt.next))
    refine St.tree (fun w' => SS w' h cf cM (cellsN .u32 32 g) pc ⟨0, st, 128, if tm then 128 else 0, 2147487744, sc, ep, ca, tl, i, dn, cf0⟩ f ∧ w'.cell? ⟨p, 0, none⟩ = some (.pointer (some ⟨h, 0, none⟩))) mixed (fun _ h' => ⟨Hp.drew h', hKp (Hp.drew h') (by repeat (first | exact trivial | refine ⟨by first | omega | (simp only; omega), ?_⟩)) (by repeat (first | exact trivial | refine ⟨by first | omega | (simp only; omega), ?_⟩)) (by repeat (first | exact trivial | refine ⟨by first | omega | (simp only; omega), ?_⟩)) (by repeat (first | exact trivial | refine ⟨by first | omega | (simp only; omega), ?_⟩)) (by repeat (first | exact trivial | refine ⟨by first | omega | (simp only; omega), ?_⟩))⟩) ?_
    refine Mt.pure 0 (by decide +kernel) (by exact rfl) (by exact rfl) (by decide +kernel) (by decide +kernel) ?_
    repeat' (first | (apply Wl.move; exact rfl; exact rfl) | (apply Wl.nilM))
    apply Mt.back
    refine Mt.pure 1 (by decide +kernel) (by exact rfl) (by exact rfl) (by decide +kernel) (by decide +kernel) ?_
    repeat' (first | (apply Wl.nilCheck; exact rfl; exact rfl) | (apply Wl.nilM))
    apply Mt.back
    refine Mt.pure 2 (by decide +kernel) (by exact rfl) (by exact rfl) (by decide +kernel) (by decide +kernel) ?_
    repeat' (first | (apply Wl.fieldAddr0; exact rfl; exact rfl) | (apply Wl.nilM))
    apply Mt.back
    refine Mt.pure 3 (by decide +kernel) (by exact rfl) (by exact rfl) (by decide +kernel) (by decide +kernel) ?_
    repeat' (first | (apply Wl.loadF; exact rfl; exact rfl; (intro w' h'; first | exact h'.2 | exact h'.1.1.at1.1 | exact h'.1.1.at1.2.1 | exact h'.1.1.at1.2.2)) | (apply Wl.nilM))
    apply Mt.back
    refine Mt.pure 4 (by decide +kernel) (by exact rfl) (by exact rfl) (by decide +kernel) (by decide +kernel) ?_
    repeat' (first | (apply Wl.nilCheck; exact rfl; exact rfl) | (apply Wl.nilM))
    apply Mt.back
    refine Mt.pure 5 (by decide +kernel) (by exact rfl) (by exact rfl) (by decide +kernel) (by decide +kernel) ?_
    repeat' (first | (apply Wl.fieldAddr0; exact rfl; exact rfl) | (apply Wl.nilM))
    apply Mt.back
    refine Mt.pure 6 (by decide +kernel) (by exact rfl) (by exact rfl) (by decide +kernel) (by decide +kernel) ?_
    repeat' (first | (apply Wl.loadAF (xs := cellsN .u32 32 g); exact rfl; exact rfl; exact cellsN_len _ _ _; (intro w' h' q v hq'; exact h'.1.1.reg hq')) | (apply Wl.nilM))
    apply Mt.back
    refine Mt.pure 7 (by decide +kernel) (by exact rfl) (by exact rfl) (by decide +kernel) (by decide +kernel) ?_
    repeat' (first | (apply Wl.move; exact rfl; exact rfl) | (apply Wl.nilM))
    apply Mt.back
    refine Mt.pure 8 (by decide +kernel) (by exact rfl) (by exact rfl) (by decide +kernel) (by decide +kernel) ?_
    repeat' (first | (apply Wl.nilCheck; exact rfl; exact rfl) | (apply Wl.nilM))
    apply Mt.back
    refine Mt.pure 9 (by decide +kernel) (by exact rfl) (by exact rfl) (by decide +kernel) (by decide +kernel) ?_
    repeat' (first | (apply Wl.fieldAddr0; exact rfl; exact rfl) | (apply Wl.nilM))
    apply Mt.back
    refine Mt.pure 10 (by decide +kernel) (by exact rfl) (by exact rfl) (by decide +kernel) (by decide +kernel) ?_
    repeat' (first | (apply Wl.loadF; exact rfl; exact rfl; (intro w' h'; first | exact h'.2 | exact h'.1.1.at1.1 | exact h'.1.1.at1.2.1 | exact h'.1.1.at1.2.2)) | (apply Wl.nilM))
    apply Mt.back
    refine Mt.pure 11 (by decide +kernel) (by exact rfl) (by exact rfl) (by decide +kernel) (by decide +kernel) ?_
    repeat' (first | (apply Wl.nilCheck; exact rfl; exact rfl) | (apply Wl.nilM))
    apply Mt.back
    refine Mt.pure 12 (by decide +kernel) (by exact rfl) (by exact rfl) (by decide +kernel) (by decide +kernel) ?_
    repeat' (first | (apply Wl.fieldAddrZ; exact rfl; exact rfl) | (apply Wl.nilM))
    apply Mt.back
    refine Mt.pure 13 (by decide +kernel) (by exact rfl) (by exact rfl) (by decide +kernel) (by decide +kernel) ?_
    repeat' (first | (apply Wl.loadF; exact rfl; exact rfl; (intro w' h'; first | exact h'.2 | exact h'.1.1.at1.1 | exact h'.1.1.at1.2.1 | exact h'.1.1.at1.2.2)) | (apply Wl.nilM))
    apply Mt.back
    refine Mt.eff1 (i := 14) (by decide +kernel) (by exact rfl) ?_
    repeat' (first | (apply Wl.alloc; exact rfl; intro c hc ho) | (apply Wl.nil))
    have hc14 : w4.heap.size ≤ c := by assumption
    generalize c = c14 at *
    refine Mt.backE (fun _ h' => hKp h' (by repeat (first | exact trivial | refine ⟨by first | omega | (simp only; omega), ?_⟩)) (by repeat (first | exact trivial | refine ⟨by first | omega | (simp only; omega), ?_⟩)) (by repeat (first | exact trivial | refine ⟨by first | omega | (simp only; omega), ?_⟩)) (by repeat (first | exact trivial | refine ⟨by first | omega | (simp only; omega), ?_⟩)) (by repeat (first | exact trivial | refine ⟨by first | omega | (simp only; omega), ?_⟩))) ?_
    refine Mt.eff1 (i := 15) (by decide +kernel) (by exact rfl) ?_
    repeat' (first | (apply Wl.storeA; exact rfl; exact rfl; exact cellsN_len _ _ _; exact cellsN_one _ _ _; (repeat (first | apply HSet.here | apply HSet.there)); exact .z (LOver.whole (by rw [cellsN_len]; exact rfl))) | (apply Wl.nil))
    refine Mt.backE (fun _ h' => hKp h' (by repeat (first | exact trivial | refine ⟨by first | omega | (simp only; omega), ?_⟩)) (by repeat (first | exact trivial | refine ⟨by first | omega | (simp only; omega), ?_⟩)) (by repeat (first | exact trivial | refine ⟨by first | omega | (simp only; omega), ?_⟩)) (by repeat (first | exact trivial | refine ⟨by first | omega | (simp only; omega), ?_⟩)) (by repeat (first | exact trivial | refine ⟨by first | omega | (simp only; omega), ?_⟩))) ?_
    refine Mt.pure 16 (by decide +kernel) (by exact rfl) (by exact rfl) (by decide +kernel) (by decide +kernel) ?_
    repeat' (first | (apply Wl.assign; exact rfl; exact rfl) | (apply Wl.nilM))
    apply Mt.back
    refine Mt.toGt (by decide +kernel) ?_
    repeat' (first | (apply Wl.loadO; exact rfl; exact rfl; (first | assumption); (repeat (first | exact trivial | refine ⟨by first | omega | (simp only; omega), ?_⟩))) | (apply Wl.move; exact rfl; exact rfl) | (apply Wl.nilCheck; exact rfl; exact rfl) | (apply Wl.fieldAddr0; exact rfl; exact rfl) | (apply St.seq) | (apply St.region) | (apply Gt.next))
    apply Wl.callC
    · exact rfl
    · (repeat (first | exact Evs.nil | apply Evs.cons rfl))
    intro wq hq
    have sq4 := hq.upd.size
    have l14 := hq.own.lt (.head _)
    simp only at l14
    have hSq := hS4.upd hq.upd (fun y => y (by repeat (first | exact trivial | refine ⟨by first | omega | (simp only; omega), ?_⟩))) (fun y => y (by repeat (first | exact trivial | refine ⟨by first | omega | (simp only; omega), ?_⟩))) (fun y => y (by repeat (first | exact trivial | refine ⟨by first | omega | (simp only; omega), ?_⟩))) (fun y => y (by repeat (first | exact trivial | refine ⟨by first | omega | (simp only; omega), ?_⟩)))
    refine (stepU h cf cM _ pc _ f wq hSq rfl).mono ?_
    rintro e w5 ⟨v, rfl, hO, u5⟩
    have hq5 := Hp.rest hq u5 (by simp only [List.mem_cons, List.not_mem_nil, or_false, forall_eq_or_imp, forall_eq]; omega)
    refine ⟨_, _, rfl, hq5, ?_⟩
    have hP5 := u5.heap (hq.upd.heap hP4 (fun y => y (by repeat (first | exact trivial | refine ⟨by first | omega | (simp only; omega), ?_⟩)))) (by omega)
    have hu5 : Upd (fun k => w.heap.size ≤ k) w w5 := (hq.on hu4 (by simp; omega)).comp u5 fun k hk hs => by omega
    have sz5 := u5.size
    clear hq hq5 u5 hSq hP4 p0 c32 c33 c34 hu4
    have p0 : w5.cell? ⟨p, 0, none⟩ = some (.pointer (some ⟨h, 0, none⟩)) := cell_of hP5 rfl
    cases tm
    · rcases hO with ⟨hd, _⟩ | ⟨_, ⟨wd, c1a, tl1, at_, wi, tr, sto, rfl, hc1a, _⟩, _⟩
      · exact absurd ((due00 st).symm.trans hd) (by decide)
      · have hdc : decide (c1a ≠ 2147483655) = true := decide_eq_true hc1a
        repeat' (first | (apply Wl.move; exact rfl; exact rfl) | (apply Wl.assign; exact rfl; exact rfl) | (apply Wl.not; exact rfl; exact rfl) | (apply Wl.fieldAddrZ; exact rfl; exact rfl) | (apply Wl.loadH; exact rfl; exact rfl; (repeat (first | exact List.Mem.head _ | apply List.Mem.tail)); exact rfl) | (apply Wl.neq; exact rfl; exact rfl; exact rfl) | (apply Wl.storeA; exact rfl; exact rfl; exact rfl; exact rfl; (repeat (first | apply HSet.here | apply HSet.there)); (repeat (first | apply LPut.s | apply LPut.z | apply LOver.nil | apply LOver.cons))) | (apply Wl.alloc; exact rfl; intro c hc ho) | (apply Wl.nil) | (apply St.seq) | (apply St.region) | (apply St.condT; exact rfl; (first | with_reducible rfl | with_reducible assumption | decide)) | (apply St.ret) | (apply Gt.next) | (apply Gt.thenRet) | (apply Gt.out1; exact rfl; exact rfl; intro w' hp))
        exact ⟨by rw [hdc], hp.fin hu5 (by simp; omega)⟩
    · rcases hO with ⟨_, rfl, s', _, _, _, hS5⟩ | ⟨hd, _⟩
      rotate_left
      · exact absurd ((due11 st).symm.trans hd) (by decide)
      have lt5 := hS5.lts
      obtain ⟨c32, c33, c34⟩ := hS5.1.at1
      have hep : pc - pc % 4 = bits .andNot .u32 pc 3 := (low2 pc hS4.2.2.2.2.1).symm
      repeat' (first | (apply Wl.loadO; exact rfl; exact rfl; (first | assumption); (repeat (first | exact trivial | refine ⟨by first | omega | (simp only; omega), ?_⟩))) | (apply Wl.move; exact rfl; exact rfl) | (apply Wl.nilCheck; exact rfl; exact rfl) | (apply Wl.not; exact rfl; exact rfl) | (apply Wl.fieldAddr0; exact rfl; exact rfl) | (apply Wl.fieldAddrZ; exact rfl; exact rfl) | (apply Wl.storeA; exact rfl; exact rfl; exact rfl; exact rfl; (repeat (first | apply HSet.here | apply HSet.there)); (repeat (first | apply LPut.s | apply LPut.z | apply LOver.nil | apply LOver.cons))) | (apply Wl.alloc; exact rfl; intro c hc ho) | (apply Wl.nil) | (apply St.seq) | (apply St.region) | (apply St.condF; exact rfl; (first | with_reducible rfl | with_reducible assumption | decide)) | (apply St.skip) | (apply Gt.next))
      generalize c = c16 at *
      have hc16 : w5.heap.size ≤ c16 := by assumption
      apply Wl.callQ
      exact rfl
      (repeat (first | exact Evs.nil | apply Evs.cons rfl))
      · intro wq hq
        refine (freadEp cf _ wq (hS5.2.1.upd hq.upd (fun y => y (by repeat (first | exact trivial | refine ⟨by first | omega | (simp only; omega), ?_⟩))))).mono ?_
        rintro e wr ⟨rfl, hr⟩
        exact ⟨rfl, hq.keep hr⟩
      repeat' (first | (apply Wl.eqlA (e := 22) (n := 32) (q := .u32) (f := g) (g := g) (b := true); exact rfl; exact rfl; exact rfl; kernel_rfl; kernel_rfl; kernel_rfl; kernel_rfl; exact hgr; exact hgr; exact ⟨fun _ _ _ => rfl, fun _ => rfl⟩) | (apply Wl.eqlG (la := [Lit.int .u32 0, Lit.bool true, Lit.int .u32 2147483655, Lit.int .u32 0, Lit.int .u32 0, Lit.int .i64 0, Lit.bool false]) (lb := [Lit.int .u32 0, Lit.bool true, Lit.int .u32 2147483655, Lit.int .u32 0, Lit.int .u32 0, Lit.int .i64 0, Lit.bool false]); exact rfl; exact rfl; exact rfl; (kernel_rfl); (kernel_rfl); (kernel_rfl); (kernel_rfl); (kernel_rfl); (kernel_rfl); exact (⟨fun _ => rfl, fun _ => rfl⟩ : true = true ↔ _ = _)) | (apply Wl.loadAF (xs := cellsN .u32 32 g); exact rfl; exact rfl; exact cellsN_len _ _ _; (intro wq hq q v hq'; rw [addLit]; exact hq.old (by have hrg := hS5.1.reg hq'; rw [addLit] at hrg; exact hrg) (by show Off _ h; repeat (first | exact trivial | refine ⟨by first | omega | (simp only; omega), ?_⟩)))) | (apply Wl.loadW; exact rfl; exact rfl; (first | exact (.head _) | exact (.tail _ (.head _))); exact rfl) | (apply Wl.loadO; exact rfl; exact rfl; (first | assumption); (repeat (first | exact trivial | refine ⟨by first | omega | (simp only; omega), ?_⟩))) | (apply Wl.move; exact rfl; exact rfl) | (apply Wl.assign; exact rfl; exact rfl) | (apply Wl.on; exact rfl; exact rfl; (first | with_reducible rfl | with_reducible assumption | decide)) | (apply Wl.extract; exact rfl; exact rfl; exact rfl) | (apply Wl.nilCheck; exact rfl; exact rfl) | (apply Wl.pickT; exact rfl; exact rfl; (first | with_reducible rfl | with_reducible assumption | decide); exact rfl) | (apply Wl.fieldAddr0; exact rfl; exact rfl) | (apply Wl.fieldAddrZ; exact rfl; exact rfl) | (apply Wl.eqlIs; exact rfl; exact rfl; exact rfl; (first | with_reducible assumption | with_reducible rfl)) | (apply Wl.andNot; exact rfl; exact rfl; exact rfl) | (apply Wl.loadAH; exact rfl; exact rfl; (repeat (first | exact List.Mem.head _ | apply List.Mem.tail)); (repeat (first | apply LSub.z | apply LSub.t | apply LSub.s))) | (apply Wl.buildS; exact rfl; (repeat (first | exact Parts.nil | apply Parts.cons rfl)); (repeat (first | apply Fills.nil | (apply Fills.one; exact rfl; exact rfl; (repeat (first | apply LSet.z | apply LSet.s))) | (apply Fills.agg; exact rfl; exact rfl; (repeat (first | apply LPut.s | apply LPut.z | apply LOver.nil | apply LOver.cons)))))) | (apply Wl.nil) | (apply Wl.nilQ) | (apply St.seq) | (apply St.draw; exact mixed; (kernel_rfl); exact (fun _ h => Hp.drew h)) | (apply St.ret) | (apply Gt.next) | (apply Gt.out1; exact rfl; exact rfl; intro w' hp))
      exact ⟨rfl, hp.fin hu5 (by simp; omega)⟩
end Go.Proofs.YtcefkbnachnciaaDoor
end
section
namespace Go.Proofs.YtcefkbnachnciaaDoor
open Go.RowKit Go.Pt
end Go.Proofs.YtcefkbnachnciaaDoor
end
section
namespace Go.Proofs.YtcefkbnachnciaaDoor
open Go.RowKit Go.Pt Go.ChangeShapes Go.WideShapes Go.ChangeAt
theorem open_list {α : Type} {H : Type} {enc : TypeId × Value → H} {P : Program} {w : World} {t e sz : Nat} {v : Value} (g : α → List Value) (ok : α → Prop) (ht : P.underlying t = some (.slice e)) (hc : P.cellsOf e = sz) (hs : 0 < sz)
    (hone : ∀ c, Tr enc P w e c → c.length = sz → ∃ x, c = g x ∧ ok x) (h : Tr enc P w t [v]) : ∃ l : List α, Sv w sz l.length v (l.flatMap g) ∧ (∀ x ∈ l, ok x) ∧ l.length * P.bytesOf e ≤ reachBytes := by
  obtain ⟨es, v', e, hsv, hes, hwt⟩ := h.slice ht hc hs
  simp only [List.cons.injEq, and_true] at e
  subst e
  have : ∃ ps : List α, es.flatten = ps.flatMap g ∧ es.length = ps.length ∧ ∀ p ∈ ps, ok p := by
    clear hsv hwt
    induction es with
    | nil => exact ⟨[], rfl, rfl, fun p hp => by cases hp⟩
    | cons c r ih =>
      obtain ⟨ps, h1, h2, h3⟩ := ih fun c hc => hes c (by simp [hc])
      obtain ⟨p, rfl, hp⟩ := hone c (hes c (by simp)).2 (hes c (by simp)).1
      exact ⟨p :: ps, by simp [h1], by simp [h2], fun q hq => by
        rcases List.mem_cons.1 hq with rfl | hq
        · exact hp
        · exact h3 q hq⟩
  obtain ⟨ps, h1, h2, h3⟩ := this
  rw [h1, h2] at hsv
  rw [h2] at hwt
  exact ⟨ps, hsv, h3, hwt⟩
theorem sv_at {α : Type} {w : World} {g : α → List Value} {m n cap : Nat} {a : Option Addr} {l : List α} (hg : ∀ x, (g x).length = m) (h : Sv w m l.length (.slice a n cap) (l.flatMap g)) : n = l.length ∧ ∀ (i : Nat) (x : α), l[i]? = some x → 0 < m → ∃ b o, a = some ⟨b, o, none⟩ ∧ ∀ j v, (g x)[j]? = some v → w.cell? ⟨b, o + i * m + j, none⟩ = some v := by
  obtain ⟨hlen, a', cap', e, _, _, _, hc⟩ := h
  simp only [Value.slice.injEq] at e
  obtain ⟨rfl, rfl, rfl⟩ := e
  refine ⟨rfl, fun i x hx hm => ?_⟩
  have h1 : ∀ j v, (g x)[j]? = some v → (l.flatMap g)[i * m + j]? = some v := fun j v hj => by
    have hjm : j < m := by rw [← hg x]; exact (List.getElem?_eq_some_iff.1 hj).1
    rw [flatN hg hx hjm]; exact hj
  have hne : l.flatMap g ≠ [] := by
    intro e0
    have hx0 : (g x)[0]? = some ((g x)[0]'(by rw [hg]; exact hm)) := List.getElem?_eq_getElem _
    have := h1 0 _ hx0
    rw [e0] at this
    cases this
  obtain ⟨b, o, rfl, hcc⟩ := hc hne
  refine ⟨b, o, rfl, fun j v hj => ?_⟩
  obtain ⟨l1, e1⟩ := List.getElem?_eq_some_iff.1 (h1 j v hj)
  rw [Nat.add_assoc, hcc _ l1, e1]
def entC (p : Int × Int × Int) : List Value := [.int .i64 p.1, .int .i64 p.2.1, .int .u32 p.2.2]
theorem Tr.entry {H : Type} {enc : TypeId × Value → H} {w : World} (c : List Value) (h : Tr enc Tryd.prog w 49 c) (hl : c.length = 3) : ∃ p, c = entC p ∧ True := by
  have ht := Tryd.underlying49
  match c, hl with
  | [c0, c1, c2], _ =>
    obtain ⟨x, e0, _⟩ := (h.field1 ht 0 (ft := 3) (off := 0) rfl (by kernel_rfl) rfl).int Tryd.underlying3
    obtain ⟨y, e1, _⟩ := (h.field1 ht 1 (ft := 3) (off := 1) rfl (by kernel_rfl) rfl).int Tryd.underlying3
    obtain ⟨z, e2, _⟩ := (h.field1 ht 2 (ft := 22) (off := 2) rfl (by kernel_rfl) rfl).int Tryd.underlying22
    simp only [List.cons.injEq, and_true] at e0 e1 e2
    subst e0 e1 e2
    exact ⟨(x, y, z), rfl, trivial⟩
theorem reach47 : reachBytes ≤ 140737488355328 := by decide
theorem open_ents {H : Type} {enc : TypeId × Value → H} {w : World} {v : Value} (h : Tr enc Tryd.prog w 37 [v]) : ∃ a n cap, v = .slice a n cap ∧ EntS w a n ∧ n ≤ 140737488355328 := by
  obtain ⟨l, h1, _, hb⟩ := open_list entC (fun _ => True) Tryd.underlying37 (sz := 3) (by kernel_rfl) (by decide) Tr.entry h
  obtain ⟨_, a, cap, e, _⟩ := id h1
  subst e
  obtain ⟨_, hat⟩ := sv_at (m := 3) (fun _ => rfl) h1
  refine ⟨a, l.length, cap, rfl, fun i hi => ?_, ?_⟩
  · obtain ⟨b, o, rfl, hc⟩ := hat i _ (List.getElem?_eq_getElem hi) (by decide)
    exact ⟨b, o, rfl, _, _, _, hc 0 _ rfl, hc 1 _ rfl, hc 2 _ rfl⟩
  · have hby : Tryd.prog.bytesOf 49 = 24 := by kernel_rfl
    rw [hby] at hb
    have := reach47
    omega
theorem u32r {n : Int} (h : IntKind.u32.min ≤ n ∧ n ≤ IntKind.u32.max) : 0 ≤ n ∧ n < 4294967296 := by
  have h' : 0 ≤ n ∧ n ≤ 4294967295 := h
  omega
end Go.Proofs.YtcefkbnachnciaaDoor
end
