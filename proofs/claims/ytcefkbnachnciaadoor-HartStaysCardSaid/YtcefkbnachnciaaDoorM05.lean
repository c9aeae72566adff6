/-
  3 texts, one behind the other; each says what it proves. Conditions: as each text says.
-/
import Derived.Test.YtcefkbnachnciaaDoorM04
import Derived.Test.YtcefkbnachnciaaDoorM02
import Derived.Test.YtcefkbnachnciaaDoorMOpen2
section
namespace Go.Proofs.YtcefkbnachnciaaDoor
open Go.RowKit Go.Pt
set_option maxHeartbeats 32000000 in
theorem stays16 (wa xa la ca : Option Addr) (wn wc xn xc ln lc cn cc : Nat) (us : Bool) (pc0 n : Int) (w : World) (hW : WordS w wa wn) (hX : PairS w xa xn) (hL : EntS w la ln) (hC : PairS w ca cn) (hT : tabOk w) :
    Calls Tryd.prog 6 #[.agg #[.slice wa wn wc, .slice xa xn xc, .slice la ln lc, .bool us, .slice ca cn cc, .int .u32 pc0], .int .i64 n] w fun e w' => e = .returned (.bool true) ∧ Hp w [] w' := by
  have hT0 := hT.lt
  obtain ⟨K, hK, hK60, hn1, hn2⟩ := k60 n
  refine enter (args := [_, _]) (Γ := [(0, _), (1, _)]) Tryd.func6 Tryd.ntmps6 rfl (of_decide_eq_true rfl) (.cons rfl (.cons rfl .nil)) ?_
  apply St.seq
  apply St.region
  apply Wl.boxA
  · exact rfl
  · exact rfl
  intro c1 hc1 ho1
  by_cases hsm : wn ≤ 300 ∧ xn ≤ 100 ∧ ln ≤ 16 ∧ cn ≤ 100
  rotate_left
  · have hd : decide (wn ≤ 300 ∧ xn ≤ 100 ∧ ln ≤ 16 ∧ cn ≤ 100) = false := decide_eq_false hsm
    have hd2 : (!decide (wn ≤ 300 ∧ xn ≤ 100 ∧ ln ≤ 16 ∧ cn ≤ 100)) = true := by rw [hd]; rfl
    repeat' (first | (apply Wl.callQ (f := 7); exact rfl; (repeat (first | exact Evs.nil | apply Evs.cons rfl)); (intro wq hq; refine (fit16 wq).mono ?_; rintro e wr ⟨rfl, hr⟩; exact ⟨rfl, hq.keep hr⟩)) | (apply Wl.callQ (f := 10); exact rfl; (repeat (first | exact Evs.nil | apply Evs.cons rfl)); (intro wq hq; refine (small16 _ _ _ _ _ _ _ _ _ _ _ _ _ _ wq).mono ?_; rintro e wr ⟨rfl, hr⟩; exact ⟨rfl, hq.keep hr⟩)) | (apply Wl.assign; exact rfl; exact rfl) | (apply Wl.not; exact rfl; exact rfl) | (apply Wl.loadAH; exact rfl; exact rfl; (repeat (first | exact List.Mem.head _ | apply List.Mem.tail)); (repeat (first | apply LSub.z | apply LSub.t | apply LSub.s))) | (apply Wl.nil) | (apply St.seq) | (apply St.region) | (apply St.condT; exact rfl; (first | with_reducible rfl | with_reducible assumption | decide)) | (apply St.condF; exact rfl; (first | with_reducible rfl | with_reducible assumption | decide)) | (apply St.ret) | (apply St.skip) | (apply Gt.next) | (apply Gt.thenRet) | (apply Gt.out1; exact rfl; exact rfl; intro w' hp))
    exact ⟨rfl, hp.drop (by simp; omega)⟩
  have hd : decide (wn ≤ 300 ∧ xn ≤ 100 ∧ ln ≤ 16 ∧ cn ≤ 100) = true := decide_eq_true hsm
  have hd2 : (!decide (wn ≤ 300 ∧ xn ≤ 100 ∧ ln ≤ 16 ∧ cn ≤ 100)) = false := by rw [hd]; rfl
  obtain ⟨s1, s2, s3, s4⟩ := hsm
  repeat' (first | (apply Wl.callQ (f := 7); exact rfl; (repeat (first | exact Evs.nil | apply Evs.cons rfl)); (intro wq hq; refine (fit16 wq).mono ?_; rintro e wr ⟨rfl, hr⟩; exact ⟨rfl, hq.keep hr⟩)) | (apply Wl.callQ (f := 10); exact rfl; (repeat (first | exact Evs.nil | apply Evs.cons rfl)); (intro wq hq; refine (small16 _ _ _ _ _ _ _ _ _ _ _ _ _ _ wq).mono ?_; rintro e wr ⟨rfl, hr⟩; exact ⟨rfl, hq.keep hr⟩)) | (apply Wl.assign; exact rfl; exact rfl) | (apply Wl.not; exact rfl; exact rfl) | (apply Wl.fieldAddrZ; exact rfl; exact rfl) | (apply Wl.store; exact rfl; exact rfl; exact rfl; (repeat (first | apply HSet.here | apply HSet.there)); (repeat (first | apply LSet.z | apply LSet.s))) | (apply Wl.loadAH; exact rfl; exact rfl; (repeat (first | exact List.Mem.head _ | apply List.Mem.tail)); (repeat (first | apply LSub.z | apply LSub.t | apply LSub.s))) | (apply Wl.nil) | (apply St.seq) | (apply St.region) | (apply St.condF; exact rfl; (first | with_reducible rfl | with_reducible assumption | decide)) | (apply St.skip) | (apply Gt.next))
  apply Wl.callC
  · exact rfl
  · (repeat (first | exact Evs.nil | apply Evs.cons rfl))
  intro wq hq
  have ou : ∀ k, k < w.heap.size → ¬ ¬ Off [⟨c1, [.slice wa wn wc, .slice xa xn xc, .slice la ln lc, .bool true, .slice ca cn cc, .int .u32 pc0], 39⟩] k := fun k hk y => y ⟨by simp only; omega, trivial⟩
  have cu : ∀ {a : Addr} {v : Value}, w.cell? a = some v → wq.cell? a = some v := fun {a v} ha => hq.upd.cell ha (ou _ (World.block_lt_of_cell? w _ ha))
  refine (begin_any wa xa la ca wn wc xn xc ln lc cn cc pc0 wq (fun i hi => by obtain ⟨b, o, e, x, h1, h2⟩ := hW i hi; exact ⟨b, o, e, x, cu h1, h2⟩) (fun i hi => by obtain ⟨b, o, e, x, y, h1, h2⟩ := hX i hi; exact ⟨b, o, e, x, y, ⟨cu h1.1, h1.2⟩, ⟨cu h2.1, h2.2⟩⟩) (fun i hi => by obtain ⟨b, o, e, x, y, z, h1, h2, h3⟩ := hL i hi; exact ⟨b, o, e, x, y, z, cu h1, cu h2, cu h3⟩) (fun i hi => by obtain ⟨b, o, e, x, y, h1, h2⟩ := hC i hi; exact ⟨b, o, e, x, y, ⟨cu h1.1, h1.2⟩, ⟨cu h2.1, h2.2⟩⟩) s1 s2 s3 s4 (hT.upd hq.upd (ou 0 hT0))).mono ?_
  rintro e w1 ⟨p, h, cf, cM, cH, xs0, pc1, F0, f0, rfl, hP1, hS1, hmd1, ⟨gp, gh, gf, gM⟩, ⟨n1, n2, n3⟩, u1⟩
  have lq := hq.own.lt (.head _)
  simp only at lq
  have sq := hq.upd.size
  have hq1 := hq.newer u1
  have hu1 : Upd (fun k => w.heap.size ≤ k) w w1 := hq1.on (Upd.refl _ _) (by simp; omega)
  refine ⟨_, _, rfl, hq1.rb, ?_⟩
  clear hq hq1 u1 cu ou
  have lt1 := hS1.lts
  have lp1 := lt_of_block hP1
  obtain ⟨nz1, nz2, nz3⟩ := hS1.2.2.2.2.2.2.2.1
  have p0 : w1.cell? ⟨p, 0, none⟩ = some (.pointer (some ⟨h, 0, none⟩)) := cell_of hP1 rfl
  repeat' (first | (apply Wl.loadO; exact rfl; exact rfl; (first | assumption); (repeat (first | exact trivial | refine ⟨by first | omega | (simp only; omega), ?_⟩))) | (apply Wl.move; exact rfl; exact rfl) | (apply Wl.assign; exact rfl; exact rfl) | (apply Wl.nilCheck; exact rfl; exact rfl) | (apply Wl.fieldAddr0; exact rfl; exact rfl) | (apply Wl.addI; exact rfl; exact rfl; exact rfl; (constructor <;> omega)) | (apply Wl.rem; exact rfl; exact rfl; exact rfl; (first | decide | omega)) | (apply Wl.nil) | (apply St.seq) | (apply St.block) | (apply St.region) | (apply Gt.next))
  clear p0 hP1 lp1
  rw [hK]
  repeat' (first | (apply Wl.move; exact rfl; exact rfl) | (apply Wl.assign; exact rfl; exact rfl) | (apply Wl.on; exact rfl; exact rfl; (first | with_reducible rfl | with_reducible assumption | decide)) | (apply Wl.off; exact rfl; exact rfl; exact rfl; (first | with_reducible rfl | (show _ = false; with_reducible assumption) | (show _ = true; with_reducible assumption) | decide)) | (apply Wl.offU; exact rfl; exact rfl; exact rfl) | (apply Wl.extract; exact rfl; exact rfl; exact rfl) | (apply Wl.nilCheck; exact rfl; exact rfl) | (apply Wl.pickT; exact rfl; exact rfl; (first | with_reducible rfl | with_reducible assumption | decide); exact rfl) | (apply Wl.pickF; exact rfl; exact rfl; (first | with_reducible rfl | with_reducible assumption | decide); exact rfl) | (apply Wl.not; exact rfl; exact rfl) | (apply Wl.fieldAddr0; exact rfl; exact rfl) | (apply Wl.fieldAddrZ; exact rfl; exact rfl) | (apply Wl.fieldAddr; exact rfl; exact rfl) | (apply Wl.loadH; exact rfl; exact rfl; (repeat (first | exact List.Mem.head _ | apply List.Mem.tail)); exact rfl) | (apply Wl.loadO; exact rfl; exact rfl; (assumption); (repeat (first | exact trivial | refine ⟨by first | assumption | omega, ?_⟩))) | (apply Wl.eqlPN; exact rfl; exact rfl; exact rfl) | (apply Wl.neqPN; exact rfl; exact rfl; exact rfl) | (apply Wl.eqlNN; exact rfl; exact rfl; exact rfl) | (apply Wl.neqNN; exact rfl; exact rfl; exact rfl) | (apply Wl.eqlIs; exact rfl; exact rfl; exact rfl; (first | with_reducible assumption | with_reducible rfl)) | (apply Wl.neqIs; exact rfl; exact rfl; exact rfl; (first | with_reducible assumption | with_reducible rfl)) | (apply Wl.eql; exact rfl; exact rfl; exact rfl) | (apply Wl.neq; exact rfl; exact rfl; exact rfl) | (apply Wl.lss; exact rfl; exact rfl; exact rfl) | (apply Wl.leq; exact rfl; exact rfl; exact rfl) | (apply Wl.gtr; exact rfl; exact rfl; exact rfl) | (apply Wl.geq; exact rfl; exact rfl; exact rfl) | (apply Wl.addI; exact rfl; exact rfl; exact rfl; (constructor <;> omega)) | (apply Wl.subI; exact rfl; exact rfl; exact rfl; (constructor <;> omega)) | (apply Wl.mulI; exact rfl; exact rfl; exact rfl; (constructor <;> omega)) | (apply Wl.addU; exact rfl; exact rfl; exact rfl; (constructor <;> omega)) | (apply Wl.add; exact rfl; exact rfl; exact rfl) | (apply Wl.sub'; exact rfl; exact rfl; exact rfl) | (apply Wl.mul; exact rfl; exact rfl; exact rfl) | (apply Wl.quo; exact rfl; exact rfl; exact rfl; (first | decide | omega)) | (apply Wl.rem; exact rfl; exact rfl; exact rfl; (first | decide | omega)) | (apply Wl.and; exact rfl; exact rfl; exact rfl) | (apply Wl.or; exact rfl; exact rfl; exact rfl) | (apply Wl.xor; exact rfl; exact rfl; exact rfl) | (apply Wl.andNot; exact rfl; exact rfl; exact rfl) | (apply Wl.shl; exact rfl; exact rfl; exact rfl; (omega)) | (apply Wl.shr; exact rfl; exact rfl; exact rfl; (omega)) | (apply Wl.eqlBs; exact rfl; exact rfl; exact rfl; (first | with_reducible assumption | with_reducible rfl)) | (apply Wl.neqBs; exact rfl; exact rfl; exact rfl; (first | with_reducible assumption | with_reducible rfl)) | (apply Wl.eqlB; exact rfl; exact rfl; exact rfl) | (apply Wl.neqB; exact rfl; exact rfl; exact rfl) | (apply Wl.eqlSB; exact rfl; exact rfl; exact rfl) | (apply Wl.neqSB; exact rfl; exact rfl; exact rfl) | (apply Wl.eqlS; exact rfl; exact rfl; exact rfl) | (apply Wl.neqS; exact rfl; exact rfl; exact rfl) | (apply Wl.convI64; exact rfl; exact rfl; (constructor <;> omega)) | (apply Wl.convU64; exact rfl; exact rfl; (constructor <;> omega)) | (apply Wl.convU32; exact rfl; exact rfl; (constructor <;> omega)) | (apply Wl.convU8; exact rfl; exact rfl; (constructor <;> omega)) | (apply Wl.convI; exact rfl; exact rfl) | (apply Wl.neg; exact rfl; exact rfl) | (apply Wl.compl; exact rfl; exact rfl) | (apply Wl.len; exact rfl; exact rfl) | (apply Wl.lenS; exact rfl; exact rfl) | (apply Wl.store; exact rfl; exact rfl; exact rfl; (repeat (first | apply HSet.here | apply HSet.there)); (repeat (first | apply LSet.z | apply LSet.s))) | (apply Wl.storeA; exact rfl; exact rfl; exact rfl; exact rfl; (repeat (first | apply HSet.here | apply HSet.there)); (repeat (first | apply LPut.s | apply LPut.z | apply LOver.nil | apply LOver.cons))) | (apply Wl.loadAH; exact rfl; exact rfl; (repeat (first | exact List.Mem.head _ | apply List.Mem.tail)); (repeat (first | apply LSub.z | apply LSub.t | apply LSub.s))) | (apply Wl.buildS; exact rfl; (repeat (first | exact Parts.nil | apply Parts.cons rfl)); (repeat (first | apply Fills.nil | (apply Fills.one; exact rfl; exact rfl; (repeat (first | apply LSet.z | apply LSet.s))) | (apply Fills.agg; exact rfl; exact rfl; (repeat (first | apply LPut.s | apply LPut.z | apply LOver.nil | apply LOver.cons)))))) | (apply Wl.buildA; exact rfl; (repeat (first | exact Parts.nil | apply Parts.cons rfl)); (repeat (first | apply Fills.nil | (apply Fills.one; exact rfl; exact rfl; (repeat (first | apply LSet.z | apply LSet.s))) | (apply Fills.agg; exact rfl; exact rfl; (repeat (first | apply LPut.s | apply LPut.z | apply LOver.nil | apply LOver.cons)))))) | (apply Wl.lit; exact rfl; (repeat (first | exact Parts.nil | apply Parts.cons rfl)); exact rfl; exact rfl; (repeat (first | apply CatP.nil | (apply CatP.one; exact rfl; exact rfl) | (apply CatP.agg; exact rfl) | apply LApp.nil | apply LApp.cons)); intro c hc ho) | (apply Wl.boxA; exact rfl; exact rfl; intro c hc ho) | (apply Wl.box1; exact rfl; exact rfl; exact rfl; intro c hc ho) | (apply Wl.alloc; exact rfl; intro c hc ho) | (apply Wl.slice0; exact rfl; exact rfl; (first | exact BoundIs.no | exact BoundIs.yes rfl (by omega)); (first | exact BoundIs.no | exact BoundIs.yes rfl (by omega)); (first | exact fun _ => rfl | exact fun h => nomatch h); (omega); (omega)) | (apply Wl.sliceFull; exact rfl; exact rfl; (first | exact BoundIs.no | exact BoundIs.yes rfl (by omega)); (first | exact BoundIs.no | exact BoundIs.yes rfl (by omega)); (first | exact BoundIs.no | exact BoundIs.yes rfl (by omega)); (first | exact fun _ => rfl | exact fun h => nomatch h); (omega); (omega); (omega)) | (apply Wl.indexAddr1; exact rfl; exact rfl; exact rfl; (constructor <;> omega)) | (apply Wl.indexAddr; exact rfl; exact rfl; exact rfl; (constructor <;> omega)) | (apply Wl.indexArr; exact rfl; exact rfl; exact rfl; (constructor <;> omega)) | (apply Wl.nil) | (apply Wl.nilQ) | (apply Wl.nilM) | (apply St.seq) | (apply St.block) | (apply St.region) | (apply St.condT; exact rfl; (first | with_reducible rfl | with_reducible assumption | decide)) | (apply St.condF; exact rfl; (first | with_reducible rfl | with_reducible assumption | decide)) | (apply St.ret) | (apply St.skip) | (apply St.exit) | (apply Gt.next) | (apply Gt.thenRet) | (apply Gt.thenExit) | (apply Gt.inNormal) | (apply Gt.inRet) | (apply Gt.inExit) | (apply Gt.inOther; exact rfl) | (apply Gt.out1; exact rfl; exact rfl; intro w' hp) | (apply Gt.out2; exact rfl; exact rfl; exact rfl; intro w' hp) | (apply Gt.out3; exact rfl; exact rfl; exact rfl; exact rfl; intro w' hp) | (apply Gt.out4; exact rfl; exact rfl; exact rfl; exact rfl; exact rfl; intro w' hp) | (apply Gt.out0; exact rfl; intro w' hp) | (apply Gt.out0n; exact rfl; intro w' hp) | (apply Wl.splitP; exact rfl; exact rfl; all_goals (intros; try (exfalso; omega))) | (apply Wl.splitB; exact rfl; exact rfl; all_goals intros) | (apply St.condP; exact rfl; all_goals (intros; try (exfalso; omega))) | (apply St.condB; exact rfl; all_goals intros))
  refine St.loop (σ := Nat × World × List Value × Int × Fs × (Nat → Int)) (fun τ => τ.1 ≤ K ∧ SS τ.2.1 h cf cM τ.2.2.1 τ.2.2.2.1 τ.2.2.2.2.1 τ.2.2.2.2.2 ∧ (τ.2.2.2.2.1.md = 0 ∨ τ.2.2.2.2.1.md = 3) ∧ Upd (fun k => w.heap.size ≤ k) w τ.2.1 ∧ w1.heap.size ≤ τ.2.1.heap.size)
    (fun τ => [(6, .pointer (some ⟨h, 0, none⟩)), (35, .int .i64 (K : Int)), (36, .int .i64 (τ.1 : Int))]) (fun τ => Hp τ.2.1 [⟨c1, [.slice wa wn wc, .slice xa xn xc, .slice la ln lc, .bool true, .slice ca cn cc, .int .u32 pc0], 39⟩]) (fun τ => K - τ.1) (0, w1, xs0, pc1, F0, f0) ⟨Nat.zero_le _, hS1, .inl hmd1, hu1, Nat.le_refl _⟩ (by (repeat (first | exact Sub.nil | apply Sub.cons rfl))) (fun _ h => h) ?_
  clear hS1 hmd1 hu1
  rintro ⟨i, w3, xs, pc, F, f⟩ ⟨hi, hS3, hmd, hu3, s23⟩
  simp only at hi hS3 hmd hu3 s23 ⊢
  by_cases hlt : i < K
  rotate_left
  · have hie : i = K := by omega
    have hd3 : decide ((i : Int) < (K : Int)) = false := decide_eq_false (by omega)
    repeat' (first | (apply Wl.assign; exact rfl; exact rfl) | (apply Wl.lss; exact rfl; exact rfl; exact rfl) | (apply Wl.nil) | (apply St.seq) | (apply St.region) | (apply St.condF; exact rfl; (first | with_reducible rfl | with_reducible assumption | decide)) | (apply St.ret) | (apply St.exit) | (apply Gt.next) | (apply Gt.thenExit) | (apply Gt.inExit) | (apply Gt.out1; exact rfl; exact rfl; intro w' hp))
    exact ⟨rfl, hp.fin hu3 (by simp; omega)⟩
  have hd3 : decide ((i : Int) < (K : Int)) = true := decide_eq_true (by omega)
  obtain ⟨c32, c33, c34⟩ := hS3.1.at1
  have hm3 : w3.cell? ⟨cf, 0, none⟩ = some (.int .i64 F.md) := hS3.2.1.ff.two
  have lt3 := hS3.lts
  rcases hmd with hmd | hmd
  rotate_left
  · rw [hmd] at hm3
    repeat' (first | (apply Wl.loadO; exact rfl; exact rfl; (first | assumption); (repeat (first | exact trivial | refine ⟨by first | omega | (simp only; omega), ?_⟩))) | (apply Wl.move; exact rfl; exact rfl) | (apply Wl.assign; exact rfl; exact rfl) | (apply Wl.nilCheck; exact rfl; exact rfl) | (apply Wl.fieldAddr0; exact rfl; exact rfl) | (apply Wl.fieldAddrZ; exact rfl; exact rfl) | (apply Wl.neq; exact rfl; exact rfl; exact rfl) | (apply Wl.lss; exact rfl; exact rfl; exact rfl) | (apply Wl.nil) | (apply St.seq) | (apply St.block) | (apply St.region) | (apply St.condT; exact rfl; (first | with_reducible rfl | with_reducible assumption | decide)) | (apply St.ret) | (apply St.skip) | (apply St.exit) | (apply Gt.next) | (apply Gt.thenExit) | (apply Gt.inExit) | (apply Gt.inOther; exact rfl) | (apply Gt.out1; exact rfl; exact rfl; intro w' hp))
    exact ⟨rfl, hp.fin hu3 (by simp; omega)⟩
  rw [hmd] at hm3
  repeat' (first | (apply Wl.loadO; exact rfl; exact rfl; (first | assumption); (repeat (first | exact trivial | refine ⟨by first | omega | (simp only; omega), ?_⟩))) | (apply Wl.move; exact rfl; exact rfl) | (apply Wl.assign; exact rfl; exact rfl) | (apply Wl.on; exact rfl; exact rfl; (first | with_reducible rfl | with_reducible assumption | decide)) | (apply Wl.off; exact rfl; exact rfl; exact rfl; (first | with_reducible rfl | (show _ = false; with_reducible assumption) | (show _ = true; with_reducible assumption) | decide)) | (apply Wl.offU; exact rfl; exact rfl; exact rfl) | (apply Wl.extract; exact rfl; exact rfl; exact rfl) | (apply Wl.nilCheck; exact rfl; exact rfl) | (apply Wl.pickT; exact rfl; exact rfl; (first | with_reducible rfl | with_reducible assumption | decide); exact rfl) | (apply Wl.pickF; exact rfl; exact rfl; (first | with_reducible rfl | with_reducible assumption | decide); exact rfl) | (apply Wl.not; exact rfl; exact rfl) | (apply Wl.fieldAddr0; exact rfl; exact rfl) | (apply Wl.fieldAddrZ; exact rfl; exact rfl) | (apply Wl.fieldAddr; exact rfl; exact rfl) | (apply Wl.loadH; exact rfl; exact rfl; (repeat (first | exact List.Mem.head _ | apply List.Mem.tail)); exact rfl) | (apply Wl.loadO; exact rfl; exact rfl; (assumption); (repeat (first | exact trivial | refine ⟨by first | assumption | omega, ?_⟩))) | (apply Wl.eqlPN; exact rfl; exact rfl; exact rfl) | (apply Wl.neqPN; exact rfl; exact rfl; exact rfl) | (apply Wl.eqlNN; exact rfl; exact rfl; exact rfl) | (apply Wl.neqNN; exact rfl; exact rfl; exact rfl) | (apply Wl.eqlIs; exact rfl; exact rfl; exact rfl; (first | with_reducible assumption | with_reducible rfl)) | (apply Wl.neqIs; exact rfl; exact rfl; exact rfl; (first | with_reducible assumption | with_reducible rfl)) | (apply Wl.eql; exact rfl; exact rfl; exact rfl) | (apply Wl.neq; exact rfl; exact rfl; exact rfl) | (apply Wl.lss; exact rfl; exact rfl; exact rfl) | (apply Wl.leq; exact rfl; exact rfl; exact rfl) | (apply Wl.gtr; exact rfl; exact rfl; exact rfl) | (apply Wl.geq; exact rfl; exact rfl; exact rfl) | (apply Wl.addI; exact rfl; exact rfl; exact rfl; (constructor <;> omega)) | (apply Wl.subI; exact rfl; exact rfl; exact rfl; (constructor <;> omega)) | (apply Wl.mulI; exact rfl; exact rfl; exact rfl; (constructor <;> omega)) | (apply Wl.addU; exact rfl; exact rfl; exact rfl; (constructor <;> omega)) | (apply Wl.add; exact rfl; exact rfl; exact rfl) | (apply Wl.sub'; exact rfl; exact rfl; exact rfl) | (apply Wl.mul; exact rfl; exact rfl; exact rfl) | (apply Wl.quo; exact rfl; exact rfl; exact rfl; (first | decide | omega)) | (apply Wl.rem; exact rfl; exact rfl; exact rfl; (first | decide | omega)) | (apply Wl.and; exact rfl; exact rfl; exact rfl) | (apply Wl.or; exact rfl; exact rfl; exact rfl) | (apply Wl.xor; exact rfl; exact rfl; exact rfl) | (apply Wl.andNot; exact rfl; exact rfl; exact rfl) | (apply Wl.shl; exact rfl; exact rfl; exact rfl; (omega)) | (apply Wl.shr; exact rfl; exact rfl; exact rfl; (omega)) | (apply Wl.eqlBs; exact rfl; exact rfl; exact rfl; (first | with_reducible assumption | with_reducible rfl)) | (apply Wl.neqBs; exact rfl; exact rfl; exact rfl; (first | with_reducible assumption | with_reducible rfl)) | (apply Wl.eqlB; exact rfl; exact rfl; exact rfl) | (apply Wl.neqB; exact rfl; exact rfl; exact rfl) | (apply Wl.eqlSB; exact rfl; exact rfl; exact rfl) | (apply Wl.neqSB; exact rfl; exact rfl; exact rfl) | (apply Wl.eqlS; exact rfl; exact rfl; exact rfl) | (apply Wl.neqS; exact rfl; exact rfl; exact rfl) | (apply Wl.convI64; exact rfl; exact rfl; (constructor <;> omega)) | (apply Wl.convU64; exact rfl; exact rfl; (constructor <;> omega)) | (apply Wl.convU32; exact rfl; exact rfl; (constructor <;> omega)) | (apply Wl.convU8; exact rfl; exact rfl; (constructor <;> omega)) | (apply Wl.convI; exact rfl; exact rfl) | (apply Wl.neg; exact rfl; exact rfl) | (apply Wl.compl; exact rfl; exact rfl) | (apply Wl.len; exact rfl; exact rfl) | (apply Wl.lenS; exact rfl; exact rfl) | (apply Wl.store; exact rfl; exact rfl; exact rfl; (repeat (first | apply HSet.here | apply HSet.there)); (repeat (first | apply LSet.z | apply LSet.s))) | (apply Wl.storeA; exact rfl; exact rfl; exact rfl; exact rfl; (repeat (first | apply HSet.here | apply HSet.there)); (repeat (first | apply LPut.s | apply LPut.z | apply LOver.nil | apply LOver.cons))) | (apply Wl.loadAH; exact rfl; exact rfl; (repeat (first | exact List.Mem.head _ | apply List.Mem.tail)); (repeat (first | apply LSub.z | apply LSub.t | apply LSub.s))) | (apply Wl.buildS; exact rfl; (repeat (first | exact Parts.nil | apply Parts.cons rfl)); (repeat (first | apply Fills.nil | (apply Fills.one; exact rfl; exact rfl; (repeat (first | apply LSet.z | apply LSet.s))) | (apply Fills.agg; exact rfl; exact rfl; (repeat (first | apply LPut.s | apply LPut.z | apply LOver.nil | apply LOver.cons)))))) | (apply Wl.buildA; exact rfl; (repeat (first | exact Parts.nil | apply Parts.cons rfl)); (repeat (first | apply Fills.nil | (apply Fills.one; exact rfl; exact rfl; (repeat (first | apply LSet.z | apply LSet.s))) | (apply Fills.agg; exact rfl; exact rfl; (repeat (first | apply LPut.s | apply LPut.z | apply LOver.nil | apply LOver.cons)))))) | (apply Wl.lit; exact rfl; (repeat (first | exact Parts.nil | apply Parts.cons rfl)); exact rfl; exact rfl; (repeat (first | apply CatP.nil | (apply CatP.one; exact rfl; exact rfl) | (apply CatP.agg; exact rfl) | apply LApp.nil | apply LApp.cons)); intro c hc ho) | (apply Wl.boxA; exact rfl; exact rfl; intro c hc ho) | (apply Wl.box1; exact rfl; exact rfl; exact rfl; intro c hc ho) | (apply Wl.alloc; exact rfl; intro c hc ho) | (apply Wl.slice0; exact rfl; exact rfl; (first | exact BoundIs.no | exact BoundIs.yes rfl (by omega)); (first | exact BoundIs.no | exact BoundIs.yes rfl (by omega)); (first | exact fun _ => rfl | exact fun h => nomatch h); (omega); (omega)) | (apply Wl.sliceFull; exact rfl; exact rfl; (first | exact BoundIs.no | exact BoundIs.yes rfl (by omega)); (first | exact BoundIs.no | exact BoundIs.yes rfl (by omega)); (first | exact BoundIs.no | exact BoundIs.yes rfl (by omega)); (first | exact fun _ => rfl | exact fun h => nomatch h); (omega); (omega); (omega)) | (apply Wl.indexAddr1; exact rfl; exact rfl; exact rfl; (constructor <;> omega)) | (apply Wl.indexAddr; exact rfl; exact rfl; exact rfl; (constructor <;> omega)) | (apply Wl.indexArr; exact rfl; exact rfl; exact rfl; (constructor <;> omega)) | (apply Wl.nil) | (apply Wl.nilQ) | (apply Wl.nilM) | (apply St.block) | (apply St.region) | (apply St.draw; exact mixed; (kernel_rfl); exact (fun _ h => Hp.drew h)) | (apply St.condT; exact rfl; (first | with_reducible rfl | with_reducible assumption | decide)) | (apply St.condF; exact rfl; (first | with_reducible rfl | with_reducible assumption | decide)) | (apply St.ret) | (apply St.skip) | (apply St.exit) | (apply Gt.next) | (apply Gt.thenRet) | (apply Gt.thenExit) | (apply Gt.inNormal) | (apply Gt.inRet) | (apply Gt.inExit) | (apply Gt.inOther; exact rfl) | (apply Gt.out1; exact rfl; exact rfl; intro w' hp) | (apply Gt.out2; exact rfl; exact rfl; exact rfl; intro w' hp) | (apply Gt.out3; exact rfl; exact rfl; exact rfl; exact rfl; intro w' hp) | (apply Gt.out4; exact rfl; exact rfl; exact rfl; exact rfl; exact rfl; intro w' hp) | (apply Gt.out0; exact rfl; intro w' hp) | (apply Gt.out0n; exact rfl; intro w' hp) | (apply Wl.splitP; exact rfl; exact rfl; all_goals (intros; try (exfalso; omega))) | (apply Wl.splitB; exact rfl; exact rfl; all_goals intros) | (apply St.condP; exact rfl; all_goals (intros; try (exfalso; omega))) | (apply St.condB; exact rfl; all_goals intros))
  apply St.seq
  repeat' (first | (apply Wl.lss; exact rfl; exact rfl; exact rfl) | (apply Wl.nil) | (apply St.region) | (apply Gt.next))
  apply St.seq
  repeat' (first | (apply St.condT; exact rfl; (first | with_reducible rfl | with_reducible assumption | decide)) | (apply St.skip) | (apply Gt.next))
  apply St.seq
  repeat' (first | (apply St.block))
  apply St.seq
  repeat' (first | (apply Wl.loadO; exact rfl; exact rfl; (first | assumption); (repeat (first | exact trivial | refine ⟨by first | omega | (simp only; omega), ?_⟩))) | (apply Wl.move; exact rfl; exact rfl) | (apply Wl.assign; exact rfl; exact rfl) | (apply Wl.on; exact rfl; exact rfl; (first | with_reducible rfl | with_reducible assumption | decide)) | (apply Wl.off; exact rfl; exact rfl; exact rfl; (first | with_reducible rfl | (show _ = false; with_reducible assumption) | (show _ = true; with_reducible assumption) | decide)) | (apply Wl.offU; exact rfl; exact rfl; exact rfl) | (apply Wl.extract; exact rfl; exact rfl; exact rfl) | (apply Wl.nilCheck; exact rfl; exact rfl) | (apply Wl.pickT; exact rfl; exact rfl; (first | with_reducible rfl | with_reducible assumption | decide); exact rfl) | (apply Wl.pickF; exact rfl; exact rfl; (first | with_reducible rfl | with_reducible assumption | decide); exact rfl) | (apply Wl.not; exact rfl; exact rfl) | (apply Wl.fieldAddr0; exact rfl; exact rfl) | (apply Wl.fieldAddrZ; exact rfl; exact rfl) | (apply Wl.fieldAddr; exact rfl; exact rfl) | (apply Wl.loadH; exact rfl; exact rfl; (repeat (first | exact List.Mem.head _ | apply List.Mem.tail)); exact rfl) | (apply Wl.loadO; exact rfl; exact rfl; (assumption); (repeat (first | exact trivial | refine ⟨by first | assumption | omega, ?_⟩))) | (apply Wl.eqlPN; exact rfl; exact rfl; exact rfl) | (apply Wl.neqPN; exact rfl; exact rfl; exact rfl) | (apply Wl.eqlNN; exact rfl; exact rfl; exact rfl) | (apply Wl.neqNN; exact rfl; exact rfl; exact rfl) | (apply Wl.eqlIs; exact rfl; exact rfl; exact rfl; (first | with_reducible assumption | with_reducible rfl)) | (apply Wl.neqIs; exact rfl; exact rfl; exact rfl; (first | with_reducible assumption | with_reducible rfl)) | (apply Wl.eql; exact rfl; exact rfl; exact rfl) | (apply Wl.neq; exact rfl; exact rfl; exact rfl) | (apply Wl.lss; exact rfl; exact rfl; exact rfl) | (apply Wl.leq; exact rfl; exact rfl; exact rfl) | (apply Wl.gtr; exact rfl; exact rfl; exact rfl) | (apply Wl.geq; exact rfl; exact rfl; exact rfl) | (apply Wl.addI; exact rfl; exact rfl; exact rfl; (constructor <;> omega)) | (apply Wl.subI; exact rfl; exact rfl; exact rfl; (constructor <;> omega)) | (apply Wl.mulI; exact rfl; exact rfl; exact rfl; (constructor <;> omega)) | (apply Wl.addU; exact rfl; exact rfl; exact rfl; (constructor <;> omega)) | (apply Wl.add; exact rfl; exact rfl; exact rfl) | (apply Wl.sub'; exact rfl; exact rfl; exact rfl) | (apply Wl.mul; exact rfl; exact rfl; exact rfl) | (apply Wl.quo; exact rfl; exact rfl; exact rfl; (first | decide | omega)) | (apply Wl.rem; exact rfl; exact rfl; exact rfl; (first | decide | omega)) | (apply Wl.and; exact rfl; exact rfl; exact rfl) | (apply Wl.or; exact rfl; exact rfl; exact rfl) | (apply Wl.xor; exact rfl; exact rfl; exact rfl) | (apply Wl.andNot; exact rfl; exact rfl; exact rfl) | (apply Wl.shl; exact rfl; exact rfl; exact rfl; (omega)) | (apply Wl.shr; exact rfl; exact rfl; exact rfl; (omega)) | (apply Wl.eqlBs; exact rfl; exact rfl; exact rfl; (first | with_reducible assumption | with_reducible rfl)) | (apply Wl.neqBs; exact rfl; exact rfl; exact rfl; (first | with_reducible assumption | with_reducible rfl)) | (apply Wl.eqlB; exact rfl; exact rfl; exact rfl) | (apply Wl.neqB; exact rfl; exact rfl; exact rfl) | (apply Wl.eqlSB; exact rfl; exact rfl; exact rfl) | (apply Wl.neqSB; exact rfl; exact rfl; exact rfl) | (apply Wl.eqlS; exact rfl; exact rfl; exact rfl) | (apply Wl.neqS; exact rfl; exact rfl; exact rfl) | (apply Wl.convI64; exact rfl; exact rfl; (constructor <;> omega)) | (apply Wl.convU64; exact rfl; exact rfl; (constructor <;> omega)) | (apply Wl.convU32; exact rfl; exact rfl; (constructor <;> omega)) | (apply Wl.convU8; exact rfl; exact rfl; (constructor <;> omega)) | (apply Wl.convI; exact rfl; exact rfl) | (apply Wl.neg; exact rfl; exact rfl) | (apply Wl.compl; exact rfl; exact rfl) | (apply Wl.len; exact rfl; exact rfl) | (apply Wl.lenS; exact rfl; exact rfl) | (apply Wl.store; exact rfl; exact rfl; exact rfl; (repeat (first | apply HSet.here | apply HSet.there)); (repeat (first | apply LSet.z | apply LSet.s))) | (apply Wl.storeA; exact rfl; exact rfl; exact rfl; exact rfl; (repeat (first | apply HSet.here | apply HSet.there)); (repeat (first | apply LPut.s | apply LPut.z | apply LOver.nil | apply LOver.cons))) | (apply Wl.loadAH; exact rfl; exact rfl; (repeat (first | exact List.Mem.head _ | apply List.Mem.tail)); (repeat (first | apply LSub.z | apply LSub.t | apply LSub.s))) | (apply Wl.buildS; exact rfl; (repeat (first | exact Parts.nil | apply Parts.cons rfl)); (repeat (first | apply Fills.nil | (apply Fills.one; exact rfl; exact rfl; (repeat (first | apply LSet.z | apply LSet.s))) | (apply Fills.agg; exact rfl; exact rfl; (repeat (first | apply LPut.s | apply LPut.z | apply LOver.nil | apply LOver.cons)))))) | (apply Wl.buildA; exact rfl; (repeat (first | exact Parts.nil | apply Parts.cons rfl)); (repeat (first | apply Fills.nil | (apply Fills.one; exact rfl; exact rfl; (repeat (first | apply LSet.z | apply LSet.s))) | (apply Fills.agg; exact rfl; exact rfl; (repeat (first | apply LPut.s | apply LPut.z | apply LOver.nil | apply LOver.cons)))))) | (apply Wl.lit; exact rfl; (repeat (first | exact Parts.nil | apply Parts.cons rfl)); exact rfl; exact rfl; (repeat (first | apply CatP.nil | (apply CatP.one; exact rfl; exact rfl) | (apply CatP.agg; exact rfl) | apply LApp.nil | apply LApp.cons)); intro c hc ho) | (apply Wl.boxA; exact rfl; exact rfl; intro c hc ho) | (apply Wl.box1; exact rfl; exact rfl; exact rfl; intro c hc ho) | (apply Wl.alloc; exact rfl; intro c hc ho) | (apply Wl.slice0; exact rfl; exact rfl; (first | exact BoundIs.no | exact BoundIs.yes rfl (by omega)); (first | exact BoundIs.no | exact BoundIs.yes rfl (by omega)); (first | exact fun _ => rfl | exact fun h => nomatch h); (omega); (omega)) | (apply Wl.sliceFull; exact rfl; exact rfl; (first | exact BoundIs.no | exact BoundIs.yes rfl (by omega)); (first | exact BoundIs.no | exact BoundIs.yes rfl (by omega)); (first | exact BoundIs.no | exact BoundIs.yes rfl (by omega)); (first | exact fun _ => rfl | exact fun h => nomatch h); (omega); (omega); (omega)) | (apply Wl.indexAddr1; exact rfl; exact rfl; exact rfl; (constructor <;> omega)) | (apply Wl.indexAddr; exact rfl; exact rfl; exact rfl; (constructor <;> omega)) | (apply Wl.indexArr; exact rfl; exact rfl; exact rfl; (constructor <;> omega)) | (apply Wl.nil) | (apply Wl.nilQ) | (apply Wl.nilM) | (apply St.block) | (apply St.region) | (apply St.draw; exact mixed; (kernel_rfl); exact (fun _ h => Hp.drew h)) | (apply St.condT; exact rfl; (first | with_reducible rfl | with_reducible assumption | decide)) | (apply St.condF; exact rfl; (first | with_reducible rfl | with_reducible assumption | decide)) | (apply St.ret) | (apply St.skip) | (apply St.exit) | (apply Gt.next) | (apply Gt.thenRet) | (apply Gt.thenExit) | (apply Gt.inNormal) | (apply Gt.inRet) | (apply Gt.inExit) | (apply Gt.inOther; exact rfl) | (apply Gt.out1; exact rfl; exact rfl; intro w' hp) | (apply Gt.out2; exact rfl; exact rfl; exact rfl; intro w' hp) | (apply Gt.out3; exact rfl; exact rfl; exact rfl; exact rfl; intro w' hp) | (apply Gt.out4; exact rfl; exact rfl; exact rfl; exact rfl; exact rfl; intro w' hp) | (apply Gt.out0; exact rfl; intro w' hp) | (apply Gt.out0n; exact rfl; intro w' hp) | (apply Wl.splitP; exact rfl; exact rfl; all_goals (intros; try (exfalso; omega))) | (apply Wl.splitB; exact rfl; exact rfl; all_goals intros) | (apply St.condP; exact rfl; all_goals (intros; try (exfalso; omega))) | (apply St.condB; exact rfl; all_goals intros))
  apply St.seq
  repeat' (first | (apply Wl.loadO; exact rfl; exact rfl; (first | assumption); (repeat (first | exact trivial | refine ⟨by first | omega | (simp only; omega), ?_⟩))) | (apply Wl.move; exact rfl; exact rfl) | (apply Wl.nilCheck; exact rfl; exact rfl) | (apply Wl.fieldAddr0; exact rfl; exact rfl) | (apply Wl.fieldAddrZ; exact rfl; exact rfl) | (apply Wl.neqIs; exact rfl; exact rfl; exact rfl; (first | with_reducible assumption | with_reducible rfl)) | (apply Wl.nil) | (apply St.region) | (apply St.condF; exact rfl; (first | with_reducible rfl | with_reducible assumption | decide)) | (apply St.skip) | (apply Gt.next))
  apply St.cut (σ := World × Nat × Nat) (fun τ => SS τ.1 h cf cM xs pc F f ∧ memH τ.1 τ.2.2 f ∧ Upd (fun k => w.heap.size ≤ k) w τ.1 ∧ w3.heap.size ≤ τ.1.heap.size ∧ w3.heap.size ≤ τ.2.1 ∧ w3.heap.size ≤ τ.2.2 ∧ τ.2.1 ≠ τ.2.2)
    (fun τ => [(6, .pointer (some ⟨h, 0, none⟩)), (7, .pointer (some ⟨τ.2.2, 0, none⟩)), (8, .pointer (some ⟨τ.2.1, 0, none⟩)), (9, .int .u32 pc), (35, .int .i64 (K : Int)), (36, .int .i64 (i : Int))])
    (fun τ => Hp τ.1 [⟨τ.2.1, xs, 26⟩, ⟨c1, [.slice wa wn wc, .slice xa xn xc, .slice la ln lc, .bool true, .slice ca cn cc, .int .u32 pc0], 39⟩])
  · have hSh : ∀ {H : List Blk} {wb w' : World}, SS wb h cf cM xs pc F f → Hp wb H w' → Off H h → Off H cf → Off H cM → Off H 0 → SS w' h cf cM xs pc F f := fun k hq a b c d => k.upd hq.upd (fun y => y a) (fun y => y b) (fun y => y c) (fun y => y d)
    refine St.tree (fun w' => SS w' h cf cM xs pc F f) mixed (fun _ h' => ⟨Hp.drew h', hSh hS3 (Hp.drew h') (by repeat (first | exact trivial | refine ⟨by first | omega | (simp only; omega), ?_⟩)) (by repeat (first | exact trivial | refine ⟨by first | omega | (simp only; omega), ?_⟩)) (by repeat (first | exact trivial | refine ⟨by first | omega | (simp only; omega), ?_⟩)) (by repeat (first | exact trivial | refine ⟨by first | omega | (simp only; omega), ?_⟩))⟩) ?_
    refine Mt.pure 0 (by decide +kernel) (by exact rfl) (by exact rfl) (by decide +kernel) (by decide +kernel) ?_
    repeat' (first | (apply Wl.move; exact rfl; exact rfl) | (apply Wl.nilM))
    apply Mt.back
    refine Mt.pure 1 (by decide +kernel) (by exact rfl) (by exact rfl) (by decide +kernel) (by decide +kernel) ?_
    repeat' (first | (apply Wl.nilCheck; exact rfl; exact rfl) | (apply Wl.nilM))
    apply Mt.back
    refine Mt.pure 2 (by decide +kernel) (by exact rfl) (by exact rfl) (by decide +kernel) (by decide +kernel) ?_
    repeat' (first | (apply Wl.fieldAddrZ; exact rfl; exact rfl) | (apply Wl.nilM))
    apply Mt.back
    refine Mt.pure 3 (by decide +kernel) (by exact rfl) (by exact rfl) (by decide +kernel) (by decide +kernel) ?_
    repeat' (first | (apply Wl.loadF; exact rfl; exact rfl; (intro w' h'; first | exact h'.1.at1.1 | exact h'.1.at1.2.1 | exact h'.1.at1.2.2)) | (apply Wl.nilM))
    apply Mt.back
    refine Mt.pure 5 (by decide +kernel) (by exact rfl) (by exact rfl) (by decide +kernel) (by decide +kernel) ?_
    repeat' (first | (apply Wl.move; exact rfl; exact rfl) | (apply Wl.nilM))
    apply Mt.back
    refine Mt.pure 6 (by decide +kernel) (by exact rfl) (by exact rfl) (by decide +kernel) (by decide +kernel) ?_
    repeat' (first | (apply Wl.nilCheck; exact rfl; exact rfl) | (apply Wl.nilM))
    apply Mt.back
    refine Mt.pure 7 (by decide +kernel) (by exact rfl) (by exact rfl) (by decide +kernel) (by decide +kernel) ?_
    repeat' (first | (apply Wl.fieldAddr0; exact rfl; exact rfl) | (apply Wl.nilM))
    apply Mt.back
    refine Mt.pure 8 (by decide +kernel) (by exact rfl) (by exact rfl) (by decide +kernel) (by decide +kernel) ?_
    repeat' (first | (apply Wl.loadAF (xs := xs); exact rfl; exact rfl; exact hS3.1.1; (intro w' h' q v hq'; exact h'.1.reg hq')) | (apply Wl.nilM))
    apply Mt.back
    refine Mt.pure 9 (by decide +kernel) (by exact rfl) (by exact rfl) (by decide +kernel) (by decide +kernel) ?_
    repeat' (first | (apply Wl.move; exact rfl; exact rfl) | (apply Wl.nilM))
    apply Mt.back
    refine Mt.pure 10 (by decide +kernel) (by exact rfl) (by exact rfl) (by decide +kernel) (by decide +kernel) ?_
    repeat' (first | (apply Wl.nilCheck; exact rfl; exact rfl) | (apply Wl.nilM))
    apply Mt.back
    refine Mt.pure 11 (by decide +kernel) (by exact rfl) (by exact rfl) (by decide +kernel) (by decide +kernel) ?_
    repeat' (first | (apply Wl.fieldAddrZ; exact rfl; exact rfl) | (apply Wl.nilM))
    apply Mt.back
    refine Mt.pure 12 (by decide +kernel) (by exact rfl) (by exact rfl) (by decide +kernel) (by decide +kernel) ?_
    repeat' (first | (apply Wl.loadF; exact rfl; exact rfl; (intro w' h'; first | exact h'.1.at1.1 | exact h'.1.at1.2.1 | exact h'.1.at1.2.2)) | (apply Wl.nilM))
    apply Mt.back
    refine Mt.eff2 (i := 4) (j := 13) (by decide +kernel) (by exact rfl) (by exact rfl) ?_ ?_
    · apply Wl.callC
      · exact rfl
      · (repeat (first | exact Evs.nil | apply Evs.cons rfl))
      intro wq hq
      have sqc := hq.upd.size
      skip
      have hSq := hSh hS3 hq (by repeat (first | exact trivial | refine ⟨by first | omega | (simp only; omega), ?_⟩)) (by repeat (first | exact trivial | refine ⟨by first | omega | (simp only; omega), ?_⟩)) (by repeat (first | exact trivial | refine ⟨by first | omega | (simp only; omega), ?_⟩)) (by repeat (first | exact trivial | refine ⟨by first | omega | (simp only; omega), ?_⟩))
      refine (mcopy cM f wq hSq.2.2.1).mono ?_
      rintro e w4 ⟨d, rfl, hd1, hM4, u4⟩
      have hq4 := hq.newer u4
      have hS4 := hSq.upd u4 (by omega) (by omega) (by omega) (by omega)
      have hu4 : Upd (fun k => w.heap.size ≤ k) w w4 := hq4.on hu3 (by simp; omega)
      have sz4 := hq4.upd.size
      have ld := lt_of_block hM4
      refine ⟨_, _, rfl, hq4.rb, ?_⟩
      repeat' (first | (apply Wl.nil))
      refine Mt.backE (fun _ h' => hSh hS4 h' (by repeat (first | exact trivial | refine ⟨by first | omega | (simp only; omega), ?_⟩)) (by repeat (first | exact trivial | refine ⟨by first | omega | (simp only; omega), ?_⟩)) (by repeat (first | exact trivial | refine ⟨by first | omega | (simp only; omega), ?_⟩)) (by repeat (first | exact trivial | refine ⟨by first | omega | (simp only; omega), ?_⟩))) ?_
      refine Mt.eff1 (i := 13) (by decide +kernel) (by exact rfl) ?_
      repeat' (first | (apply Wl.alloc; exact rfl; intro c hc ho) | (apply Wl.nil))
      have hc8 : w4.heap.size ≤ c := by assumption
      generalize c = c8 at *
      refine Mt.backE (fun _ h' => hSh hS4 h' (by repeat (first | exact trivial | refine ⟨by first | omega | (simp only; omega), ?_⟩)) (by repeat (first | exact trivial | refine ⟨by first | omega | (simp only; omega), ?_⟩)) (by repeat (first | exact trivial | refine ⟨by first | omega | (simp only; omega), ?_⟩)) (by repeat (first | exact trivial | refine ⟨by first | omega | (simp only; omega), ?_⟩))) ?_
      refine Mt.pure 14 (by decide +kernel) (by exact rfl) (by exact rfl) (by decide +kernel) (by decide +kernel) ?_
      repeat' (first | (apply Wl.assign; exact rfl; exact rfl) | (apply Wl.nilM))
      apply Mt.back
      refine Mt.eff1 (i := 15) (by decide +kernel) (by exact rfl) ?_
      repeat' (first | (apply Wl.storeA; exact rfl; exact rfl; exact hS3.1.1; exact hS3.2.2.2.1.one; (repeat (first | apply HSet.here | apply HSet.there)); exact .z (LOver.whole (by rw [hS3.1.1]; exact rfl))) | (apply Wl.nil))
      refine Mt.backE (fun _ h' => hSh hS4 h' (by repeat (first | exact trivial | refine ⟨by first | omega | (simp only; omega), ?_⟩)) (by repeat (first | exact trivial | refine ⟨by first | omega | (simp only; omega), ?_⟩)) (by repeat (first | exact trivial | refine ⟨by first | omega | (simp only; omega), ?_⟩)) (by repeat (first | exact trivial | refine ⟨by first | omega | (simp only; omega), ?_⟩))) ?_
      refine Mt.pure 16 (by decide +kernel) (by exact rfl) (by exact rfl) (by decide +kernel) (by decide +kernel) ?_
      repeat' (first | (apply Wl.assign; exact rfl; exact rfl) | (apply Wl.nilM))
      apply Mt.back
      refine Mt.toGt (by decide +kernel) ?_
      repeat' (first | (apply Wl.move; exact rfl; exact rfl) | (apply Wl.assign; exact rfl; exact rfl) | (apply Wl.on; exact rfl; exact rfl; (first | with_reducible rfl | with_reducible assumption | decide)) | (apply Wl.off; exact rfl; exact rfl; exact rfl; (first | with_reducible rfl | (show _ = false; with_reducible assumption) | (show _ = true; with_reducible assumption) | decide)) | (apply Wl.offU; exact rfl; exact rfl; exact rfl) | (apply Wl.extract; exact rfl; exact rfl; exact rfl) | (apply Wl.nilCheck; exact rfl; exact rfl) | (apply Wl.pickT; exact rfl; exact rfl; (first | with_reducible rfl | with_reducible assumption | decide); exact rfl) | (apply Wl.pickF; exact rfl; exact rfl; (first | with_reducible rfl | with_reducible assumption | decide); exact rfl) | (apply Wl.not; exact rfl; exact rfl) | (apply Wl.fieldAddr0; exact rfl; exact rfl) | (apply Wl.fieldAddrZ; exact rfl; exact rfl) | (apply Wl.fieldAddr; exact rfl; exact rfl) | (apply Wl.loadH; exact rfl; exact rfl; (repeat (first | exact List.Mem.head _ | apply List.Mem.tail)); exact rfl) | (apply Wl.loadO; exact rfl; exact rfl; (assumption); (repeat (first | exact trivial | refine ⟨by first | assumption | omega, ?_⟩))) | (apply Wl.eqlPN; exact rfl; exact rfl; exact rfl) | (apply Wl.neqPN; exact rfl; exact rfl; exact rfl) | (apply Wl.eqlNN; exact rfl; exact rfl; exact rfl) | (apply Wl.neqNN; exact rfl; exact rfl; exact rfl) | (apply Wl.eqlIs; exact rfl; exact rfl; exact rfl; (first | with_reducible assumption | with_reducible rfl)) | (apply Wl.neqIs; exact rfl; exact rfl; exact rfl; (first | with_reducible assumption | with_reducible rfl)) | (apply Wl.eql; exact rfl; exact rfl; exact rfl) | (apply Wl.neq; exact rfl; exact rfl; exact rfl) | (apply Wl.lss; exact rfl; exact rfl; exact rfl) | (apply Wl.leq; exact rfl; exact rfl; exact rfl) | (apply Wl.gtr; exact rfl; exact rfl; exact rfl) | (apply Wl.geq; exact rfl; exact rfl; exact rfl) | (apply Wl.addI; exact rfl; exact rfl; exact rfl; (constructor <;> omega)) | (apply Wl.subI; exact rfl; exact rfl; exact rfl; (constructor <;> omega)) | (apply Wl.mulI; exact rfl; exact rfl; exact rfl; (constructor <;> omega)) | (apply Wl.addU; exact rfl; exact rfl; exact rfl; (constructor <;> omega)) | (apply Wl.add; exact rfl; exact rfl; exact rfl) | (apply Wl.sub'; exact rfl; exact rfl; exact rfl) | (apply Wl.mul; exact rfl; exact rfl; exact rfl) | (apply Wl.quo; exact rfl; exact rfl; exact rfl; (first | decide | omega)) | (apply Wl.rem; exact rfl; exact rfl; exact rfl; (first | decide | omega)) | (apply Wl.and; exact rfl; exact rfl; exact rfl) | (apply Wl.or; exact rfl; exact rfl; exact rfl) | (apply Wl.xor; exact rfl; exact rfl; exact rfl) | (apply Wl.andNot; exact rfl; exact rfl; exact rfl) | (apply Wl.shl; exact rfl; exact rfl; exact rfl; (omega)) | (apply Wl.shr; exact rfl; exact rfl; exact rfl; (omega)) | (apply Wl.eqlBs; exact rfl; exact rfl; exact rfl; (first | with_reducible assumption | with_reducible rfl)) | (apply Wl.neqBs; exact rfl; exact rfl; exact rfl; (first | with_reducible assumption | with_reducible rfl)) | (apply Wl.eqlB; exact rfl; exact rfl; exact rfl) | (apply Wl.neqB; exact rfl; exact rfl; exact rfl) | (apply Wl.eqlSB; exact rfl; exact rfl; exact rfl) | (apply Wl.neqSB; exact rfl; exact rfl; exact rfl) | (apply Wl.eqlS; exact rfl; exact rfl; exact rfl) | (apply Wl.neqS; exact rfl; exact rfl; exact rfl) | (apply Wl.convI64; exact rfl; exact rfl; (constructor <;> omega)) | (apply Wl.convU64; exact rfl; exact rfl; (constructor <;> omega)) | (apply Wl.convU32; exact rfl; exact rfl; (constructor <;> omega)) | (apply Wl.convU8; exact rfl; exact rfl; (constructor <;> omega)) | (apply Wl.convI; exact rfl; exact rfl) | (apply Wl.neg; exact rfl; exact rfl) | (apply Wl.compl; exact rfl; exact rfl) | (apply Wl.len; exact rfl; exact rfl) | (apply Wl.lenS; exact rfl; exact rfl) | (apply Wl.store; exact rfl; exact rfl; exact rfl; (repeat (first | apply HSet.here | apply HSet.there)); (repeat (first | apply LSet.z | apply LSet.s))) | (apply Wl.storeA; exact rfl; exact rfl; exact rfl; exact rfl; (repeat (first | apply HSet.here | apply HSet.there)); (repeat (first | apply LPut.s | apply LPut.z | apply LOver.nil | apply LOver.cons))) | (apply Wl.loadAH; exact rfl; exact rfl; (repeat (first | exact List.Mem.head _ | apply List.Mem.tail)); (repeat (first | apply LSub.z | apply LSub.t | apply LSub.s))) | (apply Wl.buildS; exact rfl; (repeat (first | exact Parts.nil | apply Parts.cons rfl)); (repeat (first | apply Fills.nil | (apply Fills.one; exact rfl; exact rfl; (repeat (first | apply LSet.z | apply LSet.s))) | (apply Fills.agg; exact rfl; exact rfl; (repeat (first | apply LPut.s | apply LPut.z | apply LOver.nil | apply LOver.cons)))))) | (apply Wl.buildA; exact rfl; (repeat (first | exact Parts.nil | apply Parts.cons rfl)); (repeat (first | apply Fills.nil | (apply Fills.one; exact rfl; exact rfl; (repeat (first | apply LSet.z | apply LSet.s))) | (apply Fills.agg; exact rfl; exact rfl; (repeat (first | apply LPut.s | apply LPut.z | apply LOver.nil | apply LOver.cons)))))) | (apply Wl.lit; exact rfl; (repeat (first | exact Parts.nil | apply Parts.cons rfl)); exact rfl; exact rfl; (repeat (first | apply CatP.nil | (apply CatP.one; exact rfl; exact rfl) | (apply CatP.agg; exact rfl) | apply LApp.nil | apply LApp.cons)); intro c hc ho) | (apply Wl.boxA; exact rfl; exact rfl; intro c hc ho) | (apply Wl.box1; exact rfl; exact rfl; exact rfl; intro c hc ho) | (apply Wl.alloc; exact rfl; intro c hc ho) | (apply Wl.slice0; exact rfl; exact rfl; (first | exact BoundIs.no | exact BoundIs.yes rfl (by omega)); (first | exact BoundIs.no | exact BoundIs.yes rfl (by omega)); (first | exact fun _ => rfl | exact fun h => nomatch h); (omega); (omega)) | (apply Wl.sliceFull; exact rfl; exact rfl; (first | exact BoundIs.no | exact BoundIs.yes rfl (by omega)); (first | exact BoundIs.no | exact BoundIs.yes rfl (by omega)); (first | exact BoundIs.no | exact BoundIs.yes rfl (by omega)); (first | exact fun _ => rfl | exact fun h => nomatch h); (omega); (omega); (omega)) | (apply Wl.indexAddr1; exact rfl; exact rfl; exact rfl; (constructor <;> omega)) | (apply Wl.indexAddr; exact rfl; exact rfl; exact rfl; (constructor <;> omega)) | (apply Wl.indexArr; exact rfl; exact rfl; exact rfl; (constructor <;> omega)) | (apply Wl.nil) | (apply Wl.nilQ) | (apply Wl.nilM) | (apply St.seq) | (apply St.block) | (apply St.region) | (apply St.condT; exact rfl; (first | with_reducible rfl | with_reducible assumption | decide)) | (apply St.condF; exact rfl; (first | with_reducible rfl | with_reducible assumption | decide)) | (apply St.ret) | (apply St.skip) | (apply St.exit) | (apply Gt.next) | (apply Gt.thenRet) | (apply Gt.thenExit) | (apply Gt.inNormal) | (apply Gt.inRet) | (apply Gt.inExit) | (apply Gt.inOther; exact rfl) | (apply Gt.out1; exact rfl; exact rfl; intro w' hp) | (apply Gt.out2; exact rfl; exact rfl; exact rfl; intro w' hp) | (apply Gt.out3; exact rfl; exact rfl; exact rfl; exact rfl; intro w' hp) | (apply Gt.out4; exact rfl; exact rfl; exact rfl; exact rfl; exact rfl; intro w' hp) | (apply Gt.out0; exact rfl; intro w' hp) | (apply Gt.out0n; exact rfl; intro w' hp) | (apply Wl.splitP; exact rfl; exact rfl; all_goals (intros; try (exfalso; omega))) | (apply Wl.splitB; exact rfl; exact rfl; all_goals intros) | (apply St.condP; exact rfl; all_goals (intros; try (exfalso; omega))) | (apply St.condB; exact rfl; all_goals intros))
      apply Gt.meet (w4, c8, d)
      · exact ⟨hS4, hM4, hu4, by simp only; omega, by simp only; omega, by simp only; omega, by simp only; omega⟩
      · (repeat (first | exact Sub.nil | apply Sub.cons rfl))
      · exact fun _ h' => h'
    · repeat' (first | (apply Wl.alloc; exact rfl; intro c hc ho) | (apply Wl.nil))
      have hc8 : w3.heap.size ≤ c := by assumption
      generalize c = c8 at *
      refine Mt.backE (fun _ h' => hSh hS3 h' (by repeat (first | exact trivial | refine ⟨by first | omega | (simp only; omega), ?_⟩)) (by repeat (first | exact trivial | refine ⟨by first | omega | (simp only; omega), ?_⟩)) (by repeat (first | exact trivial | refine ⟨by first | omega | (simp only; omega), ?_⟩)) (by repeat (first | exact trivial | refine ⟨by first | omega | (simp only; omega), ?_⟩))) ?_
      refine Mt.eff1 (i := 4) (by decide +kernel) (by exact rfl) ?_
      apply Wl.callC
      · exact rfl
      · (repeat (first | exact Evs.nil | apply Evs.cons rfl))
      intro wq hq
      have sqc := hq.upd.size
      have l8 := hq.own.lt (.head _)
      simp only at l8
      have hSq := hSh hS3 hq (by repeat (first | exact trivial | refine ⟨by first | omega | (simp only; omega), ?_⟩)) (by repeat (first | exact trivial | refine ⟨by first | omega | (simp only; omega), ?_⟩)) (by repeat (first | exact trivial | refine ⟨by first | omega | (simp only; omega), ?_⟩)) (by repeat (first | exact trivial | refine ⟨by first | omega | (simp only; omega), ?_⟩))
      refine (mcopy cM f wq hSq.2.2.1).mono ?_
      rintro e w4 ⟨d, rfl, hd1, hM4, u4⟩
      have hq4 := hq.newer u4
      have hS4 := hSq.upd u4 (by omega) (by omega) (by omega) (by omega)
      have hu4 : Upd (fun k => w.heap.size ≤ k) w w4 := hq4.on hu3 (by simp; omega)
      have sz4 := hq4.upd.size
      have ld := lt_of_block hM4
      refine ⟨_, _, rfl, hq4.rb, ?_⟩
      repeat' (first | (apply Wl.nil))
      refine Mt.backE (fun _ h' => hSh hS4 h' (by repeat (first | exact trivial | refine ⟨by first | omega | (simp only; omega), ?_⟩)) (by repeat (first | exact trivial | refine ⟨by first | omega | (simp only; omega), ?_⟩)) (by repeat (first | exact trivial | refine ⟨by first | omega | (simp only; omega), ?_⟩)) (by repeat (first | exact trivial | refine ⟨by first | omega | (simp only; omega), ?_⟩))) ?_
      refine Mt.pure 14 (by decide +kernel) (by exact rfl) (by exact rfl) (by decide +kernel) (by decide +kernel) ?_
      repeat' (first | (apply Wl.assign; exact rfl; exact rfl) | (apply Wl.nilM))
      apply Mt.back
      refine Mt.eff1 (i := 15) (by decide +kernel) (by exact rfl) ?_
      repeat' (first | (apply Wl.storeA; exact rfl; exact rfl; exact hS3.1.1; exact hS3.2.2.2.1.one; (repeat (first | apply HSet.here | apply HSet.there)); exact .z (LOver.whole (by rw [hS3.1.1]; exact rfl))) | (apply Wl.nil))
      refine Mt.backE (fun _ h' => hSh hS4 h' (by repeat (first | exact trivial | refine ⟨by first | omega | (simp only; omega), ?_⟩)) (by repeat (first | exact trivial | refine ⟨by first | omega | (simp only; omega), ?_⟩)) (by repeat (first | exact trivial | refine ⟨by first | omega | (simp only; omega), ?_⟩)) (by repeat (first | exact trivial | refine ⟨by first | omega | (simp only; omega), ?_⟩))) ?_
      refine Mt.pure 16 (by decide +kernel) (by exact rfl) (by exact rfl) (by decide +kernel) (by decide +kernel) ?_
      repeat' (first | (apply Wl.assign; exact rfl; exact rfl) | (apply Wl.nilM))
      apply Mt.back
      refine Mt.toGt (by decide +kernel) ?_
      repeat' (first | (apply Wl.move; exact rfl; exact rfl) | (apply Wl.assign; exact rfl; exact rfl) | (apply Wl.on; exact rfl; exact rfl; (first | with_reducible rfl | with_reducible assumption | decide)) | (apply Wl.off; exact rfl; exact rfl; exact rfl; (first | with_reducible rfl | (show _ = false; with_reducible assumption) | (show _ = true; with_reducible assumption) | decide)) | (apply Wl.offU; exact rfl; exact rfl; exact rfl) | (apply Wl.extract; exact rfl; exact rfl; exact rfl) | (apply Wl.nilCheck; exact rfl; exact rfl) | (apply Wl.pickT; exact rfl; exact rfl; (first | with_reducible rfl | with_reducible assumption | decide); exact rfl) | (apply Wl.pickF; exact rfl; exact rfl; (first | with_reducible rfl | with_reducible assumption | decide); exact rfl) | (apply Wl.not; exact rfl; exact rfl) | (apply Wl.fieldAddr0; exact rfl; exact rfl) | (apply Wl.fieldAddrZ; exact rfl; exact rfl) | (apply Wl.fieldAddr; exact rfl; exact rfl) | (apply Wl.loadH; exact rfl; exact rfl; (repeat (first | exact List.Mem.head _ | apply List.Mem.tail)); exact rfl) | (apply Wl.loadO; exact rfl; exact rfl; (assumption); (repeat (first | exact trivial | refine ⟨by first | assumption | omega, ?_⟩))) | (apply Wl.eqlPN; exact rfl; exact rfl; exact rfl) | (apply Wl.neqPN; exact rfl; exact rfl; exact rfl) | (apply Wl.eqlNN; exact rfl; exact rfl; exact rfl) | (apply Wl.neqNN; exact rfl; exact rfl; exact rfl) | (apply Wl.eqlIs; exact rfl; exact rfl; exact rfl; (first | with_reducible assumption | with_reducible rfl)) | (apply Wl.neqIs; exact rfl; exact rfl; exact rfl; (first | with_reducible assumption | with_reducible rfl)) | (apply Wl.eql; exact rfl; exact rfl; exact rfl) | (apply Wl.neq; exact rfl; exact rfl; exact rfl) | (apply Wl.lss; exact rfl; exact rfl; exact rfl) | (apply Wl.leq; exact rfl; exact rfl; exact rfl) | (apply Wl.gtr; exact rfl; exact rfl; exact rfl) | (apply Wl.geq; exact rfl; exact rfl; exact rfl) | (apply Wl.addI; exact rfl; exact rfl; exact rfl; (constructor <;> omega)) | (apply Wl.subI; exact rfl; exact rfl; exact rfl; (constructor <;> omega)) | (apply Wl.mulI; exact rfl; exact rfl; exact rfl; (constructor <;> omega)) | (apply Wl.addU; exact rfl; exact rfl; exact rfl; (constructor <;> omega)) | (apply Wl.add; exact rfl; exact rfl; exact rfl) | (apply Wl.sub'; exact rfl; exact rfl; exact rfl) | (apply Wl.mul; exact rfl; exact rfl; exact rfl) | (apply Wl.quo; exact rfl; exact rfl; exact rfl; (first | decide | omega)) | (apply Wl.rem; exact rfl; exact rfl; exact rfl; (first | decide | omega)) | (apply Wl.and; exact rfl; exact rfl; exact rfl) | (apply Wl.or; exact rfl; exact rfl; exact rfl) | (apply Wl.xor; exact rfl; exact rfl; exact rfl) | (apply Wl.andNot; exact rfl; exact rfl; exact rfl) | (apply Wl.shl; exact rfl; exact rfl; exact rfl; (omega)) | (apply Wl.shr; exact rfl; exact rfl; exact rfl; (omega)) | (apply Wl.eqlBs; exact rfl; exact rfl; exact rfl; (first | with_reducible assumption | with_reducible rfl)) | (apply Wl.neqBs; exact rfl; exact rfl; exact rfl; (first | with_reducible assumption | with_reducible rfl)) | (apply Wl.eqlB; exact rfl; exact rfl; exact rfl) | (apply Wl.neqB; exact rfl; exact rfl; exact rfl) | (apply Wl.eqlSB; exact rfl; exact rfl; exact rfl) | (apply Wl.neqSB; exact rfl; exact rfl; exact rfl) | (apply Wl.eqlS; exact rfl; exact rfl; exact rfl) | (apply Wl.neqS; exact rfl; exact rfl; exact rfl) | (apply Wl.convI64; exact rfl; exact rfl; (constructor <;> omega)) | (apply Wl.convU64; exact rfl; exact rfl; (constructor <;> omega)) | (apply Wl.convU32; exact rfl; exact rfl; (constructor <;> omega)) | (apply Wl.convU8; exact rfl; exact rfl; (constructor <;> omega)) | (apply Wl.convI; exact rfl; exact rfl) | (apply Wl.neg; exact rfl; exact rfl) | (apply Wl.compl; exact rfl; exact rfl) | (apply Wl.len; exact rfl; exact rfl) | (apply Wl.lenS; exact rfl; exact rfl) | (apply Wl.store; exact rfl; exact rfl; exact rfl; (repeat (first | apply HSet.here | apply HSet.there)); (repeat (first | apply LSet.z | apply LSet.s))) | (apply Wl.storeA; exact rfl; exact rfl; exact rfl; exact rfl; (repeat (first | apply HSet.here | apply HSet.there)); (repeat (first | apply LPut.s | apply LPut.z | apply LOver.nil | apply LOver.cons))) | (apply Wl.loadAH; exact rfl; exact rfl; (repeat (first | exact List.Mem.head _ | apply List.Mem.tail)); (repeat (first | apply LSub.z | apply LSub.t | apply LSub.s))) | (apply Wl.buildS; exact rfl; (repeat (first | exact Parts.nil | apply Parts.cons rfl)); (repeat (first | apply Fills.nil | (apply Fills.one; exact rfl; exact rfl; (repeat (first | apply LSet.z | apply LSet.s))) | (apply Fills.agg; exact rfl; exact rfl; (repeat (first | apply LPut.s | apply LPut.z | apply LOver.nil | apply LOver.cons)))))) | (apply Wl.buildA; exact rfl; (repeat (first | exact Parts.nil | apply Parts.cons rfl)); (repeat (first | apply Fills.nil | (apply Fills.one; exact rfl; exact rfl; (repeat (first | apply LSet.z | apply LSet.s))) | (apply Fills.agg; exact rfl; exact rfl; (repeat (first | apply LPut.s | apply LPut.z | apply LOver.nil | apply LOver.cons)))))) | (apply Wl.lit; exact rfl; (repeat (first | exact Parts.nil | apply Parts.cons rfl)); exact rfl; exact rfl; (repeat (first | apply CatP.nil | (apply CatP.one; exact rfl; exact rfl) | (apply CatP.agg; exact rfl) | apply LApp.nil | apply LApp.cons)); intro c hc ho) | (apply Wl.boxA; exact rfl; exact rfl; intro c hc ho) | (apply Wl.box1; exact rfl; exact rfl; exact rfl; intro c hc ho) | (apply Wl.alloc; exact rfl; intro c hc ho) | (apply Wl.slice0; exact rfl; exact rfl; (first | exact BoundIs.no | exact BoundIs.yes rfl (by omega)); (first | exact BoundIs.no | exact BoundIs.yes rfl (by omega)); (first | exact fun _ => rfl | exact fun h => nomatch h); (omega); (omega)) | (apply Wl.sliceFull; exact rfl; exact rfl; (first | exact BoundIs.no | exact BoundIs.yes rfl (by omega)); (first | exact BoundIs.no | exact BoundIs.yes rfl (by omega)); (first | exact BoundIs.no | exact BoundIs.yes rfl (by omega)); (first | exact fun _ => rfl | exact fun h => nomatch h); (omega); (omega); (omega)) | (apply Wl.indexAddr1; exact rfl; exact rfl; exact rfl; (constructor <;> omega)) | (apply Wl.indexAddr; exact rfl; exact rfl; exact rfl; (constructor <;> omega)) | (apply Wl.indexArr; exact rfl; exact rfl; exact rfl; (constructor <;> omega)) | (apply Wl.nil) | (apply Wl.nilQ) | (apply Wl.nilM) | (apply St.seq) | (apply St.block) | (apply St.region) | (apply St.condT; exact rfl; (first | with_reducible rfl | with_reducible assumption | decide)) | (apply St.condF; exact rfl; (first | with_reducible rfl | with_reducible assumption | decide)) | (apply St.ret) | (apply St.skip) | (apply St.exit) | (apply Gt.next) | (apply Gt.thenRet) | (apply Gt.thenExit) | (apply Gt.inNormal) | (apply Gt.inRet) | (apply Gt.inExit) | (apply Gt.inOther; exact rfl) | (apply Gt.out1; exact rfl; exact rfl; intro w' hp) | (apply Gt.out2; exact rfl; exact rfl; exact rfl; intro w' hp) | (apply Gt.out3; exact rfl; exact rfl; exact rfl; exact rfl; intro w' hp) | (apply Gt.out4; exact rfl; exact rfl; exact rfl; exact rfl; exact rfl; intro w' hp) | (apply Gt.out0; exact rfl; intro w' hp) | (apply Gt.out0n; exact rfl; intro w' hp) | (apply Wl.splitP; exact rfl; exact rfl; all_goals (intros; try (exfalso; omega))) | (apply Wl.splitB; exact rfl; exact rfl; all_goals intros) | (apply St.condP; exact rfl; all_goals (intros; try (exfalso; omega))) | (apply St.condB; exact rfl; all_goals intros))
      apply Gt.meet (w4, c8, d)
      · exact ⟨hS4, hM4, hu4, by simp only; omega, by simp only; omega, by simp only; omega, by simp only; omega⟩
      · (repeat (first | exact Sub.nil | apply Sub.cons rfl))
      · exact fun _ h' => h'
  rintro ⟨w4, c8, d⟩ ⟨hS4, hM4, hu4, s34, hc8, hd1, hne⟩
  simp only at hS4 hM4 hu4 s34 hc8 hd1 hne ⊢
  clear hS3 hu3 c32 c33 c34 hm3
  repeat' (first | (apply Wl.move; exact rfl; exact rfl) | (apply St.seq) | (apply St.region))
  apply Wl.callC
  · exact rfl
  · (repeat (first | exact Evs.nil | apply Evs.cons rfl))
  intro wq hq
  have sq4 := hq.upd.size
  have l8 := hq.own.lt (.head _)
  have hSq := hS4.upd hq.upd (fun y => y (by repeat (first | exact trivial | refine ⟨by first | omega | (simp only; omega), ?_⟩))) (fun y => y (by repeat (first | exact trivial | refine ⟨by first | omega | (simp only; omega), ?_⟩))) (fun y => y (by repeat (first | exact trivial | refine ⟨by first | omega | (simp only; omega), ?_⟩))) (fun y => y (by repeat (first | exact trivial | refine ⟨by first | omega | (simp only; omega), ?_⟩)))
  have hMq := hq.upd.heap hM4 (fun y => y (by repeat (first | exact trivial | refine ⟨by first | omega | (simp only; omega), ?_⟩)))
  refine (stepU h cf cM xs pc F f wq hSq hmd).mono ?_
  rintro e w5 ⟨v, rfl, hO, u5⟩
  have hq5 := Hp.rest hq u5 (by simp only [List.mem_cons, List.not_mem_nil, or_false, forall_eq_or_imp, forall_eq]; omega)
  obtain ⟨wd, c1a, tl1, at_, wi, tr, sto, xs', pc', F', f', rfl, hS5, ecf, hcase⟩ := stepS hmd hO
  refine ⟨_, _, rfl, hq5, ?_⟩
  have hM5 : memH w5 d f := u5.heap hMq (by omega)
  have ld := lt_of_block hM5
  have hu5 : Upd (fun k => w.heap.size ≤ k) w w5 := (hq.on hu4 (by simp; omega)).comp u5 fun k hk hs => by omega
  have sz5 := u5.size
  simp only at l8
  clear hq hq5 u5 hSq hMq hO hu4 hS4 hM4
  have lt5 := hS5.lts
  repeat' (first | (apply Wl.move; exact rfl; exact rfl) | (apply Wl.storeA; exact rfl; exact rfl; exact rfl; exact rfl; (repeat (first | apply HSet.here | apply HSet.there)); (repeat (first | apply LPut.s | apply LPut.z | apply LOver.nil | apply LOver.cons))) | (apply Wl.alloc; exact rfl; intro c hc ho) | (apply Wl.nil) | (apply St.seq) | (apply St.region) | (apply Gt.next))
  have hc10 : w5.heap.size ≤ c := by assumption
  generalize c = c10 at *
  apply Wl.callC
  · exact rfl
  · (repeat (first | exact Evs.nil | apply Evs.cons rfl))
  intro wq hq
  have hMq := hq.upd.heap hM5 (fun y => y (by repeat (first | exact trivial | refine ⟨by first | omega | (simp only; omega), ?_⟩)))
  refine (mget d f wq hMq).mono ?_
  rintro e w6 ⟨b1, o1, p1, rfl, hb1, hb1b, hB1, u6⟩
  have l10 := hq.own.lt (.head _)
  simp only at l10
  have sq5 := hq.upd.size
  have hq6 := hq.newer u6
  have hS6 := hS5.upd hq6.upd (fun y => y (by repeat (first | exact trivial | refine ⟨by first | omega | (simp only; omega), ?_⟩))) (fun y => y (by repeat (first | exact trivial | refine ⟨by first | omega | (simp only; omega), ?_⟩))) (fun y => y (by repeat (first | exact trivial | refine ⟨by first | omega | (simp only; omega), ?_⟩))) (fun y => y (by repeat (first | exact trivial | refine ⟨by first | omega | (simp only; omega), ?_⟩)))
  have hu6 : Upd (fun k => w.heap.size ≤ k) w w6 := hq6.on hu5 (by simp; omega)
  have sz6 := hq6.upd.size
  refine ⟨_, _, rfl, hq6.rb, ?_⟩
  clear hq hq6 u6 hMq hM5 hS5 hu5
  obtain ⟨c32, c33, c34⟩ := hS6.1.at1
  have lt6 := hS6.lts
  repeat' (first | (apply Wl.loadO; exact rfl; exact rfl; (first | assumption); (repeat (first | exact trivial | refine ⟨by first | omega | (simp only; omega), ?_⟩))) | (apply Wl.move; exact rfl; exact rfl) | (apply Wl.assign; exact rfl; exact rfl) | (apply Wl.extract; exact rfl; exact rfl; exact rfl) | (apply Wl.nilCheck; exact rfl; exact rfl) | (apply Wl.fieldAddrZ; exact rfl; exact rfl) | (apply Wl.nil) | (apply St.seq) | (apply St.region) | (apply Gt.next))
  apply Wl.callC
  · exact rfl
  · (repeat (first | exact Evs.nil | apply Evs.cons rfl))
  intro wq hq
  have hSq := hS6.upd hq.upd (fun y => y (by repeat (first | exact trivial | refine ⟨by first | omega | (simp only; omega), ?_⟩))) (fun y => y (by repeat (first | exact trivial | refine ⟨by first | omega | (simp only; omega), ?_⟩))) (fun y => y (by repeat (first | exact trivial | refine ⟨by first | omega | (simp only; omega), ?_⟩))) (fun y => y (by repeat (first | exact trivial | refine ⟨by first | omega | (simp only; omega), ?_⟩)))
  have hB1q : ∀ j : Nat, j < 65536 → wq.cell? ⟨b1, o1 + j, none⟩ = some (.int .u8 (f j)) := fun j hj => hq.upd.cell (hB1 j hj) (fun y => y (by repeat (first | exact trivial | refine ⟨by first | omega | (simp only; omega), ?_⟩)))
  refine (mget cM f' wq hSq.2.2.1).mono ?_
  rintro e w7 ⟨b2, o2, p2, rfl, hb2, hb2b, hB2, u7⟩
  have sq6 := hq.upd.size
  have hq7 := hq.newer u7
  have hS7 := hSq.upd u7 (by omega) (by omega) (by omega) (by omega)
  have hB17 : ∀ j : Nat, j < 65536 → w7.cell? ⟨b1, o1 + j, none⟩ = some (.int .u8 (f j)) := fun j hj => u7.cell (hB1q j hj) (by simp only; omega)
  have hu7 : Upd (fun k => w.heap.size ≤ k) w w7 := hq7.on hu6 (by simp; omega)
  have sz7 := hq7.upd.size
  refine ⟨_, _, rfl, hq7.rb, ?_⟩
  clear hq hq7 u7 hSq hB1q hB1 hS6 hu6 c32 c33 c34
  repeat' (first | (apply Wl.move; exact rfl; exact rfl) | (apply Wl.assign; exact rfl; exact rfl) | (apply Wl.extract; exact rfl; exact rfl; exact rfl) | (apply Wl.len; exact rfl; exact rfl) | (apply Wl.nil) | (apply St.seq) | (apply St.block) | (apply St.region) | (apply Gt.next))
  refine St.loop (σ := Nat) (fun j => j ≤ 65536)
    (fun j => [(6, .pointer (some ⟨h, 0, none⟩)), (8, .pointer (some ⟨c8, 0, none⟩)), (9, .int .u32 pc), (10, .pointer (some ⟨c10, 0, none⟩)), (11, .slice (some ⟨b1, o1, none⟩) 65536 p1), (13, .slice (some ⟨b2, o2, none⟩) 65536 p2), (35, .int .i64 (K : Int)), (36, .int .i64 (i : Int)), (75, .int .i64 65536), (76, .int .i64 (j : Int))])
    (fun _ => Hp w7 [⟨c10, [.int .u32 wd, .bool tr, .int .u32 c1a, .int .u32 tl1, .int .u32 at_, .int .i64 wi, .bool sto], 32⟩, ⟨c8, xs, 26⟩, ⟨c1, [.slice wa wn wc, .slice xa xn xc, .slice la ln lc, .bool true, .slice ca cn cc, .int .u32 pc0], 39⟩]) (fun j => 65536 - j) 0 (Nat.zero_le _) (by (repeat (first | exact Sub.nil | apply Sub.cons rfl))) (fun _ h => h) ?_
  intro j hj
  by_cases hj2 : j < 65536
  · have hd4 : decide ((j : Int) < 65536) = true := decide_eq_true (by omega)
    have ga : w7.cell? ⟨b1, o1 + (j : Int).toNat, none⟩ = some (.int .u8 (f j)) := by rw [Int.toNat_natCast]; exact hB17 j hj2
    have gb : w7.cell? ⟨b2, o2 + (j : Int).toNat, none⟩ = some (.int .u8 (f' j)) := by rw [Int.toNat_natCast]; exact hB2 j hj2
    have hde : decide (f j ≠ f j) = false := decide_eq_false fun h => h rfl
    have hxw : IntKind.u32.wrap (2147483648 + (j : Int)) = 2147483648 + (j : Int) := Int.emod_eq_of_lt (by omega) (by show _ < (4294967296 : Int); omega)
    by_cases hw0 : 0 < wi
    rotate_left
    · have dw : decide (0 < wi) = false := decide_eq_false hw0
      have e : f' j = f j := by
        rcases hcase with ⟨_, _, _, rfl⟩ | ⟨_, _, _, hMP⟩
        · rfl
        · rcases hMP with ⟨_, rfl⟩ | ⟨hw, _⟩
          · rfl
          · rcases hw with rfl | rfl | rfl <;> omega
      rw [e] at gb
      repeat' (first | (apply Wl.loadO; exact rfl; exact rfl; (with_reducible (first | exact ga | exact gb)); (repeat (first | exact trivial | refine ⟨by first | omega | (simp only; omega), ?_⟩))) | (apply Wl.move; exact rfl; exact rfl) | (apply Wl.assign; exact rfl; exact rfl) | (apply Wl.on; exact rfl; exact rfl; (first | with_reducible rfl | with_reducible assumption | decide)) | (apply Wl.off; exact rfl; exact rfl; exact rfl; (first | with_reducible rfl | (show _ = false; with_reducible assumption) | (show _ = true; with_reducible assumption) | decide)) | (apply Wl.pickT; exact rfl; exact rfl; (first | with_reducible rfl | with_reducible assumption | decide); exact rfl) | (apply Wl.pickF; exact rfl; exact rfl; (first | with_reducible rfl | with_reducible assumption | decide); exact rfl) | (apply Wl.not; exact rfl; exact rfl) | (apply Wl.fieldAddrZ; exact rfl; exact rfl) | (apply Wl.loadH; exact rfl; exact rfl; (repeat (first | exact List.Mem.head _ | apply List.Mem.tail)); exact rfl) | (apply Wl.neqIs; exact rfl; exact rfl; exact rfl; (first | with_reducible assumption | with_reducible rfl)) | (apply Wl.lss; exact rfl; exact rfl; exact rfl) | (apply Wl.gtr; exact rfl; exact rfl; exact rfl) | (apply Wl.addI; exact rfl; exact rfl; exact rfl; (constructor <;> omega)) | (apply Wl.convU32; exact rfl; exact rfl; (constructor <;> omega)) | (apply Wl.indexAddr1; exact rfl; exact rfl; exact rfl; (constructor <;> omega)) | (apply Wl.nil) | (apply Wl.nilQ) | (apply St.seq) | (apply St.block) | (apply St.region) | (apply St.draw; exact mixed; (kernel_rfl); exact (fun _ h => Hp.drew h)) | (apply St.condT; exact rfl; (first | with_reducible rfl | with_reducible assumption | decide)) | (apply St.condF; exact rfl; (first | with_reducible rfl | with_reducible assumption | decide)) | (apply St.skip) | (apply Gt.next) | (apply Gt.inNormal))
      apply Gt.round (j + 1)
      rotate_left
      · omega
      · (repeat (first | exact Sub.nil | apply Sub.cons rfl))
      · exact fun _ h => h
      · omega
    have dw : decide (0 < wi) = true := decide_eq_true hw0
    cases sto
    · have e : f' j = f j := by
        rcases hcase with ⟨_, _, _, rfl⟩ | ⟨_, _, _, hMP⟩
        · rfl
        · rcases hMP with ⟨_, rfl⟩ | ⟨_, _, _, _, hk⟩
          · rfl
          · exact hk j (fun h => by cases h.1)
      rw [e] at gb
      repeat' (first | (apply Wl.loadO; exact rfl; exact rfl; (with_reducible (first | exact ga | exact gb)); (repeat (first | exact trivial | refine ⟨by first | omega | (simp only; omega), ?_⟩))) | (apply Wl.move; exact rfl; exact rfl) | (apply Wl.assign; exact rfl; exact rfl) | (apply Wl.on; exact rfl; exact rfl; (first | with_reducible rfl | with_reducible assumption | decide)) | (apply Wl.off; exact rfl; exact rfl; exact rfl; (first | with_reducible rfl | (show _ = false; with_reducible assumption) | (show _ = true; with_reducible assumption) | decide)) | (apply Wl.pickT; exact rfl; exact rfl; (first | with_reducible rfl | with_reducible assumption | decide); exact rfl) | (apply Wl.pickF; exact rfl; exact rfl; (first | with_reducible rfl | with_reducible assumption | decide); exact rfl) | (apply Wl.not; exact rfl; exact rfl) | (apply Wl.fieldAddrZ; exact rfl; exact rfl) | (apply Wl.loadH; exact rfl; exact rfl; (repeat (first | exact List.Mem.head _ | apply List.Mem.tail)); exact rfl) | (apply Wl.neqIs; exact rfl; exact rfl; exact rfl; (first | with_reducible assumption | with_reducible rfl)) | (apply Wl.lss; exact rfl; exact rfl; exact rfl) | (apply Wl.gtr; exact rfl; exact rfl; exact rfl) | (apply Wl.addI; exact rfl; exact rfl; exact rfl; (constructor <;> omega)) | (apply Wl.convU32; exact rfl; exact rfl; (constructor <;> omega)) | (apply Wl.indexAddr1; exact rfl; exact rfl; exact rfl; (constructor <;> omega)) | (apply Wl.nil) | (apply Wl.nilQ) | (apply St.seq) | (apply St.block) | (apply St.region) | (apply St.draw; exact mixed; (kernel_rfl); exact (fun _ h => Hp.drew h)) | (apply St.condT; exact rfl; (first | with_reducible rfl | with_reducible assumption | decide)) | (apply St.condF; exact rfl; (first | with_reducible rfl | with_reducible assumption | decide)) | (apply St.skip) | (apply Gt.next) | (apply Gt.inNormal))
      apply Gt.round (j + 1)
      rotate_left
      · omega
      · (repeat (first | exact Sub.nil | apply Sub.cons rfl))
      · exact fun _ h => h
      · omega
    rcases hcase with ⟨rfl, _, _, hff⟩ | ⟨rfl, _, _, hMP⟩
    · have e : f' j = f j := by rw [hff]
      rw [e] at gb
      repeat' (first | (apply Wl.loadO; exact rfl; exact rfl; (with_reducible (first | exact ga | exact gb)); (repeat (first | exact trivial | refine ⟨by first | omega | (simp only; omega), ?_⟩))) | (apply Wl.move; exact rfl; exact rfl) | (apply Wl.assign; exact rfl; exact rfl) | (apply Wl.on; exact rfl; exact rfl; (first | with_reducible rfl | with_reducible assumption | decide)) | (apply Wl.off; exact rfl; exact rfl; exact rfl; (first | with_reducible rfl | (show _ = false; with_reducible assumption) | (show _ = true; with_reducible assumption) | decide)) | (apply Wl.pickT; exact rfl; exact rfl; (first | with_reducible rfl | with_reducible assumption | decide); exact rfl) | (apply Wl.pickF; exact rfl; exact rfl; (first | with_reducible rfl | with_reducible assumption | decide); exact rfl) | (apply Wl.not; exact rfl; exact rfl) | (apply Wl.fieldAddrZ; exact rfl; exact rfl) | (apply Wl.loadH; exact rfl; exact rfl; (repeat (first | exact List.Mem.head _ | apply List.Mem.tail)); exact rfl) | (apply Wl.neqIs; exact rfl; exact rfl; exact rfl; (first | with_reducible assumption | with_reducible rfl)) | (apply Wl.lss; exact rfl; exact rfl; exact rfl) | (apply Wl.gtr; exact rfl; exact rfl; exact rfl) | (apply Wl.addI; exact rfl; exact rfl; exact rfl; (constructor <;> omega)) | (apply Wl.convU32; exact rfl; exact rfl; (constructor <;> omega)) | (apply Wl.indexAddr1; exact rfl; exact rfl; exact rfl; (constructor <;> omega)) | (apply Wl.nil) | (apply Wl.nilQ) | (apply St.seq) | (apply St.block) | (apply St.region) | (apply St.draw; exact mixed; (kernel_rfl); exact (fun _ h => Hp.drew h)) | (apply St.condT; exact rfl; (first | with_reducible rfl | with_reducible assumption | decide)) | (apply St.condF; exact rfl; (first | with_reducible rfl | with_reducible assumption | decide)) | (apply St.skip) | (apply Gt.next) | (apply Gt.inNormal))
      apply Gt.round (j + 1)
      rotate_left
      · omega
      · (repeat (first | exact Sub.nil | apply Sub.cons rfl))
      · exact fun _ h => h
      · omega
    obtain ⟨hw, ⟨ha0, ha1⟩, ⟨hi1, hi2⟩, _, hk⟩ : W124 wi ∧ (0 ≤ at_ ∧ at_ < 4294967296) ∧ inM at_ wi ∧ mayB F.cf at_ wi (if true then 2 else 1) = true ∧ ∀ j : Nat, ¬ (true = true ∧ at_ ≤ 2147483648 + (j : Int) ∧ 2147483648 + (j : Int) < at_ + wi) → f' j = f j := by
      rcases hMP with ⟨h0, _⟩ | hMP
      · omega
      · exact hMP
    have hw4 : wi ≤ 4 := by rcases hw with rfl | rfl | rfl <;> decide
    have hww : IntKind.u32.wrap wi = wi := Int.emod_eq_of_lt (by omega) (by show _ < (4294967296 : Int); omega)
    have haw : IntKind.u32.wrap (at_ + wi) = at_ + wi := Int.emod_eq_of_lt (by omega) (by show _ < (4294967296 : Int); omega)
    by_cases hlo : at_ ≤ 2147483648 + (j : Int)
    rotate_left
    · have dlo : decide (at_ ≤ 2147483648 + (j : Int)) = false := decide_eq_false hlo
      have e : f' j = f j := hk j (fun h => hlo h.2.1)
      rw [e] at gb
      repeat' (first | (apply Wl.loadO; exact rfl; exact rfl; (with_reducible (first | exact ga | exact gb)); (repeat (first | exact trivial | refine ⟨by first | omega | (simp only; omega), ?_⟩))) | (apply Wl.move; exact rfl; exact rfl) | (apply Wl.assign; exact rfl; exact rfl) | (apply Wl.on; exact rfl; exact rfl; (first | with_reducible rfl | with_reducible assumption | decide)) | (apply Wl.off; exact rfl; exact rfl; exact rfl; (first | with_reducible rfl | (show _ = false; with_reducible assumption) | (show _ = true; with_reducible assumption) | decide)) | (apply Wl.pickT; exact rfl; exact rfl; (first | with_reducible rfl | with_reducible assumption | decide); exact rfl) | (apply Wl.pickF; exact rfl; exact rfl; (first | with_reducible rfl | with_reducible assumption | decide); exact rfl) | (apply Wl.not; exact rfl; exact rfl) | (apply Wl.fieldAddrZ; exact rfl; exact rfl) | (apply Wl.loadH; exact rfl; exact rfl; (repeat (first | exact List.Mem.head _ | apply List.Mem.tail)); exact rfl) | (apply Wl.neqIs; exact rfl; exact rfl; exact rfl; (first | with_reducible assumption | with_reducible rfl)) | (apply Wl.lss; exact rfl; exact rfl; exact rfl) | (apply Wl.gtr; exact rfl; exact rfl; exact rfl) | (apply Wl.geq; exact rfl; exact rfl; exact rfl) | (apply Wl.addI; exact rfl; exact rfl; exact rfl; (constructor <;> omega)) | (apply Wl.convU32; exact rfl; exact rfl; (constructor <;> omega)) | (apply Wl.indexAddr1; exact rfl; exact rfl; exact rfl; (constructor <;> omega)) | (apply Wl.nil) | (apply Wl.nilQ) | (apply St.seq) | (apply St.block) | (apply St.region) | (apply St.draw; exact mixed; (kernel_rfl); exact (fun _ h => Hp.drew h)) | (apply St.condT; exact rfl; (first | with_reducible rfl | with_reducible assumption | decide)) | (apply St.condF; exact rfl; (first | with_reducible rfl | with_reducible assumption | decide)) | (apply St.skip) | (apply Gt.next) | (apply Gt.inNormal))
      apply Gt.round (j + 1)
      rotate_left
      · omega
      · (repeat (first | exact Sub.nil | apply Sub.cons rfl))
      · exact fun _ h => h
      · omega
    have dlo : decide (at_ ≤ 2147483648 + (j : Int)) = true := decide_eq_true hlo
    by_cases hhi : 2147483648 + (j : Int) < at_ + wi
    · have dhi : decide (2147483648 + (j : Int) < IntKind.u32.wrap (at_ + wi)) = true := decide_eq_true (by rw [haw]; exact hhi)
      have dhi2 : (!decide (2147483648 + (j : Int) < IntKind.u32.wrap (at_ + wi))) = false := by rw [dhi]; rfl
      repeat' (first | (apply Wl.move; exact rfl; exact rfl) | (apply Wl.assign; exact rfl; exact rfl) | (apply Wl.on; exact rfl; exact rfl; (first | with_reducible rfl | with_reducible assumption | decide)) | (apply Wl.off; exact rfl; exact rfl; exact rfl; (first | with_reducible rfl | (show _ = false; with_reducible assumption) | (show _ = true; with_reducible assumption) | decide)) | (apply Wl.pickT; exact rfl; exact rfl; (first | with_reducible rfl | with_reducible assumption | decide); exact rfl) | (apply Wl.pickF; exact rfl; exact rfl; (first | with_reducible rfl | with_reducible assumption | decide); exact rfl) | (apply Wl.not; exact rfl; exact rfl) | (apply Wl.fieldAddrZ; exact rfl; exact rfl) | (apply Wl.loadH; exact rfl; exact rfl; (repeat (first | exact List.Mem.head _ | apply List.Mem.tail)); exact rfl) | (apply Wl.lss; exact rfl; exact rfl; exact rfl) | (apply Wl.gtr; exact rfl; exact rfl; exact rfl) | (apply Wl.geq; exact rfl; exact rfl; exact rfl) | (apply Wl.addI; exact rfl; exact rfl; exact rfl; (constructor <;> omega)) | (apply Wl.add; exact rfl; exact rfl; exact rfl) | (apply Wl.convU32; exact rfl; exact rfl; (constructor <;> omega)) | (apply Wl.nil) | (apply Wl.nilQ) | (apply St.seq) | (apply St.block) | (apply St.region) | (apply St.draw; exact mixed; (kernel_rfl); exact (fun _ h => Hp.drew h)) | (apply St.condT; exact rfl; (first | with_reducible rfl | with_reducible assumption | decide)) | (apply St.condF; exact rfl; (first | with_reducible rfl | with_reducible assumption | decide)) | (apply St.skip) | (apply Gt.next) | (apply Gt.inNormal))
      apply Gt.round (j + 1)
      rotate_left
      · omega
      · (repeat (first | exact Sub.nil | apply Sub.cons rfl))
      · exact fun _ h => h
      · omega
    · have dhi : decide (2147483648 + (j : Int) < IntKind.u32.wrap (at_ + wi)) = false := decide_eq_false (by rw [haw]; exact hhi)
      have dhi2 : (!decide (2147483648 + (j : Int) < IntKind.u32.wrap (at_ + wi))) = true := by rw [dhi]; rfl
      have e : f' j = f j := hk j (fun h => hhi h.2.2)
      rw [e] at gb
      repeat' (first | (apply Wl.loadO; exact rfl; exact rfl; (with_reducible (first | exact ga | exact gb)); (repeat (first | exact trivial | refine ⟨by first | omega | (simp only; omega), ?_⟩))) | (apply Wl.move; exact rfl; exact rfl) | (apply Wl.assign; exact rfl; exact rfl) | (apply Wl.on; exact rfl; exact rfl; (first | with_reducible rfl | with_reducible assumption | decide)) | (apply Wl.pickT; exact rfl; exact rfl; (first | with_reducible rfl | with_reducible assumption | decide); exact rfl) | (apply Wl.not; exact rfl; exact rfl) | (apply Wl.fieldAddrZ; exact rfl; exact rfl) | (apply Wl.loadH; exact rfl; exact rfl; (repeat (first | exact List.Mem.head _ | apply List.Mem.tail)); exact rfl) | (apply Wl.neqIs; exact rfl; exact rfl; exact rfl; (first | with_reducible assumption | with_reducible rfl)) | (apply Wl.lss; exact rfl; exact rfl; exact rfl) | (apply Wl.gtr; exact rfl; exact rfl; exact rfl) | (apply Wl.geq; exact rfl; exact rfl; exact rfl) | (apply Wl.addI; exact rfl; exact rfl; exact rfl; (constructor <;> omega)) | (apply Wl.add; exact rfl; exact rfl; exact rfl) | (apply Wl.convU32; exact rfl; exact rfl; (constructor <;> omega)) | (apply Wl.indexAddr1; exact rfl; exact rfl; exact rfl; (constructor <;> omega)) | (apply Wl.nil) | (apply Wl.nilQ) | (apply St.seq) | (apply St.block) | (apply St.region) | (apply St.draw; exact mixed; (kernel_rfl); exact (fun _ h => Hp.drew h)) | (apply St.condT; exact rfl; (first | with_reducible rfl | with_reducible assumption | decide)) | (apply St.condF; exact rfl; (first | with_reducible rfl | with_reducible assumption | decide)) | (apply St.skip) | (apply Gt.next) | (apply Gt.inNormal))
      apply Gt.round (j + 1)
      rotate_left
      · omega
      · (repeat (first | exact Sub.nil | apply Sub.cons rfl))
      · exact fun _ h => h
      · omega
  · have hj3 : j = 65536 := by omega
    subst hj3
    have hd4 : decide (((65536 : Nat) : Int) < 65536) = false := by decide
    clear hB17 hB2
    obtain ⟨c32, c33, c34⟩ := hS7.1.at1
    have lt7 := hS7.lts
    rcases hcase with ⟨rfl, hm', hxx, _⟩ | ⟨rfl, hm', hex, hMP⟩
    · subst hxx
      obtain ⟨g, hgx, hgr⟩ := rgN hS7.2.2.2.1
      subst hgx
      repeat' (first | (apply Wl.neqA (e := 22) (n := 32) (q := .u32) (f := g) (g := g) (b := true); exact rfl; exact rfl; exact rfl; kernel_rfl; kernel_rfl; kernel_rfl; kernel_rfl; exact hgr; exact hgr; exact ⟨fun _ _ _ => rfl, fun _ => rfl⟩) | (apply Wl.loadAF (xs := cellsN .u32 32 g); exact rfl; exact rfl; exact cellsN_len _ _ _; (intro wq hq q v hq'; rw [addLit]; exact hq.old (by have hrg := hS7.1.reg hq'; rw [addLit] at hrg; exact hrg) (by show Off _ h; repeat (first | exact trivial | refine ⟨by first | omega | (simp only; omega), ?_⟩)))) | (apply Wl.loadW; exact rfl; exact rfl; exact (.tail _ (.head _)); exact rfl) | (apply Wl.move; exact rfl; exact rfl) | (apply Wl.on; exact rfl; exact rfl; (first | with_reducible rfl | with_reducible assumption | decide)) | (apply Wl.off; exact rfl; exact rfl; exact rfl; (first | with_reducible rfl | (show _ = false; with_reducible assumption) | (show _ = true; with_reducible assumption) | decide)) | (apply Wl.nilCheck; exact rfl; exact rfl) | (apply Wl.pickT; exact rfl; exact rfl; (first | with_reducible rfl | with_reducible assumption | decide); exact rfl) | (apply Wl.pickF; exact rfl; exact rfl; (first | with_reducible rfl | with_reducible assumption | decide); exact rfl) | (apply Wl.not; exact rfl; exact rfl) | (apply Wl.fieldAddr0; exact rfl; exact rfl) | (apply Wl.fieldAddrZ; exact rfl; exact rfl) | (apply Wl.loadH; exact rfl; exact rfl; (repeat (first | exact List.Mem.head _ | apply List.Mem.tail)); exact rfl) | (apply Wl.lss; exact rfl; exact rfl; exact rfl) | (apply Wl.addI; exact rfl; exact rfl; exact rfl; (constructor <;> omega)) | (apply Wl.nil) | (apply Wl.nilQ) | (apply St.seq) | (apply St.region) | (apply St.draw; exact mixed; (kernel_rfl); exact (fun _ h => Hp.drew h)) | (apply St.condF; exact rfl; (first | with_reducible rfl | with_reducible assumption | decide)) | (apply St.skip) | (apply St.exit) | (apply Gt.next) | (apply Gt.thenExit) | (apply Gt.inNormal) | (apply Gt.inExit))
      apply Gt.reb (H' := [⟨c1, [.slice wa wn wc, .slice xa xn xc, .slice la ln lc, .bool true, .slice ca cn cc, .int .u32 pc0], 39⟩])
      intro w8 hw8
      refine ⟨hw8.own.2.2, hw8.apart.2.2, ?_⟩
      have hS8 := hS7.upd hw8.upd (fun y => y (by repeat (first | exact trivial | refine ⟨by first | omega | (simp only; omega), ?_⟩))) (fun y => y (by repeat (first | exact trivial | refine ⟨by first | omega | (simp only; omega), ?_⟩))) (fun y => y (by repeat (first | exact trivial | refine ⟨by first | omega | (simp only; omega), ?_⟩))) (fun y => y (by repeat (first | exact trivial | refine ⟨by first | omega | (simp only; omega), ?_⟩)))
      have hu8 : Upd (fun k => w.heap.size ≤ k) w w8 := hw8.on hu7 (by simp; omega)
      have sz8 := hw8.upd.size
      apply Gt.round (i + 1, w8, cellsN .u32 32 g, pc', F', f')
      rotate_left
      · simp only; omega
      · (repeat (first | exact Sub.nil | apply Sub.cons rfl))
      · exact fun _ h => h
      · exact ⟨hlt, hS8, .inr hm', hu8, by simp only; omega⟩
    · by_cases hw0 : 0 < wi
      rotate_left
      · have dw : decide (0 < wi) = false := decide_eq_false hw0
        cases sto
        · have hmay := hex
          have hFq : ∀ {wq : World}, Hp w7 [⟨c10, [.int .u32 wd, .bool false, .int .u32 c1a, .int .u32 tl1, .int .u32 at_, .int .i64 wi, .bool false], 32⟩, ⟨c8, xs, 26⟩, ⟨c1, [.slice wa wn wc, .slice xa xn xc, .slice la ln lc, .bool true, .slice ca cn cc, .int .u32 pc0], 39⟩] wq → FX wq cf F' := fun hq => hS7.2.1.upd hq.upd (fun y => y (by repeat (first | exact trivial | refine ⟨by first | omega | (simp only; omega), ?_⟩)))
          have hTq : ∀ {wq : World}, Hp w7 [⟨c10, [.int .u32 wd, .bool false, .int .u32 c1a, .int .u32 tl1, .int .u32 at_, .int .i64 wi, .bool false], 32⟩, ⟨c8, xs, 26⟩, ⟨c1, [.slice wa wn wc, .slice xa xn xc, .slice la ln lc, .bool true, .slice ca cn cc, .int .u32 pc0], 39⟩] wq → tabOk wq := fun hq => hS7.2.2.2.2.2.2.1.upd hq.upd (fun y => y (by repeat (first | exact trivial | refine ⟨by first | omega | (simp only; omega), ?_⟩)))
          repeat' (first | (apply Wl.loadO; exact rfl; exact rfl; (first | assumption); (repeat (first | exact trivial | refine ⟨by first | omega | (simp only; omega), ?_⟩))) | ((first | apply Wl.callQQ (f := 17) (v := .bool true) | apply Wl.callQ (f := 17) (v := .bool true)); exact rfl; (repeat (first | exact Evs.nil | apply Evs.cons rfl)); (intro wq hq; refine (may1X cf F' _ _ _ wq (hFq hq) hm' (hTq hq)).mono ?_; rintro e wr ⟨rfl, hr⟩; exact ⟨by first | rw [ecf, hmay] | rw [ecf, hex], hq.keep hr⟩)) | (apply Wl.move; exact rfl; exact rfl) | (apply Wl.on; exact rfl; exact rfl; (first | with_reducible rfl | with_reducible assumption | decide)) | (apply Wl.off; exact rfl; exact rfl; exact rfl; (first | with_reducible rfl | (show _ = false; with_reducible assumption) | (show _ = true; with_reducible assumption) | decide)) | (apply Wl.nilCheck; exact rfl; exact rfl) | (apply Wl.pickT; exact rfl; exact rfl; (first | with_reducible rfl | with_reducible assumption | decide); exact rfl) | (apply Wl.pickF; exact rfl; exact rfl; (first | with_reducible rfl | with_reducible assumption | decide); exact rfl) | (apply Wl.not; exact rfl; exact rfl) | (apply Wl.fieldAddrZ; exact rfl; exact rfl) | (apply Wl.loadH; exact rfl; exact rfl; (repeat (first | exact List.Mem.head _ | apply List.Mem.tail)); exact rfl) | (apply Wl.lss; exact rfl; exact rfl; exact rfl) | (apply Wl.gtr; exact rfl; exact rfl; exact rfl) | (apply Wl.addI; exact rfl; exact rfl; exact rfl; (constructor <;> omega)) | (apply Wl.nil) | (apply Wl.nilQ) | (apply St.seq) | (apply St.region) | (apply St.draw; exact mixed; (kernel_rfl); exact (fun _ h => Hp.drew h)) | (apply St.condF; exact rfl; (first | with_reducible rfl | with_reducible assumption | decide)) | (apply St.skip) | (apply St.exit) | (apply Gt.next) | (apply Gt.thenExit) | (apply Gt.inNormal) | (apply Gt.inExit))
          apply Gt.reb (H' := [⟨c1, [.slice wa wn wc, .slice xa xn xc, .slice la ln lc, .bool true, .slice ca cn cc, .int .u32 pc0], 39⟩])
          intro w8 hw8
          refine ⟨hw8.own.2.2, hw8.apart.2.2, ?_⟩
          have hS8 := hS7.upd hw8.upd (fun y => y (by repeat (first | exact trivial | refine ⟨by first | omega | (simp only; omega), ?_⟩))) (fun y => y (by repeat (first | exact trivial | refine ⟨by first | omega | (simp only; omega), ?_⟩))) (fun y => y (by repeat (first | exact trivial | refine ⟨by first | omega | (simp only; omega), ?_⟩))) (fun y => y (by repeat (first | exact trivial | refine ⟨by first | omega | (simp only; omega), ?_⟩)))
          have hu8 : Upd (fun k => w.heap.size ≤ k) w w8 := hw8.on hu7 (by simp; omega)
          have sz8 := hw8.upd.size
          apply Gt.round (i + 1, w8, xs', pc', F', f')
          rotate_left
          · simp only; omega
          · (repeat (first | exact Sub.nil | apply Sub.cons rfl))
          · exact fun _ h => h
          · exact ⟨hlt, hS8, .inl hm', hu8, by simp only; omega⟩
        · have hmay := hex
          have hFq : ∀ {wq : World}, Hp w7 [⟨c10, [.int .u32 wd, .bool false, .int .u32 c1a, .int .u32 tl1, .int .u32 at_, .int .i64 wi, .bool true], 32⟩, ⟨c8, xs, 26⟩, ⟨c1, [.slice wa wn wc, .slice xa xn xc, .slice la ln lc, .bool true, .slice ca cn cc, .int .u32 pc0], 39⟩] wq → FX wq cf F' := fun hq => hS7.2.1.upd hq.upd (fun y => y (by repeat (first | exact trivial | refine ⟨by first | omega | (simp only; omega), ?_⟩)))
          have hTq : ∀ {wq : World}, Hp w7 [⟨c10, [.int .u32 wd, .bool false, .int .u32 c1a, .int .u32 tl1, .int .u32 at_, .int .i64 wi, .bool true], 32⟩, ⟨c8, xs, 26⟩, ⟨c1, [.slice wa wn wc, .slice xa xn xc, .slice la ln lc, .bool true, .slice ca cn cc, .int .u32 pc0], 39⟩] wq → tabOk wq := fun hq => hS7.2.2.2.2.2.2.1.upd hq.upd (fun y => y (by repeat (first | exact trivial | refine ⟨by first | omega | (simp only; omega), ?_⟩)))
          repeat' (first | (apply Wl.loadO; exact rfl; exact rfl; (first | assumption); (repeat (first | exact trivial | refine ⟨by first | omega | (simp only; omega), ?_⟩))) | ((first | apply Wl.callQQ (f := 17) (v := .bool true) | apply Wl.callQ (f := 17) (v := .bool true)); exact rfl; (repeat (first | exact Evs.nil | apply Evs.cons rfl)); (intro wq hq; refine (may1X cf F' _ _ _ wq (hFq hq) hm' (hTq hq)).mono ?_; rintro e wr ⟨rfl, hr⟩; exact ⟨by first | rw [ecf, hmay] | rw [ecf, hex], hq.keep hr⟩)) | (apply Wl.move; exact rfl; exact rfl) | (apply Wl.on; exact rfl; exact rfl; (first | with_reducible rfl | with_reducible assumption | decide)) | (apply Wl.off; exact rfl; exact rfl; exact rfl; (first | with_reducible rfl | (show _ = false; with_reducible assumption) | (show _ = true; with_reducible assumption) | decide)) | (apply Wl.nilCheck; exact rfl; exact rfl) | (apply Wl.pickT; exact rfl; exact rfl; (first | with_reducible rfl | with_reducible assumption | decide); exact rfl) | (apply Wl.pickF; exact rfl; exact rfl; (first | with_reducible rfl | with_reducible assumption | decide); exact rfl) | (apply Wl.not; exact rfl; exact rfl) | (apply Wl.fieldAddrZ; exact rfl; exact rfl) | (apply Wl.loadH; exact rfl; exact rfl; (repeat (first | exact List.Mem.head _ | apply List.Mem.tail)); exact rfl) | (apply Wl.lss; exact rfl; exact rfl; exact rfl) | (apply Wl.gtr; exact rfl; exact rfl; exact rfl) | (apply Wl.addI; exact rfl; exact rfl; exact rfl; (constructor <;> omega)) | (apply Wl.nil) | (apply Wl.nilQ) | (apply St.seq) | (apply St.region) | (apply St.draw; exact mixed; (kernel_rfl); exact (fun _ h => Hp.drew h)) | (apply St.condF; exact rfl; (first | with_reducible rfl | with_reducible assumption | decide)) | (apply St.skip) | (apply St.exit) | (apply Gt.next) | (apply Gt.thenExit) | (apply Gt.inNormal) | (apply Gt.inExit))
          apply Gt.reb (H' := [⟨c1, [.slice wa wn wc, .slice xa xn xc, .slice la ln lc, .bool true, .slice ca cn cc, .int .u32 pc0], 39⟩])
          intro w8 hw8
          refine ⟨hw8.own.2.2, hw8.apart.2.2, ?_⟩
          have hS8 := hS7.upd hw8.upd (fun y => y (by repeat (first | exact trivial | refine ⟨by first | omega | (simp only; omega), ?_⟩))) (fun y => y (by repeat (first | exact trivial | refine ⟨by first | omega | (simp only; omega), ?_⟩))) (fun y => y (by repeat (first | exact trivial | refine ⟨by first | omega | (simp only; omega), ?_⟩))) (fun y => y (by repeat (first | exact trivial | refine ⟨by first | omega | (simp only; omega), ?_⟩)))
          have hu8 : Upd (fun k => w.heap.size ≤ k) w w8 := hw8.on hu7 (by simp; omega)
          have sz8 := hw8.upd.size
          apply Gt.round (i + 1, w8, xs', pc', F', f')
          rotate_left
          · simp only; omega
          · (repeat (first | exact Sub.nil | apply Sub.cons rfl))
          · exact fun _ h => h
          · exact ⟨hlt, hS8, .inl hm', hu8, by simp only; omega⟩
      have dw : decide (0 < wi) = true := decide_eq_true hw0
      obtain ⟨hw, ⟨ha0, ha1⟩, ⟨hi1, hi2⟩, hmay0, _⟩ : W124 wi ∧ (0 ≤ at_ ∧ at_ < 4294967296) ∧ inM at_ wi ∧ mayB F.cf at_ wi (if sto then 2 else 1) = true ∧ ∀ j : Nat, ¬ (sto = true ∧ at_ ≤ 2147483648 + (j : Int) ∧ 2147483648 + (j : Int) < at_ + wi) → f' j = f j := by
        rcases hMP with ⟨h0, _⟩ | hMP
        · omega
        · exact hMP
      have hw4 : wi ≤ 4 := by rcases hw with rfl | rfl | rfl <;> decide
      have hww : IntKind.u32.wrap wi = wi := Int.emod_eq_of_lt (by omega) (by show _ < (4294967296 : Int); omega)
      have dhas : decide (2147483648 ≤ at_ ∧ at_ + wi ≤ 2147483648 + 65536) = true := decide_eq_true ⟨hi1, hi2⟩
      cases sto
      · have hmay : mayB F.cf at_ wi 1 = true := hmay0
        have hFq : ∀ {wq : World}, Hp w7 [⟨c10, [.int .u32 wd, .bool false, .int .u32 c1a, .int .u32 tl1, .int .u32 at_, .int .i64 wi, .bool false], 32⟩, ⟨c8, xs, 26⟩, ⟨c1, [.slice wa wn wc, .slice xa xn xc, .slice la ln lc, .bool true, .slice ca cn cc, .int .u32 pc0], 39⟩] wq → FX wq cf F' := fun hq => hS7.2.1.upd hq.upd (fun y => y (by repeat (first | exact trivial | refine ⟨by first | omega | (simp only; omega), ?_⟩)))
        have hTq : ∀ {wq : World}, Hp w7 [⟨c10, [.int .u32 wd, .bool false, .int .u32 c1a, .int .u32 tl1, .int .u32 at_, .int .i64 wi, .bool false], 32⟩, ⟨c8, xs, 26⟩, ⟨c1, [.slice wa wn wc, .slice xa xn xc, .slice la ln lc, .bool true, .slice ca cn cc, .int .u32 pc0], 39⟩] wq → tabOk wq := fun hq => hS7.2.2.2.2.2.2.1.upd hq.upd (fun y => y (by repeat (first | exact trivial | refine ⟨by first | omega | (simp only; omega), ?_⟩)))
        repeat' (first | (apply Wl.loadO; exact rfl; exact rfl; (first | assumption); (repeat (first | exact trivial | refine ⟨by first | omega | (simp only; omega), ?_⟩))) | ((first | apply Wl.callQQ (f := 17) (v := .bool true) | apply Wl.callQ (f := 17) (v := .bool true)); exact rfl; (repeat (first | exact Evs.nil | apply Evs.cons rfl)); (intro wq hq; refine (may1X cf F' _ _ _ wq (hFq hq) hm' (hTq hq)).mono ?_; rintro e wr ⟨rfl, hr⟩; exact ⟨by first | rw [ecf, hmay] | rw [ecf, hex], hq.keep hr⟩)) | ((first | apply Wl.callQQ (f := 18) (v := .bool true) | apply Wl.callQ (f := 18) (v := .bool true)); exact rfl; (repeat (first | exact Evs.nil | apply Evs.cons rfl)); (intro wq hq; (first | rw [hww] | skip); refine (has_any cM at_ wi wq ⟨by omega, by omega⟩ ⟨by omega, by omega⟩).mono ?_; rintro e wr ⟨rfl, hr⟩; exact ⟨by rw [dhas], hq.keep hr⟩)) | (apply Wl.move; exact rfl; exact rfl) | (apply Wl.assign; exact rfl; exact rfl) | (apply Wl.on; exact rfl; exact rfl; (first | with_reducible rfl | with_reducible assumption | decide)) | (apply Wl.off; exact rfl; exact rfl; exact rfl; (first | with_reducible rfl | (show _ = false; with_reducible assumption) | (show _ = true; with_reducible assumption) | decide)) | (apply Wl.nilCheck; exact rfl; exact rfl) | (apply Wl.pickT; exact rfl; exact rfl; (first | with_reducible rfl | with_reducible assumption | decide); exact rfl) | (apply Wl.pickF; exact rfl; exact rfl; (first | with_reducible rfl | with_reducible assumption | decide); exact rfl) | (apply Wl.not; exact rfl; exact rfl) | (apply Wl.fieldAddrZ; exact rfl; exact rfl) | (apply Wl.loadH; exact rfl; exact rfl; (repeat (first | exact List.Mem.head _ | apply List.Mem.tail)); exact rfl) | (apply Wl.lss; exact rfl; exact rfl; exact rfl) | (apply Wl.gtr; exact rfl; exact rfl; exact rfl) | (apply Wl.addI; exact rfl; exact rfl; exact rfl; (constructor <;> omega)) | (apply Wl.convU32; exact rfl; exact rfl; (constructor <;> omega)) | (apply Wl.nil) | (apply Wl.nilQ) | (apply St.seq) | (apply St.region) | (apply St.draw; exact mixed; (kernel_rfl); exact (fun _ h => Hp.drew h)) | (apply St.condT; exact rfl; (first | with_reducible rfl | with_reducible assumption | decide)) | (apply St.condF; exact rfl; (first | with_reducible rfl | with_reducible assumption | decide)) | (apply St.skip) | (apply St.exit) | (apply Gt.next) | (apply Gt.thenExit) | (apply Gt.inNormal) | (apply Gt.inExit))
        apply Gt.reb (H' := [⟨c1, [.slice wa wn wc, .slice xa xn xc, .slice la ln lc, .bool true, .slice ca cn cc, .int .u32 pc0], 39⟩])
        intro w8 hw8
        refine ⟨hw8.own.2.2, hw8.apart.2.2, ?_⟩
        have hS8 := hS7.upd hw8.upd (fun y => y (by repeat (first | exact trivial | refine ⟨by first | omega | (simp only; omega), ?_⟩))) (fun y => y (by repeat (first | exact trivial | refine ⟨by first | omega | (simp only; omega), ?_⟩))) (fun y => y (by repeat (first | exact trivial | refine ⟨by first | omega | (simp only; omega), ?_⟩))) (fun y => y (by repeat (first | exact trivial | refine ⟨by first | omega | (simp only; omega), ?_⟩)))
        have hu8 : Upd (fun k => w.heap.size ≤ k) w w8 := hw8.on hu7 (by simp; omega)
        have sz8 := hw8.upd.size
        apply Gt.round (i + 1, w8, xs', pc', F', f')
        rotate_left
        · simp only; omega
        · (repeat (first | exact Sub.nil | apply Sub.cons rfl))
        · exact fun _ h => h
        · exact ⟨hlt, hS8, .inl hm', hu8, by simp only; omega⟩
      · have hmay : mayB F.cf at_ wi 2 = true := hmay0
        have hFq : ∀ {wq : World}, Hp w7 [⟨c10, [.int .u32 wd, .bool false, .int .u32 c1a, .int .u32 tl1, .int .u32 at_, .int .i64 wi, .bool true], 32⟩, ⟨c8, xs, 26⟩, ⟨c1, [.slice wa wn wc, .slice xa xn xc, .slice la ln lc, .bool true, .slice ca cn cc, .int .u32 pc0], 39⟩] wq → FX wq cf F' := fun hq => hS7.2.1.upd hq.upd (fun y => y (by repeat (first | exact trivial | refine ⟨by first | omega | (simp only; omega), ?_⟩)))
        have hTq : ∀ {wq : World}, Hp w7 [⟨c10, [.int .u32 wd, .bool false, .int .u32 c1a, .int .u32 tl1, .int .u32 at_, .int .i64 wi, .bool true], 32⟩, ⟨c8, xs, 26⟩, ⟨c1, [.slice wa wn wc, .slice xa xn xc, .slice la ln lc, .bool true, .slice ca cn cc, .int .u32 pc0], 39⟩] wq → tabOk wq := fun hq => hS7.2.2.2.2.2.2.1.upd hq.upd (fun y => y (by repeat (first | exact trivial | refine ⟨by first | omega | (simp only; omega), ?_⟩)))
        repeat' (first | (apply Wl.loadO; exact rfl; exact rfl; (first | assumption); (repeat (first | exact trivial | refine ⟨by first | omega | (simp only; omega), ?_⟩))) | ((first | apply Wl.callQQ (f := 17) (v := .bool true) | apply Wl.callQ (f := 17) (v := .bool true)); exact rfl; (repeat (first | exact Evs.nil | apply Evs.cons rfl)); (intro wq hq; refine (may1X cf F' _ _ _ wq (hFq hq) hm' (hTq hq)).mono ?_; rintro e wr ⟨rfl, hr⟩; exact ⟨by first | rw [ecf, hmay] | rw [ecf, hex], hq.keep hr⟩)) | ((first | apply Wl.callQQ (f := 18) (v := .bool true) | apply Wl.callQ (f := 18) (v := .bool true)); exact rfl; (repeat (first | exact Evs.nil | apply Evs.cons rfl)); (intro wq hq; (first | rw [hww] | skip); refine (has_any cM at_ wi wq ⟨by omega, by omega⟩ ⟨by omega, by omega⟩).mono ?_; rintro e wr ⟨rfl, hr⟩; exact ⟨by rw [dhas], hq.keep hr⟩)) | (apply Wl.move; exact rfl; exact rfl) | (apply Wl.assign; exact rfl; exact rfl) | (apply Wl.on; exact rfl; exact rfl; (first | with_reducible rfl | with_reducible assumption | decide)) | (apply Wl.off; exact rfl; exact rfl; exact rfl; (first | with_reducible rfl | (show _ = false; with_reducible assumption) | (show _ = true; with_reducible assumption) | decide)) | (apply Wl.nilCheck; exact rfl; exact rfl) | (apply Wl.pickT; exact rfl; exact rfl; (first | with_reducible rfl | with_reducible assumption | decide); exact rfl) | (apply Wl.pickF; exact rfl; exact rfl; (first | with_reducible rfl | with_reducible assumption | decide); exact rfl) | (apply Wl.not; exact rfl; exact rfl) | (apply Wl.fieldAddrZ; exact rfl; exact rfl) | (apply Wl.loadH; exact rfl; exact rfl; (repeat (first | exact List.Mem.head _ | apply List.Mem.tail)); exact rfl) | (apply Wl.lss; exact rfl; exact rfl; exact rfl) | (apply Wl.gtr; exact rfl; exact rfl; exact rfl) | (apply Wl.addI; exact rfl; exact rfl; exact rfl; (constructor <;> omega)) | (apply Wl.convU32; exact rfl; exact rfl; (constructor <;> omega)) | (apply Wl.nil) | (apply Wl.nilQ) | (apply St.seq) | (apply St.region) | (apply St.draw; exact mixed; (kernel_rfl); exact (fun _ h => Hp.drew h)) | (apply St.condT; exact rfl; (first | with_reducible rfl | with_reducible assumption | decide)) | (apply St.condF; exact rfl; (first | with_reducible rfl | with_reducible assumption | decide)) | (apply St.skip) | (apply St.exit) | (apply Gt.next) | (apply Gt.thenExit) | (apply Gt.inNormal) | (apply Gt.inExit))
        apply Gt.reb (H' := [⟨c1, [.slice wa wn wc, .slice xa xn xc, .slice la ln lc, .bool true, .slice ca cn cc, .int .u32 pc0], 39⟩])
        intro w8 hw8
        refine ⟨hw8.own.2.2, hw8.apart.2.2, ?_⟩
        have hS8 := hS7.upd hw8.upd (fun y => y (by repeat (first | exact trivial | refine ⟨by first | omega | (simp only; omega), ?_⟩))) (fun y => y (by repeat (first | exact trivial | refine ⟨by first | omega | (simp only; omega), ?_⟩))) (fun y => y (by repeat (first | exact trivial | refine ⟨by first | omega | (simp only; omega), ?_⟩))) (fun y => y (by repeat (first | exact trivial | refine ⟨by first | omega | (simp only; omega), ?_⟩)))
        have hu8 : Upd (fun k => w.heap.size ≤ k) w w8 := hw8.on hu7 (by simp; omega)
        have sz8 := hw8.upd.size
        apply Gt.round (i + 1, w8, xs', pc', F', f')
        rotate_left
        · simp only; omega
        · (repeat (first | exact Sub.nil | apply Sub.cons rfl))
        · exact fun _ h => h
        · exact ⟨hlt, hS8, .inl hm', hu8, by simp only; omega⟩
end Go.Proofs.YtcefkbnachnciaaDoor
end
section
namespace Go.Proofs.YtcefkbnachnciaaDoor
open Go.RowKit Go.Pt
end Go.Proofs.YtcefkbnachnciaaDoor
end
section
namespace Go.Proofs.YtcefkbnachnciaaDoor
open Go.RowKit Go.Pt Go.ChangeShapes Go.WideShapes Go.ChangeAt
theorem open_list {α : Type} {H : Type} {enc : TypeId × Value → H} {P : Program} {w : World} {t e sz : Nat} {v : Value} (g : α → List Value) (ok : α → Prop) (ht : P.underlying t = some (.slice e)) (hc : P.cellsOf e = sz) (hs : 0 < sz)
    (hone : ∀ c, Tr enc P w e c → c.length = sz → ∃ x, c = g x ∧ ok x) (h : Tr enc P w t [v]) : ∃ l : List α, Sv w sz l.length v (l.flatMap g) ∧ (∀ x ∈ l, ok x) ∧ l.length * P.bytesOf e ≤ reachBytes := by
  obtain ⟨es, v', e, hsv, hes, hwt⟩ := h.slice ht hc hs
  simp only [List.cons.injEq, and_true] at e
  subst e
  have : ∃ ps : List α, es.flatten = ps.flatMap g ∧ es.length = ps.length ∧ ∀ p ∈ ps, ok p := by
    clear hsv hwt
    induction es with
    | nil => exact ⟨[], rfl, rfl, fun p hp => by cases hp⟩
    | cons c r ih =>
      obtain ⟨ps, h1, h2, h3⟩ := ih fun c hc => hes c (by simp [hc])
      obtain ⟨p, rfl, hp⟩ := hone c (hes c (by simp)).2 (hes c (by simp)).1
      exact ⟨p :: ps, by simp [h1], by simp [h2], fun q hq => by
        rcases List.mem_cons.1 hq with rfl | hq
        · exact hp
        · exact h3 q hq⟩
  obtain ⟨ps, h1, h2, h3⟩ := this
  rw [h1, h2] at hsv
  rw [h2] at hwt
  exact ⟨ps, hsv, h3, hwt⟩
theorem sv_at {α : Type} {w : World} {g : α → List Value} {m n cap : Nat} {a : Option Addr} {l : List α} (hg : ∀ x, (g x).length = m) (h : Sv w m l.length (.slice a n cap) (l.flatMap g)) : n = l.length ∧ ∀ (i : Nat) (x : α), l[i]? = some x → 0 < m → ∃ b o, a = some ⟨b, o, none⟩ ∧ ∀ j v, (g x)[j]? = some v → w.cell? ⟨b, o + i * m + j, none⟩ = some v := by
  obtain ⟨hlen, a', cap', e, _, _, _, hc⟩ := h
  simp only [Value.slice.injEq] at e
  obtain ⟨rfl, rfl, rfl⟩ := e
  refine ⟨rfl, fun i x hx hm => ?_⟩
  have h1 : ∀ j v, (g x)[j]? = some v → (l.flatMap g)[i * m + j]? = some v := fun j v hj => by
    have hjm : j < m := by rw [← hg x]; exact (List.getElem?_eq_some_iff.1 hj).1
    rw [flatN hg hx hjm]; exact hj
  have hne : l.flatMap g ≠ [] := by
    intro e0
    have hx0 : (g x)[0]? = some ((g x)[0]'(by rw [hg]; exact hm)) := List.getElem?_eq_getElem _
    have := h1 0 _ hx0
    rw [e0] at this
    cases this
  obtain ⟨b, o, rfl, hcc⟩ := hc hne
  refine ⟨b, o, rfl, fun j v hj => ?_⟩
  obtain ⟨l1, e1⟩ := List.getElem?_eq_some_iff.1 (h1 j v hj)
  rw [Nat.add_assoc, hcc _ l1, e1]
def entC (p : Int × Int × Int) : List Value := [.int .i64 p.1, .int .i64 p.2.1, .int .u32 p.2.2]
theorem Tr.entry {H : Type} {enc : TypeId × Value → H} {w : World} (c : List Value) (h : Tr enc Tryd.prog w 49 c) (hl : c.length = 3) : ∃ p, c = entC p ∧ True := by
  have ht := Tryd.underlying49
  match c, hl with
  | [c0, c1, c2], _ =>
    obtain ⟨x, e0, _⟩ := (h.field1 ht 0 (ft := 3) (off := 0) rfl (by kernel_rfl) rfl).int Tryd.underlying3
    obtain ⟨y, e1, _⟩ := (h.field1 ht 1 (ft := 3) (off := 1) rfl (by kernel_rfl) rfl).int Tryd.underlying3
    obtain ⟨z, e2, _⟩ := (h.field1 ht 2 (ft := 22) (off := 2) rfl (by kernel_rfl) rfl).int Tryd.underlying22
    simp only [List.cons.injEq, and_true] at e0 e1 e2
    subst e0 e1 e2
    exact ⟨(x, y, z), rfl, trivial⟩
theorem reach47 : reachBytes ≤ 140737488355328 := by decide
theorem open_ents {H : Type} {enc : TypeId × Value → H} {w : World} {v : Value} (h : Tr enc Tryd.prog w 37 [v]) : ∃ a n cap, v = .slice a n cap ∧ EntS w a n ∧ n ≤ 140737488355328 := by
  obtain ⟨l, h1, _, hb⟩ := open_list entC (fun _ => True) Tryd.underlying37 (sz := 3) (by kernel_rfl) (by decide) Tr.entry h
  obtain ⟨_, a, cap, e, _⟩ := id h1
  subst e
  obtain ⟨_, hat⟩ := sv_at (m := 3) (fun _ => rfl) h1
  refine ⟨a, l.length, cap, rfl, fun i hi => ?_, ?_⟩
  · obtain ⟨b, o, rfl, hc⟩ := hat i _ (List.getElem?_eq_getElem hi) (by decide)
    exact ⟨b, o, rfl, _, _, _, hc 0 _ rfl, hc 1 _ rfl, hc 2 _ rfl⟩
  · have hby : Tryd.prog.bytesOf 49 = 24 := by kernel_rfl
    rw [hby] at hb
    have := reach47
    omega
theorem u32r {n : Int} (h : IntKind.u32.min ≤ n ∧ n ≤ IntKind.u32.max) : 0 ≤ n ∧ n < 4294967296 := by
  have h' : 0 ≤ n ∧ n ≤ 4294967295 := h
  omega
end Go.Proofs.YtcefkbnachnciaaDoor
end
