/-
  3 texts, one behind the other; each says what it proves. Conditions: as each text says.
-/
import Derived.Test.YtcefkbnachnciaaDoorM04
import Derived.Test.YtcefkbnachnciaaDoorM02
import Derived.Test.YtcefkbnachnciaaDoorMOpen2
section
namespace Go.Proofs.YtcefkbnachnciaaDoor
open Go.RowKit Go.Pt
theorem hpNil (w : World) : Hp w [] w := ⟨Upd.refl _ _, trivial, trivial⟩
theorem _root_.Go.Pt.Hp.fin {w w1 w' : World} {H : List Blk} (hp : Hp w1 H w') (hu : Upd (fun k => w.heap.size ≤ k) w w1) (hH : ∀ x ∈ H, w.heap.size ≤ x.b) : Hp w [] w' := (hpNil w).newer (hp.on hu hH)
theorem stepSum {w' : World} {h cf cM : Nat} {xs : List Value} {pc : Int} {F : Fs} {f : Nat → Int} {v : Value} (hmd : F.md = 0) (k : StepO w' h cf cM xs pc F f v) :
    ∃ (wd c1 tl1 at_ wi : Int) (tr st : Bool) (xs' : List Value) (pc' : Int) (F' : Fs) (f' : Nat → Int), v = trc wd tr c1 tl1 at_ wi st ∧ SS w' h cf cM xs' pc' F' f' ∧ F'.tv = F.tv ∧ F'.sc = F.sc ∧ F'.cf = F.cf ∧
      ((tr = true ∧ F'.md = 3 ∧ pc' = F.tv ∧ bits .and .u32 F'.st 6144 = 0) ∨ (tr = false ∧ F'.md = 0 ∧ F'.st = F.st)) := by
  have trap : ∀ {wd c1 tl1 at_ wi : Int} {st : Bool}, TrapP w' h cf cM xs pc F f c1 tl1 → ∃ (wd' c1' tl1' at_' wi' : Int) (tr' st' : Bool) (xs' : List Value) (pc' : Int) (F' : Fs) (f' : Nat → Int), trc wd true c1 tl1 at_ wi st = trc wd' tr' c1' tl1' at_' wi' st' ∧ SS w' h cf cM xs' pc' F' f' ∧ F'.tv = F.tv ∧ F'.sc = F.sc ∧ F'.cf = F.cf ∧
      ((tr' = true ∧ F'.md = 3 ∧ pc' = F.tv ∧ bits .and .u32 F'.st 6144 = 0) ∨ (tr' = false ∧ F'.md = 0 ∧ F'.st = F.st)) := by
    rintro wd c1 tl1 at_ wi st ⟨s', _, h11, h12, hS⟩
    exact ⟨_, _, _, _, _, _, _, _, _, _, _, rfl, hS, rfl, rfl, rfl, .inl ⟨rfl, rfl, rfl, and6144 s' h11 h12⟩⟩
  rcases k with ⟨_, rfl, hT⟩ | ⟨_, hO, _⟩
  · exact trap hT
  · obtain ⟨wd, c1, tl1, at_, wi, tr, st, rfl, _, hO⟩ := hO
    rcases hO with ⟨rfl, hT⟩ | ⟨rfl, _, xs', pc', f', hS, _⟩
    · exact trap hT
    · exact ⟨_, _, _, _, _, _, _, _, _, _, _, rfl, hS, rfl, rfl, rfl, .inr ⟨rfl, hmd, rfl⟩⟩
theorem k60 (n : Int) : ∃ K : Nat, (n.tmod 60 + 60).tmod 60 = (K : Int) ∧ K < 60 ∧ -60 < n.tmod 60 ∧ n.tmod 60 < 60 := by
  have h1 : -60 < n.tmod 60 ∧ n.tmod 60 < 60 := by
    rcases Int.le_total 0 n with h | h
    · have := Int.tmod_eq_emod_of_nonneg (b := 60) h
      omega
    · have e : n.tmod 60 = -((-n).tmod 60) := by rw [Int.neg_tmod, Int.neg_neg]
      have := Int.tmod_eq_emod_of_nonneg (a := -n) (b := 60) (by omega)
      omega
  have h2 : 0 ≤ n.tmod 60 + 60 := by omega
  have h3 := Int.tmod_eq_emod_of_nonneg (b := 60) h2
  refine ⟨((n.tmod 60 + 60) % 60).toNat, ?_, by omega, h1.1, h1.2⟩
  rw [h3]; omega
set_option maxHeartbeats 16000000 in
theorem user16 (wa xa la ca : Option Addr) (wn wc xn xc ln lc cn cc : Nat) (us : Bool) (pc0 n : Int) (w : World) (hW : WordS w wa wn) (hX : PairS w xa xn) (hL : EntS w la ln) (hC : PairS w ca cn) (hT : tabOk w) :
    Calls Tryd.prog 4 #[.agg #[.slice wa wn wc, .slice xa xn xc, .slice la ln lc, .bool us, .slice ca cn cc, .int .u32 pc0], .int .i64 n] w fun e w' => e = .returned (.bool true) ∧ Hp w [] w' := by
  have hT0 := hT.lt
  obtain ⟨K, hK, hK60, hn1, hn2⟩ := k60 n
  refine enter (args := [_, _]) (Γ := [(0, _), (1, _)]) Tryd.func4 Tryd.ntmps4 rfl (of_decide_eq_true rfl) (.cons rfl (.cons rfl .nil)) ?_
  apply St.seq
  apply St.region
  apply Wl.boxA
  · exact rfl
  · exact rfl
  intro c1 hc1 ho1
  by_cases hsm : wn ≤ 300 ∧ xn ≤ 100 ∧ ln ≤ 16 ∧ cn ≤ 100
  rotate_left
  · have hd : decide (wn ≤ 300 ∧ xn ≤ 100 ∧ ln ≤ 16 ∧ cn ≤ 100) = false := decide_eq_false hsm
    have hd2 : (!decide (wn ≤ 300 ∧ xn ≤ 100 ∧ ln ≤ 16 ∧ cn ≤ 100)) = true := by rw [hd]; rfl
    repeat' (first | (apply Wl.callQ (f := 7); exact rfl; (repeat (first | exact Evs.nil | apply Evs.cons rfl)); (intro wq hq; refine (fit16 wq).mono ?_; rintro e wr ⟨rfl, hr⟩; exact ⟨rfl, hq.keep hr⟩)) | (apply Wl.callQ (f := 10); exact rfl; (repeat (first | exact Evs.nil | apply Evs.cons rfl)); (intro wq hq; refine (small16 _ _ _ _ _ _ _ _ _ _ _ _ _ _ wq).mono ?_; rintro e wr ⟨rfl, hr⟩; exact ⟨rfl, hq.keep hr⟩)) | (apply Wl.assign; exact rfl; exact rfl) | (apply Wl.not; exact rfl; exact rfl) | (apply Wl.loadAH; exact rfl; exact rfl; (repeat (first | exact List.Mem.head _ | apply List.Mem.tail)); (repeat (first | apply LSub.z | apply LSub.t | apply LSub.s))) | (apply Wl.nil) | (apply St.seq) | (apply St.region) | (apply St.condT; exact rfl; (first | with_reducible rfl | with_reducible assumption | decide)) | (apply St.condF; exact rfl; (first | with_reducible rfl | with_reducible assumption | decide)) | (apply St.ret) | (apply St.skip) | (apply Gt.next) | (apply Gt.thenRet) | (apply Gt.out1; exact rfl; exact rfl; intro w' hp))
    exact ⟨rfl, hp.drop (by simp; omega)⟩
  have hd : decide (wn ≤ 300 ∧ xn ≤ 100 ∧ ln ≤ 16 ∧ cn ≤ 100) = true := decide_eq_true hsm
  have hd2 : (!decide (wn ≤ 300 ∧ xn ≤ 100 ∧ ln ≤ 16 ∧ cn ≤ 100)) = false := by rw [hd]; rfl
  obtain ⟨s1, s2, s3, s4⟩ := hsm
  repeat' (first | (apply Wl.callQ (f := 7); exact rfl; (repeat (first | exact Evs.nil | apply Evs.cons rfl)); (intro wq hq; refine (fit16 wq).mono ?_; rintro e wr ⟨rfl, hr⟩; exact ⟨rfl, hq.keep hr⟩)) | (apply Wl.callQ (f := 10); exact rfl; (repeat (first | exact Evs.nil | apply Evs.cons rfl)); (intro wq hq; refine (small16 _ _ _ _ _ _ _ _ _ _ _ _ _ _ wq).mono ?_; rintro e wr ⟨rfl, hr⟩; exact ⟨rfl, hq.keep hr⟩)) | (apply Wl.assign; exact rfl; exact rfl) | (apply Wl.not; exact rfl; exact rfl) | (apply Wl.fieldAddrZ; exact rfl; exact rfl) | (apply Wl.store; exact rfl; exact rfl; exact rfl; (repeat (first | apply HSet.here | apply HSet.there)); (repeat (first | apply LSet.z | apply LSet.s))) | (apply Wl.loadAH; exact rfl; exact rfl; (repeat (first | exact List.Mem.head _ | apply List.Mem.tail)); (repeat (first | apply LSub.z | apply LSub.t | apply LSub.s))) | (apply Wl.nil) | (apply St.seq) | (apply St.region) | (apply St.condF; exact rfl; (first | with_reducible rfl | with_reducible assumption | decide)) | (apply St.skip) | (apply Gt.next))
  apply Wl.callC
  · exact rfl
  · (repeat (first | exact Evs.nil | apply Evs.cons rfl))
  intro wq hq
  have ou : ∀ k, k < w.heap.size → ¬ ¬ Off [⟨c1, [.slice wa wn wc, .slice xa xn xc, .slice la ln lc, .bool true, .slice ca cn cc, .int .u32 pc0], 39⟩] k := fun k hk y => y ⟨by simp only; omega, trivial⟩
  have uN : ∀ {S : Nat → Prop} {a : Addr} {v : Value}, True := trivial
  have cu : ∀ {a : Addr} {v : Value}, w.cell? a = some v → wq.cell? a = some v := fun {a v} ha => hq.upd.cell ha (ou _ (World.block_lt_of_cell? w _ ha))
  refine (begin_any wa xa la ca wn wc xn xc ln lc cn cc pc0 wq (fun i hi => by obtain ⟨b, o, e, x, h1, h2⟩ := hW i hi; exact ⟨b, o, e, x, cu h1, h2⟩) (fun i hi => by obtain ⟨b, o, e, x, y, h1, h2⟩ := hX i hi; exact ⟨b, o, e, x, y, ⟨cu h1.1, h1.2⟩, ⟨cu h2.1, h2.2⟩⟩) (fun i hi => by obtain ⟨b, o, e, x, y, z, h1, h2, h3⟩ := hL i hi; exact ⟨b, o, e, x, y, z, cu h1, cu h2, cu h3⟩) (fun i hi => by obtain ⟨b, o, e, x, y, h1, h2⟩ := hC i hi; exact ⟨b, o, e, x, y, ⟨cu h1.1, h1.2⟩, ⟨cu h2.1, h2.2⟩⟩) s1 s2 s3 s4 (hT.upd hq.upd (ou 0 hT0))).mono ?_
  rintro e w1 ⟨p, h, cf, cM, cH, xs0, pc1, F0, f0, rfl, hP1, hS1, hmd1, ⟨gp, gh, gf, gM⟩, ⟨n1, n2, n3⟩, u1⟩
  have lq := hq.own.lt (.head _)
  simp only at lq
  have sq := hq.upd.size
  have hq1 := hq.newer u1
  have hu1 : Upd (fun k => w.heap.size ≤ k) w w1 := hq1.on (Upd.refl _ _) (by simp; omega)
  refine ⟨_, _, rfl, hq1.rb, ?_⟩
  clear hq hq1 u1 cu ou uN
  have lt1 := hS1.lts
  have lp1 := lt_of_block hP1
  obtain ⟨nz1, nz2, nz3⟩ := hS1.2.2.2.2.2.2.2.1
  have p0 : w1.cell? ⟨p, 0, none⟩ = some (.pointer (some ⟨h, 0, none⟩)) := cell_of hP1 rfl
  obtain ⟨c32, c33, c34⟩ := hS1.1.at1
  repeat' (first | (apply Wl.loadO; exact rfl; exact rfl; (first | assumption); (repeat (first | exact trivial | refine ⟨by first | omega | (simp only; omega), ?_⟩))) | (apply Wl.move; exact rfl; exact rfl) | (apply Wl.assign; exact rfl; exact rfl) | (apply Wl.nilCheck; exact rfl; exact rfl) | (apply Wl.fieldAddr0; exact rfl; exact rfl) | (apply Wl.fieldAddrZ; exact rfl; exact rfl) | (apply Wl.nil) | (apply St.seq) | (apply St.region) | (apply Gt.next))
  apply Wl.callC
  · exact rfl
  · (repeat (first | exact Evs.nil | apply Evs.cons rfl))
  intro wq hq
  have sq1 := hq.upd.size
  have hSq := hS1.upd hq.upd (fun y => y ⟨by simp only; omega, trivial⟩) (fun y => y ⟨by simp only; omega, trivial⟩) (fun y => y ⟨by simp only; omega, trivial⟩) (fun y => y ⟨by simp only; omega, trivial⟩)
  refine (entX cf F0 wq hSq.2.1).mono ?_
  rintro e w2 ⟨lb, lo, lcp, rfl, hE2, hlb, hlb2, u2⟩
  have hq2 := hq.newer u2
  have hS2 := hS1.upd hq2.upd (fun y => y ⟨by simp only; omega, trivial⟩) (fun y => y ⟨by simp only; omega, trivial⟩) (fun y => y ⟨by simp only; omega, trivial⟩) (fun y => y ⟨by simp only; omega, trivial⟩)
  have hP2 := hq2.upd.heap hP1 (fun y => y ⟨by simp only; omega, trivial⟩)
  have hu2 : Upd (fun k => w.heap.size ≤ k) w w2 := hq2.on hu1 (by simp; omega)
  have sz2 := hq2.upd.size
  refine ⟨_, _, rfl, hq2.rb, ?_⟩
  clear hq hq2 u2 hS1 hSq hP1 hu1 p0 c32 c33 c34
  generalize hcf0 : F0.cf = cf0 at hE2
  repeat' (first | (apply Wl.move; exact rfl; exact rfl) | (apply Wl.assign; exact rfl; exact rfl) | (apply Wl.addI; exact rfl; exact rfl; exact rfl; (constructor <;> omega)) | (apply Wl.rem; exact rfl; exact rfl; exact rfl; (first | decide | omega)) | (apply Wl.nil) | (apply St.seq) | (apply St.block) | (apply St.region) | (apply Gt.next))
  rw [hK]
  repeat' (first | (apply Wl.move; exact rfl; exact rfl) | (apply Wl.assign; exact rfl; exact rfl) | (apply Wl.on; exact rfl; exact rfl; (first | with_reducible rfl | with_reducible assumption | decide)) | (apply Wl.off; exact rfl; exact rfl; exact rfl; (first | with_reducible rfl | (show _ = false; with_reducible assumption) | (show _ = true; with_reducible assumption) | decide)) | (apply Wl.offU; exact rfl; exact rfl; exact rfl) | (apply Wl.extract; exact rfl; exact rfl; exact rfl) | (apply Wl.nilCheck; exact rfl; exact rfl) | (apply Wl.pickT; exact rfl; exact rfl; (first | with_reducible rfl | with_reducible assumption | decide); exact rfl) | (apply Wl.pickF; exact rfl; exact rfl; (first | with_reducible rfl | with_reducible assumption | decide); exact rfl) | (apply Wl.not; exact rfl; exact rfl) | (apply Wl.fieldAddr0; exact rfl; exact rfl) | (apply Wl.fieldAddrZ; exact rfl; exact rfl) | (apply Wl.fieldAddr; exact rfl; exact rfl) | (apply Wl.loadH; exact rfl; exact rfl; (repeat (first | exact List.Mem.head _ | apply List.Mem.tail)); exact rfl) | (apply Wl.loadO; exact rfl; exact rfl; (assumption); (repeat (first | exact trivial | refine ⟨by first | assumption | omega, ?_⟩))) | (apply Wl.eqlPN; exact rfl; exact rfl; exact rfl) | (apply Wl.neqPN; exact rfl; exact rfl; exact rfl) | (apply Wl.eqlNN; exact rfl; exact rfl; exact rfl) | (apply Wl.neqNN; exact rfl; exact rfl; exact rfl) | (apply Wl.eqlIs; exact rfl; exact rfl; exact rfl; (first | with_reducible assumption | with_reducible rfl)) | (apply Wl.neqIs; exact rfl; exact rfl; exact rfl; (first | with_reducible assumption | with_reducible rfl)) | (apply Wl.eql; exact rfl; exact rfl; exact rfl) | (apply Wl.neq; exact rfl; exact rfl; exact rfl) | (apply Wl.lss; exact rfl; exact rfl; exact rfl) | (apply Wl.leq; exact rfl; exact rfl; exact rfl) | (apply Wl.gtr; exact rfl; exact rfl; exact rfl) | (apply Wl.geq; exact rfl; exact rfl; exact rfl) | (apply Wl.addI; exact rfl; exact rfl; exact rfl; (constructor <;> omega)) | (apply Wl.subI; exact rfl; exact rfl; exact rfl; (constructor <;> omega)) | (apply Wl.mulI; exact rfl; exact rfl; exact rfl; (constructor <;> omega)) | (apply Wl.addU; exact rfl; exact rfl; exact rfl; (constructor <;> omega)) | (apply Wl.add; exact rfl; exact rfl; exact rfl) | (apply Wl.sub'; exact rfl; exact rfl; exact rfl) | (apply Wl.mul; exact rfl; exact rfl; exact rfl) | (apply Wl.quo; exact rfl; exact rfl; exact rfl; (first | decide | omega)) | (apply Wl.rem; exact rfl; exact rfl; exact rfl; (first | decide | omega)) | (apply Wl.and; exact rfl; exact rfl; exact rfl) | (apply Wl.or; exact rfl; exact rfl; exact rfl) | (apply Wl.xor; exact rfl; exact rfl; exact rfl) | (apply Wl.andNot; exact rfl; exact rfl; exact rfl) | (apply Wl.shl; exact rfl; exact rfl; exact rfl; (omega)) | (apply Wl.shr; exact rfl; exact rfl; exact rfl; (omega)) | (apply Wl.eqlBs; exact rfl; exact rfl; exact rfl; (first | with_reducible assumption | with_reducible rfl)) | (apply Wl.neqBs; exact rfl; exact rfl; exact rfl; (first | with_reducible assumption | with_reducible rfl)) | (apply Wl.eqlB; exact rfl; exact rfl; exact rfl) | (apply Wl.neqB; exact rfl; exact rfl; exact rfl) | (apply Wl.eqlSB; exact rfl; exact rfl; exact rfl) | (apply Wl.neqSB; exact rfl; exact rfl; exact rfl) | (apply Wl.eqlS; exact rfl; exact rfl; exact rfl) | (apply Wl.neqS; exact rfl; exact rfl; exact rfl) | (apply Wl.convI64; exact rfl; exact rfl; (constructor <;> omega)) | (apply Wl.convU64; exact rfl; exact rfl; (constructor <;> omega)) | (apply Wl.convU32; exact rfl; exact rfl; (constructor <;> omega)) | (apply Wl.convU8; exact rfl; exact rfl; (constructor <;> omega)) | (apply Wl.convI; exact rfl; exact rfl) | (apply Wl.neg; exact rfl; exact rfl) | (apply Wl.compl; exact rfl; exact rfl) | (apply Wl.len; exact rfl; exact rfl) | (apply Wl.lenS; exact rfl; exact rfl) | (apply Wl.store; exact rfl; exact rfl; exact rfl; (repeat (first | apply HSet.here | apply HSet.there)); (repeat (first | apply LSet.z | apply LSet.s))) | (apply Wl.storeA; exact rfl; exact rfl; exact rfl; exact rfl; (repeat (first | apply HSet.here | apply HSet.there)); (repeat (first | apply LPut.s | apply LPut.z | apply LOver.nil | apply LOver.cons))) | (apply Wl.loadAH; exact rfl; exact rfl; (repeat (first | exact List.Mem.head _ | apply List.Mem.tail)); (repeat (first | apply LSub.z | apply LSub.t | apply LSub.s))) | (apply Wl.buildS; exact rfl; (repeat (first | exact Parts.nil | apply Parts.cons rfl)); (repeat (first | apply Fills.nil | (apply Fills.one; exact rfl; exact rfl; (repeat (first | apply LSet.z | apply LSet.s))) | (apply Fills.agg; exact rfl; exact rfl; (repeat (first | apply LPut.s | apply LPut.z | apply LOver.nil | apply LOver.cons)))))) | (apply Wl.buildA; exact rfl; (repeat (first | exact Parts.nil | apply Parts.cons rfl)); (repeat (first | apply Fills.nil | (apply Fills.one; exact rfl; exact rfl; (repeat (first | apply LSet.z | apply LSet.s))) | (apply Fills.agg; exact rfl; exact rfl; (repeat (first | apply LPut.s | apply LPut.z | apply LOver.nil | apply LOver.cons)))))) | (apply Wl.lit; exact rfl; (repeat (first | exact Parts.nil | apply Parts.cons rfl)); exact rfl; exact rfl; (repeat (first | apply CatP.nil | (apply CatP.one; exact rfl; exact rfl) | (apply CatP.agg; exact rfl) | apply LApp.nil | apply LApp.cons)); intro c hc ho) | (apply Wl.boxA; exact rfl; exact rfl; intro c hc ho) | (apply Wl.box1; exact rfl; exact rfl; exact rfl; intro c hc ho) | (apply Wl.alloc; exact rfl; intro c hc ho) | (apply Wl.slice0; exact rfl; exact rfl; (first | exact BoundIs.no | exact BoundIs.yes rfl (by omega)); (first | exact BoundIs.no | exact BoundIs.yes rfl (by omega)); (first | exact fun _ => rfl | exact fun h => nomatch h); (omega); (omega)) | (apply Wl.sliceFull; exact rfl; exact rfl; (first | exact BoundIs.no | exact BoundIs.yes rfl (by omega)); (first | exact BoundIs.no | exact BoundIs.yes rfl (by omega)); (first | exact BoundIs.no | exact BoundIs.yes rfl (by omega)); (first | exact fun _ => rfl | exact fun h => nomatch h); (omega); (omega); (omega)) | (apply Wl.indexAddr1; exact rfl; exact rfl; exact rfl; (constructor <;> omega)) | (apply Wl.indexAddr; exact rfl; exact rfl; exact rfl; (constructor <;> omega)) | (apply Wl.indexArr; exact rfl; exact rfl; exact rfl; (constructor <;> omega)) | (apply Wl.nil) | (apply Wl.nilQ) | (apply Wl.nilM) | (apply St.seq) | (apply St.block) | (apply St.region) | (apply St.condT; exact rfl; (first | with_reducible rfl | with_reducible assumption | decide)) | (apply St.condF; exact rfl; (first | with_reducible rfl | with_reducible assumption | decide)) | (apply St.ret) | (apply St.skip) | (apply St.exit) | (apply Gt.next) | (apply Gt.thenRet) | (apply Gt.thenExit) | (apply Gt.inNormal) | (apply Gt.inRet) | (apply Gt.inExit) | (apply Gt.inOther; exact rfl) | (apply Gt.out1; exact rfl; exact rfl; intro w' hp) | (apply Gt.out2; exact rfl; exact rfl; exact rfl; intro w' hp) | (apply Gt.out3; exact rfl; exact rfl; exact rfl; exact rfl; intro w' hp) | (apply Gt.out4; exact rfl; exact rfl; exact rfl; exact rfl; exact rfl; intro w' hp) | (apply Gt.out0; exact rfl; intro w' hp) | (apply Gt.out0n; exact rfl; intro w' hp) | (apply Wl.splitP; exact rfl; exact rfl; all_goals (intros; try (exfalso; omega))) | (apply Wl.splitB; exact rfl; exact rfl; all_goals intros) | (apply St.condP; exact rfl; all_goals (intros; try (exfalso; omega))) | (apply St.condB; exact rfl; all_goals intros))
  refine St.loop (σ := Nat × World × List Value × Int × Fs × (Nat → Int)) (fun τ => τ.1 ≤ K ∧ SS τ.2.1 h cf cM τ.2.2.1 τ.2.2.2.1 τ.2.2.2.2.1 τ.2.2.2.2.2 ∧ τ.2.2.2.2.1.md = 0 ∧ τ.2.2.2.2.1.cf = cf0 ∧ τ.2.1.heap[p]? = some (.cells #[.pointer (some ⟨h, 0, none⟩), .pointer (some ⟨cH, 0, none⟩)] 44 (0, 0)) ∧ EntX τ.2.1 (some ⟨lb, lo, none⟩) 16 (enF cf0) ∧ Upd (fun k => w.heap.size ≤ k) w τ.2.1 ∧ w2.heap.size ≤ τ.2.1.heap.size)
    (fun τ => [(5, .pointer (some ⟨p, 0, none⟩)), (6, .slice (some ⟨lb, lo, none⟩) 16 lcp), (42, .int .i64 (K : Int)), (43, .int .i64 (τ.1 : Int))]) (fun τ => Hp τ.2.1 [⟨c1, [.slice wa wn wc, .slice xa xn xc, .slice la ln lc, .bool true, .slice ca cn cc, .int .u32 pc0], 39⟩]) (fun τ => K - τ.1) (0, w2, xs0, pc1, F0, f0) ⟨Nat.zero_le _, hS2, hmd1, hcf0, hP2, hE2, hu2, Nat.le_refl _⟩ (by (repeat (first | exact Sub.nil | apply Sub.cons rfl))) (fun _ h => h) ?_
  clear hS2 hmd1 hcf0 hP2 hE2 hu2
  rintro ⟨i, w3, xs, pc, F, f⟩ ⟨hi, hS3, hmd, hcf, hP3, hE3, hu3, s23⟩
  simp only at hi hS3 hmd hcf hP3 hE3 hu3 s23 ⊢
  by_cases hlt : i < K
  · have hd3 : decide ((i : Int) < (K : Int)) = true := decide_eq_true (by omega)
    have p0 : w3.cell? ⟨p, 0, none⟩ = some (.pointer (some ⟨h, 0, none⟩)) := cell_of hP3 rfl
    obtain ⟨c32, c33, c34⟩ := hS3.1.at1
    have hFq : ∀ {wq : World}, Hp w3 [⟨c1, [.slice wa wn wc, .slice xa xn xc, .slice la ln lc, .bool true, .slice ca cn cc, .int .u32 pc0], 39⟩] wq → FX wq cf F := fun hq => hS3.2.1.upd hq.upd (fun y => y ⟨by simp only; omega, trivial⟩)
    repeat' (first | (apply Wl.loadO; exact rfl; exact rfl; (first | assumption); (repeat (first | exact trivial | refine ⟨by first | omega | (simp only; omega), ?_⟩))) | (apply Wl.move; exact rfl; exact rfl) | (apply Wl.nilCheck; exact rfl; exact rfl) | (apply Wl.fieldAddr0; exact rfl; exact rfl) | (apply Wl.fieldAddrZ; exact rfl; exact rfl) | (apply Wl.lss; exact rfl; exact rfl; exact rfl) | (apply Wl.nil) | (apply St.seq) | (apply St.block) | (apply St.region) | (apply St.condT; exact rfl; (first | with_reducible rfl | with_reducible assumption | decide)) | (apply St.skip) | (apply Gt.next))
    apply Wl.callQ
    exact rfl
    (repeat (first | exact Evs.nil | apply Evs.cons rfl))
    · intro wq hq
      refine (fread773 cf _ _ _ _ _ _ _ _ _ _ wq (hFq hq).2.2).mono ?_
      rintro e wr ⟨rfl, hr⟩
      exact ⟨rfl, hq.keep hr⟩
    repeat' (first | (apply Wl.loadO; exact rfl; exact rfl; (first | assumption); (repeat (first | exact trivial | refine ⟨by first | omega | (simp only; omega), ?_⟩))) | (apply Wl.move; exact rfl; exact rfl) | (apply Wl.assign; exact rfl; exact rfl) | (apply Wl.extract; exact rfl; exact rfl; exact rfl) | (apply Wl.nilCheck; exact rfl; exact rfl) | (apply Wl.fieldAddr0; exact rfl; exact rfl) | (apply Wl.fieldAddrZ; exact rfl; exact rfl) | (apply Wl.nil) | (apply St.seq) | (apply St.region) | (apply Gt.next))
    apply Wl.callQ
    exact rfl
    (repeat (first | exact Evs.nil | apply Evs.cons rfl))
    · intro wq hq
      refine (fread768 cf _ _ _ _ _ _ _ _ _ _ wq (hFq hq).2.2).mono ?_
      rintro e wr ⟨rfl, hr⟩
      exact ⟨rfl, hq.keep hr⟩
    repeat' (first | (apply Wl.loadO; exact rfl; exact rfl; (first | assumption); (repeat (first | exact trivial | refine ⟨by first | omega | (simp only; omega), ?_⟩))) | (apply Wl.move; exact rfl; exact rfl) | (apply Wl.assign; exact rfl; exact rfl) | (apply Wl.extract; exact rfl; exact rfl; exact rfl) | (apply Wl.nilCheck; exact rfl; exact rfl) | (apply Wl.fieldAddr0; exact rfl; exact rfl) | (apply Wl.fieldAddrZ; exact rfl; exact rfl) | (apply Wl.nil) | (apply St.seq) | (apply St.region) | (apply Gt.next))
    apply Wl.callQ
    exact rfl
    (repeat (first | exact Evs.nil | apply Evs.cons rfl))
    · intro wq hq
      refine (fread832 cf _ _ _ _ _ _ _ _ _ _ wq (hFq hq).2.2).mono ?_
      rintro e wr ⟨rfl, hr⟩
      exact ⟨rfl, hq.keep hr⟩
    repeat' (first | (apply Wl.loadO; exact rfl; exact rfl; (first | assumption); (repeat (first | exact trivial | refine ⟨by first | omega | (simp only; omega), ?_⟩))) | (apply Wl.move; exact rfl; exact rfl) | (apply Wl.assign; exact rfl; exact rfl) | (apply Wl.extract; exact rfl; exact rfl; exact rfl) | (apply Wl.nilCheck; exact rfl; exact rfl) | (apply Wl.fieldAddr0; exact rfl; exact rfl) | (apply Wl.nil) | (apply St.seq) | (apply St.region) | (apply Gt.next))
    apply Wl.callC
    · exact rfl
    · (repeat (first | exact Evs.nil | apply Evs.cons rfl))
    intro wq hq
    have sq3 := hq.upd.size
    have hSq := hS3.upd hq.upd (fun y => y ⟨by simp only; omega, trivial⟩) (fun y => y ⟨by simp only; omega, trivial⟩) (fun y => y ⟨by simp only; omega, trivial⟩) (fun y => y ⟨by simp only; omega, trivial⟩)
    refine (stepU h cf cM xs pc F f wq hSq hmd).mono ?_
    rintro e w4 ⟨v, rfl, hO, u4⟩
    have hq4 := Hp.rest hq u4 (by simp only [List.mem_cons, List.not_mem_nil, or_false, forall_eq_or_imp, forall_eq]; omega)
    obtain ⟨wd, c1a, tl1, at_, wi, tr, sto, xs', pc', F', f', rfl, hS4, e1, e2, e3, hcase⟩ := stepSum hmd hO
    refine ⟨_, _, rfl, hq4, ?_⟩
    have hP4 := u4.heap (hq.upd.heap hP3 (fun y => y ⟨by simp only; omega, trivial⟩)) (by omega)
    have hE4 : EntX w4 (some ⟨lb, lo, none⟩) 16 (enF cf0) := fun j hj => by
      obtain ⟨b, o, e, h1, h2, h3⟩ := hE3 j hj
      cases e
      exact ⟨lb, lo, rfl, u4.cell (hq.upd.cell h1 (fun y => y ⟨by simp only; omega, trivial⟩)) (by simp only; omega), u4.cell (hq.upd.cell h2 (fun y => y ⟨by simp only; omega, trivial⟩)) (by simp only; omega), u4.cell (hq.upd.cell h3 (fun y => y ⟨by simp only; omega, trivial⟩)) (by simp only; omega)⟩
    have hu4 : Upd (fun k => w.heap.size ≤ k) w w4 := (hq.on hu3 (by simp; omega)).comp u4 fun k hk hs => by omega
    have sz4 := u4.size
    clear hq hq4 u4 hSq hO hE3 hP3 p0 c32 c33 c34 hFq hu3
    have p0 : w4.cell? ⟨p, 0, none⟩ = some (.pointer (some ⟨h, 0, none⟩)) := cell_of hP4 rfl
    obtain ⟨c32, c33, c34⟩ := hS4.1.at1
    have hm4 : w4.cell? ⟨cf, 0, none⟩ = some (.int .i64 F'.md) := hS4.2.1.ff.two
    have lt4 := hS4.lts
    have hFq : ∀ {wq : World} {x : Blk}, Hp w4 [x, ⟨c1, [.slice wa wn wc, .slice xa xn xc, .slice la ln lc, .bool true, .slice ca cn cc, .int .u32 pc0], 39⟩] wq → w4.heap.size ≤ x.b → FX wq cf F' := fun hq hx => hS4.2.1.upd hq.upd (fun y => y ⟨by first | omega | (simp only; omega), by first | omega | (simp only; omega), trivial⟩)
    repeat' (first | (apply Wl.loadO; exact rfl; exact rfl; (first | assumption); (repeat (first | exact trivial | refine ⟨by first | omega | (simp only; omega), ?_⟩))) | (apply Wl.move; exact rfl; exact rfl) | (apply Wl.nilCheck; exact rfl; exact rfl) | (apply Wl.fieldAddr0; exact rfl; exact rfl) | (apply Wl.fieldAddrZ; exact rfl; exact rfl) | (apply Wl.storeA; exact rfl; exact rfl; exact rfl; exact rfl; (repeat (first | apply HSet.here | apply HSet.there)); (repeat (first | apply LPut.s | apply LPut.z | apply LOver.nil | apply LOver.cons))) | (apply Wl.alloc; exact rfl; intro c hc ho) | (apply Wl.nil) | (apply St.seq) | (apply St.region) | (apply Gt.next))
    generalize c = c13 at *
    have hc13 : w4.heap.size ≤ c13 := by assumption
    apply Wl.callQ
    exact rfl
    (repeat (first | exact Evs.nil | apply Evs.cons rfl))
    · intro wq hq
      refine (fread773 cf _ _ _ _ _ _ _ _ _ _ wq (hFq hq (by simp only; assumption)).2.2).mono ?_
      rintro e wr ⟨rfl, hr⟩
      exact ⟨rfl, hq.keep hr⟩
    repeat' (first | (apply Wl.loadO; exact rfl; exact rfl; (first | assumption); (repeat (first | exact trivial | refine ⟨by first | omega | (simp only; omega), ?_⟩))) | (apply Wl.move; exact rfl; exact rfl) | (apply Wl.assign; exact rfl; exact rfl) | (apply Wl.extract; exact rfl; exact rfl; exact rfl) | (apply Wl.nilCheck; exact rfl; exact rfl) | (apply Wl.fieldAddr0; exact rfl; exact rfl) | (apply Wl.fieldAddrZ; exact rfl; exact rfl) | (apply Wl.nil) | (apply St.seq) | (apply St.region) | (apply Gt.next))
    apply Wl.callQ
    exact rfl
    (repeat (first | exact Evs.nil | apply Evs.cons rfl))
    · intro wq hq
      refine (fread768 cf _ _ _ _ _ _ _ _ _ _ wq (hFq hq (by simp only; assumption)).2.2).mono ?_
      rintro e wr ⟨rfl, hr⟩
      exact ⟨rfl, hq.keep hr⟩
    repeat' (first | (apply Wl.loadO; exact rfl; exact rfl; (first | assumption); (repeat (first | exact trivial | refine ⟨by first | omega | (simp only; omega), ?_⟩))) | (apply Wl.move; exact rfl; exact rfl) | (apply Wl.assign; exact rfl; exact rfl) | (apply Wl.extract; exact rfl; exact rfl; exact rfl) | (apply Wl.nilCheck; exact rfl; exact rfl) | (apply Wl.fieldAddr0; exact rfl; exact rfl) | (apply Wl.fieldAddrZ; exact rfl; exact rfl) | (apply Wl.nil) | (apply St.seq) | (apply St.region) | (apply Gt.next))
    apply Wl.callQ
    exact rfl
    (repeat (first | exact Evs.nil | apply Evs.cons rfl))
    · intro wq hq
      refine (fread832 cf _ _ _ _ _ _ _ _ _ _ wq (hFq hq (by simp only; assumption)).2.2).mono ?_
      rintro e wr ⟨rfl, hr⟩
      exact ⟨rfl, hq.keep hr⟩
    repeat' (first | (apply Wl.loadO; exact rfl; exact rfl; (first | assumption); (repeat (first | exact trivial | refine ⟨by first | omega | (simp only; omega), ?_⟩))) | (apply Wl.move; exact rfl; exact rfl) | (apply Wl.assign; exact rfl; exact rfl) | (apply Wl.on; exact rfl; exact rfl; (first | with_reducible rfl | with_reducible assumption | decide)) | (apply Wl.extract; exact rfl; exact rfl; exact rfl) | (apply Wl.nilCheck; exact rfl; exact rfl) | (apply Wl.pickF; exact rfl; exact rfl; (first | with_reducible rfl | with_reducible assumption | decide); exact rfl) | (apply Wl.fieldAddr0; exact rfl; exact rfl) | (apply Wl.fieldAddrZ; exact rfl; exact rfl) | (apply Wl.neqIs; exact rfl; exact rfl; exact rfl; (first | with_reducible assumption | with_reducible rfl)) | (apply Wl.nil) | (apply St.seq) | (apply St.region) | (apply St.condF; exact rfl; (first | with_reducible rfl | with_reducible assumption | decide)) | (apply St.skip) | (apply Gt.next))
    apply Wl.callC
    · exact rfl
    · (repeat (first | exact Evs.nil | apply Evs.cons rfl))
    intro wq hq
    have sq4 := hq.upd.size
    have hSq := hS4.upd hq.upd (fun y => y ⟨by first | omega | (simp only; omega), by first | omega | (simp only; omega), trivial⟩) (fun y => y ⟨by first | omega | (simp only; omega), by first | omega | (simp only; omega), trivial⟩) (fun y => y ⟨by first | omega | (simp only; omega), by first | omega | (simp only; omega), trivial⟩) (fun y => y ⟨by first | omega | (simp only; omega), by first | omega | (simp only; omega), trivial⟩)
    refine (entX cf F' wq hSq.2.1).mono ?_
    rintro e w5 ⟨lb2, lo2, lcp2, rfl, hE5, hlb3, hlb4, u5⟩
    rw [e3, hcf] at hE5
    have lq13 := hq.own.lt (.head _)
    simp only at lq13
    have hq5 := hq.newer u5
    have hS5 := hS4.upd hq5.upd (fun y => y ⟨by first | omega | (simp only; omega), by first | omega | (simp only; omega), trivial⟩) (fun y => y ⟨by first | omega | (simp only; omega), by first | omega | (simp only; omega), trivial⟩) (fun y => y ⟨by first | omega | (simp only; omega), by first | omega | (simp only; omega), trivial⟩) (fun y => y ⟨by first | omega | (simp only; omega), by first | omega | (simp only; omega), trivial⟩)
    have hP5 := hq5.upd.heap hP4 (fun y => y ⟨by first | omega | (simp only; omega), by first | omega | (simp only; omega), trivial⟩)
    have hE5b : EntX w5 (some ⟨lb, lo, none⟩) 16 (enF cf0) := fun j hj => by
      obtain ⟨b, o, e, h1, h2, h3⟩ := hE4 j hj
      cases e
      exact ⟨lb, lo, rfl, hq5.upd.cell h1 (fun y => y ⟨by first | omega | (simp only; omega), by first | omega | (simp only; omega), trivial⟩), hq5.upd.cell h2 (fun y => y ⟨by first | omega | (simp only; omega), by first | omega | (simp only; omega), trivial⟩), hq5.upd.cell h3 (fun y => y ⟨by first | omega | (simp only; omega), by first | omega | (simp only; omega), trivial⟩)⟩
    have hu5 : Upd (fun k => w.heap.size ≤ k) w w5 := hq5.on hu4 (by simp; omega)
    have sz5 := hq5.upd.size
    refine ⟨_, _, rfl, hq5.rb, ?_⟩
    clear hq hq5 u5 hSq hS4 hP4 hE4 p0 c32 c33 c34 hm4 hFq hu4
    repeat' (first | (apply Wl.move; exact rfl; exact rfl) | (apply Wl.len; exact rfl; exact rfl) | (apply Wl.nil) | (apply St.block) | (apply Gt.next))
    refine St.loop (σ := Nat) (fun j => j ≤ 16)
      (fun j => [(5, .pointer (some ⟨p, 0, none⟩)), (6, .slice (some ⟨lb, lo, none⟩) 16 lcp), (7, .int .u32 F.tv), (9, .int .u32 F.st), (16, .int .u32 F'.st), (13, .pointer (some ⟨c13, 0, none⟩)), (42, .int .i64 (K : Int)), (43, .int .i64 (i : Int)), (131, .slice (some ⟨lb2, lo2, none⟩) 16 lcp2), (132, .int .i64 16), (133, .int .i64 (j : Int))])
      (fun _ => Hp w5 [⟨c13, [.int .u32 wd, .bool tr, .int .u32 c1a, .int .u32 tl1, .int .u32 at_, .int .i64 wi, .bool sto], 32⟩, ⟨c1, [.slice wa wn wc, .slice xa xn xc, .slice la ln lc, .bool true, .slice ca cn cc, .int .u32 pc0], 39⟩]) (fun j => 16 - j) 0 (Nat.zero_le _) (by (repeat (first | exact Sub.nil | apply Sub.cons rfl))) (fun _ h => h) ?_
    intro j hj
    by_cases hj2 : j < 16
    · have hd4 : decide ((j : Int) < 16) = true := decide_eq_true (by omega)
      obtain ⟨b, o, e, a1, a2, a3⟩ := hE5 j hj2
      cases e
      obtain ⟨b, o, e, b1, b2, b3⟩ := hE5b j hj2
      cases e
      have ag : ∀ {bb oo : Nat} {x y z : Int}, w5.cell? ⟨bb, oo + j * 3, none⟩ = some (.int .i64 x) → w5.cell? ⟨bb, oo + j * 3 + 1, none⟩ = some (.int .i64 y) → w5.cell? ⟨bb, oo + j * 3 + 2, none⟩ = some (.int .u32 z) → ∀ (q : Nat) (v : Value), [Value.int .i64 x, Value.int .i64 y, Value.int .u32 z][q]? = some v → w5.cell? ⟨bb, oo + (j : Int).toNat * 3 + q, none⟩ = some v := fun h1 h2 h3 q v hq => by
        rw [Int.toNat_natCast]
        rcases q with _ | _ | _ | q
        · cases hq; exact h1
        · cases hq; exact h2
        · cases hq; exact h3
        · simp at hq
      have ga := ag a1 a2 a3
      have gb := ag b1 b2 b3
      generalize enF cf0 j = en at *
      obtain ⟨x1, x2, x3⟩ := en
      simp only at ga gb
      repeat' (first | (apply Wl.loadAF (xs := [Value.int .i64 x1, Value.int .i64 x2, Value.int .u32 x3]); exact rfl; exact rfl; exact rfl; (intro wq hq q v hq'; rw [addLit]; first | exact hq.old (ga q v hq') (by show Off _ lb2; repeat (first | exact trivial | refine ⟨by first | omega | (simp only; omega), ?_⟩)) | exact hq.old (gb q v hq') (by show Off _ lb; repeat (first | exact trivial | refine ⟨by first | omega | (simp only; omega), ?_⟩)))) | (apply Wl.neqE; exact rfl; exact rfl; exact rfl) | (apply Wl.move; exact rfl; exact rfl) | (apply Wl.assign; exact rfl; exact rfl) | (apply Wl.lss; exact rfl; exact rfl; exact rfl) | (apply Wl.addI; exact rfl; exact rfl; exact rfl; (constructor <;> omega)) | (apply Wl.storeA; exact rfl; exact rfl; exact rfl; exact rfl; (repeat (first | apply HSet.here | apply HSet.there)); (repeat (first | apply LPut.s | apply LPut.z | apply LOver.nil | apply LOver.cons))) | (apply Wl.loadAH; exact rfl; exact rfl; (repeat (first | exact List.Mem.head _ | apply List.Mem.tail)); (repeat (first | apply LSub.z | apply LSub.t | apply LSub.s))) | (apply Wl.alloc; exact rfl; intro c hc ho) | (apply Wl.indexAddr; exact rfl; exact rfl; exact rfl; (constructor <;> omega)) | (apply Wl.nil) | (apply Wl.nilQ) | (apply St.seq) | (apply St.block) | (apply St.region) | (apply St.draw; exact mixed; (kernel_rfl); exact (fun _ h => Hp.drew h)) | (apply St.condT; exact rfl; (first | with_reducible rfl | with_reducible assumption | decide)) | (apply St.condF; exact rfl; (first | with_reducible rfl | with_reducible assumption | decide)) | (apply St.skip) | (apply Gt.next) | (apply Gt.inNormal))
      apply Gt.round (j + 1)
      rotate_left
      · omega
      · (repeat (first | exact Sub.nil | apply Sub.cons rfl))
      · exact fun _ h => Hp.pop h (by simp only; omega)
      · omega
    · have hj3 : j = 16 := by omega
      subst hj3
      have hd4 : decide (((16 : Nat) : Int) < 16) = false := by decide
      have p0 : w5.cell? ⟨p, 0, none⟩ = some (.pointer (some ⟨h, 0, none⟩)) := cell_of hP5 rfl
      obtain ⟨c32, c33, c34⟩ := hS5.1.at1
      have hm5 : w5.cell? ⟨cf, 0, none⟩ = some (.int .i64 F'.md) := hS5.2.1.ff.two
      rcases hcase with ⟨rfl, hm, rfl, hst⟩ | ⟨rfl, hm, hst⟩
      · rw [hm] at hm5
        have dst : decide (bits .and .u32 F'.st 6144 = 0) = true := decide_eq_true hst
        repeat' (first | (apply Wl.loadO; exact rfl; exact rfl; (first | assumption); (repeat (first | exact trivial | refine ⟨by first | omega | (simp only; omega), ?_⟩))) | (apply Wl.move; exact rfl; exact rfl) | (apply Wl.assign; exact rfl; exact rfl) | (apply Wl.on; exact rfl; exact rfl; (first | with_reducible rfl | with_reducible assumption | decide)) | (apply Wl.nilCheck; exact rfl; exact rfl) | (apply Wl.pickT; exact rfl; exact rfl; (first | with_reducible rfl | with_reducible assumption | decide); exact rfl) | (apply Wl.fieldAddr0; exact rfl; exact rfl) | (apply Wl.fieldAddrZ; exact rfl; exact rfl) | (apply Wl.loadH; exact rfl; exact rfl; (repeat (first | exact List.Mem.head _ | apply List.Mem.tail)); exact rfl) | (apply Wl.eqlIs; exact rfl; exact rfl; exact rfl; (first | with_reducible assumption | with_reducible rfl)) | (apply Wl.lss; exact rfl; exact rfl; exact rfl) | (apply Wl.and; exact rfl; exact rfl; exact rfl) | (apply Wl.nil) | (apply St.seq) | (apply St.region) | (apply St.condT; exact rfl; (first | with_reducible rfl | with_reducible assumption | decide)) | (apply St.condF; exact rfl; (first | with_reducible rfl | with_reducible assumption | decide)) | (apply St.ret) | (apply St.exit) | (apply Gt.next) | (apply Gt.thenRet) | (apply Gt.thenExit) | (apply Gt.inRet) | (apply Gt.inExit) | (apply Gt.out1; exact rfl; exact rfl; intro w' hp))
        exact ⟨rfl, hp.fin hu5 (by simp; omega)⟩
      · rw [hm] at hm5
        repeat' (first | (apply Wl.loadO; exact rfl; exact rfl; (first | assumption); (repeat (first | exact trivial | refine ⟨by first | omega | (simp only; omega), ?_⟩))) | (apply Wl.move; exact rfl; exact rfl) | (apply Wl.on; exact rfl; exact rfl; (first | with_reducible rfl | with_reducible assumption | decide)) | (apply Wl.nilCheck; exact rfl; exact rfl) | (apply Wl.pickF; exact rfl; exact rfl; (first | with_reducible rfl | with_reducible assumption | decide); exact rfl) | (apply Wl.fieldAddr0; exact rfl; exact rfl) | (apply Wl.fieldAddrZ; exact rfl; exact rfl) | (apply Wl.loadH; exact rfl; exact rfl; (repeat (first | exact List.Mem.head _ | apply List.Mem.tail)); exact rfl) | (apply Wl.neqIs; exact rfl; exact rfl; exact rfl; (first | with_reducible assumption | with_reducible rfl)) | (apply Wl.lss; exact rfl; exact rfl; exact rfl) | (apply Wl.addI; exact rfl; exact rfl; exact rfl; (constructor <;> omega)) | (apply Wl.nil) | (apply St.seq) | (apply St.region) | (apply St.condF; exact rfl; (first | with_reducible rfl | with_reducible assumption | decide)) | (apply St.skip) | (apply St.exit) | (apply Gt.next) | (apply Gt.thenExit) | (apply Gt.inNormal) | (apply Gt.inExit))
        apply Gt.reb (H' := [⟨c1, [.slice wa wn wc, .slice xa xn xc, .slice la ln lc, .bool true, .slice ca cn cc, .int .u32 pc0], 39⟩])
        intro w6 hw6
        refine ⟨hw6.own.2, hw6.apart.2, ?_⟩
        have hS6 := hS5.upd hw6.upd (fun y => y ⟨by first | omega | (simp only; omega), by first | omega | (simp only; omega), trivial⟩) (fun y => y ⟨by first | omega | (simp only; omega), by first | omega | (simp only; omega), trivial⟩) (fun y => y ⟨by first | omega | (simp only; omega), by first | omega | (simp only; omega), trivial⟩) (fun y => y ⟨by first | omega | (simp only; omega), by first | omega | (simp only; omega), trivial⟩)
        have hP6 := hw6.upd.heap hP5 (fun y => y ⟨by first | omega | (simp only; omega), by first | omega | (simp only; omega), trivial⟩)
        have hE6 : EntX w6 (some ⟨lb, lo, none⟩) 16 (enF cf0) := fun j hj => by
          obtain ⟨b, o, e, h1, h2, h3⟩ := hE5b j hj
          cases e
          exact ⟨lb, lo, rfl, hw6.upd.cell h1 (fun y => y ⟨by first | omega | (simp only; omega), by first | omega | (simp only; omega), trivial⟩), hw6.upd.cell h2 (fun y => y ⟨by first | omega | (simp only; omega), by first | omega | (simp only; omega), trivial⟩), hw6.upd.cell h3 (fun y => y ⟨by first | omega | (simp only; omega), by first | omega | (simp only; omega), trivial⟩)⟩
        have hu6 : Upd (fun k => w.heap.size ≤ k) w w6 := hw6.on hu5 (by simp; omega)
        have sz6 := hw6.upd.size
        apply Gt.round (i + 1, w6, xs', pc', F', f')
        rotate_left
        · simp only; omega
        · (repeat (first | exact Sub.nil | apply Sub.cons rfl))
        · exact fun _ h => h
        · exact ⟨hlt, hS6, hm, by rw [e3]; exact hcf, hP6, hE6, hu6, by simp only; omega⟩
  · have hie : i = K := by omega
    have hd3 : decide ((i : Int) < (K : Int)) = false := decide_eq_false (by omega)
    repeat' (first | (apply Wl.assign; exact rfl; exact rfl) | (apply Wl.lss; exact rfl; exact rfl; exact rfl) | (apply Wl.nil) | (apply St.seq) | (apply St.region) | (apply St.condF; exact rfl; (first | with_reducible rfl | with_reducible assumption | decide)) | (apply St.ret) | (apply St.exit) | (apply Gt.next) | (apply Gt.thenExit) | (apply Gt.inExit) | (apply Gt.out1; exact rfl; exact rfl; intro w' hp))
    exact ⟨rfl, hp.fin hu3 (by simp; omega)⟩
end Go.Proofs.YtcefkbnachnciaaDoor
end
section
namespace Go.Proofs.YtcefkbnachnciaaDoor
open Go.RowKit Go.Pt
end Go.Proofs.YtcefkbnachnciaaDoor
end
section
namespace Go.Proofs.YtcefkbnachnciaaDoor
open Go.RowKit Go.Pt Go.ChangeShapes Go.WideShapes Go.ChangeAt
theorem open_list {α : Type} {H : Type} {enc : TypeId × Value → H} {P : Program} {w : World} {t e sz : Nat} {v : Value} (g : α → List Value) (ok : α → Prop) (ht : P.underlying t = some (.slice e)) (hc : P.cellsOf e = sz) (hs : 0 < sz)
    (hone : ∀ c, Tr enc P w e c → c.length = sz → ∃ x, c = g x ∧ ok x) (h : Tr enc P w t [v]) : ∃ l : List α, Sv w sz l.length v (l.flatMap g) ∧ (∀ x ∈ l, ok x) ∧ l.length * P.bytesOf e ≤ reachBytes := by
  obtain ⟨es, v', e, hsv, hes, hwt⟩ := h.slice ht hc hs
  simp only [List.cons.injEq, and_true] at e
  subst e
  have : ∃ ps : List α, es.flatten = ps.flatMap g ∧ es.length = ps.length ∧ ∀ p ∈ ps, ok p := by
    clear hsv hwt
    induction es with
    | nil => exact ⟨[], rfl, rfl, fun p hp => by cases hp⟩
    | cons c r ih =>
      obtain ⟨ps, h1, h2, h3⟩ := ih fun c hc => hes c (by simp [hc])
      obtain ⟨p, rfl, hp⟩ := hone c (hes c (by simp)).2 (hes c (by simp)).1
      exact ⟨p :: ps, by simp [h1], by simp [h2], fun q hq => by
        rcases List.mem_cons.1 hq with rfl | hq
        · exact hp
        · exact h3 q hq⟩
  obtain ⟨ps, h1, h2, h3⟩ := this
  rw [h1, h2] at hsv
  rw [h2] at hwt
  exact ⟨ps, hsv, h3, hwt⟩
theorem sv_at {α : Type} {w : World} {g : α → List Value} {m n cap : Nat} {a : Option Addr} {l : List α} (hg : ∀ x, (g x).length = m) (h : Sv w m l.length (.slice a n cap) (l.flatMap g)) : n = l.length ∧ ∀ (i : Nat) (x : α), l[i]? = some x → 0 < m → ∃ b o, a = some ⟨b, o, none⟩ ∧ ∀ j v, (g x)[j]? = some v → w.cell? ⟨b, o + i * m + j, none⟩ = some v := by
  obtain ⟨hlen, a', cap', e, _, _, _, hc⟩ := h
  simp only [Value.slice.injEq] at e
  obtain ⟨rfl, rfl, rfl⟩ := e
  refine ⟨rfl, fun i x hx hm => ?_⟩
  have h1 : ∀ j v, (g x)[j]? = some v → (l.flatMap g)[i * m + j]? = some v := fun j v hj => by
    have hjm : j < m := by rw [← hg x]; exact (List.getElem?_eq_some_iff.1 hj).1
    rw [flatN hg hx hjm]; exact hj
  have hne : l.flatMap g ≠ [] := by
    intro e0
    have hx0 : (g x)[0]? = some ((g x)[0]'(by rw [hg]; exact hm)) := List.getElem?_eq_getElem _
    have := h1 0 _ hx0
    rw [e0] at this
    cases this
  obtain ⟨b, o, rfl, hcc⟩ := hc hne
  refine ⟨b, o, rfl, fun j v hj => ?_⟩
  obtain ⟨l1, e1⟩ := List.getElem?_eq_some_iff.1 (h1 j v hj)
  rw [Nat.add_assoc, hcc _ l1, e1]
def entC (p : Int × Int × Int) : List Value := [.int .i64 p.1, .int .i64 p.2.1, .int .u32 p.2.2]
theorem Tr.entry {H : Type} {enc : TypeId × Value → H} {w : World} (c : List Value) (h : Tr enc Tryd.prog w 49 c) (hl : c.length = 3) : ∃ p, c = entC p ∧ True := by
  have ht := Tryd.underlying49
  match c, hl with
  | [c0, c1, c2], _ =>
    obtain ⟨x, e0, _⟩ := (h.field1 ht 0 (ft := 3) (off := 0) rfl (by kernel_rfl) rfl).int Tryd.underlying3
    obtain ⟨y, e1, _⟩ := (h.field1 ht 1 (ft := 3) (off := 1) rfl (by kernel_rfl) rfl).int Tryd.underlying3
    obtain ⟨z, e2, _⟩ := (h.field1 ht 2 (ft := 22) (off := 2) rfl (by kernel_rfl) rfl).int Tryd.underlying22
    simp only [List.cons.injEq, and_true] at e0 e1 e2
    subst e0 e1 e2
    exact ⟨(x, y, z), rfl, trivial⟩
theorem reach47 : reachBytes ≤ 140737488355328 := by decide
theorem open_ents {H : Type} {enc : TypeId × Value → H} {w : World} {v : Value} (h : Tr enc Tryd.prog w 37 [v]) : ∃ a n cap, v = .slice a n cap ∧ EntS w a n ∧ n ≤ 140737488355328 := by
  obtain ⟨l, h1, _, hb⟩ := open_list entC (fun _ => True) Tryd.underlying37 (sz := 3) (by kernel_rfl) (by decide) Tr.entry h
  obtain ⟨_, a, cap, e, _⟩ := id h1
  subst e
  obtain ⟨_, hat⟩ := sv_at (m := 3) (fun _ => rfl) h1
  refine ⟨a, l.length, cap, rfl, fun i hi => ?_, ?_⟩
  · obtain ⟨b, o, rfl, hc⟩ := hat i _ (List.getElem?_eq_getElem hi) (by decide)
    exact ⟨b, o, rfl, _, _, _, hc 0 _ rfl, hc 1 _ rfl, hc 2 _ rfl⟩
  · have hby : Tryd.prog.bytesOf 49 = 24 := by kernel_rfl
    rw [hby] at hb
    have := reach47
    omega
theorem u32r {n : Int} (h : IntKind.u32.min ≤ n ∧ n ≤ IntKind.u32.max) : 0 ≤ n ∧ n < 4294967296 := by
  have h' : 0 ≤ n ∧ n ≤ 4294967295 := h
  omega
end Go.Proofs.YtcefkbnachnciaaDoor
end
