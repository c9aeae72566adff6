/-
  Layer 9: the law DynBack. Conditions: none.
-/
import Derived.Test.YtcjikjadajmefaaDynJ
namespace Go.Proofs.Ytcjikjadajmefaa
open Go.RowKit Go.Pt
section
variable {P : Program} {md : Md} {ops : Array Oper} {N : Nat} {rest : List Oper} {Γ : Env} {C : World → Prop} {Q : Exit → Act → World → Prop} {d : Nat} {ty : TypeId} {pos : String} {af : Array Edge} {t u : TypeId} {x y : Operand} {m : Nat}
theorem Wl.and255 (hd : Nat.blt d N = true) (hx : ev Γ x = some (.int .u32 (m : Int))) (hy : ev Γ y = some (.int .u32 255)) (hm : m < 4294967296) (h : Wl rest P md ops N ((d, .int .u32 ((m % 256 : Nat) : Int)) :: Γ) C Q) : Wl (⟨some d, .binOp .and t x y u, ty, pos, af, none⟩ :: rest) P md ops N Γ C Q :=
  Wl.and hd hx hy (by rw [bitsAnd_mask .u32 m 255 8 (by decide) (by decide), show (m : Int) % 2 ^ 8 = ((m % 256 : Nat) : Int) from by omega]; exact h)
theorem Wl.shr8 (hd : Nat.blt d N = true) (hx : ev Γ x = some (.int .u32 (m : Int))) (hy : ev Γ y = some (.int .u64 8)) (h : Wl rest P md ops N ((d, .int .u32 ((m / 256 : Nat) : Int)) :: Γ) C Q) : Wl (⟨some d, .binOp .shr t x y u, ty, pos, af, none⟩ :: rest) P md ops N Γ C Q :=
  Wl.shr hd hx hy (by decide) (by
    have e : (2 : Int) ^ min (Int.toNat 8) IntKind.u32.bits = 256 := by decide
    rw [e, Int.fdiv_eq_ediv_of_nonneg _ (by decide), show (m : Int) / 256 = ((m / 256 : Nat) : Int) from by omega]; exact h)
end
def toRl (x : Nat × Nat × Nat) : Rl := ⟨x.1, x.2.1 % 256, x.2.1 / 256, x.2.2⟩
theorem Ns.upd {S : Nat → Prop} {w w' : World} {v : Value} {l : List Nat} (h : Ns w v l) (u : Upd S w w') (hs : ∀ k, k < w.heap.size → ¬ S k) : Ns w' v l := ⟨h.1.upd u fun k _ hk _ => hs k hk, h.2⟩
theorem Ts.upd {S : Nat → Prop} {w w' : World} {v : Value} {l : List (Nat × Nat × Nat)} (h : Ts w v l) (u : Upd S w w') (hs : ∀ k, k < w.heap.size → ¬ S k) : Ts w' v l := ⟨h.1.upd u fun k _ hk _ => hs k hk, h.2⟩
theorem back_ans {code : List UInt8} {syms : List Nat} {relas : List (Nat × Nat × Nat)} (hok : OkTb code ⟨[], syms, relas, 0, true⟩) (h1 : ¬ 64 < syms.length) (h2 : ¬ 64 < relas.length) (hs : ∀ x ∈ syms, x < 4294967296) (hr : ∀ x ∈ relas, ∀ y ∈ tripL x, y < 4294967296)
    (hno : ∀ x ∈ relas, x.2.1 / 256 < max syms.length 1) : dynAns (fileT code ⟨[], syms, relas, 0, true⟩) = ⟨0, tbSegs code ⟨[], syms, relas, 0, true⟩, syms, relas.map toRl, 0⟩ := by
  have h : Own7 code ⟨[], syms, relas, 0, true⟩ := ⟨hok, rfl, rfl⟩
  rw [dynAns_tab h, sym_full h rfl hs, if_neg h1]
  simp only
  rw [rel_tab h hr, if_neg (by
    rintro (e | ⟨x, hx, e⟩)
    · exact h2 e
    · have := hno x hx
      omega)]
  rfl
set_option maxHeartbeats 4000000 in
theorem dynBack_any (vc vs vr : Value) (code : List UInt8) (syms : List Nat) (relas : List (Nat × Nat × Nat)) (w : World) (hcode : Bs w vc code) (hs : Ns w vs syms) (hr : Ts w vr relas) :
    Calls Try.prog 5 #[vc, vs, vr] w fun e w' => e = .returned (.bool true) ∧ Hp w [] w' := by
  obtain ⟨ca, cc, rfl, hlc, hm⟩ := hcode.shape
  unfold maxLen at hm
  obtain ⟨sa, sc, rfl⟩ : ∃ a c, vs = .slice a syms.length c := by
    obtain ⟨⟨_, a, c, rfl, _⟩, _⟩ := hs
    exact ⟨_, _, rfl⟩
  obtain ⟨ra, rc, rfl⟩ : ∃ a c, vr = .slice a relas.length c := by
    obtain ⟨⟨_, a, c, rfl, _⟩, _⟩ := hr
    exact ⟨_, _, rfl⟩
  have m1 := hs.1.bound
  have m2 := hr.1.bound
  refine enter (args := [_, _, _]) (Γ := [(0, _), (1, _), (2, _)]) Try.func5 Try.ntmps5 rfl (of_decide_eq_true rfl) (.cons rfl (.cons rfl (.cons rfl .nil))) ?_
  repeat' (first | (apply Wl.assign; exact rfl; exact rfl) | (apply Wl.nil) | (apply St.seq) | (apply St.region) | (apply Gt.next) | (apply Wl.splitP; exact rfl; exact rfl; all_goals (intros; try (exfalso; omega))) | (apply Wl.splitB; exact rfl; exact rfl; all_goals intros) | (apply St.condP; exact rfl; all_goals (intros; try (exfalso; omega))) | (apply St.condB; exact rfl; all_goals intros))
  apply Wl.callQ
  exact rfl
  (repeat (first | exact Evs.nil | apply Evs.cons rfl))
  · intro wq hq
    exact (fit09_any wq).mono fun e w' ⟨h1, h2⟩ => ⟨h1, hq.keep (hpOf h2)⟩
  repeat' (first | (apply Wl.move; exact rfl; exact rfl) | (apply Wl.assign; exact rfl; exact rfl) | (apply Wl.on; exact rfl; exact rfl; (first | with_reducible rfl | with_reducible assumption | decide)) | (apply Wl.off; exact rfl; exact rfl; exact rfl; (first | with_reducible rfl | (show _ = false; with_reducible assumption) | (show _ = true; with_reducible assumption) | decide)) | (apply Wl.pickT; exact rfl; exact rfl; (first | with_reducible rfl | with_reducible assumption | decide); exact rfl) | (apply Wl.pickF; exact rfl; exact rfl; (first | with_reducible rfl | with_reducible assumption | decide); exact rfl) | (apply Wl.not; exact rfl; exact rfl) | (apply Wl.gtr; exact rfl; exact rfl; exact rfl) | (apply Wl.len; exact rfl; exact rfl) | (apply Wl.nil) | (apply St.seq) | (apply St.block) | (apply St.region) | (apply St.condT; exact rfl; (first | with_reducible rfl | with_reducible assumption | decide)) | (apply St.condF; exact rfl; (first | with_reducible rfl | with_reducible assumption | decide)) | (apply St.ret) | (apply St.skip) | (apply Gt.next) | (apply Gt.thenRet) | (apply Gt.out1; exact rfl; exact rfl; intro w' hp) | (apply Wl.splitP; exact rfl; exact rfl; all_goals (intros; try (exfalso; omega))) | (apply Wl.splitB; exact rfl; exact rfl; all_goals intros) | (apply St.condP; exact rfl; all_goals (intros; try (exfalso; omega))) | (apply St.condB; exact rfl; all_goals intros))
  · exact ⟨rfl, hp⟩
  · exact ⟨rfl, hp⟩
  have h64 : ¬ 64 < syms.length := by omega
  have h64r : ¬ 64 < relas.length := by omega
  refine St.loop (σ := Nat) (fun τ => τ ≤ relas.length ∧ ∀ j x, j < τ → relas[j]? = some x → x.2.1 / 256 < max syms.length 1)
    (fun τ => [(0, .slice ca code.length cc), (1, .slice sa syms.length sc), (2, .slice ra relas.length rc), (27, .slice ra relas.length rc), (28, .int .i64 relas.length), (29, .int .i64 τ)])
    (fun _ => Hp w []) (fun τ => relas.length - τ) 0 ⟨Nat.zero_le _, fun j x hj => by omega⟩ (by (repeat (first | exact Sub.nil | apply Sub.cons rfl))) (fun _ h => h) ?_
  rintro i ⟨hin, hall⟩
  by_cases hlt : i < relas.length
  · obtain ⟨x, hx⟩ : ∃ x, relas[i]? = some x := ⟨_, List.getElem?_eq_getElem hlt⟩
    have hxm := List.mem_of_getElem? hx
    have hx1 : x.2.1 < 4294967296 := hr.2 x hxm _ (by simp [tripL])
    obtain ⟨b1, o1, c1, he1, hb1, hce1⟩ := hr.1.elem hlt (xs := tripC x) rfl (by decide) fun j hj => flat3 (g := tripC) (fun _ => rfl) hx hj
    cases he1
    repeat' (first | (apply Wl.loadAO; exact rfl; exact rfl; exact hce1; exact trivial; exact rfl) | (apply Wl.shr8; exact rfl; exact rfl; exact rfl) | (apply Wl.max2; exact rfl; exact rfl; exact rfl) | (apply Wl.move; exact rfl; exact rfl) | (apply Wl.assign; exact rfl; exact rfl) | (apply Wl.loadH; exact rfl; exact rfl; (repeat (first | exact List.Mem.head _ | apply List.Mem.tail)); exact rfl) | (apply Wl.lss; exact rfl; exact rfl; exact rfl) | (apply Wl.geq; exact rfl; exact rfl; exact rfl) | (apply Wl.addI; exact rfl; exact rfl; exact rfl; (constructor <;> omega)) | (apply Wl.convI64; exact rfl; exact rfl; (constructor <;> omega)) | (apply Wl.len; exact rfl; exact rfl) | (apply Wl.storeA; exact rfl; exact rfl; exact rfl; exact rfl; (repeat (first | apply HSet.here | apply HSet.there)); (repeat (first | apply LPut.s | apply LPut.z | apply LOver.nil | apply LOver.cons))) | (apply Wl.alloc; exact rfl; intro c hc ho) | (apply Wl.indexAddr; exact rfl; exact rfl; exact rfl; (constructor <;> omega)) | (apply Wl.indexArr; exact rfl; exact rfl; exact rfl; (constructor <;> omega)) | (apply Wl.nil) | (apply St.seq) | (apply St.block) | (apply St.region) | (apply St.ret) | (apply St.skip) | (apply Gt.next) | (apply Gt.thenRet) | (apply Gt.inNormal) | (apply Gt.inRet) | (apply Gt.out1; exact rfl; exact rfl; intro w' hp) | (apply Wl.splitP; exact rfl; exact rfl; all_goals (intros; try (exfalso; omega))) | (apply Wl.splitB; exact rfl; exact rfl; all_goals intros) | (apply St.condP; exact rfl; all_goals (intros; try (exfalso; omega))) | (apply St.condB; exact rfl; all_goals intros))
    · exact ⟨rfl, hp.drop (by simp; omega)⟩
    · have hgood : x.2.1 / 256 < max syms.length 1 := by
        have h := ‹¬ ((x.2.1 / 256 : Nat) : Int) ≥ if (syms.length : Int) < 1 then 1 else (syms.length : Int)›
        split at h <;> omega
      apply Gt.round (i + 1)
      · refine ⟨hlt, fun j y hj hy => ?_⟩
        rcases Nat.lt_succ_iff_lt_or_eq.1 hj with hj | rfl
        · exact hall j y hj hy
        · rw [hx] at hy
          cases hy
          exact hgood
      · omega
      · (repeat (first | exact Sub.nil | apply Sub.cons rfl))
      · exact fun u hu => hu.drop (by simp; omega)
  have hin' : i = relas.length := by omega
  subst hin'
  have hno : ∀ x ∈ relas, x.2.1 / 256 < max syms.length 1 := fun x hx => by
    obtain ⟨j, hj, rfl⟩ := List.getElem_of_mem hx
    exact hall j _ hj (List.getElem?_eq_getElem hj)
  repeat' (first | (apply Wl.move; exact rfl; exact rfl) | (apply Wl.lss; exact rfl; exact rfl; exact rfl) | (apply Wl.buildS; exact rfl; (repeat (first | exact Parts.nil | apply Parts.cons rfl)); (repeat (first | apply Fills.nil | (apply Fills.one; exact rfl; exact rfl; (repeat (first | apply LSet.z | apply LSet.s))) | (apply Fills.agg; exact rfl; exact rfl; (repeat (first | apply LPut.s | apply LPut.z | apply LOver.nil | apply LOver.cons)))))) | (apply Wl.nil) | (apply St.seq) | (apply St.region) | (apply St.exit) | (apply Gt.next) | (apply Gt.thenExit) | (apply Gt.inExit) | (apply Wl.splitP; exact rfl; exact rfl; all_goals (intros; try (exfalso; omega))) | (apply Wl.splitB; exact rfl; exact rfl; all_goals intros) | (apply St.condP; exact rfl; all_goals (intros; try (exfalso; omega))) | (apply St.condB; exact rfl; all_goals intros))
  apply Wl.call
  exact rfl
  (repeat (first | exact Evs.nil | apply Evs.cons rfl))
  intro w1 h1
  have u1 : Upd (fun k => w.heap.size ≤ k) w w1 := upd_new (Upd.refl _ _) h1 (by simp)
  refine (file09_any _ _ _ _ code ⟨[], syms, relas, 0, true⟩ w1 (hcode.upd u1 fun k _ hk _ y => by omega) ⟨Sv.nil _ _, (hs.upd u1 fun k hk y => by omega).1, (hr.upd u1 fun k hk y => by omega).1, fun x hx => (by cases hx), hs.2, hr.2⟩).mono ?_
  rintro e w2 ⟨u2, ⟨_, rfl⟩ | ⟨hok, v', rfl, hb⟩⟩
  · refine ⟨_, rfl, ?_⟩
    repeat' (first | (apply Wl.eqlSZ; exact rfl; exact rfl; exact rfl) | (apply Wl.move; exact rfl; exact rfl) | (apply Wl.assign; exact rfl; exact rfl) | (apply Wl.nil) | (apply St.seq) | (apply St.region) | (apply St.condT; exact rfl; (first | with_reducible rfl | with_reducible assumption | decide)) | (apply St.ret) | (apply Gt.next) | (apply Gt.thenRet) | (apply Gt.out1; exact rfl; exact rfl; intro w' hp) | (apply Wl.splitP; exact rfl; exact rfl; all_goals (intros; try (exfalso; omega))) | (apply Wl.splitB; exact rfl; exact rfl; all_goals intros) | (apply St.condP; exact rfl; all_goals (intros; try (exfalso; omega))) | (apply St.condB; exact rfl; all_goals intros))
    exact ⟨rfl, hpOf ((u1.comp u2 (T := fun k => w.heap.size ≤ k) fun k _ hs => hs.elim id fun y => Nat.le_trans u1.size y).comp hp.upd fun k _ hs => hs.elim id fun y => (y trivial).elim)⟩
  refine ⟨_, rfl, ?_⟩
  have u12 : Upd (fun k => w.heap.size ≤ k) w w2 := u1.comp u2 fun k _ hs => hs.elim id fun y => Nat.le_trans u1.size y
  have hfs := fileT_small hok
  obtain ⟨fa, fc, rfl, _, _⟩ := hb.shape
  obtain ⟨g, og, rfl, _⟩ := hb.bs.cells (fun e => by have := fileT_len code ⟨[], syms, relas, 0, true⟩; rw [e] at this; simp at this; omega)
  repeat' (first | (apply Wl.eqlSN; exact rfl; exact rfl; exact rfl) | (apply Wl.move; exact rfl; exact rfl) | (apply Wl.assign; exact rfl; exact rfl) | (apply Wl.nil) | (apply St.seq) | (apply St.region) | (apply St.condF; exact rfl; (first | with_reducible rfl | with_reducible assumption | decide)) | (apply St.skip) | (apply Gt.next) | (apply Wl.splitP; exact rfl; exact rfl; all_goals (intros; try (exfalso; omega))) | (apply Wl.splitB; exact rfl; exact rfl; all_goals intros) | (apply St.condP; exact rfl; all_goals (intros; try (exfalso; omega))) | (apply St.condB; exact rfl; all_goals intros))
  apply Wl.call
  exact rfl
  (repeat (first | exact Evs.nil | apply Evs.cons rfl))
  intro w3 h3
  refine (read_any _ _ w3 (hb.bs.upd h3.upd fun _ _ _ _ y => y trivial) hfs).mono ?_
  rw [back_ans hok h64 h64r hs.2 hr.2 hno]
  rintro e w4 ⟨u4, vsg, vr', vy', rfl, hsg, hvr, hvy⟩
  refine ⟨.tuple #[.agg #[.int .u32 0, vsg, vr', vy'], .int .i64 0], rfl, ?_⟩
  have u14 : Upd (fun k => w.heap.size ≤ k) w w4 := (u12.comp h3.upd (T := fun k => w.heap.size ≤ k) fun k _ hs => hs.elim id fun y => (y trivial).elim).comp u4 fun k _ hs => hs.elim id fun y => Nat.le_trans u12.size (Nat.le_trans h3.upd.size y)
  have u14s := u14.size
  have hs4 := hs.upd u14 fun k hk y => by omega
  have hr4 := hr.upd u14 fun k hk y => by omega
  simp only [List.length_map] at hvr hvy
  obtain ⟨ga, gn, gc, rfl⟩ : ∃ a n c, vsg = .slice a n c := by
    obtain ⟨_, _, ⟨_, a, c, rfl, _⟩, _⟩ := hsg
    exact ⟨_, _, _, rfl⟩
  obtain ⟨ya, yc, rfl⟩ : ∃ a c, vy' = .slice a syms.length c := by
    obtain ⟨_, a, c, rfl, _⟩ := hvy
    exact ⟨_, _, rfl⟩
  obtain ⟨qa, qc, rfl⟩ : ∃ a c, vr' = .slice a relas.length c := by
    obtain ⟨_, a, c, rfl, _⟩ := hvr
    exact ⟨_, _, rfl⟩
  repeat' (first | (apply Wl.move; exact rfl; exact rfl) | (apply Wl.assign; exact rfl; exact rfl) | (apply Wl.on; exact rfl; exact rfl; (first | with_reducible rfl | with_reducible assumption | decide)) | (apply Wl.extract; exact rfl; exact rfl; exact rfl) | (apply Wl.pickF; exact rfl; exact rfl; (first | with_reducible rfl | with_reducible assumption | decide); exact rfl) | (apply Wl.fieldAddrZ; exact rfl; exact rfl) | (apply Wl.loadH; exact rfl; exact rfl; (repeat (first | exact List.Mem.head _ | apply List.Mem.tail)); exact rfl) | (apply Wl.neqIs; exact rfl; exact rfl; exact rfl; (first | with_reducible assumption | with_reducible rfl)) | (apply Wl.len; exact rfl; exact rfl) | (apply Wl.storeA; exact rfl; exact rfl; exact rfl; exact rfl; (repeat (first | apply HSet.here | apply HSet.there)); (repeat (first | apply LPut.s | apply LPut.z | apply LOver.nil | apply LOver.cons))) | (apply Wl.alloc; exact rfl; intro c hc ho) | (apply Wl.nil) | (apply St.seq) | (apply St.block) | (apply St.region) | (apply St.condF; exact rfl; (first | with_reducible rfl | with_reducible assumption | decide)) | (apply St.skip) | (apply Gt.next) | (apply Wl.splitP; exact rfl; exact rfl; all_goals (intros; try (exfalso; omega))) | (apply Wl.splitB; exact rfl; exact rfl; all_goals intros) | (apply St.condP; exact rfl; all_goals (intros; try (exfalso; omega))) | (apply St.condB; exact rfl; all_goals intros))
  generalize c = cX at *
  have hcX : w4.heap.size ≤ cX := by assumption
  refine St.loop (σ := Nat) (fun τ => τ ≤ syms.length)
    (fun τ => [(2, .slice ra relas.length rc), (10, .pointer (some ⟨cX, 0, none⟩)), (72, .slice sa syms.length sc), (73, .int .i64 syms.length), (74, .int .i64 τ)])
    (fun _ => Hp w4 [⟨cX, [.int .u32 0, .slice ga gn gc, .slice qa relas.length qc, .slice ya syms.length yc], 38⟩]) (fun τ => syms.length - τ) 0 (Nat.zero_le _) (by (repeat (first | exact Sub.nil | apply Sub.cons rfl))) (fun _ h => h) ?_
  clear hall hin hlt
  intro i hin
  by_cases hlt : i < syms.length
  · obtain ⟨x, hx⟩ : ∃ x, syms[i]? = some x := ⟨_, List.getElem?_eq_getElem hlt⟩
    obtain ⟨b1, o1, c1, he1, hb1, hce1⟩ := hs4.1.elem hlt (xs := [.int .u32 x]) rfl (by decide) fun j hj => by
      have : j = 0 := by omega
      subst this; exact u32C_get hx
    obtain ⟨b2, o2, c2, he2, hb2, hce2⟩ := hvy.elem hlt (xs := [.int .u32 x]) rfl (by decide) fun j hj => by
      have : j = 0 := by omega
      subst this; exact u32C_get hx
    cases he1
    cases he2
    have e1 := hce1 0 _ rfl
    have e2 := hce2 0 _ rfl
    rw [Nat.add_zero, Nat.mul_one] at e1 e2
    repeat' (first | (apply Wl.loadO; exact rfl; exact rfl; (assumption); (repeat (first | exact trivial | refine ⟨by first | assumption | omega | (simp only; omega), ?_⟩))) | (apply Wl.move; exact rfl; exact rfl) | (apply Wl.assign; exact rfl; exact rfl) | (apply Wl.fieldAddrZ; exact rfl; exact rfl) | (apply Wl.loadH; exact rfl; exact rfl; (repeat (first | exact List.Mem.head _ | apply List.Mem.tail)); exact rfl) | (apply Wl.neqIs; exact rfl; exact rfl; exact rfl; (first | with_reducible assumption | with_reducible rfl)) | (apply Wl.lss; exact rfl; exact rfl; exact rfl) | (apply Wl.addI; exact rfl; exact rfl; exact rfl; (constructor <;> omega)) | (apply Wl.indexAddr1; exact rfl; exact rfl; exact rfl; (constructor <;> omega)) | (apply Wl.nil) | (apply St.seq) | (apply St.block) | (apply St.region) | (apply St.condF; exact rfl; (first | with_reducible rfl | with_reducible assumption | decide)) | (apply St.skip) | (apply Gt.next) | (apply Gt.inNormal) | (apply Wl.splitP; exact rfl; exact rfl; all_goals (intros; try (exfalso; omega))) | (apply Wl.splitB; exact rfl; exact rfl; all_goals intros) | (apply St.condP; exact rfl; all_goals (intros; try (exfalso; omega))) | (apply St.condB; exact rfl; all_goals intros))
    apply Gt.round (i + 1)
    · exact hlt
    · omega
    · (repeat (first | exact Sub.nil | apply Sub.cons rfl))
    · exact fun _ h => h
  have hin' : i = syms.length := by omega
  subst hin'
  repeat' (first | (apply Wl.move; exact rfl; exact rfl) | (apply Wl.lss; exact rfl; exact rfl; exact rfl) | (apply Wl.len; exact rfl; exact rfl) | (apply Wl.nil) | (apply St.seq) | (apply St.block) | (apply St.region) | (apply St.exit) | (apply Gt.next) | (apply Gt.thenExit) | (apply Gt.inExit) | (apply Wl.splitP; exact rfl; exact rfl; all_goals (intros; try (exfalso; omega))) | (apply Wl.splitB; exact rfl; exact rfl; all_goals intros) | (apply St.condP; exact rfl; all_goals (intros; try (exfalso; omega))) | (apply St.condB; exact rfl; all_goals intros))
  refine St.loop (σ := Nat) (fun τ => τ ≤ relas.length)
    (fun τ => [(10, .pointer (some ⟨cX, 0, none⟩)), (87, .slice ra relas.length rc), (88, .int .i64 relas.length), (89, .int .i64 τ)])
    (fun _ => Hp w4 [⟨cX, [.int .u32 0, .slice ga gn gc, .slice qa relas.length qc, .slice ya syms.length yc], 38⟩]) (fun τ => relas.length - τ) 0 (Nat.zero_le _) (by (repeat (first | exact Sub.nil | apply Sub.cons rfl))) (fun _ h => h) ?_
  clear hin hlt
  intro i hin
  by_cases hlt : i < relas.length
  · obtain ⟨x, hx⟩ : ∃ x, relas[i]? = some x := ⟨_, List.getElem?_eq_getElem hlt⟩
    have hxm := List.mem_of_getElem? hx
    have hx1 : x.2.1 < 4294967296 := hr.2 x hxm _ (by simp [tripL])
    have hxl : (relas.map toRl)[i]? = some (toRl x) := by rw [List.getElem?_map, hx]; rfl
    obtain ⟨b1, o1, c1, he1, hb1, hce1⟩ := hr4.1.elem hlt (xs := tripC x) rfl (by decide) fun j hj => flat3 (g := tripC) (fun _ => rfl) hx hj
    obtain ⟨b2, o2, c2, he2, hb2, hce2⟩ := hvr.elem hlt (xs := [.int .u32 (x.1 : Int), .int .i64 ((x.2.1 % 256 : Nat) : Int), .int .i64 ((x.2.1 / 256 : Nat) : Int), .int .u32 (x.2.2 : Int)]) rfl (by decide) fun j hj => flat4 (g := rlP) (fun _ => rfl) hxl hj
    cases he1
    cases he2
    have n1 : cX ≠ b1 := by omega
    have n2 : cX ≠ b2 := by omega
    repeat' (first | (apply Wl.loadAO; exact rfl; exact rfl; exact hce2; exact ⟨by simp only; omega, n2, trivial⟩; exact rfl) | (apply Wl.loadAO; exact rfl; exact rfl; exact hce1; exact ⟨n1, trivial⟩; exact rfl) | (apply Wl.and255; exact rfl; exact rfl; exact rfl; exact hx1) | (apply Wl.shr8; exact rfl; exact rfl; exact rfl) | (apply Wl.move; exact rfl; exact rfl) | (apply Wl.assign; exact rfl; exact rfl) | (apply Wl.on; exact rfl; exact rfl; (first | with_reducible rfl | with_reducible assumption | decide)) | (apply Wl.pickF; exact rfl; exact rfl; (first | with_reducible rfl | with_reducible assumption | decide); exact rfl) | (apply Wl.fieldAddr0; exact rfl; exact rfl) | (apply Wl.fieldAddrZ; exact rfl; exact rfl) | (apply Wl.loadH; exact rfl; exact rfl; (repeat (first | exact List.Mem.head _ | apply List.Mem.tail)); exact rfl) | (apply Wl.neqIs; exact rfl; exact rfl; exact rfl; (first | with_reducible assumption | with_reducible rfl)) | (apply Wl.lss; exact rfl; exact rfl; exact rfl) | (apply Wl.addI; exact rfl; exact rfl; exact rfl; (constructor <;> omega)) | (apply Wl.convI64; exact rfl; exact rfl; (constructor <;> omega)) | (apply Wl.storeA; exact rfl; exact rfl; exact rfl; exact rfl; (repeat (first | apply HSet.here | apply HSet.there)); (repeat (first | apply LPut.s | apply LPut.z | apply LOver.nil | apply LOver.cons))) | (apply Wl.alloc; exact rfl; intro c hc ho) | (apply Wl.indexAddr; exact rfl; exact rfl; exact rfl; (constructor <;> omega)) | (apply Wl.indexArr; exact rfl; exact rfl; exact rfl; (constructor <;> omega)) | (apply Wl.nil) | (apply St.seq) | (apply St.block) | (apply St.region) | (apply St.condF; exact rfl; (first | with_reducible rfl | with_reducible assumption | decide)) | (apply St.skip) | (apply Gt.next) | (apply Gt.inNormal) | (apply Wl.splitP; exact rfl; exact rfl; all_goals (intros; try (exfalso; omega))) | (apply Wl.splitB; exact rfl; exact rfl; all_goals intros) | (apply St.condP; exact rfl; all_goals (intros; try (exfalso; omega))) | (apply St.condB; exact rfl; all_goals intros))
    apply Gt.round (i + 1)
    · exact hlt
    · omega
    · (repeat (first | exact Sub.nil | apply Sub.cons rfl))
    · exact fun u hu => Hp.pop (Hp.pop hu (by simp only; omega)) (by simp only; omega)
  have hin' : i = relas.length := by omega
  subst hin'
  repeat' (first | (apply Wl.assign; exact rfl; exact rfl) | (apply Wl.lss; exact rfl; exact rfl; exact rfl) | (apply Wl.nil) | (apply St.seq) | (apply St.region) | (apply St.condF; exact rfl; (first | with_reducible rfl | with_reducible assumption | decide)) | (apply St.ret) | (apply St.exit) | (apply Gt.next) | (apply Gt.thenExit) | (apply Gt.inExit) | (apply Gt.out1; exact rfl; exact rfl; intro w' hp) | (apply Wl.splitP; exact rfl; exact rfl; all_goals (intros; try (exfalso; omega))) | (apply Wl.splitB; exact rfl; exact rfl; all_goals intros) | (apply St.condP; exact rfl; all_goals (intros; try (exfalso; omega))) | (apply St.condB; exact rfl; all_goals intros))
  exact ⟨rfl, hpOf (u14.comp hp.upd fun k _ hs => hs.elim id fun y => Classical.byContradiction fun hn => y ⟨by simp only; omega, trivial⟩)⟩
end Go.Proofs.Ytcjikjadajmefaa
