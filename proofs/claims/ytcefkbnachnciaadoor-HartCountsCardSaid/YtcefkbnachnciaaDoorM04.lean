/-
  13 texts, one behind the other; each says what it proves. Conditions: as each text says.
-/
import Derived.Test.YtcefkbnachnciaaDoorM03
import Derived.Test.YtcefkbnachnciaaDoorM01
import Derived.Laws.StructEq
section
namespace Go.Proofs.YtcefkbnachnciaaDoor
open Go.RowKit Go.Pt
theorem OutP.hp {w w0 w' : World} {H : List Blk} {h cf cM : Nat} {xs : List Value} {pc : Int} {F : Fs} {f : Nat → Int} {v : Value} (k : OutP w h cf cM xs pc F f v) (hq : Hp w H w') (hw : h < w0.heap.size ∧ cf < w0.heap.size ∧ cM < w0.heap.size ∧ 0 < w0.heap.size) (hH : ∀ x ∈ H, w0.heap.size ≤ x.b) : OutP w' h cf cM xs pc F f v := by
  obtain ⟨a1, a2, a3, a4, a5, a6, a7, rfl, hc, hO⟩ := k
  refine ⟨a1, a2, a3, a4, a5, a6, a7, rfl, hc, hO.imp (fun k => ⟨k.1, k.2.hp hq hw hH⟩) fun k => ?_⟩
  obtain ⟨b1, b2, xs', pc', f', hS, hm⟩ := k
  exact ⟨b1, b2, xs', pc', f', hS.hp hq hw hH, hm⟩
theorem loadX_rng (f : Nat → Int) (a : Nat) (n : Nat) : 0 ≤ loadX f a n ∧ loadX f a n < 4294967296 := by
  cases n with
  | zero => unfold loadX; decide
  | succ n => rw [loadX_succ]; exact br32 _ _ _
theorem mloadP (c : Nat) (a n : Int) (f : Nat → Int) (w : World) (ha : 0 ≤ a ∧ a < 4294967296) (hn : W124 n) (hi : inM a n) (hc : memH w c f) :
    Calls Tryd.prog 24 #[.pointer (some ⟨c, 0, none⟩), .int .u32 a, .int .i64 n] w fun e w' => e = .returned (.tuple #[.int .u32 (loadX f (a - 2147483648).toNat n.toNat), .int .i64 0]) ∧ Hp w [] w' := by
  have := mload c a n f w ha hn hc
  rw [if_pos (show 2147483648 ≤ a ∧ a + n ≤ 2147483648 + 65536 from hi)] at this
  exact this
theorem mloadNo (c : Nat) (a n : Int) (f : Nat → Int) (w : World) (ha : 0 ≤ a ∧ a < 4294967296) (hn : W124 n) (hi : ¬ inM a n) (hc : memH w c f) :
    Calls Tryd.prog 24 #[.pointer (some ⟨c, 0, none⟩), .int .u32 a, .int .i64 n] w fun e w' => e = .returned (.tuple #[.int .u32 0, .int .i64 18]) ∧ Hp w [] w' := by
  have := mload c a n f w ha hn hc
  rw [if_neg (show ¬ (2147483648 ≤ a ∧ a + n ≤ 2147483648 + 65536) from hi)] at this
  exact this
theorem hasP (c : Nat) (a n : Int) (b : Bool) (w : World) (ha : 0 ≤ a ∧ a < 4294967296) (hn : 0 ≤ n ∧ n < 4294967296) (hb : b = true ↔ inM a n) :
    Calls Tryd.prog 18 #[.pointer (some ⟨c, 0, none⟩), .int .u32 a, .int .u32 n] w fun e w' => e = .returned (.bool b) ∧ Hp w [] w' := by
  have e : decide (2147483648 ≤ a ∧ a + n ≤ 2147483648 + 65536) = b := by
    cases b
    · exact decide_eq_false fun h => (by cases hb.2 h)
    · exact decide_eq_true (hb.1 rfl)
  rw [← e]
  exact has_any c a n w ha hn
theorem mstoreS (h cf cM : Nat) (xs : List Value) (pc a n x : Int) (F : Fs) (f : Nat → Int) (w : World) (hS : SS w h cf cM xs pc F f) (ha : 0 ≤ a ∧ a < 4294967296) (hn : W124 n) (hi : inM a n) :
    Calls Tryd.prog 20 #[.pointer (some ⟨cM, 0, none⟩), .int .u32 a, .int .i64 n, .int .u32 x] w
      fun e w' => ∃ v, e = .returned v ∧ ((∃ z, v = .int .i64 z) ∧ SS w' h cf cM xs pc F (storeX f (a - 2147483648).toNat x n.toNat)) ∧ Upd (fun k => k = h ∨ k = cf ∨ k = cM) w w' := by
  refine (mstore cM a n x f w ha hn hS.2.2.1).mono ?_
  rintro e w' ⟨⟨v, rfl⟩, hp⟩
  rw [if_pos (show 2147483648 ≤ a ∧ a + n ≤ 2147483648 + 65536 from hi)] at hp
  have u := Hp.turned hp
  obtain ⟨a1, a2, a3, a4, a5, a6, a7, ⟨z1, z2, z3⟩, n1, n2, n3⟩ := hS
  exact ⟨_, rfl, ⟨⟨v, rfl⟩, a1.upd u n2, a2.upd u n3, hp.own.at (.head _), a4, a5, a6, a7.upd u fun e => z3 e.symm, ⟨z1, z2, z3⟩, n1, n2, n3⟩, u.mono fun k _ e => .inr (.inr e)⟩
theorem widenE (o x : Int) (hx : 0 ≤ x ∧ x < 4294967296) : ∃ v : Int, (0 ≤ v ∧ v < 4294967296) ∧ ∀ w : World, Calls Tryd.prog 61 #[.int .i64 o, .int .u32 x] w fun e w' => e = .returned (.int .u32 v) ∧ Hp w [] w' := by
  by_cases h11 : o = 11
  · subst h11
    apply Exists.intro
    refine And.intro ?rng (fun w => ?z)
    case z =>
      refine enter (args := [_, _]) (Γ := [(0, _), (1, _)]) Tryd.func61 Tryd.ntmps61 rfl (of_decide_eq_true rfl) (.cons rfl (.cons rfl .nil)) ?_
      repeat' (first | (apply Wl.move; exact rfl; exact rfl) | (apply Wl.assign; exact rfl; exact rfl) | (apply Wl.eqlIs; exact rfl; exact rfl; exact rfl; (first | with_reducible assumption | with_reducible rfl)) | (apply Wl.convI; exact rfl; exact rfl) | (apply Wl.nil) | (apply St.seq) | (apply St.block) | (apply St.region) | (apply St.condT; exact rfl; (first | with_reducible rfl | with_reducible assumption | decide)) | (apply St.ret) | (apply Gt.next) | (apply Gt.thenRet) | (apply Gt.inRet) | (apply Gt.out1; exact rfl; exact rfl; intro w' hp))
      exact ⟨rfl, hp⟩
    case rng => (first | assumption | exact wr32 _ | exact br32 _ _ _ | exact and31 _ | (constructor <;> omega) | (apply fd32; first | assumption | exact wr32 _ | exact br32 _ _ _))
  by_cases h12 : o = 12
  · subst h12
    apply Exists.intro
    refine And.intro ?rng (fun w => ?z)
    case z =>
      refine enter (args := [_, _]) (Γ := [(0, _), (1, _)]) Tryd.func61 Tryd.ntmps61 rfl (of_decide_eq_true rfl) (.cons rfl (.cons rfl .nil)) ?_
      repeat' (first | (apply Wl.move; exact rfl; exact rfl) | (apply Wl.assign; exact rfl; exact rfl) | (apply Wl.eqlIs; exact rfl; exact rfl; exact rfl; (first | with_reducible assumption | with_reducible rfl)) | (apply Wl.eql; exact rfl; exact rfl; exact rfl) | (apply Wl.convI; exact rfl; exact rfl) | (apply Wl.nil) | (apply St.seq) | (apply St.block) | (apply St.region) | (apply St.condT; exact rfl; (first | with_reducible rfl | with_reducible assumption | decide)) | (apply St.condF; exact rfl; (first | with_reducible rfl | with_reducible assumption | decide)) | (apply St.ret) | (apply Gt.next) | (apply Gt.thenRet) | (apply Gt.inRet) | (apply Gt.out1; exact rfl; exact rfl; intro w' hp))
      exact ⟨rfl, hp⟩
    case rng => (first | assumption | exact wr32 _ | exact br32 _ _ _ | exact and31 _ | (constructor <;> omega) | (apply fd32; first | assumption | exact wr32 _ | exact br32 _ _ _))
  by_cases h14 : o = 14
  · subst h14
    apply Exists.intro
    refine And.intro ?rng (fun w => ?z)
    case z =>
      refine enter (args := [_, _]) (Γ := [(0, _), (1, _)]) Tryd.func61 Tryd.ntmps61 rfl (of_decide_eq_true rfl) (.cons rfl (.cons rfl .nil)) ?_
      repeat' (first | (apply Wl.move; exact rfl; exact rfl) | (apply Wl.assign; exact rfl; exact rfl) | (apply Wl.eqlIs; exact rfl; exact rfl; exact rfl; (first | with_reducible assumption | with_reducible rfl)) | (apply Wl.eql; exact rfl; exact rfl; exact rfl) | (apply Wl.and; exact rfl; exact rfl; exact rfl) | (apply Wl.nil) | (apply St.seq) | (apply St.block) | (apply St.region) | (apply St.condT; exact rfl; (first | with_reducible rfl | with_reducible assumption | decide)) | (apply St.condF; exact rfl; (first | with_reducible rfl | with_reducible assumption | decide)) | (apply St.ret) | (apply Gt.next) | (apply Gt.thenRet) | (apply Gt.inRet) | (apply Gt.out1; exact rfl; exact rfl; intro w' hp))
      exact ⟨rfl, hp⟩
    case rng => (first | assumption | exact wr32 _ | exact br32 _ _ _ | exact and31 _ | (constructor <;> omega) | (apply fd32; first | assumption | exact wr32 _ | exact br32 _ _ _))
  by_cases h15 : o = 15
  · subst h15
    apply Exists.intro
    refine And.intro ?rng (fun w => ?z)
    case z =>
      refine enter (args := [_, _]) (Γ := [(0, _), (1, _)]) Tryd.func61 Tryd.ntmps61 rfl (of_decide_eq_true rfl) (.cons rfl (.cons rfl .nil)) ?_
      repeat' (first | (apply Wl.move; exact rfl; exact rfl) | (apply Wl.assign; exact rfl; exact rfl) | (apply Wl.eqlIs; exact rfl; exact rfl; exact rfl; (first | with_reducible assumption | with_reducible rfl)) | (apply Wl.eql; exact rfl; exact rfl; exact rfl) | (apply Wl.and; exact rfl; exact rfl; exact rfl) | (apply Wl.nil) | (apply St.seq) | (apply St.block) | (apply St.region) | (apply St.condT; exact rfl; (first | with_reducible rfl | with_reducible assumption | decide)) | (apply St.condF; exact rfl; (first | with_reducible rfl | with_reducible assumption | decide)) | (apply St.ret) | (apply Gt.next) | (apply Gt.thenRet) | (apply Gt.inRet) | (apply Gt.out1; exact rfl; exact rfl; intro w' hp))
      exact ⟨rfl, hp⟩
    case rng => (first | assumption | exact wr32 _ | exact br32 _ _ _ | exact and31 _ | (constructor <;> omega) | (apply fd32; first | assumption | exact wr32 _ | exact br32 _ _ _))
  have d11 : decide (o = 11) = false := decide_eq_false h11
  have d12 : decide (o = 12) = false := decide_eq_false h12
  have d14 : decide (o = 14) = false := decide_eq_false h14
  have d15 : decide (o = 15) = false := decide_eq_false h15
  apply Exists.intro
  refine And.intro ?rng (fun w => ?z)
  case z =>
    refine enter (args := [_, _]) (Γ := [(0, _), (1, _)]) Tryd.func61 Tryd.ntmps61 rfl (of_decide_eq_true rfl) (.cons rfl (.cons rfl .nil)) ?_
    repeat' (first | (apply Wl.move; exact rfl; exact rfl) | (apply Wl.assign; exact rfl; exact rfl) | (apply Wl.eql; exact rfl; exact rfl; exact rfl) | (apply Wl.nil) | (apply St.seq) | (apply St.block) | (apply St.region) | (apply St.condF; exact rfl; (first | with_reducible rfl | with_reducible assumption | decide)) | (apply St.ret) | (apply St.skip) | (apply Gt.next) | (apply Gt.inNormal) | (apply Gt.out1; exact rfl; exact rfl; intro w' hp))
    exact ⟨rfl, hp⟩
  case rng => (first | assumption | exact wr32 _ | exact br32 _ _ _ | exact and31 _ | (constructor <;> omega) | (apply fd32; first | assumption | exact wr32 _ | exact br32 _ _ _))
set_option maxHeartbeats 16000000 in
theorem memU (h cf cM : Nat) (xs : List Value) (pc wd o rd r1 r2 im at_ b n : Int) (F : Fs) (f : Nat → Int) (w : World) (hS : SS w h cf cM xs pc F f) (hmd : F.md = 0) (hR : InstR rd r1 r2 im) (hat : 0 ≤ at_ ∧ at_ < 4294967296) (hn : W124 n) (hW : ∀ w : World, Calls Tryd.prog 43 #[.int .i64 o] w fun e w' => e = .returned (.int .i64 n) ∧ Hp w [] w') :
    Calls Tryd.prog 44 #[.pointer (some ⟨h, 0, none⟩), .agg #[.int .u32 wd, .bool false, .int .u32 0, .int .u32 0, .int .u32 0, .int .i64 0, .bool false], .agg #[.int .i64 o, .int .i64 rd, .int .i64 r1, .int .i64 r2, .int .u32 im], .int .u32 at_, .int .u32 b] w fun e w' => ∃ v, e = .returned v ∧ OutP w' h cf cM xs pc F f v ∧ Upd (fun k => k = h ∨ k = cf ∨ k = cM) w w' := by
  obtain ⟨k1, k2, k3, k4⟩ := id hR
  have hw := hS.lts
  have hu0 : Upd (Mv h cf cM w.heap.size) w w := Upd.refl _ _
  obtain ⟨c32, c33, c34⟩ := hS.1.at1
  obtain ⟨l1, l2, l3, l4⟩ := hS.lts
  have m0 : w.cell? ⟨cf, 0, none⟩ = some (.int .i64 F.md) := hS.2.1.ff.two
  rw [hmd] at m0
  have hn14 : 1 ≤ n ∧ n ≤ 4 := by unfold W124 at hn; omega
  have hSQ : ∀ {H : List Blk} {wq : World}, Hp w H wq → (hH : ∀ x ∈ H, w.heap.size ≤ x.b := by simp only [List.mem_cons, List.not_mem_nil, or_false, forall_eq_or_imp, forall_eq]; omega) → SS wq h cf cM xs pc F f := fun hq hH => hS.hp hq hw hH
  refine enter (args := [_, _, _, _, _]) (Γ := [(0, _), (1, _), (2, _), (3, _), (4, _)]) Tryd.func44 Tryd.ntmps44 rfl (of_decide_eq_true rfl) (.cons rfl (.cons rfl (.cons rfl (.cons rfl (.cons rfl .nil))))) ?_
  obtain ⟨wv, hwv, hWd⟩ := widenE o _ (loadX_rng f (at_ - 2147483648).toNat n.toNat)
  by_cases hin : inM at_ n
  · obtain ⟨bi, hbt, hbi⟩ : ∃ b : Bool, b = true ∧ (b = true ↔ inM at_ n) := ⟨true, rfl, fun _ => hin, fun _ => rfl⟩
    have hbn : (!bi) = false := by rw [hbt]; rfl
    repeat' (first | (apply Wl.callQ (f := 43); exact rfl; (repeat (first | exact Evs.nil | apply Evs.cons rfl)); (intro wq hq; refine (hW wq).mono ?_; rintro e wr ⟨rfl, hr⟩; exact ⟨rfl, hq.keep hr⟩)) | (apply Wl.callC (f := 40); exact rfl; (repeat (first | exact Evs.nil | apply Evs.cons rfl)); (intro wq hq; refine (form_any _ wq).mono ?_; rintro e wr ⟨⟨fv_, rfl⟩, hr⟩; refine ⟨_, _, rfl, hq.keep hr, ?_⟩; clear hr hq wr wq; by_cases hfv : fv_ = 4; have hfd : decide (fv_ = 4) = true := decide_eq_true hfv; rotate_left; have hfd : decide (fv_ = 4) = false := decide_eq_false hfv; rotate_left)) | (apply Wl.callS (f := 23) (w0 := w); exact rfl; (repeat (first | exact Evs.nil | apply Evs.cons rfl)); assumption; assumption; exact hw; (simp only [List.mem_cons, List.not_mem_nil, or_false, forall_eq_or_imp, forall_eq]; omega); (intro wq hSq; exact htrapS h cf cM _ _ F _ _ _ _ _ _ _ _ _ _ wq hSq hmd); (rintro v w1 ⟨rfl, hT1⟩ hu1; have hz1 := hu1.size)) | (apply Wl.callS (f := 48) (w0 := w); exact rfl; (repeat (first | exact Evs.nil | apply Evs.cons rfl)); assumption; assumption; exact hw; (simp only [List.mem_cons, List.not_mem_nil, or_false, forall_eq_or_imp, forall_eq]; omega); (intro wq hSq; exact hdoneS h cf cM _ _ _ F _ _ _ _ _ _ _ _ wq hSq (by first | assumption | exact wr32 _ | exact br32 _ _ _)); (rintro v w1 ⟨rfl, hS1⟩ hu1; have hz1 := hu1.size)) | (apply Wl.callS (f := 41) (w0 := w); exact rfl; (repeat (first | exact Evs.nil | apply Evs.cons rfl)); assumption; assumption; exact hw; (simp only [List.mem_cons, List.not_mem_nil, or_false, forall_eq_or_imp, forall_eq]; omega); (intro wq hSq; exact hsetS h cf cM _ _ _ _ F _ wq hSq (by first | assumption | omega) (by first | assumption | exact wr32 _ | exact br32 _ _ _)); (rintro v w2 ⟨rfl, hS2⟩ hu2; have hz2 := hu2.size; obtain ⟨e32, e33, e34⟩ := hS2.1.at1)) | (apply Wl.callS (f := 20) (w0 := w); exact rfl; (repeat (first | exact Evs.nil | apply Evs.cons rfl)); assumption; assumption; exact hw; (simp only [List.mem_cons, List.not_mem_nil, or_false, forall_eq_or_imp, forall_eq]; omega); (intro wq hSq; exact mstoreS h cf cM _ _ _ _ _ F _ wq hSq hat hn hin); (rintro v w2 ⟨⟨z_, rfl⟩, hS2⟩ hu2; have hz2 := hu2.size; obtain ⟨e32, e33, e34⟩ := hS2.1.at1)) | (apply Wl.callQ (f := 18); exact rfl; (repeat (first | exact Evs.nil | apply Evs.cons rfl)); (intro wq hq; refine (hasP cM at_ n bi wq hat (by omega) hbi).mono ?_; rintro e wr ⟨rfl, hr⟩; exact ⟨rfl, hq.keep hr⟩)) | (apply Wl.callQ (f := 17); exact rfl; (repeat (first | exact Evs.nil | apply Evs.cons rfl)); (intro wq hq; refine (may1X cf F at_ n _ wq (hSQ hq).2.1 hmd (hSQ hq).2.2.2.2.2.2.1).mono ?_; rintro e wr ⟨rfl, hr⟩; exact ⟨rfl, hq.keep hr⟩)) | (apply Wl.callQ (f := 24); exact rfl; (repeat (first | exact Evs.nil | apply Evs.cons rfl)); (intro wq hq; refine (mloadP cM at_ n f wq hat hn hin (hSQ hq).2.2.1).mono ?_; rintro e wr ⟨rfl, hr⟩; exact ⟨rfl, hq.keep hr⟩)) | (apply Wl.callQ (f := 61); exact rfl; (repeat (first | exact Evs.nil | apply Evs.cons rfl)); (intro wq hq; refine (hWd wq).mono ?_; rintro e wr ⟨rfl, hr⟩; exact ⟨rfl, hq.keep hr⟩)) | (apply St.bagX (i := 8) 7 []; exact mixed; (decide +kernel); kernel_rfl) | (apply St.bagX (i := 15) 7 []; exact mixed; (decide +kernel); kernel_rfl) | (apply Wl.loadO; exact rfl; exact rfl; (first | assumption); (repeat (first | exact trivial | exact hX.off (by first | omega | (simp only; omega)) | refine ⟨by first | assumption | omega | (simp only; omega), ?_⟩))) | (apply OpsX.nil) | (apply OpsX.v; (intro X hX; change Wl [_] _ _ _ _ _ _ _; apply Wl.catX; (repeat (first | apply CatB.nil | apply CatB.cons)))) | (apply Gt.endX; exact rfl) | (apply EndX.on; exact rfl) | (apply EndX.off; exact rfl) | (apply EndX.nil'; apply Wl.catE; (repeat (first | apply CatB.nil | apply CatB.cons))) | (apply Gt.outC'; exact rfl; infer_instance; exact rfl; (repeat (first | exact List.Mem.head _ | apply List.Mem.tail)); (repeat (first | apply LSub.z | apply LSub.t | apply LSub.s)); intro w' hp) | (apply Wl.move; exact rfl; exact rfl) | (apply Wl.assign; exact rfl; exact rfl) | (apply Wl.on; exact rfl; exact rfl; (first | with_reducible rfl | with_reducible assumption | decide)) | (apply Wl.extract; exact rfl; exact rfl; exact rfl) | (apply Wl.nilCheck; exact rfl; exact rfl) | (apply Wl.pickF; exact rfl; exact rfl; (first | with_reducible rfl | with_reducible assumption | decide); exact rfl) | (apply Wl.not; exact rfl; exact rfl) | (apply Wl.fieldAddr0; exact rfl; exact rfl) | (apply Wl.fieldAddrZ; exact rfl; exact rfl) | (apply Wl.loadH; exact rfl; exact rfl; (repeat (first | exact List.Mem.head _ | apply List.Mem.tail)); exact rfl) | (apply Wl.eqlIs; exact rfl; exact rfl; exact rfl; (first | with_reducible assumption | with_reducible rfl)) | (apply Wl.eql; exact rfl; exact rfl; exact rfl) | (apply Wl.neq; exact rfl; exact rfl; exact rfl) | (apply Wl.add; exact rfl; exact rfl; exact rfl) | (apply Wl.rem; exact rfl; exact rfl; exact rfl; (first | decide | omega)) | (apply Wl.convU32; exact rfl; exact rfl; (constructor <;> omega)) | (apply Wl.store; exact rfl; exact rfl; exact rfl; (repeat (first | apply HSet.here | apply HSet.there)); (repeat (first | apply LSet.z | apply LSet.s))) | (apply Wl.storeA; exact rfl; exact rfl; exact rfl; exact rfl; (repeat (first | apply HSet.here | apply HSet.there)); (repeat (first | apply LPut.s | apply LPut.z | apply LOver.nil | apply LOver.cons))) | (apply Wl.loadAH; exact rfl; exact rfl; (repeat (first | exact List.Mem.head _ | apply List.Mem.tail)); (repeat (first | apply LSub.z | apply LSub.t | apply LSub.s))) | (apply Wl.boxA; exact rfl; exact rfl; intro c hc ho) | (apply Wl.alloc; exact rfl; intro c hc ho) | (apply Wl.nil) | (apply St.seq) | (apply St.block) | (apply St.region) | (apply St.condT; exact rfl; (first | with_reducible rfl | with_reducible assumption | decide)) | (apply St.condF; exact rfl; (first | with_reducible rfl | with_reducible assumption | decide)) | (apply St.ret) | (apply St.skip) | (apply Gt.next) | (apply Gt.thenRet) | (apply Gt.inNormal) | (apply Gt.inRet) | (apply St.condP; exact rfl; all_goals (intros; try (exfalso; omega))) | (apply St.condB; exact rfl; all_goals intros))
    all_goals first
      | exact ⟨_, rfl, ⟨_, _, _, _, _, true, _, rfl, by decide, .inl ⟨rfl, hT1.hp hp hw (by simp only [List.mem_cons, List.not_mem_nil, or_false, forall_eq_or_imp, forall_eq]; omega)⟩⟩, finU hu1 hp (by simp only [List.mem_cons, List.not_mem_nil, or_false, forall_eq_or_imp, forall_eq]; omega)⟩
      | exact ⟨_, rfl, ⟨_, _, _, _, _, false, decide (fv_ = 4), rfl, by decide, .inr ⟨rfl, rfl, _, _, _, hS1.hp hp hw (by simp only [List.mem_cons, List.not_mem_nil, or_false, forall_eq_or_imp, forall_eq]; omega), .inr ⟨hn, hat, hin, by rw [hfd]; simpa using ‹(!mayB F.cf at_ n 1) = false›, fun j _ => rfl⟩⟩⟩, finU hu1 hp (by simp only [List.mem_cons, List.not_mem_nil, or_false, forall_eq_or_imp, forall_eq]; omega)⟩
      | exact ⟨_, rfl, ⟨_, _, _, _, _, false, true, rfl, by decide, .inr ⟨rfl, rfl, _, _, _, hS1.hp hp hw (by simp only [List.mem_cons, List.not_mem_nil, or_false, forall_eq_or_imp, forall_eq]; omega), .inr ⟨hn, hat, hin, by simpa using ‹(!mayB F.cf at_ n 2) = false›, fun j hj => storeX_out (by have hj2 : ¬ (at_ ≤ 2147483648 + (j : Int) ∧ 2147483648 + (j : Int) < at_ + n) := fun h => hj ⟨rfl, h⟩; unfold inM at hin; omega)⟩⟩⟩, finU hu1 hp (by simp only [List.mem_cons, List.not_mem_nil, or_false, forall_eq_or_imp, forall_eq]; omega)⟩
  · obtain ⟨bi, hbt, hbi⟩ : ∃ b : Bool, b = false ∧ (b = true ↔ inM at_ n) := ⟨false, rfl, fun h => (by cases h), fun h => (hin h).elim⟩
    have hbn : (!bi) = true := by rw [hbt]; rfl
    repeat' (first | (apply Wl.callQ (f := 43); exact rfl; (repeat (first | exact Evs.nil | apply Evs.cons rfl)); (intro wq hq; refine (hW wq).mono ?_; rintro e wr ⟨rfl, hr⟩; exact ⟨rfl, hq.keep hr⟩)) | (apply Wl.callC (f := 40); exact rfl; (repeat (first | exact Evs.nil | apply Evs.cons rfl)); (intro wq hq; refine (form_any _ wq).mono ?_; rintro e wr ⟨⟨fv_, rfl⟩, hr⟩; refine ⟨_, _, rfl, hq.keep hr, ?_⟩; clear hr hq wr wq; by_cases hfv : fv_ = 4; have hfd : decide (fv_ = 4) = true := decide_eq_true hfv; rotate_left; have hfd : decide (fv_ = 4) = false := decide_eq_false hfv; rotate_left)) | (apply Wl.callS (f := 23) (w0 := w); exact rfl; (repeat (first | exact Evs.nil | apply Evs.cons rfl)); assumption; assumption; exact hw; (simp only [List.mem_cons, List.not_mem_nil, or_false, forall_eq_or_imp, forall_eq]; omega); (intro wq hSq; exact htrapS h cf cM _ _ F _ _ _ _ _ _ _ _ _ _ wq hSq hmd); (rintro v w1 ⟨rfl, hT1⟩ hu1; have hz1 := hu1.size)) | (apply Wl.callQ (f := 18); exact rfl; (repeat (first | exact Evs.nil | apply Evs.cons rfl)); (intro wq hq; refine (hasP cM at_ n bi wq hat (by omega) hbi).mono ?_; rintro e wr ⟨rfl, hr⟩; exact ⟨rfl, hq.keep hr⟩)) | (apply Wl.loadO; exact rfl; exact rfl; (first | assumption); (repeat (first | exact trivial | exact hX.off (by first | omega | (simp only; omega)) | refine ⟨by first | assumption | omega | (simp only; omega), ?_⟩))) | (apply Gt.outC'; exact rfl; infer_instance; exact rfl; (repeat (first | exact List.Mem.head _ | apply List.Mem.tail)); (repeat (first | apply LSub.z | apply LSub.t | apply LSub.s)); intro w' hp) | (apply Wl.move; exact rfl; exact rfl) | (apply Wl.assign; exact rfl; exact rfl) | (apply Wl.off; exact rfl; exact rfl; exact rfl; (first | with_reducible rfl | (show _ = false; with_reducible assumption) | (show _ = true; with_reducible assumption) | decide)) | (apply Wl.nilCheck; exact rfl; exact rfl) | (apply Wl.pickT; exact rfl; exact rfl; (first | with_reducible rfl | with_reducible assumption | decide); exact rfl) | (apply Wl.not; exact rfl; exact rfl) | (apply Wl.fieldAddr0; exact rfl; exact rfl) | (apply Wl.fieldAddrZ; exact rfl; exact rfl) | (apply Wl.loadH; exact rfl; exact rfl; (repeat (first | exact List.Mem.head _ | apply List.Mem.tail)); exact rfl) | (apply Wl.eqlIs; exact rfl; exact rfl; exact rfl; (first | with_reducible assumption | with_reducible rfl)) | (apply Wl.eql; exact rfl; exact rfl; exact rfl) | (apply Wl.neq; exact rfl; exact rfl; exact rfl) | (apply Wl.rem; exact rfl; exact rfl; exact rfl; (first | decide | omega)) | (apply Wl.convU32; exact rfl; exact rfl; (constructor <;> omega)) | (apply Wl.store; exact rfl; exact rfl; exact rfl; (repeat (first | apply HSet.here | apply HSet.there)); (repeat (first | apply LSet.z | apply LSet.s))) | (apply Wl.storeA; exact rfl; exact rfl; exact rfl; exact rfl; (repeat (first | apply HSet.here | apply HSet.there)); (repeat (first | apply LPut.s | apply LPut.z | apply LOver.nil | apply LOver.cons))) | (apply Wl.loadAH; exact rfl; exact rfl; (repeat (first | exact List.Mem.head _ | apply List.Mem.tail)); (repeat (first | apply LSub.z | apply LSub.t | apply LSub.s))) | (apply Wl.boxA; exact rfl; exact rfl; intro c hc ho) | (apply Wl.alloc; exact rfl; intro c hc ho) | (apply Wl.nil) | (apply St.seq) | (apply St.block) | (apply St.region) | (apply St.condT; exact rfl; (first | with_reducible rfl | with_reducible assumption | decide)) | (apply St.condF; exact rfl; (first | with_reducible rfl | with_reducible assumption | decide)) | (apply St.ret) | (apply St.skip) | (apply Gt.next) | (apply Gt.thenRet) | (apply Gt.inRet) | (apply St.condP; exact rfl; all_goals (intros; try (exfalso; omega))))
    all_goals exact ⟨_, rfl, ⟨_, _, _, _, _, true, _, rfl, by decide, .inl ⟨rfl, hT1.hp hp hw (by simp only [List.mem_cons, List.not_mem_nil, or_false, forall_eq_or_imp, forall_eq]; omega)⟩⟩, finU hu1 hp (by simp only [List.mem_cons, List.not_mem_nil, or_false, forall_eq_or_imp, forall_eq]; omega)⟩
end Go.Proofs.YtcefkbnachnciaaDoor
end
section
namespace Go.Proofs.YtcefkbnachnciaaDoor
open Go.RowKit Go.Pt
set_option maxHeartbeats 16000000 in
theorem doU (h cf cM : Nat) (xs : List Value) (pc wd o rd r1 r2 im : Int) (F : Fs) (f : Nat → Int) (w : World) (hS : SS w h cf cM xs pc F f) (hmd : F.md = 0) (hR : InstR rd r1 r2 im) :
    Calls Tryd.prog 25 #[.pointer (some ⟨h, 0, none⟩), .agg #[.int .u32 wd, .bool false, .int .u32 0, .int .u32 0, .int .u32 0, .int .i64 0, .bool false], .agg #[.int .i64 o, .int .i64 rd, .int .i64 r1, .int .i64 r2, .int .u32 im]] w fun e w' => ∃ v, e = .returned v ∧ OutP w' h cf cM xs pc F f v ∧ Upd (fun k => k = h ∨ k = cf ∨ k = cM) w w' := by
  obtain ⟨k1, k2, k3, k4⟩ := id hR
  have hw := hS.lts
  have hu0 : Upd (Mv h cf cM w.heap.size) w w := Upd.refl _ _
  obtain ⟨c32, c33, c34⟩ := hS.1.at1
  obtain ⟨l1, l2, l3, l4⟩ := hS.lts
  have m0 : w.cell? ⟨cf, 0, none⟩ = some (.int .i64 F.md) := hS.2.1.ff.two
  rw [hmd] at m0
  have hSQ : ∀ {H : List Blk} {wq : World}, Hp w H wq → (hH : ∀ x ∈ H, w.heap.size ≤ x.b := by simp only [List.mem_cons, List.not_mem_nil, or_false, forall_eq_or_imp, forall_eq]; omega) → SS wq h cf cM xs pc F f := fun hq hH => hS.hp hq hw hH
  obtain ⟨za, hza, ra⟩ := hS.reg k2
  obtain ⟨zb, hzb, rb⟩ := hS.reg k3
  obtain ⟨n, hn, hW⟩ := widthE o
  refine enter (args := [_, _, _]) (Γ := [(0, _), (1, _), (2, _)]) Tryd.func25 Tryd.ntmps25 rfl (of_decide_eq_true rfl) (.cons rfl (.cons rfl (.cons rfl .nil))) ?_
  repeat' (first | (apply Wl.callC (f := 40); exact rfl; (repeat (first | exact Evs.nil | apply Evs.cons rfl)); (intro wq hq; refine (form_any _ wq).mono ?_; rintro e wr ⟨⟨fv_, rfl⟩, hr⟩; refine ⟨_, _, rfl, hq.keep hr, ?_⟩; clear hr hq wr wq)) | (apply Wl.callQ (f := 43); exact rfl; (repeat (first | exact Evs.nil | apply Evs.cons rfl)); (intro wq hq; refine (hW wq).mono ?_; rintro e wr ⟨rfl, hr⟩; exact ⟨rfl, hq.keep hr⟩)) | (apply Wl.callC (f := 42); exact rfl; (repeat (first | exact Evs.nil | apply Evs.cons rfl)); (intro wq hq; refine (goes_any _ _ _ wq).mono ?_; rintro e wr ⟨⟨gx_, gy_, rfl⟩, hr⟩; refine ⟨_, _, rfl, hq.keep hr, ?_⟩; clear hr hq wr wq)) | (apply Wl.callC (f := 45); exact rfl; (repeat (first | exact Evs.nil | apply Evs.cons rfl)); (intro wq hq; refine (reckon_any _ _ _ wq (by assumption) (by assumption)).mono ?_; rintro e wr ⟨⟨rv_, ry_, rfl, hrv_⟩, hr⟩; refine ⟨_, _, rfl, hq.keep hr, ?_⟩; clear hr hq wr wq)) | (apply Wl.callS (f := 23) (w0 := w); exact rfl; (repeat (first | exact Evs.nil | apply Evs.cons rfl)); assumption; assumption; exact hw; (simp only [List.mem_cons, List.not_mem_nil, or_false, forall_eq_or_imp, forall_eq]; omega); (intro wq hSq; exact htrapS h cf cM _ _ F _ _ _ _ _ _ _ _ _ _ wq hSq hmd); (rintro v w1 ⟨rfl, hT1⟩ hu1; have hz1 := hu1.size)) | (apply Wl.callS (f := 48) (w0 := w); exact rfl; (repeat (first | exact Evs.nil | apply Evs.cons rfl)); assumption; assumption; exact hw; (simp only [List.mem_cons, List.not_mem_nil, or_false, forall_eq_or_imp, forall_eq]; omega); (intro wq hSq; exact hdoneS h cf cM _ _ _ F _ _ _ _ _ _ _ _ wq hSq (by first | assumption | exact wr32 _ | exact br32 _ _ _)); (rintro v w1 ⟨rfl, hS1⟩ hu1; have hz1 := hu1.size)) | (apply Wl.callS (f := 41) (w0 := w); exact rfl; (repeat (first | exact Evs.nil | apply Evs.cons rfl)); assumption; assumption; exact hw; (simp only [List.mem_cons, List.not_mem_nil, or_false, forall_eq_or_imp, forall_eq]; omega); (intro wq hSq; exact hsetS h cf cM _ _ _ _ F _ wq hSq (by first | assumption | omega) (by first | assumption | exact wr32 _ | exact br32 _ _ _)); (rintro v w2 ⟨rfl, hS2⟩ hu2; have hz2 := hu2.size; obtain ⟨e32, e33, e34⟩ := hS2.1.at1)) | (apply Wl.callS (f := 44) (w0 := w); exact rfl; (repeat (first | exact Evs.nil | apply Evs.cons rfl)); assumption; assumption; exact hw; (simp only [List.mem_cons, List.not_mem_nil, or_false, forall_eq_or_imp, forall_eq]; omega); (intro wq hSq; exact memU h cf cM _ _ _ _ _ _ _ _ _ _ n F _ wq hSq hmd hR (by exact wr32 _) (by unfold W124 at hn ⊢; omega) hW); (rintro v w1 ⟨a1_, a2_, a3_, a4_, a5_, a6_, a7_, rfl, hc1, hO⟩ hu1; have hz1 := hu1.size)) | (apply Wl.callS (f := 47) (w0 := w); exact rfl; (repeat (first | exact Evs.nil | apply Evs.cons rfl)); assumption; assumption; exact hw; (simp only [List.mem_cons, List.not_mem_nil, or_false, forall_eq_or_imp, forall_eq]; omega); (intro wq hSq; exact sysU h cf cM _ _ _ _ _ _ _ _ _ F _ wq hSq hmd (by exact wr32 _)); (rintro v w1 ⟨a1_, a2_, a3_, a4_, a5_, a6_, a7_, rfl, hc1, hO⟩ hu1; have hz1 := hu1.size)) | (apply Wl.callQ (f := 46); exact rfl; (repeat (first | exact Evs.nil | apply Evs.cons rfl)); (intro wq hq; refine (regU h cf cM _ _ _ _ _ _ _ _ F _ wq (hSQ hq) hmd hR).mono ?_; rintro e wr ⟨rfl, hr⟩; exact ⟨rfl, hq.keep hr⟩)) | (apply St.bagX (i := 7) 8 []; exact mixed; (decide +kernel); kernel_rfl) | (apply Wl.loadO; exact rfl; exact rfl; (first | assumption); (repeat (first | exact trivial | exact hX.off (by first | omega | (simp only; omega)) | refine ⟨by first | assumption | omega | (simp only; omega), ?_⟩))) | (apply OpsX.nil) | (apply OpsX.v; (intro X hX; change Wl [_] _ _ _ _ _ _ _; apply Wl.catX; (repeat (first | apply CatB.nil | apply CatB.cons)))) | (apply Gt.endX; exact rfl) | (apply EndX.on; exact rfl) | (apply EndX.off; exact rfl) | (apply EndX.nil'; apply Wl.catE; (repeat (first | apply CatB.nil | apply CatB.cons))) | (apply Gt.outC'; exact rfl; infer_instance; exact rfl; (repeat (first | exact List.Mem.head _ | apply List.Mem.tail)); (repeat (first | apply LSub.z | apply LSub.t | apply LSub.s)); intro w' hp) | (apply Wl.move; exact rfl; exact rfl) | (apply Wl.assign; exact rfl; exact rfl) | (apply Wl.on; exact rfl; exact rfl; (first | with_reducible rfl | with_reducible assumption | decide)) | (apply Wl.off; exact rfl; exact rfl; exact rfl; (first | with_reducible rfl | (show _ = false; with_reducible assumption) | (show _ = true; with_reducible assumption) | decide)) | (apply Wl.extract; exact rfl; exact rfl; exact rfl) | (apply Wl.nilCheck; exact rfl; exact rfl) | (apply Wl.pickT; exact rfl; exact rfl; (first | with_reducible rfl | with_reducible assumption | decide); exact rfl) | (apply Wl.pickF; exact rfl; exact rfl; (first | with_reducible rfl | with_reducible assumption | decide); exact rfl) | (apply Wl.not; exact rfl; exact rfl) | (apply Wl.fieldAddr0; exact rfl; exact rfl) | (apply Wl.fieldAddrZ; exact rfl; exact rfl) | (apply Wl.loadH; exact rfl; exact rfl; (repeat (first | exact List.Mem.head _ | apply List.Mem.tail)); exact rfl) | (apply Wl.eqlIs; exact rfl; exact rfl; exact rfl; (first | with_reducible assumption | with_reducible rfl)) | (apply Wl.eql; exact rfl; exact rfl; exact rfl) | (apply Wl.neq; exact rfl; exact rfl; exact rfl) | (apply Wl.gtr; exact rfl; exact rfl; exact rfl) | (apply Wl.add; exact rfl; exact rfl; exact rfl) | (apply Wl.rem; exact rfl; exact rfl; exact rfl; (first | decide | omega)) | (apply Wl.andNot; exact rfl; exact rfl; exact rfl) | (apply Wl.store; exact rfl; exact rfl; exact rfl; (repeat (first | apply HSet.here | apply HSet.there)); (repeat (first | apply LSet.z | apply LSet.s))) | (apply Wl.storeA; exact rfl; exact rfl; exact rfl; exact rfl; (repeat (first | apply HSet.here | apply HSet.there)); (repeat (first | apply LPut.s | apply LPut.z | apply LOver.nil | apply LOver.cons))) | (apply Wl.loadAH; exact rfl; exact rfl; (repeat (first | exact List.Mem.head _ | apply List.Mem.tail)); (repeat (first | apply LSub.z | apply LSub.t | apply LSub.s))) | (apply Wl.boxA; exact rfl; exact rfl; intro c hc ho) | (apply Wl.alloc; exact rfl; intro c hc ho) | (apply Wl.indexArr; exact rfl; exact rfl; exact rfl; (constructor <;> omega)) | (apply Wl.nil) | (apply Wl.nilQ) | (apply St.seq) | (apply St.block) | (apply St.region) | (apply St.draw; exact mixed; (kernel_rfl); exact (fun _ h => Hp.drew h)) | (apply St.condT; exact rfl; (first | with_reducible rfl | with_reducible assumption | decide)) | (apply St.ret) | (apply St.skip) | (apply Gt.next) | (apply Gt.thenRet) | (apply Gt.inNormal) | (apply Gt.inRet) | (apply Wl.splitP; exact rfl; exact rfl; all_goals (intros; try (exfalso; omega))) | (apply St.condP; exact rfl; all_goals (intros; try (exfalso; omega))) | (apply St.condB; exact rfl; all_goals intros))
  all_goals first
    | exact ⟨_, rfl, ⟨_, _, _, _, _, true, _, rfl, by decide, .inl ⟨rfl, hT1.hp hp hw (by simp only [List.mem_cons, List.not_mem_nil, or_false, forall_eq_or_imp, forall_eq]; omega)⟩⟩, finU hu1 hp (by simp only [List.mem_cons, List.not_mem_nil, or_false, forall_eq_or_imp, forall_eq]; omega)⟩
    | exact ⟨_, rfl, ⟨_, _, _, _, _, false, _, rfl, by decide, .inr ⟨rfl, rfl, _, _, _, hS1.hp hp hw (by simp only [List.mem_cons, List.not_mem_nil, or_false, forall_eq_or_imp, forall_eq]; omega), .inl ⟨rfl, rfl⟩⟩⟩, finU hu1 hp (by simp only [List.mem_cons, List.not_mem_nil, or_false, forall_eq_or_imp, forall_eq]; omega)⟩
    | exact ⟨_, rfl, OutP.hp ⟨_, _, _, _, _, _, _, rfl, hc1, hO⟩ hp hw (by simp only [List.mem_cons, List.not_mem_nil, or_false, forall_eq_or_imp, forall_eq]; omega), finU hu1 hp (by simp only [List.mem_cons, List.not_mem_nil, or_false, forall_eq_or_imp, forall_eq]; omega)⟩
def StepO (w' : World) (h cf cM : Nat) (xs : List Value) (pc : Int) (F : Fs) (f : Nat → Int) (v : Value) : Prop :=
  (dueOf F.md F.st F.mie F.mip = true ∧ v = trc 0 true 2147483655 0 0 0 false ∧ TrapP w' h cf cM xs pc F f 2147483655 0) ∨
  (dueOf F.md F.st F.mie F.mip = false ∧ OutP w' h cf cM xs pc F f v ∧ (mayB F.cf pc 4 4 = true ∨ ∃ wd c1 tl1 at_ wi st, v = trc wd true c1 tl1 at_ wi st))
set_option maxHeartbeats 16000000 in
theorem stepU (h cf cM : Nat) (xs : List Value) (pc : Int) (F : Fs) (f : Nat → Int) (w : World) (hS : SS w h cf cM xs pc F f) (hmd : F.md = 0) :
    Calls Tryd.prog 9 #[.pointer (some ⟨h, 0, none⟩)] w fun e w' => ∃ v, e = .returned v ∧ StepO w' h cf cM xs pc F f v ∧ Upd (fun k => k = h ∨ k = cf ∨ k = cM) w w' := by
  have hw := hS.lts
  have hu0 : Upd (Mv h cf cM w.heap.size) w w := Upd.refl _ _
  obtain ⟨c32, c33, c34⟩ := hS.1.at1
  obtain ⟨l1, l2, l3, l4⟩ := hS.lts
  have m0 : w.cell? ⟨cf, 0, none⟩ = some (.int .i64 F.md) := hS.2.1.ff.two
  rw [hmd] at m0
  have hSQ : ∀ {H : List Blk} {wq : World}, Hp w H wq → (hH : ∀ x ∈ H, w.heap.size ≤ x.b := by simp only [List.mem_cons, List.not_mem_nil, or_false, forall_eq_or_imp, forall_eq]; omega) → SS wq h cf cM xs pc F f := fun hq hH => hS.hp hq hw hH
  have hpcr := hS.2.2.2.2.1
  have hDue : ∀ wq : World, FX wq cf F → Calls Tryd.prog 22 #[.pointer (some ⟨cf, 0, none⟩)] wq fun e w' => e = .returned (.bool (dueOf F.md F.st F.mie F.mip)) ∧ Hp wq [] w' := fun wq hF => fdue cf _ _ _ _ _ _ _ _ _ _ wq hF.2.2
  refine enter (args := [_]) (Γ := [(0, _)]) Tryd.func9 Tryd.ntmps9 rfl (of_decide_eq_true rfl) (.cons rfl .nil) ?_
  generalize hdv : dueOf F.md F.st F.mie F.mip = du at *
  cases du
  rotate_left
  · repeat' (first | (apply Wl.callQ (f := 22); exact rfl; (repeat (first | exact Evs.nil | apply Evs.cons rfl)); (intro wq hq; refine (hDue wq (hSQ hq).2.1).mono ?_; rintro e wr ⟨rfl, hr⟩; exact ⟨rfl, hq.keep hr⟩)) | (apply Wl.callS (f := 23) (w0 := w); exact rfl; (repeat (first | exact Evs.nil | apply Evs.cons rfl)); assumption; assumption; exact hw; (simp only [List.mem_cons, List.not_mem_nil, or_false, forall_eq_or_imp, forall_eq]; omega); (intro wq hSq; exact htrapS h cf cM _ _ F _ _ _ _ _ _ _ _ _ _ wq hSq hmd); (rintro v w1 ⟨rfl, hT1⟩ hu1; have hz1 := hu1.size)) | (apply Wl.loadO; exact rfl; exact rfl; (first | assumption); (repeat (first | exact trivial | exact hX.off (by first | omega | (simp only; omega)) | refine ⟨by first | assumption | omega | (simp only; omega), ?_⟩))) | (apply Gt.outC'; exact rfl; infer_instance; exact rfl; (repeat (first | exact List.Mem.head _ | apply List.Mem.tail)); (repeat (first | apply LSub.z | apply LSub.t | apply LSub.s)); intro w' hp) | (apply Wl.move; exact rfl; exact rfl) | (apply Wl.nilCheck; exact rfl; exact rfl) | (apply Wl.fieldAddrZ; exact rfl; exact rfl) | (apply Wl.eqlPN; exact rfl; exact rfl; exact rfl) | (apply Wl.storeA; exact rfl; exact rfl; exact rfl; exact rfl; (repeat (first | apply HSet.here | apply HSet.there)); (repeat (first | apply LPut.s | apply LPut.z | apply LOver.nil | apply LOver.cons))) | (apply Wl.buildS; exact rfl; (repeat (first | exact Parts.nil | apply Parts.cons rfl)); (repeat (first | apply Fills.nil | (apply Fills.one; exact rfl; exact rfl; (repeat (first | apply LSet.z | apply LSet.s))) | (apply Fills.agg; exact rfl; exact rfl; (repeat (first | apply LPut.s | apply LPut.z | apply LOver.nil | apply LOver.cons)))))) | (apply Wl.alloc; exact rfl; intro c hc ho) | (apply Wl.nil) | (apply St.seq) | (apply St.region) | (apply St.condT; exact rfl; (first | with_reducible rfl | with_reducible assumption | decide)) | (apply St.condF; exact rfl; (first | with_reducible rfl | with_reducible assumption | decide)) | (apply St.ret) | (apply St.skip) | (apply Gt.next) | (apply Gt.thenRet))
    exact ⟨_, rfl, .inl ⟨hdv, rfl, hT1.hp hp hw (by simp only [List.mem_cons, List.not_mem_nil, or_false, forall_eq_or_imp, forall_eq]; omega)⟩, finU hu1 hp (by simp only [List.mem_cons, List.not_mem_nil, or_false, forall_eq_or_imp, forall_eq]; omega)⟩
  · by_cases hin : inM pc 4
    · repeat' (first | (apply Wl.callQ (f := 22); exact rfl; (repeat (first | exact Evs.nil | apply Evs.cons rfl)); (intro wq hq; refine (hDue wq (hSQ hq).2.1).mono ?_; rintro e wr ⟨rfl, hr⟩; exact ⟨rfl, hq.keep hr⟩)) | (apply Wl.callS (f := 23) (w0 := w); exact rfl; (repeat (first | exact Evs.nil | apply Evs.cons rfl)); assumption; assumption; exact hw; (simp only [List.mem_cons, List.not_mem_nil, or_false, forall_eq_or_imp, forall_eq]; omega); (intro wq hSq; exact htrapS h cf cM _ _ F _ _ _ _ _ _ _ _ _ _ wq hSq hmd); (rintro v w1 ⟨rfl, hT1⟩ hu1; have hz1 := hu1.size)) | (apply Wl.callQQ (f := 24); exact rfl; (repeat (first | exact Evs.nil | apply Evs.cons rfl)); (intro wq hq; refine (mloadP cM pc 4 f wq hpcr (.inr (.inr rfl)) hin (hSQ hq).2.2.1).mono ?_; rintro e wr ⟨rfl, hr⟩; exact ⟨rfl, hq.keep hr⟩)) | (apply Wl.callQQ (f := 17); exact rfl; (repeat (first | exact Evs.nil | apply Evs.cons rfl)); (intro wq hq; refine (may1X cf F pc 4 4 wq (hSQ hq).2.1 hmd (hSQ hq).2.2.2.2.2.2.1).mono ?_; rintro e wr ⟨rfl, hr⟩; exact ⟨rfl, hq.keep hr⟩)) | (apply Wl.callC (f := 26); exact rfl; (repeat (first | exact Evs.nil | apply Evs.cons rfl)); (intro wq hq; refine (dec_any _ wq (loadX_rng _ _ _)).mono ?_; rintro e wr ⟨⟨o1_, o2_, o3_, o4_, o5_, rfl, hoR_⟩, hr⟩; refine ⟨_, _, rfl, hq.keep hr, ?_⟩; clear hr hq wr wq)) | (apply Wl.callS (f := 25) (w0 := w); exact rfl; (repeat (first | exact Evs.nil | apply Evs.cons rfl)); assumption; assumption; exact hw; (simp only [List.mem_cons, List.not_mem_nil, or_false, forall_eq_or_imp, forall_eq]; omega); (intro wq hSq; exact doU h cf cM _ _ _ _ _ _ _ _ F _ wq hSq hmd hoR_); (rintro v w1 ⟨a1_, a2_, a3_, a4_, a5_, a6_, a7_, rfl, hc1, hO⟩ hu1; have hz1 := hu1.size)) | (apply Wl.loadO; exact rfl; exact rfl; (first | assumption); (repeat (first | exact trivial | exact hX.off (by first | omega | (simp only; omega)) | refine ⟨by first | assumption | omega | (simp only; omega), ?_⟩))) | (apply Gt.outC'; exact rfl; infer_instance; exact rfl; (repeat (first | exact List.Mem.head _ | apply List.Mem.tail)); (repeat (first | apply LSub.z | apply LSub.t | apply LSub.s)); intro w' hp) | (apply Wl.move; exact rfl; exact rfl) | (apply Wl.assign; exact rfl; exact rfl) | (apply Wl.on; exact rfl; exact rfl; (first | with_reducible rfl | with_reducible assumption | decide)) | (apply Wl.extract; exact rfl; exact rfl; exact rfl) | (apply Wl.nilCheck; exact rfl; exact rfl) | (apply Wl.pickF; exact rfl; exact rfl; (first | with_reducible rfl | with_reducible assumption | decide); exact rfl) | (apply Wl.not; exact rfl; exact rfl) | (apply Wl.fieldAddrZ; exact rfl; exact rfl) | (apply Wl.eqlPN; exact rfl; exact rfl; exact rfl) | (apply Wl.neqIs; exact rfl; exact rfl; exact rfl; (first | with_reducible assumption | with_reducible rfl)) | (apply Wl.neq; exact rfl; exact rfl; exact rfl) | (apply Wl.rem; exact rfl; exact rfl; exact rfl; (first | decide | omega)) | (apply Wl.storeA; exact rfl; exact rfl; exact rfl; exact rfl; (repeat (first | apply HSet.here | apply HSet.there)); (repeat (first | apply LPut.s | apply LPut.z | apply LOver.nil | apply LOver.cons))) | (apply Wl.buildS; exact rfl; (repeat (first | exact Parts.nil | apply Parts.cons rfl)); (repeat (first | apply Fills.nil | (apply Fills.one; exact rfl; exact rfl; (repeat (first | apply LSet.z | apply LSet.s))) | (apply Fills.agg; exact rfl; exact rfl; (repeat (first | apply LPut.s | apply LPut.z | apply LOver.nil | apply LOver.cons)))))) | (apply Wl.alloc; exact rfl; intro c hc ho) | (apply Wl.nil) | (apply Wl.nilQ) | (apply St.seq) | (apply St.region) | (apply St.draw; exact mixed; (kernel_rfl); exact (fun _ h => Hp.drew h)) | (apply St.condF; exact rfl; (first | with_reducible rfl | with_reducible assumption | decide)) | (apply St.ret) | (apply St.skip) | (apply Gt.next) | (apply Gt.thenRet) | (apply St.condP; exact rfl; all_goals (intros; try (exfalso; omega))) | (apply St.condB; exact rfl; all_goals intros))
      all_goals first
        | exact ⟨_, rfl, .inr ⟨hdv, ⟨_, _, _, _, _, true, _, rfl, by decide, .inl ⟨rfl, hT1.hp hp hw (by simp only [List.mem_cons, List.not_mem_nil, or_false, forall_eq_or_imp, forall_eq]; omega)⟩⟩, .inr ⟨_, _, _, _, _, _, rfl⟩⟩, finU hu1 hp (by simp only [List.mem_cons, List.not_mem_nil, or_false, forall_eq_or_imp, forall_eq]; omega)⟩
        | exact ⟨_, rfl, .inr ⟨hdv, OutP.hp ⟨_, _, _, _, _, _, _, rfl, hc1, hO⟩ hp hw (by simp only [List.mem_cons, List.not_mem_nil, or_false, forall_eq_or_imp, forall_eq]; omega), .inl (by simpa using ‹(!mayB F.cf pc 4 4) = false›)⟩, finU hu1 hp (by simp only [List.mem_cons, List.not_mem_nil, or_false, forall_eq_or_imp, forall_eq]; omega)⟩
    · repeat' (first | (apply Wl.callQ (f := 22); exact rfl; (repeat (first | exact Evs.nil | apply Evs.cons rfl)); (intro wq hq; refine (hDue wq (hSQ hq).2.1).mono ?_; rintro e wr ⟨rfl, hr⟩; exact ⟨rfl, hq.keep hr⟩)) | (apply Wl.callS (f := 23) (w0 := w); exact rfl; (repeat (first | exact Evs.nil | apply Evs.cons rfl)); assumption; assumption; exact hw; (simp only [List.mem_cons, List.not_mem_nil, or_false, forall_eq_or_imp, forall_eq]; omega); (intro wq hSq; exact htrapS h cf cM _ _ F _ _ _ _ _ _ _ _ _ _ wq hSq hmd); (rintro v w1 ⟨rfl, hT1⟩ hu1; have hz1 := hu1.size)) | (apply Wl.callQQ (f := 24); exact rfl; (repeat (first | exact Evs.nil | apply Evs.cons rfl)); (intro wq hq; refine (mloadNo cM pc 4 f wq hpcr (.inr (.inr rfl)) hin (hSQ hq).2.2.1).mono ?_; rintro e wr ⟨rfl, hr⟩; exact ⟨rfl, hq.keep hr⟩)) | (apply Wl.loadO; exact rfl; exact rfl; (first | assumption); (repeat (first | exact trivial | exact hX.off (by first | omega | (simp only; omega)) | refine ⟨by first | assumption | omega | (simp only; omega), ?_⟩))) | (apply Gt.outC'; exact rfl; infer_instance; exact rfl; (repeat (first | exact List.Mem.head _ | apply List.Mem.tail)); (repeat (first | apply LSub.z | apply LSub.t | apply LSub.s)); intro w' hp) | (apply Wl.move; exact rfl; exact rfl) | (apply Wl.assign; exact rfl; exact rfl) | (apply Wl.off; exact rfl; exact rfl; exact rfl; (first | with_reducible rfl | (show _ = false; with_reducible assumption) | (show _ = true; with_reducible assumption) | decide)) | (apply Wl.extract; exact rfl; exact rfl; exact rfl) | (apply Wl.nilCheck; exact rfl; exact rfl) | (apply Wl.pickT; exact rfl; exact rfl; (first | with_reducible rfl | with_reducible assumption | decide); exact rfl) | (apply Wl.fieldAddrZ; exact rfl; exact rfl) | (apply Wl.eqlPN; exact rfl; exact rfl; exact rfl) | (apply Wl.neq; exact rfl; exact rfl; exact rfl) | (apply Wl.rem; exact rfl; exact rfl; exact rfl; (first | decide | omega)) | (apply Wl.storeA; exact rfl; exact rfl; exact rfl; exact rfl; (repeat (first | apply HSet.here | apply HSet.there)); (repeat (first | apply LPut.s | apply LPut.z | apply LOver.nil | apply LOver.cons))) | (apply Wl.buildS; exact rfl; (repeat (first | exact Parts.nil | apply Parts.cons rfl)); (repeat (first | apply Fills.nil | (apply Fills.one; exact rfl; exact rfl; (repeat (first | apply LSet.z | apply LSet.s))) | (apply Fills.agg; exact rfl; exact rfl; (repeat (first | apply LPut.s | apply LPut.z | apply LOver.nil | apply LOver.cons)))))) | (apply Wl.alloc; exact rfl; intro c hc ho) | (apply Wl.nil) | (apply Wl.nilQ) | (apply St.seq) | (apply St.region) | (apply St.draw; exact mixed; (kernel_rfl); exact (fun _ h => Hp.drew h)) | (apply St.condT; exact rfl; (first | with_reducible rfl | with_reducible assumption | decide)) | (apply St.condF; exact rfl; (first | with_reducible rfl | with_reducible assumption | decide)) | (apply St.ret) | (apply St.skip) | (apply Gt.next) | (apply Gt.thenRet) | (apply St.condP; exact rfl; all_goals (intros; try (exfalso; omega))))
      all_goals exact ⟨_, rfl, .inr ⟨hdv, ⟨_, _, _, _, _, true, _, rfl, by decide, .inl ⟨rfl, hT1.hp hp hw (by simp only [List.mem_cons, List.not_mem_nil, or_false, forall_eq_or_imp, forall_eq]; omega)⟩⟩, .inr ⟨_, _, _, _, _, _, rfl⟩⟩, finU hu1 hp (by simp only [List.mem_cons, List.not_mem_nil, or_false, forall_eq_or_imp, forall_eq]; omega)⟩
end Go.Proofs.YtcefkbnachnciaaDoor
end
section
namespace Go.Proofs.YtcefkbnachnciaaDoor
open Go.RowKit Go.Pt
end Go.Proofs.YtcefkbnachnciaaDoor
end
section
namespace Go.Proofs.YtcefkbnachnciaaDoor
open Go.RowKit Go.Pt
end Go.Proofs.YtcefkbnachnciaaDoor
end
section
namespace Go.Proofs.YtcefkbnachnciaaDoor
open Go.RowKit Go.Pt

def Bo (w : World) (base : Nat) (v : Value) (l : List UInt8) : Prop := w.ownsRow base 5 1 v l.length (byteCells l)
theorem Bo.nil (w : World) (base : Nat) : Bo w base (.slice none 0 0) [] := World.ownsRow_nil w base 5 1
theorem Bo.bs {w : World} {base : Nat} {v : Value} {l : List UInt8} (h : Bo w base v l) : Bs w v l := Sv.ofOwn h
theorem Bo.upd {S : Nat → Prop} {w w' : World} {base : Nat} {v : Value} {l : List UInt8} (h : Bo w base v l) (u : Upd S w w') (hs : ∀ k, v.ownBlock = some k → ¬ S k) : Bo w' base v l := ownsRow_upd h u hs
theorem Bo.of {w : World} {base : Nat} {v : Value} {l m : List UInt8} {n : Nat} {cs : List Value} (h : w.ownsRow base 5 1 v n (byteCells l ++ cs)) (hn : n = l.length + m.length) (hc : cs = byteCells m) : Bo w base v (l ++ m) := by
  unfold Bo
  subst hc
  rw [List.length_append, ← hn]
  simpa [byteCells] using h
theorem u8_cell (x : Int) : (Value.int .u8 (IntKind.u8.wrap x)) = .int .u8 ((UInt8.ofNat (x % 256).toNat).toNat : Int) := by
  congr 1
  rw [IntKind.wrap_u8]
  simp
  omega

end Go.Proofs.YtcefkbnachnciaaDoor
end
section
namespace Go.Pt
open Go.RowKit
def MapB (P : Program) (k e : TypeId) (w : World) (b n : Nat) : Prop := ∃ D : DataW Unit, w.ownsMap P k (plainElem P e) b n D
theorem MapB.upd {P : Program} {k e : TypeId} {w w' : World} {b n : Nat} {S : Nat → Prop} (h : MapB P k e w b n) (u : Upd S w w') (hs : ¬ S b) : MapB P k e w' b n := by
  obtain ⟨D, es, clock, hb, r⟩ := h
  exact ⟨D, es, clock, u.heap hb hs, r⟩
theorem MapB.lt {P : Program} {k e : TypeId} {w : World} {b n : Nat} (h : MapB P k e w b n) : b < w.heap.size := by
  obtain ⟨D, h1⟩ := h
  exact h1.lt
section
variable {P : Program} {N : Nat} {ops : Array Oper} {rest : List Oper} {Γ : Env} {Q : Exit → Act → World → Prop} {d : Nat} {ty mt k e : TypeId} {pos : String} {af : Array Edge} {w0 : World} {H : List Blk}
theorem Wl.makeMapB (hd : Nat.blt d N = true)
    (h : ∀ b w1, w0.heap.size ≤ b → MapB P k e w1 b 0 → Upd (fun j => ¬ Off H j) w0 w1 → Off H b → Wl rest P .seq ops N ((d, .map (some b)) :: Γ) (Hp w1 H) Q) :
    Wl (⟨some d, .makeMap mt none, ty, pos, af, none⟩ :: rest) P .seq ops N Γ (Hp w0 H) Q :=
  Wl.eff fun a w ha hw => by
    have u : Upd (fun _ => False) w (w.alloc (.map #[] 0)) := Upd.alloc _ _ _
    refine ⟨.map (some w.heap.size), w.alloc (.map #[] 0), .inl ?_, (h w.heap.size _ hw.upd.size ⟨_, World.ownsMap_made w P k _⟩ (hw.upd.trans (Upd.alloc _ _ _)) (Off.lt hw.own)).elim _ _ (ha.put hd _) ⟨Upd.refl _ _, hw.own.upd u fun _ _ h => h, hw.apart⟩⟩
    simp [execOp, run_makeMap, Option.map]
theorem Wl.storeMB {m x y : Operand} {b n : Nat} {t v : Int} [ht : TyD P mt (.map k e)] [hk : TyD P k (.int .i64)] [he : TyD P e (.int .u8)]
    (hm : ev Γ m = some (.map (some b))) (hx : ev Γ x = some (.int .i64 t)) (hy : ev Γ y = some (.int .u8 v)) (hlt : I64 t) (hvt : (Lit.int .u8 v).wf = true) (hn : n < maxLen) (hown : MapB P k e w0 b n) (ho : Off H b)
    (h : ∀ w1, MapB P k e w1 b (n + 1) → Upd (fun j => j = b ∨ ¬ Off H j) w0 w1 → Wl rest P .seq ops N Γ (Hp w1 H) Q) :
    Wl (⟨none, .mapUpdate mt m x y, ty, pos, af, none⟩ :: rest) P .seq ops N Γ (Hp w0 H) Q :=
  Wl.eff fun a w ha hw => by
    obtain ⟨D, h1⟩ := hown.upd hw.upd fun y => y ho
    obtain ⟨w', hr, h3, hg⟩ := h1.update (Maps.int_keyed hk.out) ht.out hn (keyOf64 hlt) (plainElem_int he.out hvt)
    have u : Upd (fun j => j = b) w w' := Upd.grown hg fun k hk => by cases hk; rfl
    refine ⟨undef, w', .inr ⟨?_, rfl⟩, (h w' ⟨_, h3⟩ ((hw.upd.mono fun _ _ y => .inr y).trans (u.mono fun _ _ y => .inl y))).elim _ _ (ha.put0 _) ⟨Upd.refl _ _, hw.own.upd u fun y hy e => ?_, hw.apart⟩⟩
    · simp [execOp, ha.ev hm, ha.ev hx, ha.ev hy, hr]
    · exact ho.at hy e
end
end Go.Pt
namespace Go.Proofs.YtcefkbnachnciaaDoor
open Go.RowKit Go.Pt
def RM (w : World) (c b n : Nat) : Prop := w.heap[c]? = some (.cells #[.map (some b)] 116 (0, 0)) ∧ MapB Tryd.prog 3 5 w b n
theorem RM.upd {w w' : World} {c b n : Nat} {S : Nat → Prop} (h : RM w c b n) (u : Upd S w w') (h1 : ¬ S c) (h2 : ¬ S b) : RM w' c b n := ⟨u.heap h.1 h1, h.2.upd u h2⟩
theorem RM.lt {w : World} {c b n : Nat} (h : RM w c b n) : c < w.heap.size ∧ b < w.heap.size := ⟨lt_of_block h.1, h.2.lt⟩
set_option maxHeartbeats 2000000 in
theorem ramNew (w : World) : Calls Tryd.prog 27 #[] w fun e w' => ∃ c b, e = .returned (.pointer (some ⟨c, 0, none⟩)) ∧ RM w' c b 0 ∧ w.heap.size ≤ b ∧ b < c ∧ Upd (fun k => w.heap.size ≤ k) w w' := by
  refine enter (args := []) (Γ := []) Tryd.func27 Tryd.ntmps27 rfl (of_decide_eq_true rfl) .nil ?_
  repeat' (first | (apply Wl.assign; exact rfl; exact rfl) | (apply Wl.nil) | (apply St.seq) | (apply St.region) | (apply Gt.next))
  apply Wl.makeMapB (k := 3) (e := 5)
  · exact rfl
  intro b w1 hb hM hu _
  have s1 := hu.size
  have hbl := hM.lt
  repeat' (first | (apply Wl.assign; exact rfl; exact rfl) | (apply Wl.buildS; exact rfl; (repeat (first | exact Parts.nil | apply Parts.cons rfl)); (repeat (first | apply Fills.nil | (apply Fills.one; exact rfl; exact rfl; (repeat (first | apply LSet.z | apply LSet.s))) | (apply Fills.agg; exact rfl; exact rfl; (repeat (first | apply LPut.s | apply LPut.z | apply LOver.nil | apply LOver.cons)))))) | (apply Wl.boxA; exact rfl; exact rfl; intro c hc ho) | (apply Wl.nil) | (apply St.ret) | (apply Gt.next) | (apply Gt.out1; exact rfl; exact rfl; intro w' hp))
  refine ⟨_, _, rfl, ⟨hp.own.at (.head _), hM.upd hp.upd fun y => y ⟨by simp only; omega, trivial⟩⟩, hb, by omega, hu.comp hp.upd fun k hk hs => ?_⟩
  rcases hs with y | y
  · exact (y trivial).elim
  · exact Classical.byContradiction fun hn => y ⟨fun e => by simp only at e; omega, trivial⟩
theorem refHas (a n : Int) (w : World) (ha : -1000000 ≤ a ∧ a ≤ 4294967296000) (hn : 0 ≤ n ∧ n ≤ 8) : Calls Tryd.prog 70 #[.int .i64 a, .int .i64 n] w fun e w' => (∃ z : Bool, e = .returned (.bool z)) ∧ Hp w [] w' := by
  refine enter (args := [_, _]) (Γ := [(0, _), (1, _)]) Tryd.func70 Tryd.ntmps70 rfl (of_decide_eq_true rfl) (.cons rfl (.cons rfl .nil)) ?_
  repeat' (first | (apply Wl.move; exact rfl; exact rfl) | (apply Wl.assign; exact rfl; exact rfl) | (apply Wl.on; exact rfl; exact rfl; (first | with_reducible rfl | with_reducible assumption | decide)) | (apply Wl.off; exact rfl; exact rfl; exact rfl; (first | with_reducible rfl | (show _ = false; with_reducible assumption) | (show _ = true; with_reducible assumption) | decide)) | (apply Wl.pickT; exact rfl; exact rfl; (first | with_reducible rfl | with_reducible assumption | decide); exact rfl) | (apply Wl.pickF; exact rfl; exact rfl; (first | with_reducible rfl | with_reducible assumption | decide); exact rfl) | (apply Wl.leq; exact rfl; exact rfl; exact rfl) | (apply Wl.geq; exact rfl; exact rfl; exact rfl) | (apply Wl.addI; exact rfl; exact rfl; exact rfl; (constructor <;> omega)) | (apply Wl.nil) | (apply St.seq) | (apply St.region) | (apply St.ret) | (apply Gt.next) | (apply Gt.out1; exact rfl; exact rfl; intro w' hp) | (apply Wl.splitP; exact rfl; exact rfl; all_goals (intros; try (exfalso; omega))))
  all_goals exact ⟨⟨_, rfl⟩, hp⟩
set_option maxHeartbeats 4000000 in
theorem ramPut (c b n : Nat) (at_ : Int) (v : Value) (l : List UInt8) (w : World) (hR : RM w c b n) (hn : n < 1000000) (hl : l.length ≤ 8) (hat : -1000000 ≤ at_ ∧ at_ ≤ 4294967296000) (hv : Bs w v l) (hvo : ∀ k, v.ownBlock = some k → k ≠ b) :
    Calls Tryd.prog 56 #[.pointer (some ⟨c, 0, none⟩), .int .i64 at_, v] w fun e w' => (∃ z : Bool, e = .returned (.bool z)) ∧ RM w' c b (n + 8) ∧ Upd (fun k => k = b) w w' := by
  have hlt := hR.lt
  obtain ⟨va, vc, rfl, _, hm⟩ := hv.shape
  unfold maxLen at hm
  have c0 : w.cell? ⟨c, 0, none⟩ = some (.map (some b)) := cell_of hR.1 rfl
  have hcb : c ≠ b := by
    intro e
    obtain ⟨h1, D, es, clock, h2, _⟩ := hR
    rw [e] at h1
    rw [h1] at h2
    cases h2
  refine enter (args := [_, _, _]) (Γ := [(0, _), (1, _), (2, _)]) Tryd.func56 Tryd.ntmps56 rfl (of_decide_eq_true rfl) (.cons rfl (.cons rfl (.cons rfl .nil))) ?_
  repeat' (first | (apply Wl.move; exact rfl; exact rfl) | (apply Wl.assign; exact rfl; exact rfl) | (apply Wl.len; exact rfl; exact rfl) | (apply Wl.nil) | (apply St.seq) | (apply St.region) | (apply Gt.next))
  apply Wl.callC
  · exact rfl
  · (repeat (first | exact Evs.nil | apply Evs.cons rfl))
  intro wq hq
  refine (refHas _ _ wq hat (by omega)).mono ?_
  rintro e wr ⟨⟨z, rfl⟩, hr⟩
  refine ⟨_, _, rfl, hq.keep hr, ?_⟩
  clear hr hq wr wq
  cases z
  · repeat' (first | (apply Wl.assign; exact rfl; exact rfl) | (apply Wl.not; exact rfl; exact rfl) | (apply Wl.nil) | (apply St.seq) | (apply St.region) | (apply St.condT; exact rfl; (first | with_reducible rfl | with_reducible assumption | decide)) | (apply St.ret) | (apply Gt.next) | (apply Gt.thenRet) | (apply Gt.out1; exact rfl; exact rfl; intro w' hp))
    exact ⟨⟨_, rfl⟩, ⟨hp.upd.heap hR.1 fun y => y trivial, by obtain ⟨D, hD⟩ := hR.2.upd hp.upd fun y => y trivial; exact ⟨D, hD.mono (by omega)⟩⟩, hp.upd.mono fun _ _ y => (y trivial).elim⟩
  repeat' (first | (apply Wl.assign; exact rfl; exact rfl) | (apply Wl.not; exact rfl; exact rfl) | (apply Wl.nil) | (apply St.seq) | (apply St.block) | (apply St.region) | (apply St.condF; exact rfl; (first | with_reducible rfl | with_reducible assumption | decide)) | (apply St.skip) | (apply Gt.next))
  refine St.loop (σ := Nat × World) (fun τ => τ.1 ≤ l.length ∧ RM τ.2 c b (n + τ.1) ∧ Upd (fun k => k = b) w τ.2)
    (fun τ => [(0, .pointer (some ⟨c, 0, none⟩)), (1, .int .i64 at_), (2, .slice va l.length vc), (7, .int .i64 (τ.1 : Int))]) (fun τ => Hp τ.2 []) (fun τ => l.length - τ.1) (0, w) ⟨Nat.zero_le _, hR, Upd.refl _ _⟩ (by (repeat (first | exact Sub.nil | apply Sub.cons rfl))) (fun _ h => h) ?_
  rintro ⟨i, w0⟩ ⟨hi, hR0, hu0⟩
  simp only at hi hR0 hu0 ⊢
  have c0' : w0.cell? ⟨c, 0, none⟩ = some (.map (some b)) := cell_of hR0.1 rfl
  by_cases hlt2 : i < l.length
  · have hd : decide ((i : Int) < (l.length : Int)) = true := decide_eq_true (by omega)
    obtain ⟨vb, vo, rfl, hcells⟩ := hv.cells (fun e => by rw [e] at hlt2; simp at hlt2)
    have hb : w0.cell? ⟨vb, vo + (i : Int).toNat, none⟩ = some (.int .u8 (l[i].toNat : Int)) := by
      rw [Int.toNat_natCast]
      exact hu0.cell (hcells i hlt2) fun e => hvo vb rfl e
    have l1 := hR0.lt
    have l2 := World.block_lt_of_cell? w0 _ hb
    simp only at l2
    repeat' (first | (apply St.bagX (i := 6) 11 []; exact mixed; (decide +kernel); kernel_rfl) | (apply Wl.loadO; exact rfl; exact rfl; (first | exact c0' | exact hb); (repeat (first | exact trivial | exact hX.off (by first | omega | (simp only; omega))))) | (apply OpsX.nil) | (apply OpsX.v; (intro X hX; change Wl [_] _ _ _ _ _ _ _; apply Wl.catX; (repeat (first | apply CatB.nil | apply CatB.cons)))) | (apply Gt.endX; exact rfl) | (apply EndX.on; exact rfl) | (apply EndX.off; exact rfl) | (apply EndX.nil'; apply Wl.catE; (repeat (first | apply CatB.nil | apply CatB.cons))) | (apply Wl.move; exact rfl; exact rfl) | (apply Wl.nilCheck; exact rfl; exact rfl) | (apply Wl.fieldAddr0; exact rfl; exact rfl) | (apply Wl.lss; exact rfl; exact rfl; exact rfl) | (apply Wl.addI; exact rfl; exact rfl; exact rfl; (constructor <;> omega)) | (apply Wl.len; exact rfl; exact rfl) | (apply Wl.indexAddr1; exact rfl; exact rfl; exact rfl; (constructor <;> omega)) | (apply Wl.nil) | (apply St.seq) | (apply St.block) | (apply St.region) | (apply St.condT; exact rfl; (first | with_reducible rfl | with_reducible assumption | decide)) | (apply St.skip) | (apply Gt.next))
    apply Wl.storeMB (k := 3) (e := 5) (b := b) (n := n + i)
    · exact rfl
    · exact rfl
    · exact rfl
    · unfold I64; omega
    · have := l[i].toNat_lt
      simp [Lit.wf, IntKind.min, IntKind.max, IntKind.signed, IntKind.bits]
      omega
    · unfold maxLen; omega
    · exact hR0.2
    · exact trivial
    intro w1 hM hu1
    repeat' (first | (apply Wl.move; exact rfl; exact rfl) | (apply Wl.assign; exact rfl; exact rfl) | (apply Wl.addI; exact rfl; exact rfl; exact rfl; (constructor <;> omega)) | (apply Wl.nil) | (apply St.region) | (apply Gt.next) | (apply Gt.inNormal))
    apply Gt.round (i + 1, w1)
    rotate_left
    · simp only; omega
    · (repeat (first | exact Sub.nil | apply Sub.cons rfl))
    · exact fun _ h => h
    · refine ⟨hlt2, ⟨hu1.heap hR0.1 fun y => y.elim hcb fun y => y trivial, hM⟩, hu0.trans (hu1.mono fun k _ y => y.elim id fun y => (y trivial).elim)⟩
  · obtain rfl : i = l.length := by omega
    have hd : decide ((l.length : Int) < (l.length : Int)) = false := decide_eq_false (by omega)
    repeat' (first | (apply Wl.move; exact rfl; exact rfl) | (apply Wl.assign; exact rfl; exact rfl) | (apply Wl.lss; exact rfl; exact rfl; exact rfl) | (apply Wl.len; exact rfl; exact rfl) | (apply Wl.nil) | (apply St.seq) | (apply St.region) | (apply St.condF; exact rfl; (first | with_reducible rfl | with_reducible assumption | decide)) | (apply St.ret) | (apply St.exit) | (apply Gt.next) | (apply Gt.thenExit) | (apply Gt.inExit) | (apply Gt.out1; exact rfl; exact rfl; intro w' hp))
    exact ⟨⟨_, rfl⟩, ⟨hp.upd.heap hR0.1 fun y => y trivial, by obtain ⟨D, hD⟩ := hR0.2.upd hp.upd fun y => y trivial; exact ⟨D, hD.mono (by omega)⟩⟩, hu0.trans (hp.upd.mono fun _ _ y => (y trivial).elim)⟩
set_option maxHeartbeats 4000000 in
theorem ramStore (c b n : Nat) (at_ x : Int) (w : World) (hR : RM w c b n) (hn : n < 1000000) (hat : -1000000 ≤ at_ ∧ at_ ≤ 4294967296000) :
    Calls Tryd.prog 28 #[.pointer (some ⟨c, 0, none⟩), .int .i64 at_, .int .i64 4, .int .i64 x] w fun e w' => (∃ z : Bool, e = .returned (.bool z)) ∧ RM w' c b (n + 8) ∧ Upd (fun k => k = b ∨ w.heap.size ≤ k) w w' := by
  have hlt := hR.lt
  refine enter (args := [_, _, _, _]) (Γ := [(0, _), (1, _), (2, _), (3, _)]) Tryd.func28 Tryd.ntmps28 rfl (of_decide_eq_true rfl) (.cons rfl (.cons rfl (.cons rfl (.cons rfl .nil)))) ?_
  repeat' (first | (apply Wl.move; exact rfl; exact rfl) | (apply Wl.assign; exact rfl; exact rfl) | (apply Wl.on; exact rfl; exact rfl; (first | with_reducible rfl | with_reducible assumption | decide)) | (apply Wl.pickT; exact rfl; exact rfl; (first | with_reducible rfl | with_reducible assumption | decide); exact rfl) | (apply Wl.neqIs; exact rfl; exact rfl; exact rfl; (first | with_reducible assumption | with_reducible rfl)) | (apply Wl.neq; exact rfl; exact rfl; exact rfl) | (apply Wl.nil) | (apply St.seq) | (apply St.block) | (apply St.region) | (apply St.condF; exact rfl; (first | with_reducible rfl | with_reducible assumption | decide)) | (apply St.skip) | (apply Gt.next))
  refine St.loop (σ := Nat × World × Value × List UInt8) (fun τ => τ.1 ≤ 4 ∧ Upd (fun k => w.heap.size ≤ k) w τ.2.1 ∧ Bo τ.2.1 w.heap.size τ.2.2.1 τ.2.2.2 ∧ τ.2.2.2.length = τ.1)
    (fun τ => [(0, .pointer (some ⟨c, 0, none⟩)), (1, .int .i64 at_), (2, .int .i64 4), (3, .int .i64 x), (9, τ.2.2.1), (10, .int .i64 (τ.1 : Int))]) (fun τ => Hp τ.2.1 []) (fun τ => 4 - τ.1) (0, w, .slice none 0 0, []) ⟨Nat.zero_le _, Upd.refl _ _, Bo.nil _ _, rfl⟩ (by (repeat (first | exact Sub.nil | apply Sub.cons rfl))) (fun _ h => h) ?_
  rintro ⟨i, w0, v, l⟩ ⟨hi, hu0, hb0, hl0⟩
  simp only at hi hu0 hb0 hl0 ⊢
  have s0 := hu0.size
  by_cases hlt2 : i < 4
  · have hd : decide ((i : Int) < 4) = true := decide_eq_true (by omega)
    repeat' (first | (apply Wl.move; exact rfl; exact rfl) | (apply Wl.lss; exact rfl; exact rfl; exact rfl) | (apply Wl.mulI; exact rfl; exact rfl; exact rfl; (constructor <;> omega)) | (apply Wl.shr; exact rfl; exact rfl; exact rfl; (omega)) | (apply Wl.convI; exact rfl; exact rfl) | (apply Wl.lit; exact rfl; (repeat (first | exact Parts.nil | apply Parts.cons rfl)); exact rfl; exact rfl; (repeat (first | apply CatP.nil | (apply CatP.one; exact rfl; exact rfl) | (apply CatP.agg; exact rfl) | apply LApp.nil | apply LApp.cons)); intro c hc ho) | (apply Wl.nil) | (apply St.seq) | (apply St.block) | (apply St.region) | (apply St.condT; exact rfl; (first | with_reducible rfl | with_reducible assumption | decide)) | (apply St.skip) | (apply Gt.next))
    apply Wl.appendT
    · exact rfl
    · exact rfl
    · exact rfl
    · assumption
    · exact rfl
    · exact hb0
    · exact fun k hk => trivial
    · exact rfl
    · exact rfl
    · decide
    · unfold maxLen; omega
    · omega
    · exact s0
    intro v' w1 ho1 u1 _ hoff1
    repeat' (first | (apply Wl.move; exact rfl; exact rfl) | (apply Wl.assign; exact rfl; exact rfl) | (apply Wl.addI; exact rfl; exact rfl; exact rfl; (constructor <;> omega)) | (apply Wl.nil) | (apply St.region) | (apply Gt.next) | (apply Gt.inNormal))
    apply Gt.round (i + 1, w1, v', l ++ [UInt8.ofNat ((x.fdiv (2 ^ min (Int.toNat (8 * (i : Int))) IntKind.i64.bits)) % 256).toNat])
    rotate_left
    · simp only; omega
    · (repeat (first | exact Sub.nil | apply Sub.cons rfl))
    · exact fun _ h => h
    · refine ⟨hlt2, hu0.comp u1 fun k hk hs => ?_, Bo.of (m := [UInt8.ofNat ((x.fdiv (2 ^ min (Int.toNat (8 * (i : Int))) IntKind.i64.bits)) % 256).toNat]) ho1 (by simp) ?_, by simp [hl0]⟩
      · rcases hs with y | y | y
        · exact y
        · exact (hb0.lt k y).1
        · exact (y trivial).elim
      · rw [u8_cell]; rfl
  · obtain rfl : i = 4 := by omega
    have hd : decide (((4 : Nat) : Int) < 4) = false := by decide
    repeat' (first | (apply Wl.move; exact rfl; exact rfl) | (apply Wl.lss; exact rfl; exact rfl; exact rfl) | (apply Wl.nil) | (apply St.seq) | (apply St.region) | (apply St.condF; exact rfl; (first | with_reducible rfl | with_reducible assumption | decide)) | (apply St.exit) | (apply Gt.next) | (apply Gt.thenExit) | (apply Gt.inExit))
    apply Wl.callC
    · exact rfl
    · (repeat (first | exact Evs.nil | apply Evs.cons rfl))
    intro wq hq
    have hbq : Bs wq v l := (hb0.upd hq.upd fun _ _ y => y trivial).bs
    have hRq : RM wq c b n := (hR.upd hu0 (by omega) (by omega)).upd hq.upd (fun y => y trivial) (fun y => y trivial)
    refine (ramPut c b n at_ v l wq hRq hn (by omega) hat hbq fun k hk e => by have := (hb0.lt k hk).1; omega).mono ?_
    rintro e w2 ⟨⟨z, rfl⟩, hR2, hu2⟩
    refine ⟨_, _, rfl, Hp.start w2, ?_⟩
    have hq' := hq.upd
    have s1 := hq'.size
    have s2 := hu2.size
    clear hq
    repeat' (first | (apply Wl.assign; exact rfl; exact rfl) | (apply Wl.nil) | (apply St.ret) | (apply Gt.next) | (apply Gt.out1; exact rfl; exact rfl; intro w' hp))
    refine ⟨⟨_, rfl⟩, hR2.upd hp.upd (fun y => y trivial) (fun y => y trivial), ((hu0.mono fun k _ e => .inr e).trans ((hq'.mono fun _ _ y => (y trivial).elim).trans (hu2.mono fun _ _ e => .inl e))).trans (hp.upd.mono fun _ _ y => (y trivial).elim)⟩
end Go.Proofs.YtcefkbnachnciaaDoor
end
section
namespace Go.Proofs.YtcefkbnachnciaaDoor
open Go.RowKit Go.Pt
theorem _root_.Go.Pt.Hp.newer {w0 w w' : World} {H : List Blk} (h : Hp w0 H w) (u : Upd (fun k => w.heap.size ≤ k) w w') : Hp w0 H w' :=
  h.step u (fun x hx hle => by have := h.own.lt hx; omega) (fun k hk hle => by have := h.upd.size; omega)
theorem _root_.Go.Pt.Hp.rb {w0 w : World} {H : List Blk} (h : Hp w0 H w) : Hp w H w := ⟨Upd.refl _ _, h.own, h.apart⟩
theorem _root_.Go.Pt.Hp.on {w w1 w2 : World} {H : List Blk} (h : Hp w1 H w2) (hu : Upd (fun k => w.heap.size ≤ k) w w1) (hH : ∀ x ∈ H, w.heap.size ≤ x.b) : Upd (fun k => w.heap.size ≤ k) w w2 :=
  hu.comp h.upd fun j _ hs => hs.elim id fun y => Classical.byContradiction fun hlt => y (Off.of fun x hx e => by have := hH x hx; omega)
def WordS (w : World) (a : Option Addr) (n : Nat) : Prop := ∀ i : Nat, i < n → ∃ b o, a = some ⟨b, o, none⟩ ∧ ∃ x : Int, w.cell? ⟨b, o + i, none⟩ = some (.int .u32 x) ∧ 0 ≤ x ∧ x < 4294967296
def PairS (w : World) (a : Option Addr) (n : Nat) : Prop := ∀ i : Nat, i < n → ∃ b o, a = some ⟨b, o, none⟩ ∧ ∃ x y : Int, (w.cell? ⟨b, o + i * 2, none⟩ = some (.int .u32 x) ∧ 0 ≤ x ∧ x < 4294967296) ∧ (w.cell? ⟨b, o + i * 2 + 1, none⟩ = some (.int .u32 y) ∧ 0 ≤ y ∧ y < 4294967296)
def yz : List Value := [.int .i64 0, .int .i64 0, .int .i64 0, .int .i64 0, .int .i64 0, .int .i64 0, .int .i64 0, .int .i64 0, .int .i64 0, .int .i64 0, .int .i64 0, .int .i64 0, .int .i64 0, .int .i64 0, .int .i64 0, .int .i64 0, .int .i64 0, .int .i64 0, .int .i64 0, .int .i64 0, .int .i64 0, .int .i64 0, .int .i64 0, .int .i64 0, .int .i64 0, .int .i64 0, .int .i64 0, .int .i64 0, .int .i64 0, .int .i64 0, .int .i64 0, .int .i64 0]
theorem xz_rg : Rg xz := by
  refine ⟨rfl, fun i hi => ⟨0, ?_, by decide⟩⟩
  have e : xz = List.replicate 32 (Value.int .u32 0) := rfl
  rw [e, List.getElem?_replicate, if_pos hi]
theorem at33 {xs : List Value} {a b c : Value} (h : xs.length = 32) : (xs ++ [a, b, c])[33]? = some b := by
  rw [List.getElem?_append_right (by omega), h]; rfl
theorem ownC {w0 w : World} {p h cH cf cm : Nat} {xs ys : List Value} {a1 a2 c1 c2 : Value} {t1 t2 t3 : Nat} {r : List Blk} {x1 x2 : Blk}
    (k : Hp w0 (x1 :: x2 :: ⟨p, [.pointer (some ⟨h, 0, none⟩), .pointer (some ⟨cH, 0, none⟩)], t1⟩ :: ⟨cH, ys ++ [a2, .pointer (some ⟨cm, 0, none⟩), c2], t2⟩ :: ⟨h, xs ++ [a1, .pointer (some ⟨cf, 0, none⟩), c1], t3⟩ :: r) w) (hx : xs.length = 32) (hy : ys.length = 32) :
    w.cell? ⟨p, 0, none⟩ = some (.pointer (some ⟨h, 0, none⟩)) ∧ w.cell? ⟨p, 1, none⟩ = some (.pointer (some ⟨cH, 0, none⟩)) ∧ w.cell? ⟨h, 33, none⟩ = some (.pointer (some ⟨cf, 0, none⟩)) ∧ w.cell? ⟨cH, 33, none⟩ = some (.pointer (some ⟨cm, 0, none⟩)) :=
  ⟨cell_of (own_at k.own (.tail _ (.tail _ (.head _)))) rfl, cell_of (own_at k.own (.tail _ (.tail _ (.head _)))) rfl, cell_of (own_at k.own (.tail _ (.tail _ (.tail _ (.tail _ (.head _)))))) (at33 hx), cell_of (own_at k.own (.tail _ (.tail _ (.tail _ (.head _))))) (at33 hy)⟩
end Go.Proofs.YtcefkbnachnciaaDoor
end
section
namespace Go.Proofs.YtcefkbnachnciaaDoor
open Go.RowKit Go.Pt
section
variable {md : Md} {N : Nat} {ops : Array Oper} {rest : List Oper} {Γ : Env} {C : World → Prop} {Q : Exit → Act → World → Prop} {d : Nat} {ty : TypeId} {pos : String} {af : Array Edge} {x y : Operand} {u : TypeId}
end
set_option maxHeartbeats 2000000 in
theorem small16 (wa xa la ca : Option Addr) (wn wc xn xc ln lc cn cc : Nat) (us : Bool) (pc0 : Int) (w : World) :
    Calls Tryd.prog 10 #[.agg #[.slice wa wn wc, .slice xa xn xc, .slice la ln lc, .bool us, .slice ca cn cc, .int .u32 pc0]] w fun e w' => e = .returned (.bool (decide (wn ≤ 300 ∧ xn ≤ 100 ∧ ln ≤ 16 ∧ cn ≤ 100))) ∧ Hp w [] w' := by
  refine enter (args := [_]) (Γ := [(0, _)]) Tryd.func10 Tryd.ntmps10 rfl (of_decide_eq_true rfl) (.cons rfl .nil) ?_
  apply St.seq
  apply St.region
  apply Wl.boxA
  · exact rfl
  · exact rfl
  intro c1 hc1 ho1
  by_cases h1 : wn ≤ 300
  · have d1 : decide ((wn : Int) ≤ 300) = true := decide_eq_true (by omega)
    by_cases h2 : xn ≤ 100
    · have d2 : decide ((xn : Int) ≤ 100) = true := decide_eq_true (by omega)
      by_cases h3 : ln ≤ 16
      · have d3 : decide ((ln : Int) ≤ 16) = true := decide_eq_true (by omega)
        repeat' (first | (apply Wl.move; exact rfl; exact rfl) | (apply Wl.assign; exact rfl; exact rfl) | (apply Wl.on; exact rfl; exact rfl; (first | with_reducible rfl | with_reducible assumption | decide)) | (apply Wl.pickT; exact rfl; exact rfl; (first | with_reducible rfl | with_reducible assumption | decide); exact rfl) | (apply Wl.fieldAddr0; exact rfl; exact rfl) | (apply Wl.fieldAddrZ; exact rfl; exact rfl) | (apply Wl.loadH; exact rfl; exact rfl; (repeat (first | exact List.Mem.head _ | apply List.Mem.tail)); exact rfl) | (apply Wl.leq; exact rfl; exact rfl; exact rfl) | (apply Wl.len; exact rfl; exact rfl) | (apply Wl.nil) | (apply St.seq) | (apply St.region) | (apply St.ret) | (apply Gt.next) | (apply Gt.out1; exact rfl; exact rfl; intro w' hp))
        refine ⟨?_, hp.drop (by simp; omega)⟩
        by_cases h4 : cn ≤ 100
        · rw [decide_eq_true (show (cn : Int) ≤ 100 by omega), decide_eq_true ⟨h1, h2, h3, h4⟩]
        · rw [decide_eq_false (show ¬ (cn : Int) ≤ 100 by omega), decide_eq_false (fun h => h4 h.2.2.2)]
      · have d3 : decide ((ln : Int) ≤ 16) = false := decide_eq_false (by omega)
        repeat' (first | (apply Wl.move; exact rfl; exact rfl) | (apply Wl.assign; exact rfl; exact rfl) | (apply Wl.on; exact rfl; exact rfl; (first | with_reducible rfl | with_reducible assumption | decide)) | (apply Wl.off; exact rfl; exact rfl; exact rfl; (first | with_reducible rfl | (show _ = false; with_reducible assumption) | (show _ = true; with_reducible assumption) | decide)) | (apply Wl.pickT; exact rfl; exact rfl; (first | with_reducible rfl | with_reducible assumption | decide); exact rfl) | (apply Wl.pickF; exact rfl; exact rfl; (first | with_reducible rfl | with_reducible assumption | decide); exact rfl) | (apply Wl.fieldAddr0; exact rfl; exact rfl) | (apply Wl.fieldAddrZ; exact rfl; exact rfl) | (apply Wl.loadH; exact rfl; exact rfl; (repeat (first | exact List.Mem.head _ | apply List.Mem.tail)); exact rfl) | (apply Wl.leq; exact rfl; exact rfl; exact rfl) | (apply Wl.len; exact rfl; exact rfl) | (apply Wl.nil) | (apply St.seq) | (apply St.region) | (apply St.ret) | (apply Gt.next) | (apply Gt.out1; exact rfl; exact rfl; intro w' hp))
        refine ⟨?_, hp.drop (by simp; omega)⟩
        rw [decide_eq_false (fun h => h3 h.2.2.1)]
    · have d2 : decide ((xn : Int) ≤ 100) = false := decide_eq_false (by omega)
      repeat' (first | (apply Wl.move; exact rfl; exact rfl) | (apply Wl.assign; exact rfl; exact rfl) | (apply Wl.on; exact rfl; exact rfl; (first | with_reducible rfl | with_reducible assumption | decide)) | (apply Wl.off; exact rfl; exact rfl; exact rfl; (first | with_reducible rfl | (show _ = false; with_reducible assumption) | (show _ = true; with_reducible assumption) | decide)) | (apply Wl.pickT; exact rfl; exact rfl; (first | with_reducible rfl | with_reducible assumption | decide); exact rfl) | (apply Wl.pickF; exact rfl; exact rfl; (first | with_reducible rfl | with_reducible assumption | decide); exact rfl) | (apply Wl.fieldAddr0; exact rfl; exact rfl) | (apply Wl.fieldAddrZ; exact rfl; exact rfl) | (apply Wl.loadH; exact rfl; exact rfl; (repeat (first | exact List.Mem.head _ | apply List.Mem.tail)); exact rfl) | (apply Wl.leq; exact rfl; exact rfl; exact rfl) | (apply Wl.len; exact rfl; exact rfl) | (apply Wl.nil) | (apply St.seq) | (apply St.region) | (apply St.ret) | (apply Gt.next) | (apply Gt.out1; exact rfl; exact rfl; intro w' hp))
      refine ⟨?_, hp.drop (by simp; omega)⟩
      rw [decide_eq_false (fun h => h2 h.2.1)]
  · have d1 : decide ((wn : Int) ≤ 300) = false := decide_eq_false (by omega)
    repeat' (first | (apply Wl.move; exact rfl; exact rfl) | (apply Wl.assign; exact rfl; exact rfl) | (apply Wl.off; exact rfl; exact rfl; exact rfl; (first | with_reducible rfl | (show _ = false; with_reducible assumption) | (show _ = true; with_reducible assumption) | decide)) | (apply Wl.pickF; exact rfl; exact rfl; (first | with_reducible rfl | with_reducible assumption | decide); exact rfl) | (apply Wl.fieldAddr0; exact rfl; exact rfl) | (apply Wl.loadH; exact rfl; exact rfl; (repeat (first | exact List.Mem.head _ | apply List.Mem.tail)); exact rfl) | (apply Wl.leq; exact rfl; exact rfl; exact rfl) | (apply Wl.len; exact rfl; exact rfl) | (apply Wl.nil) | (apply St.seq) | (apply St.region) | (apply St.ret) | (apply Gt.next) | (apply Gt.out1; exact rfl; exact rfl; intro w' hp))
    refine ⟨?_, hp.drop (by simp; omega)⟩
    rw [decide_eq_false (fun h => h1 h.1)]
end Go.Proofs.YtcefkbnachnciaaDoor
end
section
namespace Go.Proofs.YtcefkbnachnciaaDoor
open Go.RowKit Go.Pt
theorem hpNil (w : World) : Hp w [] w := ⟨Upd.refl _ _, trivial, trivial⟩
theorem _root_.Go.Pt.Hp.fin {w w1 w' : World} {H : List Blk} (hp : Hp w1 H w') (hu : Upd (fun k => w.heap.size ≤ k) w w1) (hH : ∀ x ∈ H, w.heap.size ≤ x.b) : Hp w [] w' := (hpNil w).newer (hp.on hu hH)
theorem k60 (n : Int) : ∃ K : Nat, (n.tmod 60 + 60).tmod 60 = (K : Int) ∧ K < 60 ∧ -60 < n.tmod 60 ∧ n.tmod 60 < 60 := by
  have h1 : -60 < n.tmod 60 ∧ n.tmod 60 < 60 := by
    rcases Int.le_total 0 n with h | h
    · have := Int.tmod_eq_emod_of_nonneg (b := 60) h
      omega
    · have e : n.tmod 60 = -((-n).tmod 60) := by rw [Int.neg_tmod, Int.neg_neg]
      have := Int.tmod_eq_emod_of_nonneg (a := -n) (b := 60) (by omega)
      omega
  have h2 : 0 ≤ n.tmod 60 + 60 := by omega
  have h3 := Int.tmod_eq_emod_of_nonneg (b := 60) h2
  refine ⟨((n.tmod 60 + 60) % 60).toNat, ?_, by omega, h1.1, h1.2⟩
  rw [h3]; omega
end Go.Proofs.YtcefkbnachnciaaDoor
end
section
namespace Go.Pt
open Go.RowKit
section
variable {P : Program} {md : Md} {N : Nat} {ops : Array Oper} {rest : List Oper} {Γ : Env} {C : World → Prop} {Q : Exit → Act → World → Prop} {d : Nat} {ty : TypeId} {pos : String} {af : Array Edge}
end
end Go.Pt
namespace Go.Proofs.YtcefkbnachnciaaDoor
open Go.RowKit Go.Pt
theorem rgN {xs : List Value} (h : Rg xs) : ∃ g : Nat → Nat, xs = cellsN .u32 32 g ∧ ∀ j, j < 32 → IntKind.u32.min ≤ (g j : Int) ∧ (g j : Int) ≤ IntKind.u32.max := by
  refine ⟨fun i => match xs[i]? with | some (.int _ z) => z.toNat | _ => 0, ?_, ?_⟩
  · apply List.ext_getElem?
    intro j
    by_cases hj : j < 32
    · obtain ⟨z, hz, h0, h1⟩ := h.2 j hj
      rw [cellsN_get hj, hz]
      simp only [hz]
      congr 2
      omega
    · rw [List.getElem?_eq_none (by rw [h.1]; omega), List.getElem?_eq_none (by rw [cellsN_len]; omega)]
  · intro j hj
    obtain ⟨z, hz, h0, h1⟩ := h.2 j hj
    simp only [hz]
    have e1 : IntKind.u32.min = 0 := rfl
    have e2 : IntKind.u32.max = 4294967295 := rfl
    omega
theorem HH.reg {w : World} {h c : Nat} {vM : Value} {xs : List Value} {pc : Int} (k : HH w h c vM xs pc) {q : Nat} {v : Value} (hq : xs[q]? = some v) : w.cell? (Addr.add ⟨h, 0, none⟩ q) = some v := by
  rw [addLit, Nat.zero_add]
  exact cell_of k.2 (by rw [List.getElem?_append_left (List.getElem?_eq_some_iff.1 hq).1]; exact hq)
end Go.Proofs.YtcefkbnachnciaaDoor
end
section
namespace Go.Pt
open Go.RowKit
section
variable {P : Program} {ops : Array Oper} {N : Nat} {rest : List Oper} {Γ : Env} {Q : Exit → Act → World → Prop} {ty : TypeId} {pos : String} {af : Array Edge} {w0 : World} {H : List Blk} {t bt : TypeId} {x y : Operand}
theorem Wl.store9D {b1 : Nat} [TyS P t 1 b1] {H' : List Value → List Blk} {c i n : Nat} {k : IntKind} {z : Int} {kd : Nat → IntKind} {v0 v1 v2 v3 v4 v5 v6 v7 v8 : Value} {cs : List Value} (hx : ev Γ x = some (.pointer (some ⟨c, i, none⟩))) (hy : ev Γ y = some (.int k z))
    (hs : ∀ cs', HSet c (v0 :: v1 :: v2 :: v3 :: v4 :: v5 :: v6 :: v7 :: v8 :: cs) (v0 :: v1 :: v2 :: v3 :: v4 :: v5 :: v6 :: v7 :: v8 :: cs') bt H (H' cs')) (hk : Kd kd n cs) (h9 : 9 ≤ i) (hi : i - 9 < n) (hkd : kd (i - 9) = k) (hlt : i < 41)
    (h : ∀ cs', Kd kd n cs' → cs'.drop 32 = cs.drop 32 → Wl rest P .seq ops N Γ (Hp w0 (H' cs')) Q) : Wl (⟨none, .store t x y, ty, pos, af, none⟩ :: rest) P .seq ops N Γ (Hp w0 H) Q := by
  obtain ⟨j, rfl⟩ := Nat.exists_eq_add_of_le h9
  rw [show 9 + j - 9 = j by omega] at hi hkd
  have hl := hk.1
  have e : LSet (v0 :: v1 :: v2 :: v3 :: v4 :: v5 :: v6 :: v7 :: v8 :: cs) (9 + j) (.int k z) (v0 :: v1 :: v2 :: v3 :: v4 :: v5 :: v6 :: v7 :: v8 :: cs.set j (.int k z)) := by
    rw [show 9 + j = j + 9 by omega]
    exact .s (.s (.s (.s (.s (.s (.s (.s (.s (LSet.of (by omega))))))))))
  exact Wl.store hx hy rfl (hs _) e (h _ (hk.set hkd) (by
    refine List.ext_getElem? fun q => ?_
    rw [List.getElem?_drop, List.getElem?_drop, List.getElem?_set, if_neg (by omega)]))
end
end Go.Pt
namespace Go.Proofs.YtcefkbnachnciaaDoor
open Go.RowKit Go.Pt
def FP (w : World) (c : Nat) (F : Fs) : Prop := ∃ cs, Kd fkd 34 cs ∧ cs.drop 32 = [.int .u64 F.cy, .int .u64 F.re] ∧
  w.heap[c]? = some (.cells (.int .i64 F.md :: .int .u32 F.st :: .int .u32 F.mie :: .int .u32 F.mip :: .int .u32 F.tv :: .int .u32 F.sc :: .int .u32 F.ep :: .int .u32 F.ca :: .int .u32 F.tl :: cs).toArray 54 (0, 0))
theorem FP.lt {w : World} {c : Nat} {F : Fs} (h : FP w c F) : c < w.heap.size := by
  obtain ⟨cs, _, _, hc⟩ := h
  exact lt_of_block hc
theorem FP.upd {w w' : World} {c : Nat} {F : Fs} {S : Nat → Prop} (h : FP w c F) (u : Upd S w w') (hs : ¬ S c) : FP w' c F := by
  obtain ⟨cs, h1, h2, hc⟩ := h
  exact ⟨cs, h1, h2, u.heap hc hs⟩
theorem FP.fx {w : World} {c : Nat} {F : Fs} (h : FP w c F) : ∃ cf, FX w c { F with cf := cf } := by
  obtain ⟨cs, h1, h2, hc⟩ := h
  have e : cs = cs.take 32 ++ [.int .u64 F.cy, .int .u64 F.re] := by rw [← h2, List.take_append_drop]
  refine ⟨cs.take 32, by rw [List.length_take, h1.1]; rfl, by simp only; rw [← e]; exact h1, ?_⟩
  unfold Fs.cells
  simp only
  rw [← e]
  exact hc
set_option maxHeartbeats 4000000 in
theorem fprotectP (c n cap : Nat) (a : Option Addr) (F : Fs) (w0 w : World) (hF : FP w c F) (hu : Upd (fun k => w0.heap.size ≤ k) w0 w) (hc0 : w0.heap.size ≤ c) (hS : EntS w0 a n) :
    Calls Tryd.prog 30 #[.pointer (some ⟨c, 0, none⟩), .slice a n cap] w fun e w' => e = .returned (.int .i64 (if 16 < n then 1 else 0)) ∧ FP w' c F ∧ Upd (fun k => k = c) w w' := by
  obtain ⟨cs, hk, hdr, hc⟩ := hF
  obtain ⟨md, st, mie, mip, tv, sc, ep, ca, tl, cy, re, cf⟩ := F
  simp only at hdr hc ⊢
  refine enter (args := [_, _]) (Γ := [(0, _), (1, _)]) Tryd.func30 Tryd.ntmps30 rfl (of_decide_eq_true rfl) (.cons rfl (.cons rfl .nil)) ?_
  refine St.cls (C' := Hp w [⟨c, .int .i64 md :: .int .u32 st :: .int .u32 mie :: .int .u32 mip :: .int .u32 tv :: .int .u32 sc :: .int .u32 ep :: .int .u32 ca :: .int .u32 tl :: cs, 54⟩]) (fun _ h' => Hp.open h' hc) ?_
  repeat' (first | (apply Wl.move; exact rfl; exact rfl) | (apply Wl.assign; exact rfl; exact rfl) | (apply Wl.on; exact rfl; exact rfl; (first | with_reducible rfl | with_reducible assumption | decide)) | (apply Wl.pickF; exact rfl; exact rfl; (first | with_reducible rfl | with_reducible assumption | decide); exact rfl) | (apply Wl.eqlPN; exact rfl; exact rfl; exact rfl) | (apply Wl.gtr; exact rfl; exact rfl; exact rfl) | (apply Wl.len; exact rfl; exact rfl) | (apply Wl.nil) | (apply St.seq) | (apply St.block) | (apply St.region) | (apply St.ret) | (apply St.skip) | (apply Gt.next) | (apply Gt.thenRet) | (apply Gt.out1; exact rfl; exact rfl; intro w' hp) | (apply St.condP; exact rfl; all_goals (intros; try (exfalso; omega))))
  · rw [if_pos (by omega)]; exact ⟨rfl, ⟨_, hk, hdr, hp.own.at (.head _)⟩, Hp.turned hp⟩
  have hup : ∀ cs w', Hp w [⟨c, .int .i64 md :: .int .u32 st :: .int .u32 mie :: .int .u32 mip :: .int .u32 tv :: .int .u32 sc :: .int .u32 ep :: .int .u32 ca :: .int .u32 tl :: cs, 54⟩] w' → Upd (fun k => w0.heap.size ≤ k) w0 w' :=
    fun cs w' h => hu.comp (Hp.turned h) fun k _ hs => hs.elim id fun e => by omega
  refine St.loop (σ := Nat × List Value) (fun τ => τ.1 ≤ 16 ∧ Kd fkd 34 τ.2 ∧ τ.2.drop 32 = [.int .u64 cy, .int .u64 re]) (fun τ => [(13, .int .i64 τ.1), (0, .pointer (some ⟨c, 0, none⟩)), (1, .slice a n cap)])
    (fun τ => Hp w [⟨c, .int .i64 md :: .int .u32 st :: .int .u32 mie :: .int .u32 mip :: .int .u32 tv :: .int .u32 sc :: .int .u32 ep :: .int .u32 ca :: .int .u32 tl :: τ.2, 54⟩]) (fun τ => 16 - τ.1) (0, cs) ⟨by simp, hk, hdr⟩ (by (repeat (first | exact Sub.nil | apply Sub.cons rfl))) (fun _ h => h) ?_
  rintro ⟨i, cs1⟩ ⟨hi, hk1, hr1⟩
  simp only at hi hk1 hr1 ⊢
  by_cases hlt : i < 16
  · repeat' (first | (apply Wl.move; exact rfl; exact rfl) | (apply Wl.assign; exact rfl; exact rfl) | (apply Wl.lss; exact rfl; exact rfl; exact rfl) | (apply Wl.nil) | (apply St.seq) | (apply St.block) | (apply St.region) | (apply St.skip) | (apply Gt.next) | (apply St.condP; exact rfl; all_goals (intros; try (exfalso; omega))))
    refine St.tree (fun w' => Upd (fun k => w0.heap.size ≤ k) w0 w') mixed (fun _ h => ⟨Hp.drew h, hup _ _ (Hp.drew h)⟩) ?_
    refine Mt.pure 0 (by decide +kernel) (by exact rfl) (by exact rfl) (by decide +kernel) (by decide +kernel) ?_
    repeat' (first | (apply Wl.move; exact rfl; exact rfl) | (apply Wl.nilM))
    apply Mt.back
    refine Mt.pure 1 (by decide +kernel) (by exact rfl) (by exact rfl) (by decide +kernel) (by decide +kernel) ?_
    repeat' (first | (apply Wl.move; exact rfl; exact rfl) | (apply Wl.nilM))
    apply Mt.back
    refine Mt.pure 2 (by decide +kernel) (by exact rfl) (by exact rfl) (by decide +kernel) (by decide +kernel) ?_
    repeat' (first | (apply Wl.move; exact rfl; exact rfl) | (apply Wl.nilM))
    apply Mt.back
    refine Mt.pure 3 (by decide +kernel) (by exact rfl) (by exact rfl) (by decide +kernel) (by decide +kernel) ?_
    repeat' (first | (apply Wl.move; exact rfl; exact rfl) | (apply Wl.nilM))
    apply Mt.back
    refine Mt.pure 4 (by decide +kernel) (by exact rfl) (by exact rfl) (by decide +kernel) (by decide +kernel) ?_
    repeat' (first | (apply Wl.nilCheck; exact rfl; exact rfl) | (apply Wl.nilM))
    apply Mt.back
    refine Mt.pure 5 (by decide +kernel) (by exact rfl) (by exact rfl) (by decide +kernel) (by decide +kernel) ?_
    repeat' (first | (apply Wl.fieldAddrZ; exact rfl; exact rfl) | (apply Wl.nilM))
    apply Mt.back
    refine Mt.pure 6 (by decide +kernel) (by exact rfl) (by exact rfl) (by decide +kernel) (by decide +kernel) ?_
    repeat' (first | (apply Wl.indexAo; exact rfl; exact rfl; exact rfl; (omega)) | (apply Wl.nilM))
    apply Mt.back
    refine Mt.pure 8 (by decide +kernel) (by exact rfl) (by exact rfl) (by decide +kernel) (by decide +kernel) ?_
    repeat' (first | (apply Wl.nilCheck; exact rfl; exact rfl) | (apply Wl.nilM))
    apply Mt.back
    refine Mt.pure 9 (by decide +kernel) (by exact rfl) (by exact rfl) (by decide +kernel) (by decide +kernel) ?_
    repeat' (first | (apply Wl.fieldAddrZ; exact rfl; exact rfl) | (apply Wl.nilM))
    apply Mt.back
    refine Mt.eff1 (i := 7) (by decide +kernel) (by exact rfl) ?_
    apply Wl.store9D
    · exact rfl
    · exact rfl
    · intro cs'; (repeat (first | apply HSet.here | apply HSet.there))
    · exact hk1
    · omega
    · omega
    · exact fkd8 (by omega)
    · omega
    intro cs2 hk2 hr2
    repeat' (first | (apply Wl.nil))
    refine Mt.backE (fun _ h => hup _ _ h) ?_
    refine Mt.pure 10 (by decide +kernel) (by exact rfl) (by exact rfl) (by decide +kernel) (by decide +kernel) ?_
    repeat' (first | (apply Wl.indexAo; exact rfl; exact rfl; exact rfl; (omega)) | (apply Wl.nilM))
    apply Mt.back
    refine Mt.eff1 (i := 11) (by decide +kernel) (by exact rfl) ?_
    apply Wl.store9D
    · exact rfl
    · exact rfl
    · intro cs'; (repeat (first | apply HSet.here | apply HSet.there))
    · exact hk2
    · omega
    · omega
    · exact fkd32 (by omega) (by omega)
    · omega
    intro cs3 hk3 hr3
    repeat' (first | (apply Wl.nil))
    refine Mt.backE (fun _ h => hup _ _ h) ?_
    refine Mt.toGt (by decide +kernel) ?_
    by_cases hin : i < n
    · obtain ⟨b, o, rfl, x, y, z, h1, h2, h3⟩ := hS i hin
      have hb := cell_old h1
      simp only at hb
      repeat' (first | (apply Wl.move; exact rfl; exact rfl) | (apply Wl.lss; exact rfl; exact rfl; exact rfl) | (apply Wl.len; exact rfl; exact rfl) | (apply Wl.nil) | (apply St.seq) | (apply St.region) | (apply Gt.next) | (apply St.condP; exact rfl; all_goals (intros; try (exfalso; omega))))
      refine St.tree (fun w' => Upd (fun k => w0.heap.size ≤ k) w0 w') mixed (fun _ h => ⟨Hp.drew h, hup _ _ (Hp.drew h)⟩) ?_
      refine Mt.pure 0 (by decide +kernel) (by exact rfl) (by exact rfl) (by decide +kernel) (by decide +kernel) ?_
      repeat' (first | (apply Wl.move; exact rfl; exact rfl) | (apply Wl.nilM))
      apply Mt.back
      refine Mt.pure 1 (by decide +kernel) (by exact rfl) (by exact rfl) (by decide +kernel) (by decide +kernel) ?_
      repeat' (first | (apply Wl.move; exact rfl; exact rfl) | (apply Wl.nilM))
      apply Mt.back
      refine Mt.pure 2 (by decide +kernel) (by exact rfl) (by exact rfl) (by decide +kernel) (by decide +kernel) ?_
      repeat' (first | (apply Wl.move; exact rfl; exact rfl) | (apply Wl.nilM))
      apply Mt.back
      refine Mt.pure 3 (by decide +kernel) (by exact rfl) (by exact rfl) (by decide +kernel) (by decide +kernel) ?_
      repeat' (first | (apply Wl.move; exact rfl; exact rfl) | (apply Wl.nilM))
      apply Mt.back
      refine Mt.pure 4 (by decide +kernel) (by exact rfl) (by exact rfl) (by decide +kernel) (by decide +kernel) ?_
      repeat' (first | (apply Wl.move; exact rfl; exact rfl) | (apply Wl.nilM))
      apply Mt.back
      refine Mt.pure 5 (by decide +kernel) (by exact rfl) (by exact rfl) (by decide +kernel) (by decide +kernel) ?_
      repeat' (first | (apply Wl.move; exact rfl; exact rfl) | (apply Wl.nilM))
      apply Mt.back
      refine Mt.pure 6 (by decide +kernel) (by exact rfl) (by exact rfl) (by decide +kernel) (by decide +kernel) ?_
      repeat' (first | (apply Wl.indexAddr; exact rfl; exact rfl; exact rfl; (constructor <;> omega)) | (apply Wl.nilM))
      apply Mt.back
      refine Mt.pure 7 (by decide +kernel) (by exact rfl) (by exact rfl) (by decide +kernel) (by decide +kernel) ?_
      apply Wl.loadAF (xs := [.int .i64 x, .int .i64 y, .int .u32 z])
      · exact rfl
      · exact rfl
      · exact rfl
      · intro w' h j v hj
        rw [addLit]
        match j, hj with
        | 0, hj => cases hj; exact h.cell h1 (by simp only; omega)
        | 1, hj => cases hj; exact h.cell h2 (by simp only; omega)
        | 2, hj => cases hj; exact h.cell h3 (by simp only; omega)
      repeat' (first | (apply Wl.nilM))
      apply Mt.back
      refine Mt.pure 9 (by decide +kernel) (by exact rfl) (by exact rfl) (by decide +kernel) (by decide +kernel) ?_
      repeat' (first | (apply Wl.move; exact rfl; exact rfl) | (apply Wl.nilM))
      apply Mt.back
      refine Mt.pure 10 (by decide +kernel) (by exact rfl) (by exact rfl) (by decide +kernel) (by decide +kernel) ?_
      repeat' (first | (apply Wl.move; exact rfl; exact rfl) | (apply Wl.nilM))
      apply Mt.back
      refine Mt.pure 11 (by decide +kernel) (by exact rfl) (by exact rfl) (by decide +kernel) (by decide +kernel) ?_
      repeat' (first | (apply Wl.indexAddr; exact rfl; exact rfl; exact rfl; (constructor <;> omega)) | (apply Wl.nilM))
      apply Mt.back
      refine Mt.pure 12 (by decide +kernel) (by exact rfl) (by exact rfl) (by decide +kernel) (by decide +kernel) ?_
      repeat' (first | (apply Wl.fieldAddr; exact rfl; exact rfl) | (apply Wl.nilM))
      apply Mt.back
      refine Mt.pure 13 (by decide +kernel) (by exact rfl) (by exact rfl) (by decide +kernel) (by decide +kernel) ?_
      apply Wl.loadF
      · exact rfl
      · exact rfl
      · intro w' h; exact h.cell h3 (by simp only; omega)
      repeat' (first | (apply Wl.nilM))
      apply Mt.back
      refine Mt.pure 14 (by decide +kernel) (by exact rfl) (by exact rfl) (by decide +kernel) (by decide +kernel) ?_
      repeat' (first | (apply Wl.nilCheck; exact rfl; exact rfl) | (apply Wl.nilM))
      apply Mt.back
      refine Mt.pure 15 (by decide +kernel) (by exact rfl) (by exact rfl) (by decide +kernel) (by decide +kernel) ?_
      repeat' (first | (apply Wl.fieldAddrZ; exact rfl; exact rfl) | (apply Wl.nilM))
      apply Mt.back
      refine Mt.pure 18 (by decide +kernel) (by exact rfl) (by exact rfl) (by decide +kernel) (by decide +kernel) ?_
      repeat' (first | (apply Wl.nilCheck; exact rfl; exact rfl) | (apply Wl.nilM))
      apply Mt.back
      refine Mt.pure 19 (by decide +kernel) (by exact rfl) (by exact rfl) (by decide +kernel) (by decide +kernel) ?_
      repeat' (first | (apply Wl.fieldAddrZ; exact rfl; exact rfl) | (apply Wl.nilM))
      apply Mt.back
      refine Mt.eff1 (i := 8) (by decide +kernel) (by exact rfl) ?_
      apply Wl.callC
      · exact rfl
      · (repeat (first | exact Evs.nil | apply Evs.cons rfl))
      intro wq hq
      refine (fbyte x y z wq).mono ?_
      rintro e wr ⟨⟨v, rfl⟩, hr⟩
      refine ⟨_, _, rfl, hq.keep hr, ?_⟩
      clear hr hq wq wr
      repeat' (first | (apply Wl.nil))
      refine Mt.backE (fun _ h => hup _ _ h) ?_
      refine Mt.pure 16 (by decide +kernel) (by exact rfl) (by exact rfl) (by decide +kernel) (by decide +kernel) ?_
      repeat' (first | (apply Wl.indexAo; exact rfl; exact rfl; exact rfl; (omega)) | (apply Wl.nilM))
      apply Mt.back
      refine Mt.eff1 (i := 17) (by decide +kernel) (by exact rfl) ?_
      apply Wl.store9D
      · exact rfl
      · exact rfl
      · intro cs'; (repeat (first | apply HSet.here | apply HSet.there))
      · exact hk3
      · omega
      · omega
      · exact fkd8 (by omega)
      · omega
      intro cs4 hk4 hr4
      repeat' (first | (apply Wl.nil))
      refine Mt.backE (fun _ h => hup _ _ h) ?_
      refine Mt.pure 20 (by decide +kernel) (by exact rfl) (by exact rfl) (by decide +kernel) (by decide +kernel) ?_
      repeat' (first | (apply Wl.indexAo; exact rfl; exact rfl; exact rfl; (omega)) | (apply Wl.nilM))
      apply Mt.back
      refine Mt.eff1 (i := 21) (by decide +kernel) (by exact rfl) ?_
      apply Wl.store9D
      · exact rfl
      · exact rfl
      · intro cs'; (repeat (first | apply HSet.here | apply HSet.there))
      · exact hk4
      · omega
      · omega
      · exact fkd32 (by omega) (by omega)
      · omega
      intro cs5 hk5 hr5
      repeat' (first | (apply Wl.nil))
      refine Mt.backE (fun _ h => hup _ _ h) ?_
      refine Mt.toGt (by decide +kernel) ?_
      repeat' (first | (apply Wl.move; exact rfl; exact rfl) | (apply Wl.addI; exact rfl; exact rfl; exact rfl; (constructor <;> omega)) | (apply Wl.nil) | (apply St.region) | (apply Gt.next) | (apply Gt.inNormal))
      apply Gt.round (i + 1, cs5)
      rotate_left
      · simp only; omega
      · (repeat (first | exact Sub.nil | apply Sub.cons rfl))
      · exact fun _ h => h
      · exact ⟨by simp only; omega, hk5, (hr5.trans (hr4.trans (hr3.trans (hr2.trans hr1))))⟩
    · repeat' (first | (apply Wl.move; exact rfl; exact rfl) | (apply Wl.lss; exact rfl; exact rfl; exact rfl) | (apply Wl.addI; exact rfl; exact rfl; exact rfl; (constructor <;> omega)) | (apply Wl.len; exact rfl; exact rfl) | (apply Wl.nil) | (apply St.seq) | (apply St.region) | (apply St.skip) | (apply Gt.next) | (apply Gt.inNormal) | (apply St.condP; exact rfl; all_goals (intros; try (exfalso; omega))))
      apply Gt.round (i + 1, cs3)
      rotate_left
      · simp only; omega
      · (repeat (first | exact Sub.nil | apply Sub.cons rfl))
      · exact fun _ h => h
      · exact ⟨by simp only; omega, hk3, (hr3.trans (hr2.trans hr1))⟩
  · repeat' (first | (apply Wl.assign; exact rfl; exact rfl) | (apply Wl.lss; exact rfl; exact rfl; exact rfl) | (apply Wl.nil) | (apply St.seq) | (apply St.region) | (apply St.ret) | (apply St.exit) | (apply Gt.next) | (apply Gt.thenExit) | (apply Gt.inExit) | (apply Gt.out1; exact rfl; exact rfl; intro w' hp) | (apply St.condP; exact rfl; all_goals (intros; try (exfalso; omega))))
    rw [if_neg (by omega)]
    exact ⟨rfl, ⟨_, hk1, hr1, hp.own.at (.head _)⟩, Hp.turned hp⟩
set_option maxHeartbeats 4000000 in
theorem fwriteP (c : Nat) (n x : Int) (F F' : Fs) (w : World) (hn : (n = 772 ∧ x = 128 ∧ F' = { F with mie := 128 }) ∨ (n = 773 ∧ x = 2147487744 ∧ F' = { F with tv := 2147487744 })) (hF : FP w c F) :
    Calls Tryd.prog 32 #[.pointer (some ⟨c, 0, none⟩), .int .u32 n, .int .u32 x] w fun e w' => e = .returned (.bool true) ∧ FP w' c F' ∧ Upd (fun k => k = c) w w' := by
  obtain ⟨cs, hk, hdr, hc⟩ := hF
  obtain ⟨md, st, mie, mip, tv, sc, ep, ca, tl, cy, re, cf⟩ := F
  simp only at hdr hc hn ⊢
  refine enter (args := [_, _, _]) (Γ := [(0, _), (1, _), (2, _)]) Tryd.func32 Tryd.ntmps32 rfl (of_decide_eq_true rfl) (.cons rfl (.cons rfl (.cons rfl .nil))) ?_
  refine St.cls (C' := Hp w [⟨c, .int .i64 md :: .int .u32 st :: .int .u32 mie :: .int .u32 mip :: .int .u32 tv :: .int .u32 sc :: .int .u32 ep :: .int .u32 ca :: .int .u32 tl :: cs, 54⟩]) (fun _ h' => Hp.open h' hc) ?_
  rcases hn with ⟨rfl, rfl, rfl⟩ | ⟨rfl, rfl, rfl⟩
  all_goals
    repeat' (first | (apply Wl.move; exact rfl; exact rfl) | (apply Wl.assign; exact rfl; exact rfl) | (apply Wl.nil) | (apply St.seq) | (apply St.region) | (apply Gt.next))
    apply Wl.callC
    · exact rfl
    · (repeat (first | exact Evs.nil | apply Evs.cons rfl))
    intro wq hq
    refine (fread_any c _ md st mie mip tv sc ep ca tl cs wq (by decide) hk (hq.own.at (.head _))).mono ?_
    rintro e wr ⟨⟨v, rfl⟩, hr⟩
    refine ⟨_, _, rfl, hq.keep hr, ?_⟩
    clear hr hq wq wr
    rw [decide_eq_true (by decide)]
    repeat' (first | (apply Wl.move; exact rfl; exact rfl) | (apply Wl.assign; exact rfl; exact rfl) | (apply Wl.on; exact rfl; exact rfl; (first | with_reducible rfl | with_reducible assumption | decide)) | (apply Wl.off; exact rfl; exact rfl; exact rfl; (first | with_reducible rfl | (show _ = false; with_reducible assumption) | (show _ = true; with_reducible assumption) | decide)) | (apply Wl.extract; exact rfl; exact rfl; exact rfl) | (apply Wl.nilCheck; exact rfl; exact rfl) | (apply Wl.pickF; exact rfl; exact rfl; (first | with_reducible rfl | with_reducible assumption | decide); exact rfl) | (apply Wl.not; exact rfl; exact rfl) | (apply Wl.fieldAddrZ; exact rfl; exact rfl) | (apply Wl.eqlIs; exact rfl; exact rfl; exact rfl; (first | with_reducible assumption | with_reducible rfl)) | (apply Wl.eql; exact rfl; exact rfl; exact rfl) | (apply Wl.geq; exact rfl; exact rfl; exact rfl) | (apply Wl.and; exact rfl; exact rfl; exact rfl) | (apply Wl.andNot; exact rfl; exact rfl; exact rfl) | (apply Wl.store; exact rfl; exact rfl; exact rfl; (repeat (first | apply HSet.here | apply HSet.there)); (repeat (first | apply LSet.z | apply LSet.s))) | (apply Wl.nil) | (apply St.seq) | (apply St.block) | (apply St.region) | (apply St.condT; exact rfl; (first | with_reducible rfl | with_reducible assumption | decide)) | (apply St.condF; exact rfl; (first | with_reducible rfl | with_reducible assumption | decide)) | (apply St.ret) | (apply St.skip) | (apply Gt.next) | (apply Gt.inNormal) | (apply Gt.out1; exact rfl; exact rfl; intro w' hp))
    exact ⟨rfl, ⟨cs, hk, hdr, hp.own.at (.head _)⟩, Hp.turned hp⟩
end Go.Proofs.YtcefkbnachnciaaDoor
end
section
namespace Go.Proofs.YtcefkbnachnciaaDoor
open Go.RowKit Go.Pt
def CsrS (w : World) (a : Option Addr) : Prop := ∀ i : Nat, i < 2 → ∃ b o, a = some ⟨b, o, none⟩ ∧ ∃ x y : Int, (w.cell? ⟨b, o + i * 2, none⟩ = some (.int .u32 x) ∧ 0 ≤ x ∧ x < 4294967296) ∧ (w.cell? ⟨b, o + i * 2 + 1, none⟩ = some (.int .u32 y) ∧ 0 ≤ y ∧ y < 4294967296) ∧ ((i = 0 ∧ x = 772 ∧ y = 128) ∨ (i = 1 ∧ x = 773 ∧ y = 2147487744))
def Gn (i : Nat) : Fs := ⟨3, 0, if i = 0 then 0 else 128, 0, if i < 2 then 0 else 2147487744, 0, 0, 0, 0, 0, 0, []⟩
theorem gnT (i : Nat) : 0 ≤ (Gn i).tv ∧ (Gn i).tv < 4294967296 := by
  simp only [Gn]
  split <;> decide
theorem gnS {i : Nat} {x y : Int} (_ : i < 2) (h : (i = 0 ∧ x = 772 ∧ y = 128) ∨ (i = 1 ∧ x = 773 ∧ y = 2147487744)) : (x = 772 ∧ y = 128 ∧ Gn (i + 1) = { Gn i with mie := 128 }) ∨ (x = 773 ∧ y = 2147487744 ∧ Gn (i + 1) = { Gn i with tv := 2147487744 }) := by
  rcases h with ⟨rfl, h1, h2⟩ | ⟨rfl, h1, h2⟩
  · exact .inl ⟨h1, h2, rfl⟩
  · exact .inr ⟨h1, h2, rfl⟩
theorem fz_FP {w : World} {c : Nat} (h : w.heap[c]? = some (.cells (fz 0).toArray 54 (0, 0))) : FP w c (Gn 0) := by
  refine ⟨(fz 0).drop 9, ?_, rfl, h⟩
  have : (fz 0).drop 9 = (List.range 34).map fun i => Value.int (fkd i) ((fun _ => 0 : Nat → Int) i) := by rfl
  rw [this]; exact Kd.mk'
structure BC (w0 w : World) (cf cM cm b n : Nat) (G : Fs) (f : Nat → Int) : Prop where
  ff : FP w cf G
  tv0 : 0 ≤ G.tv ∧ G.tv < 4294967296
  mm : memH w cM f
  mf : ∃ tv2, MM w cm b n tv2
  u : Upd (fun k => w0.heap.size ≤ k) w0 w
  ge : w0.heap.size ≤ cf ∧ w0.heap.size ≤ cM ∧ w0.heap.size ≤ cm ∧ w0.heap.size ≤ b
  ne : (cf ≠ cM ∧ cf ≠ cm ∧ cf ≠ b) ∧ cM ≠ cm ∧ cM ≠ b
theorem BC.lt {w0 w : World} {cf cM cm b n : Nat} {G : Fs} {f : Nat → Int} (k : BC w0 w cf cM cm b n G f) : cf < w.heap.size ∧ cM < w.heap.size ∧ cm < w.heap.size ∧ b < w.heap.size := by
  obtain ⟨tv2, hm⟩ := k.mf
  exact ⟨k.ff.lt, lt_of_block k.mm, hm.ltc, hm.ltb⟩
theorem BC.upd {w0 w w' : World} {cf cM cm b n : Nat} {G : Fs} {f : Nat → Int} {S : Nat → Prop} (k : BC w0 w cf cM cm b n G f) (u : Upd S w w') (h1 : ¬ S cf) (h2 : ¬ S cM) (h3 : ¬ S cm) (h4 : ¬ S b) (h5 : ∀ j, S j → w0.heap.size ≤ j) : BC w0 w' cf cM cm b n G f := by
  obtain ⟨tv2, hm⟩ := k.mf
  exact ⟨k.ff.upd u h1, k.tv0, u.heap k.mm h2, ⟨tv2, hm.upd u h3 h4⟩, k.u.comp u fun j _ hs => hs.elim id (h5 j), k.ge, k.ne⟩
theorem BC.fcall {w0 w w' : World} {cf cM cm b n : Nat} {G G' : Fs} {f : Nat → Int} (k : BC w0 w cf cM cm b n G f) (h : FP w' cf G') (ht : 0 ≤ G'.tv ∧ G'.tv < 4294967296) (u : Upd (fun j => j = cf) w w') : BC w0 w' cf cM cm b n G' f := by
  obtain ⟨tv2, hm⟩ := k.mf
  exact ⟨h, ht, u.heap k.mm fun e => k.ne.1.1 e.symm, ⟨tv2, hm.upd u (fun e => k.ne.1.2.1 e.symm) fun e => k.ne.1.2.2 e.symm⟩, k.u.comp u fun j _ hs => hs.elim id fun e => e ▸ k.ge.1, k.ge, k.ne⟩
theorem BC.mcall {w0 w w' : World} {cf cM cm b n n' : Nat} {G : Fs} {tv2 : Int} {f : Nat → Int} (k : BC w0 w cf cM cm b n G f) (h : MM w' cm b n' tv2) (u : Upd (fun j => j = cm ∨ j = b) w w') : BC w0 w' cf cM cm b n' G f :=
  ⟨k.ff.upd u fun e => e.elim k.ne.1.2.1 k.ne.1.2.2, k.tv0, u.heap k.mm fun e => e.elim k.ne.2.1 k.ne.2.2, ⟨tv2, h⟩, k.u.comp u fun j _ hs => hs.elim id fun e => e.elim (fun e => e ▸ k.ge.2.2.1) fun e => e ▸ k.ge.2.2.2, k.ge, k.ne⟩
set_option maxHeartbeats 16000000 in
theorem begin_cnt (wa xa la ca : Option Addr) (wn wc xn xc ln lc cn cc : Nat) (pc0 : Int) (w : World) (hW : WordS w wa wn) (hX : PairS w xa xn) (hL : EntS w la ln) (hC : CsrS w ca) (hwn : wn ≤ 300) (hxn : xn ≤ 100) (hln : ln ≤ 16) (hcn : cn = 2) (hT : tabOk w) :
    Calls Tryd.prog 11 #[.agg #[.slice wa wn wc, .slice xa xn xc, .slice la ln lc, .bool true, .slice ca cn cc, .int .u32 pc0]] w fun e w' => ∃ p h cf cM cH xs pc F f, e = .returned (.pointer (some ⟨p, 0, none⟩)) ∧ w'.heap[p]? = some (.cells #[.pointer (some ⟨h, 0, none⟩), .pointer (some ⟨cH, 0, none⟩)] 44 (0, 0)) ∧
      SS w' h cf cM xs pc F f ∧ (F.md = 0 ∧ F.mie = 128 ∧ F.mip = 0 ∧ F.tv = 2147487744 ∧ F.cy = 0 ∧ F.re = 0) ∧ (w.heap.size ≤ p ∧ w.heap.size ≤ h ∧ w.heap.size ≤ cf ∧ w.heap.size ≤ cM) ∧ (p ≠ h ∧ p ≠ cf ∧ p ≠ cM) ∧ Upd (fun k => w.heap.size ≤ k) w w' := by
  have hT0 := hT.lt
  refine enter (args := [_]) (Γ := [(0, _)]) Tryd.func11 Tryd.ntmps11 rfl (of_decide_eq_true rfl) (.cons rfl .nil) ?_
  apply St.seq
  apply St.region
  apply Wl.boxA
  · exact rfl
  · exact rfl
  intro c1 hc1 ho1
  repeat' (first | (apply Wl.assign; exact rfl; exact rfl) | (apply Wl.nil) | (apply St.seq) | (apply St.region) | (apply Gt.next))
  apply Wl.callC
  · exact rfl
  · (repeat (first | exact Evs.nil | apply Evs.cons rfl))
  intro wq hq
  refine (newMem wq).mono ?_
  rintro e w1 ⟨cM, rfl, hM1, hcM⟩
  have l1 := hq.own.lt (.head _)
  simp only at l1
  refine ⟨_, Hp w [⟨cM, memC fun _ => 0, 94⟩, ⟨c1, [.slice wa wn wc, .slice xa xn xc, .slice la ln lc, .bool true, .slice ca cn cc, .int .u32 pc0], 39⟩], rfl, hq.callNew hM1 hcM, ?_⟩
  apply Wl.reb (H' := [⟨c1, [.slice wa wn wc, .slice xa xn xc, .slice la ln lc, .bool true, .slice ca cn cc, .int .u32 pc0], 39⟩])
  intro w2 hw2
  refine ⟨hw2.own.2, hw2.apart.2, ?_⟩
  have hm2 : memH w2 cM fun _ => 0 := hw2.own.1
  have lM := lt_of_block hm2
  have hu2 : Upd (fun k => w.heap.size ≤ k) w w2 := hw2.on (Upd.refl _ _) (by simp; omega)
  have s2 := hu2.size
  clear hq hM1 hw2
  repeat' (first | (apply Wl.move; exact rfl; exact rfl) | (apply Wl.assign; exact rfl; exact rfl) | (apply Wl.on; exact rfl; exact rfl; (first | with_reducible rfl | with_reducible assumption | decide)) | (apply Wl.off; exact rfl; exact rfl; exact rfl; (first | with_reducible rfl | (show _ = false; with_reducible assumption) | (show _ = true; with_reducible assumption) | decide)) | (apply Wl.offU; exact rfl; exact rfl; exact rfl) | (apply Wl.extract; exact rfl; exact rfl; exact rfl) | (apply Wl.nilCheck; exact rfl; exact rfl) | (apply Wl.pickT; exact rfl; exact rfl; (first | with_reducible rfl | with_reducible assumption | decide); exact rfl) | (apply Wl.pickF; exact rfl; exact rfl; (first | with_reducible rfl | with_reducible assumption | decide); exact rfl) | (apply Wl.not; exact rfl; exact rfl) | (apply Wl.fieldAddr0; exact rfl; exact rfl) | (apply Wl.fieldAddrZ; exact rfl; exact rfl) | (apply Wl.fieldAddr; exact rfl; exact rfl) | (apply Wl.loadH; exact rfl; exact rfl; (repeat (first | exact List.Mem.head _ | apply List.Mem.tail)); exact rfl) | (apply Wl.loadO; exact rfl; exact rfl; (assumption); (repeat (first | exact trivial | refine ⟨by first | assumption | omega, ?_⟩))) | (apply Wl.eqlPN; exact rfl; exact rfl; exact rfl) | (apply Wl.neqPN; exact rfl; exact rfl; exact rfl) | (apply Wl.eqlNN; exact rfl; exact rfl; exact rfl) | (apply Wl.neqNN; exact rfl; exact rfl; exact rfl) | (apply Wl.eqlIs; exact rfl; exact rfl; exact rfl; (first | with_reducible assumption | with_reducible rfl)) | (apply Wl.neqIs; exact rfl; exact rfl; exact rfl; (first | with_reducible assumption | with_reducible rfl)) | (apply Wl.eql; exact rfl; exact rfl; exact rfl) | (apply Wl.neq; exact rfl; exact rfl; exact rfl) | (apply Wl.lss; exact rfl; exact rfl; exact rfl) | (apply Wl.leq; exact rfl; exact rfl; exact rfl) | (apply Wl.gtr; exact rfl; exact rfl; exact rfl) | (apply Wl.geq; exact rfl; exact rfl; exact rfl) | (apply Wl.addI; exact rfl; exact rfl; exact rfl; (constructor <;> omega)) | (apply Wl.subI; exact rfl; exact rfl; exact rfl; (constructor <;> omega)) | (apply Wl.mulI; exact rfl; exact rfl; exact rfl; (constructor <;> omega)) | (apply Wl.addU; exact rfl; exact rfl; exact rfl; (constructor <;> omega)) | (apply Wl.add; exact rfl; exact rfl; exact rfl) | (apply Wl.sub'; exact rfl; exact rfl; exact rfl) | (apply Wl.mul; exact rfl; exact rfl; exact rfl) | (apply Wl.quo; exact rfl; exact rfl; exact rfl; (first | decide | omega)) | (apply Wl.rem; exact rfl; exact rfl; exact rfl; (first | decide | omega)) | (apply Wl.and; exact rfl; exact rfl; exact rfl) | (apply Wl.or; exact rfl; exact rfl; exact rfl) | (apply Wl.xor; exact rfl; exact rfl; exact rfl) | (apply Wl.andNot; exact rfl; exact rfl; exact rfl) | (apply Wl.shl; exact rfl; exact rfl; exact rfl; (omega)) | (apply Wl.shr; exact rfl; exact rfl; exact rfl; (omega)) | (apply Wl.eqlBs; exact rfl; exact rfl; exact rfl; (first | with_reducible assumption | with_reducible rfl)) | (apply Wl.neqBs; exact rfl; exact rfl; exact rfl; (first | with_reducible assumption | with_reducible rfl)) | (apply Wl.eqlB; exact rfl; exact rfl; exact rfl) | (apply Wl.neqB; exact rfl; exact rfl; exact rfl) | (apply Wl.eqlSB; exact rfl; exact rfl; exact rfl) | (apply Wl.neqSB; exact rfl; exact rfl; exact rfl) | (apply Wl.eqlS; exact rfl; exact rfl; exact rfl) | (apply Wl.neqS; exact rfl; exact rfl; exact rfl) | (apply Wl.convI64; exact rfl; exact rfl; (constructor <;> omega)) | (apply Wl.convU64; exact rfl; exact rfl; (constructor <;> omega)) | (apply Wl.convU32; exact rfl; exact rfl; (constructor <;> omega)) | (apply Wl.convU8; exact rfl; exact rfl; (constructor <;> omega)) | (apply Wl.convI; exact rfl; exact rfl) | (apply Wl.neg; exact rfl; exact rfl) | (apply Wl.compl; exact rfl; exact rfl) | (apply Wl.len; exact rfl; exact rfl) | (apply Wl.lenS; exact rfl; exact rfl) | (apply Wl.store; exact rfl; exact rfl; exact rfl; (repeat (first | apply HSet.here | apply HSet.there)); (repeat (first | apply LSet.z | apply LSet.s))) | (apply Wl.storeA; exact rfl; exact rfl; exact rfl; exact rfl; (repeat (first | apply HSet.here | apply HSet.there)); (repeat (first | apply LPut.s | apply LPut.z | apply LOver.nil | apply LOver.cons))) | (apply Wl.loadAH; exact rfl; exact rfl; (repeat (first | exact List.Mem.head _ | apply List.Mem.tail)); (repeat (first | apply LSub.z | apply LSub.t | apply LSub.s))) | (apply Wl.buildS; exact rfl; (repeat (first | exact Parts.nil | apply Parts.cons rfl)); (repeat (first | apply Fills.nil | (apply Fills.one; exact rfl; exact rfl; (repeat (first | apply LSet.z | apply LSet.s))) | (apply Fills.agg; exact rfl; exact rfl; (repeat (first | apply LPut.s | apply LPut.z | apply LOver.nil | apply LOver.cons)))))) | (apply Wl.buildA; exact rfl; (repeat (first | exact Parts.nil | apply Parts.cons rfl)); (repeat (first | apply Fills.nil | (apply Fills.one; exact rfl; exact rfl; (repeat (first | apply LSet.z | apply LSet.s))) | (apply Fills.agg; exact rfl; exact rfl; (repeat (first | apply LPut.s | apply LPut.z | apply LOver.nil | apply LOver.cons)))))) | (apply Wl.lit; exact rfl; (repeat (first | exact Parts.nil | apply Parts.cons rfl)); exact rfl; exact rfl; (repeat (first | apply CatP.nil | (apply CatP.one; exact rfl; exact rfl) | (apply CatP.agg; exact rfl) | apply LApp.nil | apply LApp.cons)); intro c hc ho) | (apply Wl.boxA; exact rfl; exact rfl; intro c hc ho) | (apply Wl.box1; exact rfl; exact rfl; exact rfl; intro c hc ho) | (apply Wl.alloc; exact rfl; intro c hc ho) | (apply Wl.slice0; exact rfl; exact rfl; (first | exact BoundIs.no | exact BoundIs.yes rfl (by omega)); (first | exact BoundIs.no | exact BoundIs.yes rfl (by omega)); (first | exact fun _ => rfl | exact fun h => nomatch h); (omega); (omega)) | (apply Wl.sliceFull; exact rfl; exact rfl; (first | exact BoundIs.no | exact BoundIs.yes rfl (by omega)); (first | exact BoundIs.no | exact BoundIs.yes rfl (by omega)); (first | exact BoundIs.no | exact BoundIs.yes rfl (by omega)); (first | exact fun _ => rfl | exact fun h => nomatch h); (omega); (omega); (omega)) | (apply Wl.indexAddr1; exact rfl; exact rfl; exact rfl; (constructor <;> omega)) | (apply Wl.indexAddr; exact rfl; exact rfl; exact rfl; (constructor <;> omega)) | (apply Wl.indexArr; exact rfl; exact rfl; exact rfl; (constructor <;> omega)) | (apply Wl.nil) | (apply Wl.nilQ) | (apply Wl.nilM) | (apply St.seq) | (apply St.block) | (apply St.region) | (apply St.condT; exact rfl; (first | with_reducible rfl | with_reducible assumption | decide)) | (apply St.condF; exact rfl; (first | with_reducible rfl | with_reducible assumption | decide)) | (apply St.ret) | (apply St.skip) | (apply St.exit) | (apply Gt.next) | (apply Gt.thenRet) | (apply Gt.thenExit) | (apply Gt.inNormal) | (apply Gt.inRet) | (apply Gt.inExit) | (apply Gt.inOther; exact rfl) | (apply Gt.out1; exact rfl; exact rfl; intro w' hp) | (apply Gt.out2; exact rfl; exact rfl; exact rfl; intro w' hp) | (apply Gt.out3; exact rfl; exact rfl; exact rfl; exact rfl; intro w' hp) | (apply Gt.out4; exact rfl; exact rfl; exact rfl; exact rfl; exact rfl; intro w' hp) | (apply Gt.out0; exact rfl; intro w' hp) | (apply Gt.out0n; exact rfl; intro w' hp) | (apply Wl.splitP; exact rfl; exact rfl; all_goals (intros; try (exfalso; omega))) | (apply Wl.splitB; exact rfl; exact rfl; all_goals intros) | (apply St.condP; exact rfl; all_goals (intros; try (exfalso; omega))) | (apply St.condB; exact rfl; all_goals intros))
  apply Wl.callC
  · exact rfl
  · (repeat (first | exact Evs.nil | apply Evs.cons rfl))
  intro wq hq
  have s2q := hq.upd.size
  refine (ramNew wq).mono ?_
  rintro e w3 ⟨rb, rm, rfl, hR3, hrm, hrb, hu3⟩
  have hq3 := hq.newer hu3
  refine ⟨_, _, rfl, hq3.rb, ?_⟩
  have hm3 : memH w3 cM fun _ => 0 := hq3.upd.heap hm2 fun y => y ⟨by simp only; omega, trivial⟩
  have hu3' : Upd (fun k => w.heap.size ≤ k) w w3 := hq3.on hu2 (by simp; omega)
  have l3 := hR3.lt
  clear hq hq3 hu3 hm2 hu2
  repeat' (first | (apply Wl.move; exact rfl; exact rfl) | (apply Wl.assign; exact rfl; exact rfl) | (apply Wl.fieldAddr0; exact rfl; exact rfl) | (apply Wl.loadH; exact rfl; exact rfl; (repeat (first | exact List.Mem.head _ | apply List.Mem.tail)); exact rfl) | (apply Wl.len; exact rfl; exact rfl) | (apply Wl.nil) | (apply St.seq) | (apply St.block) | (apply St.region) | (apply Gt.next))
  refine St.loop (σ := Nat × World × (Nat → Int)) (fun τ => τ.1 ≤ wn ∧ memH τ.2.1 cM τ.2.2 ∧ RM τ.2.1 rb rm (8 * τ.1) ∧ Upd (fun k => w.heap.size ≤ k) w τ.2.1 ∧ w3.heap.size ≤ τ.2.1.heap.size)
    (fun τ => [(1, .pointer (some ⟨c1, 0, none⟩)), (3, .pointer (some ⟨cM, 0, none⟩)), (4, .pointer (some ⟨rb, 0, none⟩)), (15, .slice wa wn wc), (16, .int .i64 (wn : Int)), (17, .int .i64 (τ.1 : Int))]) (fun τ => Hp τ.2.1 [⟨c1, [.slice wa wn wc, .slice xa xn xc, .slice la ln lc, .bool true, .slice ca cn cc, .int .u32 pc0], 39⟩]) (fun τ => wn - τ.1) (0, w3, fun _ => 0) ⟨Nat.zero_le _, hm3, hR3, hu3', Nat.le_refl _⟩ (by (repeat (first | exact Sub.nil | apply Sub.cons rfl))) (fun _ h => h) ?_
  rintro ⟨i, w4, f⟩ ⟨hi, hm4, hR4, hu4, s34⟩
  simp only at hi hm4 hR4 hu4 s34 ⊢
  clear hm3 hR3 hu3'
  have s4 := hu4.size
  by_cases hlt : i < wn
  · have hd : decide ((i : Int) < (wn : Int)) = true := decide_eq_true (by omega)
    obtain ⟨vb, vo, rfl, x, hx, hx2⟩ := hW i hlt
    have lvb := World.block_lt_of_cell? w _ hx
    simp only at lvb
    have hxc : w4.cell? ⟨vb, vo + (i : Int).toNat, none⟩ = some (.int .u32 x) := by
      rw [Int.toNat_natCast]
      exact hu4.cell hx (by simp only; omega)
    repeat' (first | (apply Wl.loadO; exact rfl; exact rfl; exact hxc; (repeat (first | exact trivial | refine ⟨by simp only; omega, ?_⟩))) | (apply Wl.move; exact rfl; exact rfl) | (apply Wl.assign; exact rfl; exact rfl) | (apply Wl.lss; exact rfl; exact rfl; exact rfl) | (apply Wl.addI; exact rfl; exact rfl; exact rfl; (constructor <;> omega)) | (apply Wl.mulI; exact rfl; exact rfl; exact rfl; (constructor <;> omega)) | (apply Wl.convU32; exact rfl; exact rfl; (constructor <;> omega)) | (apply Wl.indexAddr1; exact rfl; exact rfl; exact rfl; (constructor <;> omega)) | (apply Wl.nil) | (apply St.seq) | (apply St.block) | (apply St.region) | (apply St.condT; exact rfl; (first | with_reducible rfl | with_reducible assumption | decide)) | (apply St.skip) | (apply Gt.next))
    apply Wl.callC
    · exact rfl
    · (repeat (first | exact Evs.nil | apply Evs.cons rfl))
    intro wq hq
    refine (mstore cM _ 4 x f wq (by constructor <;> omega) (.inr (.inr rfl)) (hq.upd.heap hm4 fun y => y ⟨by simp only; omega, trivial⟩)).mono ?_
    rintro e w5 ⟨⟨z, rfl⟩, hp5⟩
    have u5 := Hp.turned hp5
    have hq5 := Hp.rest hq u5 (by simp only [List.mem_cons, List.not_mem_nil, or_false, forall_eq_or_imp, forall_eq]; omega)
    refine ⟨_, _, rfl, hq5, ?_⟩
    obtain ⟨f5, hm5⟩ : ∃ f5, memH w5 cM f5 := ⟨_, hp5.own.at (.head _)⟩
    have hR5 : RM w5 rb rm (8 * i) := (hR4.upd hq.upd (fun y => y ⟨by simp only; omega, trivial⟩) (fun y => y ⟨by simp only; omega, trivial⟩)).upd u5 (by omega) (by omega)
    have hu5 : Upd (fun k => w.heap.size ≤ k) w w5 := (hq.on hu4 (by simp; omega)).comp u5 fun k hk hs => by omega
    have s5 := hu5.size
    have s45 : w4.heap.size ≤ w5.heap.size := by have := hq.upd.size; have := u5.size; omega
    clear hq hq5 hp5
    repeat' (first | (apply Wl.move; exact rfl; exact rfl) | (apply Wl.addI; exact rfl; exact rfl; exact rfl; (constructor <;> omega)) | (apply Wl.mulI; exact rfl; exact rfl; exact rfl; (constructor <;> omega)) | (apply Wl.convI64; exact rfl; exact rfl; (constructor <;> omega)) | (apply Wl.nil) | (apply St.region) | (apply Gt.next))
    apply Wl.callC
    · exact rfl
    · (repeat (first | exact Evs.nil | apply Evs.cons rfl))
    intro wq hq
    refine (ramStore rb rm (8 * i) _ _ wq (hR5.upd hq.upd (fun y => y ⟨by simp only; omega, trivial⟩) (fun y => y ⟨by simp only; omega, trivial⟩)) (by omega) (by constructor <;> omega)).mono ?_
    rintro e w6 ⟨⟨z, rfl⟩, hR6, u6⟩
    have s6q := hq.upd.size
    have lc1 := hq.own.lt (.head _)
    simp only at lc1
    have hq6 := Hp.rest hq u6 (by simp only [List.mem_cons, List.not_mem_nil, or_false, forall_eq_or_imp, forall_eq]; omega)
    refine ⟨_, _, rfl, hq6, ?_⟩
    have lmM := lt_of_block hm5
    have hm6 : memH w6 cM f5 := u6.heap (hq.upd.heap hm5 fun y => y ⟨by simp only; omega, trivial⟩) (by omega)
    have hu6 : Upd (fun k => w.heap.size ≤ k) w w6 := (hq.on hu5 (by simp; omega)).comp u6 fun k hk hs => by omega
    have s56 := u6.size
    clear hq hq6
    repeat' (first | (apply Wl.move; exact rfl; exact rfl) | (apply Wl.addI; exact rfl; exact rfl; exact rfl; (constructor <;> omega)) | (apply Wl.nil) | (apply St.region) | (apply Gt.next) | (apply Gt.inNormal))
    apply Gt.round (i + 1, w6, f5)
    rotate_left
    · simp only; omega
    · (repeat (first | exact Sub.nil | apply Sub.cons rfl))
    · exact fun _ h => h
    · exact ⟨hlt, hm6, by rw [show 8 * (i + 1) = 8 * i + 8 by omega]; exact hR6, hu6, by simp only; omega⟩
  have hie : i = wn := by omega
  have hd : decide ((i : Int) < (wn : Int)) = false := decide_eq_false (by omega)
  repeat' (first | (apply Wl.move; exact rfl; exact rfl) | (apply Wl.lss; exact rfl; exact rfl; exact rfl) | (apply Wl.nil) | (apply St.seq) | (apply St.region) | (apply St.condF; exact rfl; (first | with_reducible rfl | with_reducible assumption | decide)) | (apply St.exit) | (apply Gt.next) | (apply Gt.thenExit) | (apply Gt.inExit))
  apply Wl.callC
  · exact rfl
  · (repeat (first | exact Evs.nil | apply Evs.cons rfl))
  intro wq hq
  refine (hnew _ wq).mono ?_
  rintro e w5 ⟨h, cf, rfl, hp5, hh, hcf, hhc⟩
  have lc1 := hq.own.lt (.head _)
  simp only at lc1
  have l5h := hp5.own.lt (.head _)
  have l5f := hp5.own.lt (.tail _ (.head _))
  simp only at l5h l5f
  have u5 : Upd (fun k => wq.heap.size ≤ k) wq w5 := hp5.upd.mono fun k _ hs => Classical.byContradiction fun hn => hs ⟨fun e => by simp only at e; omega, fun e => by simp only at e; omega, trivial⟩
  have hq5 := hq.newer u5
  have sq := hq.upd.size
  have hh5 : w5.heap[h]? = some (.cells (xz ++ [Value.int .u32 0, .pointer (some ⟨cf, 0, none⟩), .pointer (some ⟨cM, 0, none⟩)]).toArray 30 (0, 0)) := hp5.own.at (.head _)
  have hf5 : FP w5 cf (Gn 0) := fz_FP (hp5.own.at (.tail _ (.head _)))
  refine ⟨_, Hp w5 [⟨h, xz ++ [.int .u32 0, .pointer (some ⟨cf, 0, none⟩), .pointer (some ⟨cM, 0, none⟩)], 30⟩, ⟨c1, [.slice wa wn wc, .slice xa xn xc, .slice la ln lc, .bool true, .slice ca cn cc, .int .u32 pc0], 39⟩], rfl, ⟨Upd.refl _ _, ⟨hh5, hq5.own⟩, ⟨⟨by simp only; omega, trivial⟩, hq5.apart⟩⟩, ?_⟩
  have hm5 : memH w5 cM f := hq5.upd.heap hm4 fun y => y ⟨by simp only; omega, trivial⟩
  have hu5 : Upd (fun k => w.heap.size ≤ k) w w5 := hq5.on hu4 (by simp; omega)
  have lMq : cM < wq.heap.size := by have := lt_of_block hm4; omega
  clear hq hq5 hp5 u5
  repeat' (first | (apply Wl.move; exact rfl; exact rfl) | (apply Wl.assign; exact rfl; exact rfl) | (apply Wl.on; exact rfl; exact rfl; (first | with_reducible rfl | with_reducible assumption | decide)) | (apply Wl.off; exact rfl; exact rfl; exact rfl; (first | with_reducible rfl | (show _ = false; with_reducible assumption) | (show _ = true; with_reducible assumption) | decide)) | (apply Wl.offU; exact rfl; exact rfl; exact rfl) | (apply Wl.extract; exact rfl; exact rfl; exact rfl) | (apply Wl.nilCheck; exact rfl; exact rfl) | (apply Wl.pickT; exact rfl; exact rfl; (first | with_reducible rfl | with_reducible assumption | decide); exact rfl) | (apply Wl.pickF; exact rfl; exact rfl; (first | with_reducible rfl | with_reducible assumption | decide); exact rfl) | (apply Wl.not; exact rfl; exact rfl) | (apply Wl.fieldAddr0; exact rfl; exact rfl) | (apply Wl.fieldAddrZ; exact rfl; exact rfl) | (apply Wl.fieldAddr; exact rfl; exact rfl) | (apply Wl.loadH; exact rfl; exact rfl; (repeat (first | exact List.Mem.head _ | apply List.Mem.tail)); exact rfl) | (apply Wl.loadO; exact rfl; exact rfl; (assumption); (repeat (first | exact trivial | refine ⟨by first | assumption | omega, ?_⟩))) | (apply Wl.eqlPN; exact rfl; exact rfl; exact rfl) | (apply Wl.neqPN; exact rfl; exact rfl; exact rfl) | (apply Wl.eqlNN; exact rfl; exact rfl; exact rfl) | (apply Wl.neqNN; exact rfl; exact rfl; exact rfl) | (apply Wl.eqlIs; exact rfl; exact rfl; exact rfl; (first | with_reducible assumption | with_reducible rfl)) | (apply Wl.neqIs; exact rfl; exact rfl; exact rfl; (first | with_reducible assumption | with_reducible rfl)) | (apply Wl.eql; exact rfl; exact rfl; exact rfl) | (apply Wl.neq; exact rfl; exact rfl; exact rfl) | (apply Wl.lss; exact rfl; exact rfl; exact rfl) | (apply Wl.leq; exact rfl; exact rfl; exact rfl) | (apply Wl.gtr; exact rfl; exact rfl; exact rfl) | (apply Wl.geq; exact rfl; exact rfl; exact rfl) | (apply Wl.addI; exact rfl; exact rfl; exact rfl; (constructor <;> omega)) | (apply Wl.subI; exact rfl; exact rfl; exact rfl; (constructor <;> omega)) | (apply Wl.mulI; exact rfl; exact rfl; exact rfl; (constructor <;> omega)) | (apply Wl.addU; exact rfl; exact rfl; exact rfl; (constructor <;> omega)) | (apply Wl.add; exact rfl; exact rfl; exact rfl) | (apply Wl.sub'; exact rfl; exact rfl; exact rfl) | (apply Wl.mul; exact rfl; exact rfl; exact rfl) | (apply Wl.quo; exact rfl; exact rfl; exact rfl; (first | decide | omega)) | (apply Wl.rem; exact rfl; exact rfl; exact rfl; (first | decide | omega)) | (apply Wl.and; exact rfl; exact rfl; exact rfl) | (apply Wl.or; exact rfl; exact rfl; exact rfl) | (apply Wl.xor; exact rfl; exact rfl; exact rfl) | (apply Wl.andNot; exact rfl; exact rfl; exact rfl) | (apply Wl.shl; exact rfl; exact rfl; exact rfl; (omega)) | (apply Wl.shr; exact rfl; exact rfl; exact rfl; (omega)) | (apply Wl.eqlBs; exact rfl; exact rfl; exact rfl; (first | with_reducible assumption | with_reducible rfl)) | (apply Wl.neqBs; exact rfl; exact rfl; exact rfl; (first | with_reducible assumption | with_reducible rfl)) | (apply Wl.eqlB; exact rfl; exact rfl; exact rfl) | (apply Wl.neqB; exact rfl; exact rfl; exact rfl) | (apply Wl.eqlSB; exact rfl; exact rfl; exact rfl) | (apply Wl.neqSB; exact rfl; exact rfl; exact rfl) | (apply Wl.eqlS; exact rfl; exact rfl; exact rfl) | (apply Wl.neqS; exact rfl; exact rfl; exact rfl) | (apply Wl.convI64; exact rfl; exact rfl; (constructor <;> omega)) | (apply Wl.convU64; exact rfl; exact rfl; (constructor <;> omega)) | (apply Wl.convU32; exact rfl; exact rfl; (constructor <;> omega)) | (apply Wl.convU8; exact rfl; exact rfl; (constructor <;> omega)) | (apply Wl.convI; exact rfl; exact rfl) | (apply Wl.neg; exact rfl; exact rfl) | (apply Wl.compl; exact rfl; exact rfl) | (apply Wl.len; exact rfl; exact rfl) | (apply Wl.lenS; exact rfl; exact rfl) | (apply Wl.store; exact rfl; exact rfl; exact rfl; (repeat (first | apply HSet.here | apply HSet.there)); (repeat (first | apply LSet.z | apply LSet.s))) | (apply Wl.storeA; exact rfl; exact rfl; exact rfl; exact rfl; (repeat (first | apply HSet.here | apply HSet.there)); (repeat (first | apply LPut.s | apply LPut.z | apply LOver.nil | apply LOver.cons))) | (apply Wl.loadAH; exact rfl; exact rfl; (repeat (first | exact List.Mem.head _ | apply List.Mem.tail)); (repeat (first | apply LSub.z | apply LSub.t | apply LSub.s))) | (apply Wl.buildS; exact rfl; (repeat (first | exact Parts.nil | apply Parts.cons rfl)); (repeat (first | apply Fills.nil | (apply Fills.one; exact rfl; exact rfl; (repeat (first | apply LSet.z | apply LSet.s))) | (apply Fills.agg; exact rfl; exact rfl; (repeat (first | apply LPut.s | apply LPut.z | apply LOver.nil | apply LOver.cons)))))) | (apply Wl.buildA; exact rfl; (repeat (first | exact Parts.nil | apply Parts.cons rfl)); (repeat (first | apply Fills.nil | (apply Fills.one; exact rfl; exact rfl; (repeat (first | apply LSet.z | apply LSet.s))) | (apply Fills.agg; exact rfl; exact rfl; (repeat (first | apply LPut.s | apply LPut.z | apply LOver.nil | apply LOver.cons)))))) | (apply Wl.lit; exact rfl; (repeat (first | exact Parts.nil | apply Parts.cons rfl)); exact rfl; exact rfl; (repeat (first | apply CatP.nil | (apply CatP.one; exact rfl; exact rfl) | (apply CatP.agg; exact rfl) | apply LApp.nil | apply LApp.cons)); intro c hc ho) | (apply Wl.boxA; exact rfl; exact rfl; intro c hc ho) | (apply Wl.box1; exact rfl; exact rfl; exact rfl; intro c hc ho) | (apply Wl.alloc; exact rfl; intro c hc ho) | (apply Wl.slice0; exact rfl; exact rfl; (first | exact BoundIs.no | exact BoundIs.yes rfl (by omega)); (first | exact BoundIs.no | exact BoundIs.yes rfl (by omega)); (first | exact fun _ => rfl | exact fun h => nomatch h); (omega); (omega)) | (apply Wl.sliceFull; exact rfl; exact rfl; (first | exact BoundIs.no | exact BoundIs.yes rfl (by omega)); (first | exact BoundIs.no | exact BoundIs.yes rfl (by omega)); (first | exact BoundIs.no | exact BoundIs.yes rfl (by omega)); (first | exact fun _ => rfl | exact fun h => nomatch h); (omega); (omega); (omega)) | (apply Wl.indexAddr1; exact rfl; exact rfl; exact rfl; (constructor <;> omega)) | (apply Wl.indexAddr; exact rfl; exact rfl; exact rfl; (constructor <;> omega)) | (apply Wl.indexArr; exact rfl; exact rfl; exact rfl; (constructor <;> omega)) | (apply Wl.nil) | (apply Wl.nilQ) | (apply Wl.nilM) | (apply St.seq) | (apply St.block) | (apply St.region) | (apply St.condT; exact rfl; (first | with_reducible rfl | with_reducible assumption | decide)) | (apply St.condF; exact rfl; (first | with_reducible rfl | with_reducible assumption | decide)) | (apply St.ret) | (apply St.skip) | (apply St.exit) | (apply Gt.next) | (apply Gt.thenRet) | (apply Gt.thenExit) | (apply Gt.inNormal) | (apply Gt.inRet) | (apply Gt.inExit) | (apply Gt.inOther; exact rfl) | (apply Gt.out1; exact rfl; exact rfl; intro w' hp) | (apply Gt.out2; exact rfl; exact rfl; exact rfl; intro w' hp) | (apply Gt.out3; exact rfl; exact rfl; exact rfl; exact rfl; intro w' hp) | (apply Gt.out4; exact rfl; exact rfl; exact rfl; exact rfl; exact rfl; intro w' hp) | (apply Gt.out0; exact rfl; intro w' hp) | (apply Gt.out0n; exact rfl; intro w' hp) | (apply Wl.splitP; exact rfl; exact rfl; all_goals (intros; try (exfalso; omega))) | (apply Wl.splitB; exact rfl; exact rfl; all_goals intros) | (apply St.condP; exact rfl; all_goals (intros; try (exfalso; omega))) | (apply St.condB; exact rfl; all_goals intros))
  apply Wl.callC
  · exact rfl
  · (repeat (first | exact Evs.nil | apply Evs.cons rfl))
  intro wq2 hq
  refine (mnew wq2).mono ?_
  rintro e w6 ⟨cm, b, rfl, hM6, hcm, hb, u6⟩
  have hq6 := hq.newer u6
  have sq2 := hq.upd.size
  refine ⟨_, _, rfl, hq6.rb, ?_⟩
  have offN : ∀ k, k < w5.heap.size → k ≠ h → k ≠ c1 → ¬ ¬ Off [⟨h, xz ++ [.int .u32 0, .pointer (some ⟨cf, 0, none⟩), .pointer (some ⟨cM, 0, none⟩)], 30⟩, ⟨c1, [.slice wa wn wc, .slice xa xn xc, .slice la ln lc, .bool true, .slice ca cn cc, .int .u32 pc0], 39⟩] k := fun k hk e1 e2 y => y ⟨fun e => e1 e.symm, fun e => e2 e.symm, trivial⟩
  have hf6 : FP w6 cf (Gn 0) := hf5.upd hq6.upd (offN cf l5f (Ne.symm hhc) (by omega))
  have hm6 : memH w6 cM f := hq6.upd.heap hm5 (offN cM (by omega) (by omega) (by omega))
  have hu6 : Upd (fun k => w.heap.size ≤ k) w w6 := hq6.on hu5 (by simp; omega)
  have hB6 : BC w w6 cf cM cm b 24 (Gn 0) f := ⟨hf6, by decide, hm6, ⟨_, hM6⟩, hu6, ⟨by omega, by omega, by omega, by omega⟩, ⟨by omega, by omega, by omega⟩, by omega, by omega⟩
  have l6 := hB6.lt
  have l6h := hq6.own.lt (.head _)
  simp only at l6h
  clear hq hq6 u6 hf6 hm6 hu6 hM6 hf5 hm5 hu5
  repeat' (first | (apply Wl.move; exact rfl; exact rfl) | (apply Wl.assign; exact rfl; exact rfl) | (apply Wl.fieldAddrZ; exact rfl; exact rfl) | (apply Wl.loadH; exact rfl; exact rfl; (repeat (first | exact List.Mem.head _ | apply List.Mem.tail)); exact rfl) | (apply Wl.len; exact rfl; exact rfl) | (apply Wl.buildS; exact rfl; (repeat (first | exact Parts.nil | apply Parts.cons rfl)); (repeat (first | apply Fills.nil | (apply Fills.one; exact rfl; exact rfl; (repeat (first | apply LSet.z | apply LSet.s))) | (apply Fills.agg; exact rfl; exact rfl; (repeat (first | apply LPut.s | apply LPut.z | apply LOver.nil | apply LOver.cons)))))) | (apply Wl.boxA; exact rfl; exact rfl; intro c hc ho) | (apply Wl.nil) | (apply St.seq) | (apply St.block) | (apply St.region) | (apply Gt.next))
  rename_i cH hcH hoH
  generalize c = p at *
  have g6 : w6.heap.size ≤ cH ∧ w6.heap.size ≤ p ∧ cH ≠ p := ⟨by assumption, by assumption, fun e => ho.1 (by simp only; exact e)⟩
  have hX6 : ∀ j, j < xn → ∃ b o, xa = some ⟨b, o, none⟩ ∧ ∃ x y : Int, (w6.cell? ⟨b, o + (j : Int).toNat * 2, none⟩ = some (.int .u32 x) ∧ 0 ≤ x ∧ x < 4294967296) ∧ (w6.cell? ⟨b, o + (j : Int).toNat * 2 + 1, none⟩ = some (.int .u32 y) ∧ 0 ≤ y ∧ y < 4294967296) ∧ b < w.heap.size := fun j hj => by
    obtain ⟨vb, vo, e, x, y, h1, h2⟩ := hX j hj
    have l := World.block_lt_of_cell? w _ h1.1
    simp only at l
    rw [Int.toNat_natCast]
    exact ⟨vb, vo, e, x, y, ⟨hB6.u.cell h1.1 (by simp only; omega), h1.2⟩, ⟨hB6.u.cell h2.1 (by simp only; omega), h2.2⟩, l⟩
  refine St.loop (σ := Nat × List Value × List Value) (fun τ => τ.1 ≤ xn ∧ Rg τ.2.1 ∧ τ.2.2.length = 32)
    (fun τ => [(1, .pointer (some ⟨c1, 0, none⟩)), (7, .pointer (some ⟨p, 0, none⟩)), (46, .slice xa xn xc), (47, .int .i64 (xn : Int)), (48, .int .i64 (τ.1 : Int))]) (fun τ => Hp w6 [⟨p, [.pointer (some ⟨h, 0, none⟩), .pointer (some ⟨cH, 0, none⟩)], 44⟩, ⟨cH, τ.2.2 ++ [.int .i64 0, .pointer (some ⟨cm, 0, none⟩), .pointer (some ⟨rb, 0, none⟩)], 82⟩, ⟨h, τ.2.1 ++ [.int .u32 0, .pointer (some ⟨cf, 0, none⟩), .pointer (some ⟨cM, 0, none⟩)], 30⟩, ⟨c1, [.slice wa wn wc, .slice xa xn xc, .slice la ln lc, .bool true, .slice ca cn cc, .int .u32 pc0], 39⟩]) (fun τ => xn - τ.1) (0, xz, yz) ⟨Nat.zero_le _, xz_rg, rfl⟩ (by (repeat (first | exact Sub.nil | apply Sub.cons rfl))) (fun _ h => h) ?_
  rintro ⟨i2, xs, ys⟩ ⟨hi2, hxs, hys⟩
  simp only at hi2 hxs hys ⊢
  by_cases hlt2 : i2 < xn
  · have hd2 : decide ((i2 : Int) < (xn : Int)) = true := decide_eq_true (by omega)
    obtain ⟨vb, vo, rfl, x, y, ⟨hx, hx2⟩, ⟨hy, hy2⟩, lv⟩ := hX6 i2 hlt2
    have g := and31 x
    have hlx : (bits .and .u32 x 31).toNat < xs.length := by have := hxs.1; omega
    have hly : (bits .and .u32 x 31).toNat < ys.length := by omega
    have hls : LSet (xs ++ [Value.int .u32 0, .pointer (some ⟨cf, 0, none⟩), .pointer (some ⟨cM, 0, none⟩)]) (0 + (bits .and .u32 x 31).toNat * 1) (.int .u32 y) (xs.set (bits .and .u32 x 31).toNat (.int .u32 y) ++ [Value.int .u32 0, .pointer (some ⟨cf, 0, none⟩), .pointer (some ⟨cM, 0, none⟩)]) := by rw [show 0 + (bits .and .u32 x 31).toNat * 1 = (bits .and .u32 x 31).toNat by omega]; exact LSet.left hlx
    have hls2 : LSet (ys ++ [Value.int .i64 0, .pointer (some ⟨cm, 0, none⟩), .pointer (some ⟨rb, 0, none⟩)]) (0 + (bits .and .u32 x 31).toNat * 1) (.int .i64 y) (ys.set (bits .and .u32 x 31).toNat (.int .i64 y) ++ [Value.int .i64 0, .pointer (some ⟨cm, 0, none⟩), .pointer (some ⟨rb, 0, none⟩)]) := by rw [show 0 + (bits .and .u32 x 31).toNat * 1 = (bits .and .u32 x 31).toNat by omega]; exact LSet.left hly
    have hag : ∀ (j : Nat) (v : Value), [Value.int .u32 x, Value.int .u32 y][j]? = some v → w6.cell? ⟨vb, vo + (i2 : Int).toNat * 2 + j, none⟩ = some v := fun j v hj => by
      rcases j with _ | _ | j
      · cases hj; exact hx
      · cases hj; exact hy
      · simp at hj
    repeat' (first | (apply Wl.loadAF (xs := [Value.int .u32 x, Value.int .u32 y]); exact rfl; exact rfl; exact rfl; (intro wq hq q v hq'; rw [addLit]; exact hq.old (hag q v hq') (by show Off _ vb; repeat (first | exact trivial | refine ⟨by first | omega | (simp only; omega), ?_⟩)))) | (apply Wl.move; exact rfl; exact rfl) | (apply Wl.loadH; exact rfl; exact rfl; (repeat (first | exact List.Mem.head _ | apply List.Mem.tail)); exact rfl) | (apply Wl.lss; exact rfl; exact rfl; exact rfl) | (apply Wl.gtr; exact rfl; exact rfl; exact rfl) | (apply Wl.addI; exact rfl; exact rfl; exact rfl; (constructor <;> omega)) | (apply Wl.and; exact rfl; exact rfl; exact rfl) | (apply Wl.storeA; exact rfl; exact rfl; exact rfl; exact rfl; (repeat (first | apply HSet.here | apply HSet.there)); (repeat (first | apply LPut.s | apply LPut.z | apply LOver.nil | apply LOver.cons))) | (apply Wl.alloc; exact rfl; intro c hc ho) | (apply Wl.indexAddr; exact rfl; exact rfl; exact rfl; (constructor <;> omega)) | (apply Wl.indexArr; exact rfl; exact rfl; exact rfl; (constructor <;> omega)) | (apply Wl.nil) | (apply St.seq) | (apply St.block) | (apply St.region) | (apply St.condT; exact rfl; (first | with_reducible rfl | with_reducible assumption | decide)) | (apply St.skip) | (apply Gt.next) | (apply Gt.inNormal) | (apply St.condP; exact rfl; all_goals (intros; try (exfalso; omega))))
    all_goals generalize c = c9 at *
    · rename_i hbit _
      refine St.tree (fun w' => Own w' [⟨c9, [Value.int .u32 x, Value.int .u32 y], 56⟩, ⟨p, [.pointer (some ⟨h, 0, none⟩), .pointer (some ⟨cH, 0, none⟩)], 44⟩]) mixed (fun _ h => ⟨Hp.drew h, own_at (Hp.drew h).own (by (repeat (first | exact List.Mem.head _ | apply List.Mem.tail))), own_at (Hp.drew h).own (by (repeat (first | exact List.Mem.head _ | apply List.Mem.tail))), trivial⟩) ?_
      refine Mt.pure 0 (by decide +kernel) (by exact rfl) (by exact rfl) (by decide +kernel) (by decide +kernel) ?_
      repeat' (first | (apply Wl.move; exact rfl; exact rfl) | (apply Wl.nilM))
      apply Mt.back
      refine Mt.pure 1 (by decide +kernel) (by exact rfl) (by exact rfl) (by decide +kernel) (by decide +kernel) ?_
      repeat' (first | (apply Wl.nilCheck; exact rfl; exact rfl) | (apply Wl.nilM))
      apply Mt.back
      refine Mt.pure 2 (by decide +kernel) (by exact rfl) (by exact rfl) (by decide +kernel) (by decide +kernel) ?_
      repeat' (first | (apply Wl.fieldAddr0; exact rfl; exact rfl) | (apply Wl.nilM))
      apply Mt.back
      refine Mt.pure 3 (by decide +kernel) (by exact rfl) (by exact rfl) (by decide +kernel) (by decide +kernel) ?_
      repeat' (first | (apply Wl.loadF; exact rfl; exact rfl; (intro w' h'; first | exact cell_of h'.1 rfl | exact cell_of h'.2.1 rfl)) | (apply Wl.nilM))
      apply Mt.back
      refine Mt.pure 4 (by decide +kernel) (by exact rfl) (by exact rfl) (by decide +kernel) (by decide +kernel) ?_
      repeat' (first | (apply Wl.indexArr; exact rfl; exact rfl; exact rfl; (constructor <;> omega)) | (apply Wl.nilM))
      apply Mt.back
      refine Mt.pure 5 (by decide +kernel) (by exact rfl) (by exact rfl) (by decide +kernel) (by decide +kernel) ?_
      repeat' (first | (apply Wl.loadF; exact rfl; exact rfl; (intro w' h'; first | exact cell_of h'.1 rfl | exact cell_of h'.2.1 rfl)) | (apply Wl.nilM))
      apply Mt.back
      refine Mt.pure 6 (by decide +kernel) (by exact rfl) (by exact rfl) (by decide +kernel) (by decide +kernel) ?_
      repeat' (first | (apply Wl.and; exact rfl; exact rfl; exact rfl) | (apply Wl.nilM))
      apply Mt.back
      refine Mt.pure 7 (by decide +kernel) (by exact rfl) (by exact rfl) (by decide +kernel) (by decide +kernel) ?_
      repeat' (first | (apply Wl.move; exact rfl; exact rfl) | (apply Wl.nilM))
      apply Mt.back
      refine Mt.pure 8 (by decide +kernel) (by exact rfl) (by exact rfl) (by decide +kernel) (by decide +kernel) ?_
      repeat' (first | (apply Wl.nilCheck; exact rfl; exact rfl) | (apply Wl.nilM))
      apply Mt.back
      refine Mt.pure 9 (by decide +kernel) (by exact rfl) (by exact rfl) (by decide +kernel) (by decide +kernel) ?_
      repeat' (first | (apply Wl.fieldAddrZ; exact rfl; exact rfl) | (apply Wl.nilM))
      apply Mt.back
      refine Mt.pure 10 (by decide +kernel) (by exact rfl) (by exact rfl) (by decide +kernel) (by decide +kernel) ?_
      repeat' (first | (apply Wl.loadF; exact rfl; exact rfl; (intro w' h'; first | exact cell_of h'.1 rfl | exact cell_of h'.2.1 rfl)) | (apply Wl.nilM))
      apply Mt.back
      refine Mt.pure 11 (by decide +kernel) (by exact rfl) (by exact rfl) (by decide +kernel) (by decide +kernel) ?_
      repeat' (first | (apply Wl.indexArr; exact rfl; exact rfl; exact rfl; (constructor <;> omega)) | (apply Wl.nilM))
      apply Mt.back
      refine Mt.pure 12 (by decide +kernel) (by exact rfl) (by exact rfl) (by decide +kernel) (by decide +kernel) ?_
      repeat' (first | (apply Wl.loadF; exact rfl; exact rfl; (intro w' h'; first | exact cell_of h'.1 rfl | exact cell_of h'.2.1 rfl)) | (apply Wl.nilM))
      apply Mt.back
      refine Mt.pure 13 (by decide +kernel) (by exact rfl) (by exact rfl) (by decide +kernel) (by decide +kernel) ?_
      repeat' (first | (apply Wl.and; exact rfl; exact rfl; exact rfl) | (apply Wl.nilM))
      apply Mt.back
      refine Mt.pure 14 (by decide +kernel) (by exact rfl) (by exact rfl) (by decide +kernel) (by decide +kernel) ?_
      repeat' (first | (apply Wl.indexArr; exact rfl; exact rfl; exact rfl; (constructor <;> omega)) | (apply Wl.nilM))
      apply Mt.back
      refine Mt.pure 15 (by decide +kernel) (by exact rfl) (by exact rfl) (by decide +kernel) (by decide +kernel) ?_
      repeat' (first | (apply Wl.loadF; exact rfl; exact rfl; (intro w' h'; first | exact cell_of h'.1 rfl | exact cell_of h'.2.1 rfl)) | (apply Wl.nilM))
      apply Mt.back
      refine Mt.pure 16 (by decide +kernel) (by exact rfl) (by exact rfl) (by decide +kernel) (by decide +kernel) ?_
      repeat' (first | (apply Wl.indexArr; exact rfl; exact rfl; exact rfl; (constructor <;> omega)) | (apply Wl.nilM))
      apply Mt.back
      refine Mt.pure 17 (by decide +kernel) (by exact rfl) (by exact rfl) (by decide +kernel) (by decide +kernel) ?_
      repeat' (first | (apply Wl.loadF; exact rfl; exact rfl; (intro w' h'; first | exact cell_of h'.1 rfl | exact cell_of h'.2.1 rfl)) | (apply Wl.nilM))
      apply Mt.back
      refine Mt.pure 18 (by decide +kernel) (by exact rfl) (by exact rfl) (by decide +kernel) (by decide +kernel) ?_
      repeat' (first | (apply Wl.convI64; exact rfl; exact rfl; (constructor <;> omega)) | (apply Wl.nilM))
      apply Mt.back
      refine Mt.pure 19 (by decide +kernel) (by exact rfl) (by exact rfl) (by decide +kernel) (by decide +kernel) ?_
      repeat' (first | (apply Wl.nilCheck; exact rfl; exact rfl) | (apply Wl.nilM))
      apply Mt.back
      refine Mt.pure 20 (by decide +kernel) (by exact rfl) (by exact rfl) (by decide +kernel) (by decide +kernel) ?_
      repeat' (first | (apply Wl.fieldAddr0; exact rfl; exact rfl) | (apply Wl.nilM))
      apply Mt.back
      refine Mt.pure 21 (by decide +kernel) (by exact rfl) (by exact rfl) (by decide +kernel) (by decide +kernel) ?_
      repeat' (first | (apply Wl.indexArr; exact rfl; exact rfl; exact rfl; (constructor <;> omega)) | (apply Wl.nilM))
      apply Mt.back
      refine Mt.pure 23 (by decide +kernel) (by exact rfl) (by exact rfl) (by decide +kernel) (by decide +kernel) ?_
      repeat' (first | (apply Wl.nilCheck; exact rfl; exact rfl) | (apply Wl.nilM))
      apply Mt.back
      refine Mt.pure 24 (by decide +kernel) (by exact rfl) (by exact rfl) (by decide +kernel) (by decide +kernel) ?_
      repeat' (first | (apply Wl.fieldAddr0; exact rfl; exact rfl) | (apply Wl.nilM))
      apply Mt.back
      refine Mt.eff1 (i := 22) (by decide +kernel) (by exact rfl) ?_
      repeat' (first | (apply Wl.store; exact rfl; exact rfl; exact rfl; (repeat (first | apply HSet.here | apply HSet.there)); exact hls) | (apply Wl.nil))
      refine Mt.backE (fun _ h => ⟨own_at h.own (by (repeat (first | exact List.Mem.head _ | apply List.Mem.tail))), own_at h.own (by (repeat (first | exact List.Mem.head _ | apply List.Mem.tail))), trivial⟩) ?_
      refine Mt.pure 25 (by decide +kernel) (by exact rfl) (by exact rfl) (by decide +kernel) (by decide +kernel) ?_
      repeat' (first | (apply Wl.indexArr; exact rfl; exact rfl; exact rfl; (constructor <;> omega)) | (apply Wl.nilM))
      apply Mt.back
      refine Mt.eff1 (i := 26) (by decide +kernel) (by exact rfl) ?_
      repeat' (first | (apply Wl.store; exact rfl; exact rfl; exact rfl; (repeat (first | apply HSet.here | apply HSet.there)); exact hls2) | (apply Wl.nil))
      refine Mt.backE (fun _ h => ⟨own_at h.own (by (repeat (first | exact List.Mem.head _ | apply List.Mem.tail))), own_at h.own (by (repeat (first | exact List.Mem.head _ | apply List.Mem.tail))), trivial⟩) ?_
      refine Mt.toGt (by decide +kernel) ?_
      repeat' (first | (apply Wl.move; exact rfl; exact rfl) | (apply Wl.addI; exact rfl; exact rfl; exact rfl; (constructor <;> omega)) | (apply Wl.nil) | (apply St.region) | (apply Gt.next) | (apply Gt.inNormal))
      apply Gt.round (i2 + 1, xs.set (bits .and .u32 x 31).toNat (.int .u32 y), ys.set (bits .and .u32 x 31).toNat (.int .i64 y))
      rotate_left
      · simp only; omega
      · (repeat (first | exact Sub.nil | apply Sub.cons rfl))
      · exact fun _ h => Hp.pop h (by simp only; omega)
      · refine ⟨hlt2, ?_, by rw [List.length_set]; exact hys⟩
        have hset := hxs.set (r := bits .and .u32 x 31) hy2
        unfold setR at hset
        rw [if_neg (by omega)] at hset
        exact hset
    · repeat' (first | (apply Wl.move; exact rfl; exact rfl) | (apply Wl.assign; exact rfl; exact rfl) | (apply Wl.on; exact rfl; exact rfl; (first | with_reducible rfl | with_reducible assumption | decide)) | (apply Wl.off; exact rfl; exact rfl; exact rfl; (first | with_reducible rfl | (show _ = false; with_reducible assumption) | (show _ = true; with_reducible assumption) | decide)) | (apply Wl.offU; exact rfl; exact rfl; exact rfl) | (apply Wl.extract; exact rfl; exact rfl; exact rfl) | (apply Wl.nilCheck; exact rfl; exact rfl) | (apply Wl.pickT; exact rfl; exact rfl; (first | with_reducible rfl | with_reducible assumption | decide); exact rfl) | (apply Wl.pickF; exact rfl; exact rfl; (first | with_reducible rfl | with_reducible assumption | decide); exact rfl) | (apply Wl.not; exact rfl; exact rfl) | (apply Wl.fieldAddr0; exact rfl; exact rfl) | (apply Wl.fieldAddrZ; exact rfl; exact rfl) | (apply Wl.fieldAddr; exact rfl; exact rfl) | (apply Wl.loadH; exact rfl; exact rfl; (repeat (first | exact List.Mem.head _ | apply List.Mem.tail)); exact rfl) | (apply Wl.loadO; exact rfl; exact rfl; (assumption); (repeat (first | exact trivial | refine ⟨by first | assumption | omega, ?_⟩))) | (apply Wl.eqlPN; exact rfl; exact rfl; exact rfl) | (apply Wl.neqPN; exact rfl; exact rfl; exact rfl) | (apply Wl.eqlNN; exact rfl; exact rfl; exact rfl) | (apply Wl.neqNN; exact rfl; exact rfl; exact rfl) | (apply Wl.eqlIs; exact rfl; exact rfl; exact rfl; (first | with_reducible assumption | with_reducible rfl)) | (apply Wl.neqIs; exact rfl; exact rfl; exact rfl; (first | with_reducible assumption | with_reducible rfl)) | (apply Wl.eql; exact rfl; exact rfl; exact rfl) | (apply Wl.neq; exact rfl; exact rfl; exact rfl) | (apply Wl.lss; exact rfl; exact rfl; exact rfl) | (apply Wl.leq; exact rfl; exact rfl; exact rfl) | (apply Wl.gtr; exact rfl; exact rfl; exact rfl) | (apply Wl.geq; exact rfl; exact rfl; exact rfl) | (apply Wl.addI; exact rfl; exact rfl; exact rfl; (constructor <;> omega)) | (apply Wl.subI; exact rfl; exact rfl; exact rfl; (constructor <;> omega)) | (apply Wl.mulI; exact rfl; exact rfl; exact rfl; (constructor <;> omega)) | (apply Wl.addU; exact rfl; exact rfl; exact rfl; (constructor <;> omega)) | (apply Wl.add; exact rfl; exact rfl; exact rfl) | (apply Wl.sub'; exact rfl; exact rfl; exact rfl) | (apply Wl.mul; exact rfl; exact rfl; exact rfl) | (apply Wl.quo; exact rfl; exact rfl; exact rfl; (first | decide | omega)) | (apply Wl.rem; exact rfl; exact rfl; exact rfl; (first | decide | omega)) | (apply Wl.and; exact rfl; exact rfl; exact rfl) | (apply Wl.or; exact rfl; exact rfl; exact rfl) | (apply Wl.xor; exact rfl; exact rfl; exact rfl) | (apply Wl.andNot; exact rfl; exact rfl; exact rfl) | (apply Wl.shl; exact rfl; exact rfl; exact rfl; (omega)) | (apply Wl.shr; exact rfl; exact rfl; exact rfl; (omega)) | (apply Wl.eqlBs; exact rfl; exact rfl; exact rfl; (first | with_reducible assumption | with_reducible rfl)) | (apply Wl.neqBs; exact rfl; exact rfl; exact rfl; (first | with_reducible assumption | with_reducible rfl)) | (apply Wl.eqlB; exact rfl; exact rfl; exact rfl) | (apply Wl.neqB; exact rfl; exact rfl; exact rfl) | (apply Wl.eqlSB; exact rfl; exact rfl; exact rfl) | (apply Wl.neqSB; exact rfl; exact rfl; exact rfl) | (apply Wl.eqlS; exact rfl; exact rfl; exact rfl) | (apply Wl.neqS; exact rfl; exact rfl; exact rfl) | (apply Wl.convI64; exact rfl; exact rfl; (constructor <;> omega)) | (apply Wl.convU64; exact rfl; exact rfl; (constructor <;> omega)) | (apply Wl.convU32; exact rfl; exact rfl; (constructor <;> omega)) | (apply Wl.convU8; exact rfl; exact rfl; (constructor <;> omega)) | (apply Wl.convI; exact rfl; exact rfl) | (apply Wl.neg; exact rfl; exact rfl) | (apply Wl.compl; exact rfl; exact rfl) | (apply Wl.len; exact rfl; exact rfl) | (apply Wl.lenS; exact rfl; exact rfl) | (apply Wl.store; exact rfl; exact rfl; exact rfl; (repeat (first | apply HSet.here | apply HSet.there)); (repeat (first | apply LSet.z | apply LSet.s))) | (apply Wl.storeA; exact rfl; exact rfl; exact rfl; exact rfl; (repeat (first | apply HSet.here | apply HSet.there)); (repeat (first | apply LPut.s | apply LPut.z | apply LOver.nil | apply LOver.cons))) | (apply Wl.loadAH; exact rfl; exact rfl; (repeat (first | exact List.Mem.head _ | apply List.Mem.tail)); (repeat (first | apply LSub.z | apply LSub.t | apply LSub.s))) | (apply Wl.buildS; exact rfl; (repeat (first | exact Parts.nil | apply Parts.cons rfl)); (repeat (first | apply Fills.nil | (apply Fills.one; exact rfl; exact rfl; (repeat (first | apply LSet.z | apply LSet.s))) | (apply Fills.agg; exact rfl; exact rfl; (repeat (first | apply LPut.s | apply LPut.z | apply LOver.nil | apply LOver.cons)))))) | (apply Wl.buildA; exact rfl; (repeat (first | exact Parts.nil | apply Parts.cons rfl)); (repeat (first | apply Fills.nil | (apply Fills.one; exact rfl; exact rfl; (repeat (first | apply LSet.z | apply LSet.s))) | (apply Fills.agg; exact rfl; exact rfl; (repeat (first | apply LPut.s | apply LPut.z | apply LOver.nil | apply LOver.cons)))))) | (apply Wl.lit; exact rfl; (repeat (first | exact Parts.nil | apply Parts.cons rfl)); exact rfl; exact rfl; (repeat (first | apply CatP.nil | (apply CatP.one; exact rfl; exact rfl) | (apply CatP.agg; exact rfl) | apply LApp.nil | apply LApp.cons)); intro c hc ho) | (apply Wl.boxA; exact rfl; exact rfl; intro c hc ho) | (apply Wl.box1; exact rfl; exact rfl; exact rfl; intro c hc ho) | (apply Wl.alloc; exact rfl; intro c hc ho) | (apply Wl.slice0; exact rfl; exact rfl; (first | exact BoundIs.no | exact BoundIs.yes rfl (by omega)); (first | exact BoundIs.no | exact BoundIs.yes rfl (by omega)); (first | exact fun _ => rfl | exact fun h => nomatch h); (omega); (omega)) | (apply Wl.sliceFull; exact rfl; exact rfl; (first | exact BoundIs.no | exact BoundIs.yes rfl (by omega)); (first | exact BoundIs.no | exact BoundIs.yes rfl (by omega)); (first | exact BoundIs.no | exact BoundIs.yes rfl (by omega)); (first | exact fun _ => rfl | exact fun h => nomatch h); (omega); (omega); (omega)) | (apply Wl.indexAddr1; exact rfl; exact rfl; exact rfl; (constructor <;> omega)) | (apply Wl.indexAddr; exact rfl; exact rfl; exact rfl; (constructor <;> omega)) | (apply Wl.indexArr; exact rfl; exact rfl; exact rfl; (constructor <;> omega)) | (apply Wl.nil) | (apply Wl.nilQ) | (apply Wl.nilM) | (apply St.seq) | (apply St.block) | (apply St.region) | (apply St.condT; exact rfl; (first | with_reducible rfl | with_reducible assumption | decide)) | (apply St.condF; exact rfl; (first | with_reducible rfl | with_reducible assumption | decide)) | (apply St.ret) | (apply St.skip) | (apply St.exit) | (apply Gt.next) | (apply Gt.thenRet) | (apply Gt.thenExit) | (apply Gt.inNormal) | (apply Gt.inRet) | (apply Gt.inExit) | (apply Gt.inOther; exact rfl) | (apply Gt.out1; exact rfl; exact rfl; intro w' hp) | (apply Gt.out2; exact rfl; exact rfl; exact rfl; intro w' hp) | (apply Gt.out3; exact rfl; exact rfl; exact rfl; exact rfl; intro w' hp) | (apply Gt.out4; exact rfl; exact rfl; exact rfl; exact rfl; exact rfl; intro w' hp) | (apply Gt.out0; exact rfl; intro w' hp) | (apply Gt.out0n; exact rfl; intro w' hp) | (apply Wl.splitP; exact rfl; exact rfl; all_goals (intros; try (exfalso; omega))) | (apply Wl.splitB; exact rfl; exact rfl; all_goals intros) | (apply St.condP; exact rfl; all_goals (intros; try (exfalso; omega))) | (apply St.condB; exact rfl; all_goals intros))
      apply Gt.round (i2 + 1, xs, ys)
      rotate_left
      · simp only; omega
      · (repeat (first | exact Sub.nil | apply Sub.cons rfl))
      · exact fun _ h => Hp.pop h (by simp only; omega)
      · exact ⟨hlt2, hxs, hys⟩
  have hie2 : i2 = xn := by omega
  have hd2 : decide ((i2 : Int) < (xn : Int)) = false := decide_eq_false (by omega)
  have hne := hB6.ne
  have hge := hB6.ge
  repeat' (first | (apply St.bagX (i := 15) 9 []; exact mixed; (decide +kernel); kernel_rfl) | (apply Wl.loadHi 1; exact rfl; exact rfl; (repeat (first | exact List.Mem.head _ | apply List.Mem.tail)); (first | exact hxs.1 | exact hys); exact rfl; exact rfl) | (apply OpsX.nil) | (apply OpsX.v; (intro X hX; change Wl [_] _ _ _ _ _ _ _; apply Wl.catX; (repeat (first | apply CatB.nil | apply CatB.cons)))) | (apply Gt.endX; exact rfl) | (apply EndX.on; exact rfl) | (apply EndX.off; exact rfl) | (apply EndX.nil'; apply Wl.catE; (repeat (first | apply CatB.nil | apply CatB.cons))) | (apply Wl.move; exact rfl; exact rfl) | (apply Wl.nilCheck; exact rfl; exact rfl) | (apply Wl.fieldAddr0; exact rfl; exact rfl) | (apply Wl.fieldAddrZ; exact rfl; exact rfl) | (apply Wl.loadH; exact rfl; exact rfl; (repeat (first | exact List.Mem.head _ | apply List.Mem.tail)); exact rfl) | (apply Wl.lss; exact rfl; exact rfl; exact rfl) | (apply Wl.nil) | (apply St.seq) | (apply St.region) | (apply St.condF; exact rfl; (first | with_reducible rfl | with_reducible assumption | decide)) | (apply St.exit) | (apply Gt.next) | (apply Gt.thenExit) | (apply Gt.inExit))
  apply Wl.callC
  · exact rfl
  · (repeat (first | exact Evs.nil | apply Evs.cons rfl))
  intro wq hq
  have hBq := hB6.upd hq.upd (fun y => y ⟨by simp only; omega, by simp only; omega, by simp only; omega, by simp only; omega, trivial⟩) (fun y => y ⟨by simp only; omega, by simp only; omega, by simp only; omega, by simp only; omega, trivial⟩) (fun y => y ⟨by simp only; omega, by simp only; omega, by simp only; omega, by simp only; omega, trivial⟩) (fun y => y ⟨by simp only; omega, by simp only; omega, by simp only; omega, by simp only; omega, trivial⟩) fun j hs => Classical.byContradiction fun hn => hs ⟨by simp only; omega, by simp only; omega, by simp only; omega, by simp only; omega, trivial⟩
  refine (fprotectP cf ln lc la (Gn 0) w wq hBq.ff hBq.u hBq.ge.1 hL).mono ?_
  rintro e w7 ⟨rfl, hf7, u7⟩
  have sq3 := hq.upd.size
  have hq7 := Hp.rest hq u7 (by simp only [List.mem_cons, List.not_mem_nil, or_false, forall_eq_or_imp, forall_eq]; omega)
  refine ⟨_, _, rfl, hq7, ?_⟩
  have hB7 := hBq.fcall hf7 (by decide) u7
  have l7 := u7.size
  clear hq hq7 hBq
  repeat' (first | (apply St.bagX (i := 16) 9 []; exact mixed; (decide +kernel); kernel_rfl) | (apply Wl.loadHi 1; exact rfl; exact rfl; (repeat (first | exact List.Mem.head _ | apply List.Mem.tail)); (first | exact hxs.1 | exact hys); exact rfl; exact rfl) | (apply OpsX.nil) | (apply OpsX.v; (intro X hX; change Wl [_] _ _ _ _ _ _ _; apply Wl.catX; (repeat (first | apply CatB.nil | apply CatB.cons)))) | (apply Gt.endX; exact rfl) | (apply EndX.on; exact rfl) | (apply EndX.off; exact rfl) | (apply EndX.nil'; apply Wl.catE; (repeat (first | apply CatB.nil | apply CatB.cons))) | (apply Wl.move; exact rfl; exact rfl) | (apply Wl.nilCheck; exact rfl; exact rfl) | (apply Wl.fieldAddrZ; exact rfl; exact rfl) | (apply Wl.loadH; exact rfl; exact rfl; (repeat (first | exact List.Mem.head _ | apply List.Mem.tail)); exact rfl) | (apply Wl.nil) | (apply St.seq) | (apply Gt.next))
  apply Wl.callC
  · exact rfl
  · (repeat (first | exact Evs.nil | apply Evs.cons rfl))
  intro wq hq
  have hBq := hB7.upd hq.upd (fun y => y ⟨by simp only; omega, by simp only; omega, by simp only; omega, by simp only; omega, trivial⟩) (fun y => y ⟨by simp only; omega, by simp only; omega, by simp only; omega, by simp only; omega, trivial⟩) (fun y => y ⟨by simp only; omega, by simp only; omega, by simp only; omega, by simp only; omega, trivial⟩) (fun y => y ⟨by simp only; omega, by simp only; omega, by simp only; omega, by simp only; omega, trivial⟩) fun j hs => Classical.byContradiction fun hn => hs ⟨by simp only; omega, by simp only; omega, by simp only; omega, by simp only; omega, trivial⟩
  obtain ⟨tv2, hM2⟩ := hBq.mf
  refine (mprotect cm b 24 ln lc la tv2 w wq hM2 (by decide) hBq.u hBq.ge.2.2.1 hBq.ge.2.2.2 hL).mono ?_
  rintro e w8 ⟨rfl, hM8, u8⟩
  have sq4 := hq.upd.size
  have hq8 := Hp.rest hq u8 (by simp only [List.mem_cons, List.not_mem_nil, or_false, forall_eq_or_imp, forall_eq]; omega)
  refine ⟨_, _, rfl, hq8, ?_⟩
  have hB8 := hBq.mcall hM8 u8
  have l8 := u8.size
  have s68 : w6.heap.size ≤ w8.heap.size := by omega
  clear hq hq8 hBq hB7
  repeat' (first | (apply Wl.move; exact rfl; exact rfl) | (apply Wl.fieldAddrZ; exact rfl; exact rfl) | (apply Wl.loadH; exact rfl; exact rfl; (repeat (first | exact List.Mem.head _ | apply List.Mem.tail)); exact rfl) | (apply Wl.len; exact rfl; exact rfl) | (apply Wl.nil) | (apply St.seq) | (apply St.block) | (apply St.region) | (apply Gt.next))
  refine St.loop (σ := Nat × World) (fun τ => τ.1 ≤ cn ∧ BC w τ.2 cf cM cm b (24 + 32 + τ.1) (Gn τ.1) f ∧ w6.heap.size ≤ τ.2.heap.size)
    (fun τ => [(1, .pointer (some ⟨c1, 0, none⟩)), (7, .pointer (some ⟨p, 0, none⟩)), (103, .slice ca cn cc), (104, .int .i64 (cn : Int)), (105, .int .i64 (τ.1 : Int))]) (fun τ => Hp τ.2 [⟨p, [.pointer (some ⟨h, 0, none⟩), .pointer (some ⟨cH, 0, none⟩)], 44⟩, ⟨cH, ys ++ [.int .i64 0, .pointer (some ⟨cm, 0, none⟩), .pointer (some ⟨rb, 0, none⟩)], 82⟩, ⟨h, xs ++ [.int .u32 0, .pointer (some ⟨cf, 0, none⟩), .pointer (some ⟨cM, 0, none⟩)], 30⟩, ⟨c1, [.slice wa wn wc, .slice xa xn xc, .slice la ln lc, .bool true, .slice ca cn cc, .int .u32 pc0], 39⟩]) (fun τ => cn - τ.1) (0, w8) ⟨Nat.zero_le _, hB8, s68⟩ (by (repeat (first | exact Sub.nil | apply Sub.cons rfl))) (fun _ h => h) ?_
  clear hB8 s68
  rintro ⟨i3, w9⟩ ⟨hi3, hB9, s69⟩
  simp only at hi3 hB9 s69 ⊢
  by_cases hlt3 : i3 < cn
  · have hd3 : decide ((i3 : Int) < (cn : Int)) = true := decide_eq_true (by omega)
    obtain ⟨vb, vo, rfl, x, y, ⟨hx, hx2⟩, ⟨hy, hy2⟩, hxy⟩ := hC i3 (by omega)
    have lv := World.block_lt_of_cell? w _ hx
    simp only at lv
    have hag : ∀ (j : Nat) (v : Value), [Value.int .u32 x, Value.int .u32 y][j]? = some v → w9.cell? ⟨vb, vo + (i3 : Int).toNat * 2 + j, none⟩ = some v := fun j v hj => by
      rw [Int.toNat_natCast]
      rcases j with _ | _ | j
      · cases hj; exact hB9.u.cell hx (by simp only; omega)
      · cases hj; exact hB9.u.cell hy (by simp only; omega)
      · simp at hj
    repeat' (first | (apply Wl.loadAF (xs := [Value.int .u32 x, Value.int .u32 y]); exact rfl; exact rfl; exact rfl; (intro wq hq q v hq'; rw [addLit]; exact hq.old (hag q v hq') (by show Off _ vb; repeat (first | exact trivial | refine ⟨by first | omega | (simp only; omega), ?_⟩)))) | (apply St.bagX (i := 20) 11 []; exact mixed; (decide +kernel); kernel_rfl) | (apply Wl.loadHi 1; exact rfl; exact rfl; (repeat (first | exact List.Mem.head _ | apply List.Mem.tail)); (first | exact hxs.1 | exact hys); exact rfl; exact rfl) | (apply OpsX.nil) | (apply OpsX.v; (intro X hX; change Wl [_] _ _ _ _ _ _ _; apply Wl.catX; (repeat (first | apply CatB.nil | apply CatB.cons)))) | (apply Gt.endX; exact rfl) | (apply EndX.on; exact rfl) | (apply EndX.off; exact rfl) | (apply EndX.nil'; apply Wl.catE; (repeat (first | apply CatB.nil | apply CatB.cons))) | (apply Wl.move; exact rfl; exact rfl) | (apply Wl.nilCheck; exact rfl; exact rfl) | (apply Wl.fieldAddr0; exact rfl; exact rfl) | (apply Wl.fieldAddrZ; exact rfl; exact rfl) | (apply Wl.loadH; exact rfl; exact rfl; (repeat (first | exact List.Mem.head _ | apply List.Mem.tail)); exact rfl) | (apply Wl.lss; exact rfl; exact rfl; exact rfl) | (apply Wl.storeA; exact rfl; exact rfl; exact rfl; exact rfl; (repeat (first | apply HSet.here | apply HSet.there)); (repeat (first | apply LPut.s | apply LPut.z | apply LOver.nil | apply LOver.cons))) | (apply Wl.alloc; exact rfl; intro c hc ho) | (apply Wl.indexAddr; exact rfl; exact rfl; exact rfl; (constructor <;> omega)) | (apply Wl.indexArr; exact rfl; exact rfl; exact rfl; (constructor <;> omega)) | (apply Wl.nil) | (apply St.seq) | (apply St.block) | (apply St.region) | (apply St.condT; exact rfl; (first | with_reducible rfl | with_reducible assumption | decide)) | (apply St.skip) | (apply Gt.next))
    generalize c = c9 at *
    have hc9 : w9.heap.size ≤ c9 := by assumption
    apply Wl.callC
    · exact rfl
    · (repeat (first | exact Evs.nil | apply Evs.cons rfl))
    intro wq hq
    have l9 := hB9.lt
    have hBq := hB9.upd hq.upd (fun y => y ⟨by simp only; omega, by simp only; omega, by simp only; omega, by simp only; omega, by simp only; omega, trivial⟩) (fun y => y ⟨by simp only; omega, by simp only; omega, by simp only; omega, by simp only; omega, by simp only; omega, trivial⟩) (fun y => y ⟨by simp only; omega, by simp only; omega, by simp only; omega, by simp only; omega, by simp only; omega, trivial⟩) (fun y => y ⟨by simp only; omega, by simp only; omega, by simp only; omega, by simp only; omega, by simp only; omega, trivial⟩) fun j hs => Classical.byContradiction fun hn => hs ⟨by simp only; omega, by simp only; omega, by simp only; omega, by simp only; omega, by simp only; omega, trivial⟩
    refine (fwriteP cf x y (Gn i3) (Gn (i3 + 1)) wq (gnS (by omega) hxy) hBq.ff).mono ?_
    rintro e wA ⟨rfl, hfA, uA⟩
    have sq5 := hq.upd.size
    have lq9 := hq.own.lt (.head _)
    simp only at lq9
    have hqA := Hp.rest hq uA (by simp only [List.mem_cons, List.not_mem_nil, or_false, forall_eq_or_imp, forall_eq]; omega)
    refine ⟨_, _, rfl, hqA, ?_⟩
    have hBA := hBq.fcall hfA (gnT _) uA
    have lA := uA.size
    have lA2 := hBA.lt
    clear hq hqA hBq
    repeat' (first | (apply St.bagX (i := 21) 13 []; exact mixed; (decide +kernel); kernel_rfl) | (apply Wl.loadHi 1; exact rfl; exact rfl; (repeat (first | exact List.Mem.head _ | apply List.Mem.tail)); (first | exact hxs.1 | exact hys); exact rfl; exact rfl) | (apply OpsX.nil) | (apply OpsX.v; (intro X hX; change Wl [_] _ _ _ _ _ _ _; apply Wl.catX; (repeat (first | apply CatB.nil | apply CatB.cons)))) | (apply Gt.endX; exact rfl) | (apply EndX.on; exact rfl) | (apply EndX.off; exact rfl) | (apply EndX.nil'; apply Wl.catE; (repeat (first | apply CatB.nil | apply CatB.cons))) | (apply Wl.move; exact rfl; exact rfl) | (apply Wl.nilCheck; exact rfl; exact rfl) | (apply Wl.fieldAddrZ; exact rfl; exact rfl) | (apply Wl.loadH; exact rfl; exact rfl; (repeat (first | exact List.Mem.head _ | apply List.Mem.tail)); exact rfl) | (apply Wl.convI64; exact rfl; exact rfl; (constructor <;> omega)) | (apply Wl.indexArr; exact rfl; exact rfl; exact rfl; (constructor <;> omega)) | (apply Wl.nil) | (apply Gt.next))
    apply Wl.callC
    · exact rfl
    · (repeat (first | exact Evs.nil | apply Evs.cons rfl))
    intro wq hq
    have hBq := hBA.upd hq.upd (fun y => y ⟨by simp only; omega, by simp only; omega, by simp only; omega, by simp only; omega, by simp only; omega, trivial⟩) (fun y => y ⟨by simp only; omega, by simp only; omega, by simp only; omega, by simp only; omega, by simp only; omega, trivial⟩) (fun y => y ⟨by simp only; omega, by simp only; omega, by simp only; omega, by simp only; omega, by simp only; omega, trivial⟩) (fun y => y ⟨by simp only; omega, by simp only; omega, by simp only; omega, by simp only; omega, by simp only; omega, trivial⟩) fun j hs => Classical.byContradiction fun hn => hs ⟨by simp only; omega, by simp only; omega, by simp only; omega, by simp only; omega, by simp only; omega, trivial⟩
    obtain ⟨tv3, hM3⟩ := hBq.mf
    refine (mwrite cm b (24 + 32 + i3) x y tv3 wq hx2 hy2 hM3 (by omega)).mono ?_
    rintro e wB ⟨rfl, hMB, uB⟩
    have sq6 := hq.upd.size
    have hqB := Hp.rest hq uB (by simp only [List.mem_cons, List.not_mem_nil, or_false, forall_eq_or_imp, forall_eq]; omega)
    have hBB := hBq.mcall hMB uB
    have lB := uB.size
    refine ⟨_, Hp wB [⟨p, [.pointer (some ⟨h, 0, none⟩), .pointer (some ⟨cH, 0, none⟩)], 44⟩, ⟨cH, ys ++ [.int .i64 0, .pointer (some ⟨cm, 0, none⟩), .pointer (some ⟨rb, 0, none⟩)], 82⟩, ⟨h, xs ++ [.int .u32 0, .pointer (some ⟨cf, 0, none⟩), .pointer (some ⟨cM, 0, none⟩)], 30⟩, ⟨c1, [.slice wa wn wc, .slice xa xn xc, .slice la ln lc, .bool true, .slice (some ⟨vb, vo, none⟩) cn cc, .int .u32 pc0], 39⟩], rfl, ⟨Upd.refl _ _, hqB.own.2, hqB.apart.2⟩, ?_⟩
    clear hq hqB hBq
    repeat' (first | (apply Wl.move; exact rfl; exact rfl) | (apply Wl.addI; exact rfl; exact rfl; exact rfl; (constructor <;> omega)) | (apply Wl.nil) | (apply St.region) | (apply Gt.next) | (apply Gt.inNormal))
    apply Gt.round (i3 + 1, wB)
    rotate_left
    · simp only; omega
    · (repeat (first | exact Sub.nil | apply Sub.cons rfl))
    · exact fun _ h => h
    · exact ⟨hlt3, by rw [show 24 + 32 + (i3 + 1) = 24 + 32 + i3 + 1 by omega]; exact hBB, by simp only; omega⟩
  have hie3 : i3 = cn := by omega
  have hd3 : decide ((i3 : Int) < (cn : Int)) = false := decide_eq_false (by omega)
  have l9 := hB9.lt
  repeat' (first | (apply Wl.lss; exact rfl; exact rfl; exact rfl) | (apply Wl.nil) | (apply St.seq) | (apply St.region) | (apply St.condF; exact rfl; (first | with_reducible rfl | with_reducible assumption | decide)) | (apply St.exit) | (apply Gt.next) | (apply Gt.thenExit) | (apply Gt.inExit))
  refine St.tree (fun w' => Own w' [⟨p, [.pointer (some ⟨h, 0, none⟩), .pointer (some ⟨cH, 0, none⟩)], 44⟩, ⟨c1, [.slice wa wn wc, .slice xa xn xc, .slice la ln lc, .bool true, .slice ca cn cc, .int .u32 pc0], 39⟩]) mixed (fun _ h => ⟨Hp.drew h, own_at (Hp.drew h).own (by (repeat (first | exact List.Mem.head _ | apply List.Mem.tail))), own_at (Hp.drew h).own (by (repeat (first | exact List.Mem.head _ | apply List.Mem.tail))), trivial⟩) ?_
  refine Mt.pure 0 (by decide +kernel) (by exact rfl) (by exact rfl) (by decide +kernel) (by decide +kernel) ?_
  repeat' (first | (apply Wl.move; exact rfl; exact rfl) | (apply Wl.nilM))
  apply Mt.back
  refine Mt.pure 1 (by decide +kernel) (by exact rfl) (by exact rfl) (by decide +kernel) (by decide +kernel) ?_
  repeat' (first | (apply Wl.nilCheck; exact rfl; exact rfl) | (apply Wl.nilM))
  apply Mt.back
  refine Mt.pure 2 (by decide +kernel) (by exact rfl) (by exact rfl) (by decide +kernel) (by decide +kernel) ?_
  repeat' (first | (apply Wl.fieldAddr0; exact rfl; exact rfl) | (apply Wl.nilM))
  apply Mt.back
  refine Mt.pure 3 (by decide +kernel) (by exact rfl) (by exact rfl) (by decide +kernel) (by decide +kernel) ?_
  repeat' (first | (apply Wl.loadF; exact rfl; exact rfl; (intro w' h'; first | exact cell_of h'.1 rfl | exact cell_of h'.2.1 rfl)) | (apply Wl.nilM))
  apply Mt.back
  refine Mt.pure 4 (by decide +kernel) (by exact rfl) (by exact rfl) (by decide +kernel) (by decide +kernel) ?_
  repeat' (first | (apply Wl.move; exact rfl; exact rfl) | (apply Wl.nilM))
  apply Mt.back
  refine Mt.pure 5 (by decide +kernel) (by exact rfl) (by exact rfl) (by decide +kernel) (by decide +kernel) ?_
  repeat' (first | (apply Wl.nilCheck; exact rfl; exact rfl) | (apply Wl.nilM))
  apply Mt.back
  refine Mt.pure 6 (by decide +kernel) (by exact rfl) (by exact rfl) (by decide +kernel) (by decide +kernel) ?_
  repeat' (first | (apply Wl.fieldAddrZ; exact rfl; exact rfl) | (apply Wl.nilM))
  apply Mt.back
  refine Mt.pure 7 (by decide +kernel) (by exact rfl) (by exact rfl) (by decide +kernel) (by decide +kernel) ?_
  repeat' (first | (apply Wl.loadF; exact rfl; exact rfl; (intro w' h'; first | exact cell_of h'.1 rfl | exact cell_of h'.2.1 rfl)) | (apply Wl.nilM))
  apply Mt.back
  refine Mt.pure 8 (by decide +kernel) (by exact rfl) (by exact rfl) (by decide +kernel) (by decide +kernel) ?_
  repeat' (first | (apply Wl.fieldAddrZ; exact rfl; exact rfl) | (apply Wl.nilM))
  apply Mt.back
  refine Mt.pure 9 (by decide +kernel) (by exact rfl) (by exact rfl) (by decide +kernel) (by decide +kernel) ?_
  repeat' (first | (apply Wl.loadF; exact rfl; exact rfl; (intro w' h'; first | exact cell_of h'.1 rfl | exact cell_of h'.2.1 rfl)) | (apply Wl.nilM))
  apply Mt.back
  refine Mt.pure 10 (by decide +kernel) (by exact rfl) (by exact rfl) (by decide +kernel) (by decide +kernel) ?_
  repeat' (first | (apply Wl.add; exact rfl; exact rfl; exact rfl) | (apply Wl.nilM))
  apply Mt.back
  refine Mt.pure 11 (by decide +kernel) (by exact rfl) (by exact rfl) (by decide +kernel) (by decide +kernel) ?_
  repeat' (first | (apply Wl.fieldAddrZ; exact rfl; exact rfl) | (apply Wl.nilM))
  apply Mt.back
  refine Mt.pure 12 (by decide +kernel) (by exact rfl) (by exact rfl) (by decide +kernel) (by decide +kernel) ?_
  repeat' (first | (apply Wl.loadF; exact rfl; exact rfl; (intro w' h'; first | exact cell_of h'.1 rfl | exact cell_of h'.2.1 rfl)) | (apply Wl.nilM))
  apply Mt.back
  refine Mt.pure 13 (by decide +kernel) (by exact rfl) (by exact rfl) (by decide +kernel) (by decide +kernel) ?_
  repeat' (first | (apply Wl.add; exact rfl; exact rfl; exact rfl) | (apply Wl.nilM))
  apply Mt.back
  refine Mt.pure 14 (by decide +kernel) (by exact rfl) (by exact rfl) (by decide +kernel) (by decide +kernel) ?_
  repeat' (first | (apply Wl.convI; exact rfl; exact rfl) | (apply Wl.nilM))
  apply Mt.back
  refine Mt.pure 15 (by decide +kernel) (by exact rfl) (by exact rfl) (by decide +kernel) (by decide +kernel) ?_
  repeat' (first | (apply Wl.nilCheck; exact rfl; exact rfl) | (apply Wl.nilM))
  apply Mt.back
  refine Mt.pure 16 (by decide +kernel) (by exact rfl) (by exact rfl) (by decide +kernel) (by decide +kernel) ?_
  repeat' (first | (apply Wl.fieldAddrZ; exact rfl; exact rfl) | (apply Wl.nilM))
  apply Mt.back
  refine Mt.eff1 (i := 17) (by decide +kernel) (by exact rfl) ?_
  repeat' (first | (apply Wl.storeHi 0; exact rfl; exact rfl; exact rfl; (repeat (first | apply HSet.here | apply HSet.there)); exact hxs.1; exact rfl; (repeat (first | apply LSet.z | apply LSet.s))) | (apply Wl.nil))
  refine Mt.backE (fun _ h => ⟨own_at h.own (by (repeat (first | exact List.Mem.head _ | apply List.Mem.tail))), own_at h.own (by (repeat (first | exact List.Mem.head _ | apply List.Mem.tail))), trivial⟩) ?_
  refine Mt.pure 18 (by decide +kernel) (by exact rfl) (by exact rfl) (by decide +kernel) (by decide +kernel) ?_
  repeat' (first | (apply Wl.nilCheck; exact rfl; exact rfl) | (apply Wl.nilM))
  apply Mt.back
  refine Mt.pure 19 (by decide +kernel) (by exact rfl) (by exact rfl) (by decide +kernel) (by decide +kernel) ?_
  repeat' (first | (apply Wl.fieldAddrZ; exact rfl; exact rfl) | (apply Wl.nilM))
  apply Mt.back
  refine Mt.eff1 (i := 20) (by decide +kernel) (by exact rfl) ?_
  repeat' (first | (apply Wl.storeHi 0; exact rfl; exact rfl; exact rfl; (repeat (first | apply HSet.here | apply HSet.there)); exact hys; exact rfl; (repeat (first | apply LSet.z | apply LSet.s))) | (apply Wl.nil))
  refine Mt.backE (fun _ h => ⟨own_at h.own (by (repeat (first | exact List.Mem.head _ | apply List.Mem.tail))), own_at h.own (by (repeat (first | exact List.Mem.head _ | apply List.Mem.tail))), trivial⟩) ?_
  refine Mt.toGt (by decide +kernel) ?_
  repeat' (first | (apply Wl.fieldAddrZ; exact rfl; exact rfl) | (apply Wl.loadH; exact rfl; exact rfl; (repeat (first | exact List.Mem.head _ | apply List.Mem.tail)); exact rfl) | (apply Wl.nil) | (apply St.seq) | (apply St.region) | (apply St.condT; exact rfl; (first | with_reducible rfl | with_reducible assumption | decide)) | (apply Gt.next))
  have hi3e : i3 = 2 := by omega
  have hff9 := hB9.ff
  rw [hi3e] at hff9
  obtain ⟨cs, hkf, hdr9, hcf0⟩ := hff9
  have hcf9 : w9.heap[cf]? = some (.cells (Value.int .i64 3 :: .int .u32 0 :: .int .u32 128 :: .int .u32 0 :: .int .u32 2147487744 :: .int .u32 0 :: .int .u32 0 :: .int .u32 0 :: .int .u32 0 :: cs).toArray 54 (0, 0)) := hcf0
  obtain ⟨tv4, md4, cs4, n4, lk4, hk4, hcm9, hmm4, _⟩ := hB9.mf
  refine St.cls (C' := Hp w9 ([⟨cf, Value.int .i64 3 :: .int .u32 0 :: .int .u32 128 :: .int .u32 0 :: .int .u32 2147487744 :: .int .u32 0 :: .int .u32 0 :: .int .u32 0 :: .int .u32 0 :: cs, 54⟩, ⟨cm, Value.int .i64 md4 :: .map (some b) :: cs4, 89⟩, ⟨p, [.pointer (some ⟨h, 0, none⟩), .pointer (some ⟨cH, 0, none⟩)], 44⟩, ⟨cH, ys ++ [.int .i64 (IntKind.i64.wrap (IntKind.u32.wrap (2147487744 + pc0))), .pointer (some ⟨cm, 0, none⟩), .pointer (some ⟨rb, 0, none⟩)], 82⟩, ⟨h, xs ++ [.int .u32 (IntKind.u32.wrap (2147487744 + pc0)), .pointer (some ⟨cf, 0, none⟩), .pointer (some ⟨cM, 0, none⟩)], 30⟩, ⟨c1, [.slice wa wn wc, .slice xa xn xc, .slice la ln lc, .bool true, .slice ca cn cc, .int .u32 pc0], 39⟩])) (fun _ h' => Hp.open (Hp.open h' hcm9 ⟨by simp only; omega, by simp only; omega, by simp only; omega, by simp only; omega, trivial⟩) hcf9 ⟨fun e => hne.1.2.1 e.symm, ⟨by simp only; omega, by simp only; omega, by simp only; omega, by simp only; omega, trivial⟩⟩) ?_
  refine St.tree (fun w' => w'.cell? ⟨p, 0, none⟩ = some (.pointer (some ⟨h, 0, none⟩)) ∧ w'.cell? ⟨p, 1, none⟩ = some (.pointer (some ⟨cH, 0, none⟩)) ∧ w'.cell? ⟨h, 33, none⟩ = some (.pointer (some ⟨cf, 0, none⟩)) ∧ w'.cell? ⟨cH, 33, none⟩ = some (.pointer (some ⟨cm, 0, none⟩))) mixed (fun _ h => ⟨Hp.drew h, ownC (Hp.drew h) hxs.1 hys⟩) ?_
  refine Mt.pure 0 (by decide +kernel) (by exact rfl) (by exact rfl) (by decide +kernel) (by decide +kernel) ?_
  repeat' (first | (apply Wl.move; exact rfl; exact rfl) | (apply Wl.nilM))
  apply Mt.back
  refine Mt.pure 1 (by decide +kernel) (by exact rfl) (by exact rfl) (by decide +kernel) (by decide +kernel) ?_
  repeat' (first | (apply Wl.nilCheck; exact rfl; exact rfl) | (apply Wl.nilM))
  apply Mt.back
  refine Mt.pure 2 (by decide +kernel) (by exact rfl) (by exact rfl) (by decide +kernel) (by decide +kernel) ?_
  repeat' (first | (apply Wl.fieldAddr0; exact rfl; exact rfl) | (apply Wl.nilM))
  apply Mt.back
  refine Mt.pure 3 (by decide +kernel) (by exact rfl) (by exact rfl) (by decide +kernel) (by decide +kernel) ?_
  repeat' (first | (apply Wl.loadF; exact rfl; exact rfl; (intro w' h'; first | exact h'.1 | exact h'.2.1 | exact h'.2.2.1 | exact h'.2.2.2)) | (apply Wl.nilM))
  apply Mt.back
  refine Mt.pure 4 (by decide +kernel) (by exact rfl) (by exact rfl) (by decide +kernel) (by decide +kernel) ?_
  repeat' (first | (apply Wl.nilCheck; exact rfl; exact rfl) | (apply Wl.nilM))
  apply Mt.back
  refine Mt.pure 5 (by decide +kernel) (by exact rfl) (by exact rfl) (by decide +kernel) (by decide +kernel) ?_
  repeat' (first | (apply Wl.fieldAddrZ; exact rfl; exact rfl) | (apply Wl.nilM))
  apply Mt.back
  refine Mt.pure 6 (by decide +kernel) (by exact rfl) (by exact rfl) (by decide +kernel) (by decide +kernel) ?_
  repeat' (first | (apply Wl.loadF; exact rfl; exact rfl; (intro w' h'; first | exact h'.1 | exact h'.2.1 | exact h'.2.2.1 | exact h'.2.2.2)) | (apply Wl.nilM))
  apply Mt.back
  refine Mt.pure 7 (by decide +kernel) (by exact rfl) (by exact rfl) (by decide +kernel) (by decide +kernel) ?_
  repeat' (first | (apply Wl.move; exact rfl; exact rfl) | (apply Wl.nilM))
  apply Mt.back
  refine Mt.pure 8 (by decide +kernel) (by exact rfl) (by exact rfl) (by decide +kernel) (by decide +kernel) ?_
  repeat' (first | (apply Wl.nilCheck; exact rfl; exact rfl) | (apply Wl.nilM))
  apply Mt.back
  refine Mt.pure 9 (by decide +kernel) (by exact rfl) (by exact rfl) (by decide +kernel) (by decide +kernel) ?_
  repeat' (first | (apply Wl.fieldAddrZ; exact rfl; exact rfl) | (apply Wl.nilM))
  apply Mt.back
  refine Mt.pure 10 (by decide +kernel) (by exact rfl) (by exact rfl) (by decide +kernel) (by decide +kernel) ?_
  repeat' (first | (apply Wl.loadF; exact rfl; exact rfl; (intro w' h'; first | exact h'.1 | exact h'.2.1 | exact h'.2.2.1 | exact h'.2.2.2)) | (apply Wl.nilM))
  apply Mt.back
  refine Mt.pure 11 (by decide +kernel) (by exact rfl) (by exact rfl) (by decide +kernel) (by decide +kernel) ?_
  repeat' (first | (apply Wl.nilCheck; exact rfl; exact rfl) | (apply Wl.nilM))
  apply Mt.back
  refine Mt.pure 12 (by decide +kernel) (by exact rfl) (by exact rfl) (by decide +kernel) (by decide +kernel) ?_
  repeat' (first | (apply Wl.fieldAddrZ; exact rfl; exact rfl) | (apply Wl.nilM))
  apply Mt.back
  refine Mt.pure 13 (by decide +kernel) (by exact rfl) (by exact rfl) (by decide +kernel) (by decide +kernel) ?_
  repeat' (first | (apply Wl.loadF; exact rfl; exact rfl; (intro w' h'; first | exact h'.1 | exact h'.2.1 | exact h'.2.2.1 | exact h'.2.2.2)) | (apply Wl.nilM))
  apply Mt.back
  refine Mt.pure 14 (by decide +kernel) (by exact rfl) (by exact rfl) (by decide +kernel) (by decide +kernel) ?_
  repeat' (first | (apply Wl.nilCheck; exact rfl; exact rfl) | (apply Wl.nilM))
  apply Mt.back
  refine Mt.pure 15 (by decide +kernel) (by exact rfl) (by exact rfl) (by decide +kernel) (by decide +kernel) ?_
  repeat' (first | (apply Wl.fieldAddr0; exact rfl; exact rfl) | (apply Wl.nilM))
  apply Mt.back
  refine Mt.eff1 (i := 16) (by decide +kernel) (by exact rfl) ?_
  repeat' (first | (apply Wl.store; exact rfl; exact rfl; exact rfl; (repeat (first | apply HSet.here | apply HSet.there)); (repeat (first | apply LSet.z | apply LSet.s))) | (apply Wl.nil))
  refine Mt.backE (fun _ h => ownC h hxs.1 hys) ?_
  refine Mt.pure 17 (by decide +kernel) (by exact rfl) (by exact rfl) (by decide +kernel) (by decide +kernel) ?_
  repeat' (first | (apply Wl.nilCheck; exact rfl; exact rfl) | (apply Wl.nilM))
  apply Mt.back
  refine Mt.pure 18 (by decide +kernel) (by exact rfl) (by exact rfl) (by decide +kernel) (by decide +kernel) ?_
  repeat' (first | (apply Wl.fieldAddr0; exact rfl; exact rfl) | (apply Wl.nilM))
  apply Mt.back
  refine Mt.eff1 (i := 19) (by decide +kernel) (by exact rfl) ?_
  repeat' (first | (apply Wl.store; exact rfl; exact rfl; exact rfl; (repeat (first | apply HSet.here | apply HSet.there)); (repeat (first | apply LSet.z | apply LSet.s))) | (apply Wl.nil))
  refine Mt.backE (fun _ h => ownC h hxs.1 hys) ?_
  refine Mt.toGt (by decide +kernel) ?_
  repeat' (first | (apply Wl.move; exact rfl; exact rfl) | (apply Wl.assign; exact rfl; exact rfl) | (apply Wl.nil) | (apply St.seq) | (apply St.region) | (apply St.ret) | (apply Gt.next) | (apply Gt.out1; exact rfl; exact rfl; intro w' hp))
  have hff : FP w' cf { Gn 2 with md := 0 } := ⟨cs, hkf, hdr9, own_at hp.own (by (repeat (first | exact List.Mem.head _ | apply List.Mem.tail)))⟩
  obtain ⟨cf', hFX⟩ := hff.fx
  have huF : Upd (fun k => w.heap.size ≤ k) w w' := hp.on hB9.u (by simp only [List.mem_cons, List.not_mem_nil, or_false, forall_eq_or_imp, forall_eq]; omega)
  refine ⟨p, h, cf, cM, cH, xs, _, _, f, rfl, own_at hp.own (by (repeat (first | exact List.Mem.head _ | apply List.Mem.tail))), ⟨⟨hxs.1, own_at hp.own (by (repeat (first | exact List.Mem.head _ | apply List.Mem.tail)))⟩, hFX, hp.upd.heap hB9.mm fun y => y ⟨by simp only; omega, by simp only; omega, by simp only; omega, by simp only; omega, by simp only; omega, by simp only; omega, trivial⟩, hxs, wr32 _, gnT 2, hT.upd huF (by omega), ⟨by omega, by omega, by omega⟩, by omega, by omega, by omega⟩, ⟨rfl, rfl, rfl, rfl, rfl, rfl⟩, ⟨by omega, by omega, by omega, by omega⟩, ⟨by omega, by omega, by omega⟩, huF⟩
end Go.Proofs.YtcefkbnachnciaaDoor
end
section
namespace Go.Proofs.YtcefkbnachnciaaDoor
open Go.RowKit Go.Pt
set_option maxHeartbeats 4000000 in
theorem ftimerX (c : Nat) (on : Bool) (F : Fs) (w : World) (hF : FX w c F) (hmip : F.mip = 0) :
    Calls Tryd.prog 14 #[.pointer (some ⟨c, 0, none⟩), .bool on] w fun e w' => e = .returned (.tuple #[]) ∧ FX w' c { F with mip := if on then 128 else 0 } ∧ Upd (fun k => k = c) w w' := by
  obtain ⟨hl, hk, hc⟩ := hF
  obtain ⟨md, st, mie, mip, tv, sc, ep, ca, tl, cy, re, cf⟩ := F
  simp only at hmip
  subst hmip
  simp only [Fs.cells] at hl hk hc ⊢
  refine enter (args := [_, _]) (Γ := [(0, _), (1, _)]) Tryd.func14 Tryd.ntmps14 rfl (of_decide_eq_true rfl) (.cons rfl (.cons rfl .nil)) ?_
  refine St.cls (C' := Hp w [⟨c, .int .i64 md :: .int .u32 st :: .int .u32 mie :: .int .u32 0 :: .int .u32 tv :: .int .u32 sc :: .int .u32 ep :: .int .u32 ca :: .int .u32 tl :: (cf ++ [.int .u64 cy, .int .u64 re]), 54⟩]) (fun _ h' => Hp.open h' hc) ?_
  cases on
  all_goals
    repeat' (first | (apply Wl.move; exact rfl; exact rfl) | (apply Wl.nilCheck; exact rfl; exact rfl) | (apply Wl.fieldAddrZ; exact rfl; exact rfl) | (apply Wl.loadH; exact rfl; exact rfl; (repeat (first | exact List.Mem.head _ | apply List.Mem.tail)); exact rfl) | (apply Wl.eqlPN; exact rfl; exact rfl; exact rfl) | (apply Wl.or; exact rfl; exact rfl; exact rfl) | (apply Wl.andNot; exact rfl; exact rfl; exact rfl) | (apply Wl.store; exact rfl; exact rfl; exact rfl; (repeat (first | apply HSet.here | apply HSet.there)); (repeat (first | apply LSet.z | apply LSet.s))) | (apply Wl.nil) | (apply St.seq) | (apply St.region) | (apply St.condT; exact rfl; (first | with_reducible rfl | with_reducible assumption | decide)) | (apply St.condF; exact rfl; (first | with_reducible rfl | with_reducible assumption | decide)) | (apply St.skip) | (apply Gt.next) | (apply Gt.out0n; exact rfl; intro w' hp))
    exact ⟨rfl, ⟨hl, hk, hp.own.at (.head _)⟩, Hp.turned hp⟩
theorem getCy {h0 h1 h2 h3 h4 h5 h6 h7 h8 a b : Value} {cf : List Value} (hl : cf.length = 32) : (h0 :: h1 :: h2 :: h3 :: h4 :: h5 :: h6 :: h7 :: h8 :: (cf ++ [a, b]))[41]? = some a := by
  show (cf ++ [a, b])[32]? = some a
  rw [List.getElem?_append_right (by omega), hl]; rfl
theorem getRe {h0 h1 h2 h3 h4 h5 h6 h7 h8 a b : Value} {cf : List Value} (hl : cf.length = 32) : (h0 :: h1 :: h2 :: h3 :: h4 :: h5 :: h6 :: h7 :: h8 :: (cf ++ [a, b]))[42]? = some b := by
  show (cf ++ [a, b])[33]? = some b
  rw [List.getElem?_append_right (by omega), hl]; rfl
set_option maxHeartbeats 4000000 in
theorem freadCy (c : Nat) (F : Fs) (w : World) (hF : FX w c F) :
    Calls Tryd.prog 13 #[.pointer (some ⟨c, 0, none⟩), .int .u32 2816] w fun e w' => e = .returned (.tuple #[.int .u32 (IntKind.u32.wrap F.cy), .bool true]) ∧ Hp w [] w' := by
  obtain ⟨hl, hk, hc⟩ := hF
  obtain ⟨md, st, mie, mip, tv, sc, ep, ca, tl, cy, re, cf⟩ := F
  simp only [Fs.cells] at hl hk hc ⊢
  refine enter (args := [_, _]) (Γ := [(0, _), (1, _)]) Tryd.func13 Tryd.ntmps13 rfl (of_decide_eq_true rfl) (.cons rfl (.cons rfl .nil)) ?_
  refine St.cls (C' := Hp w [⟨c, .int .i64 md :: .int .u32 st :: .int .u32 mie :: .int .u32 mip :: .int .u32 tv :: .int .u32 sc :: .int .u32 ep :: .int .u32 ca :: .int .u32 tl :: (cf ++ [.int .u64 cy, .int .u64 re]), 54⟩]) (fun _ h' => Hp.open h' hc) ?_
  repeat' (first | (apply Wl.loadH; exact rfl; exact rfl; exact (.head _); exact getCy hl) | (apply Wl.move; exact rfl; exact rfl) | (apply Wl.assign; exact rfl; exact rfl) | (apply Wl.on; exact rfl; exact rfl; (first | with_reducible rfl | with_reducible assumption | decide)) | (apply Wl.off; exact rfl; exact rfl; exact rfl; (first | with_reducible rfl | (show _ = false; with_reducible assumption) | (show _ = true; with_reducible assumption) | decide)) | (apply Wl.nilCheck; exact rfl; exact rfl) | (apply Wl.pickT; exact rfl; exact rfl; (first | with_reducible rfl | with_reducible assumption | decide); exact rfl) | (apply Wl.pickF; exact rfl; exact rfl; (first | with_reducible rfl | with_reducible assumption | decide); exact rfl) | (apply Wl.fieldAddrZ; exact rfl; exact rfl) | (apply Wl.eqlPN; exact rfl; exact rfl; exact rfl) | (apply Wl.eqlIs; exact rfl; exact rfl; exact rfl; (first | with_reducible assumption | with_reducible rfl)) | (apply Wl.eql; exact rfl; exact rfl; exact rfl) | (apply Wl.lss; exact rfl; exact rfl; exact rfl) | (apply Wl.geq; exact rfl; exact rfl; exact rfl) | (apply Wl.convI; exact rfl; exact rfl) | (apply Wl.nil) | (apply St.seq) | (apply St.block) | (apply St.region) | (apply St.condT; exact rfl; (first | with_reducible rfl | with_reducible assumption | decide)) | (apply St.condF; exact rfl; (first | with_reducible rfl | with_reducible assumption | decide)) | (apply St.ret) | (apply St.skip) | (apply Gt.next) | (apply Gt.thenRet) | (apply Gt.inNormal) | (apply Gt.inRet) | (apply Gt.out2; exact rfl; exact rfl; exact rfl; intro w' hp))
  exact ⟨rfl, Hp.same hp hc⟩
set_option maxHeartbeats 4000000 in
theorem freadRe (c : Nat) (F : Fs) (w : World) (hF : FX w c F) :
    Calls Tryd.prog 13 #[.pointer (some ⟨c, 0, none⟩), .int .u32 2818] w fun e w' => e = .returned (.tuple #[.int .u32 (IntKind.u32.wrap F.re), .bool true]) ∧ Hp w [] w' := by
  obtain ⟨hl, hk, hc⟩ := hF
  obtain ⟨md, st, mie, mip, tv, sc, ep, ca, tl, cy, re, cf⟩ := F
  simp only [Fs.cells] at hl hk hc ⊢
  refine enter (args := [_, _]) (Γ := [(0, _), (1, _)]) Tryd.func13 Tryd.ntmps13 rfl (of_decide_eq_true rfl) (.cons rfl (.cons rfl .nil)) ?_
  refine St.cls (C' := Hp w [⟨c, .int .i64 md :: .int .u32 st :: .int .u32 mie :: .int .u32 mip :: .int .u32 tv :: .int .u32 sc :: .int .u32 ep :: .int .u32 ca :: .int .u32 tl :: (cf ++ [.int .u64 cy, .int .u64 re]), 54⟩]) (fun _ h' => Hp.open h' hc) ?_
  repeat' (first | (apply Wl.loadH; exact rfl; exact rfl; exact (.head _); exact getRe hl) | (apply Wl.move; exact rfl; exact rfl) | (apply Wl.assign; exact rfl; exact rfl) | (apply Wl.on; exact rfl; exact rfl; (first | with_reducible rfl | with_reducible assumption | decide)) | (apply Wl.off; exact rfl; exact rfl; exact rfl; (first | with_reducible rfl | (show _ = false; with_reducible assumption) | (show _ = true; with_reducible assumption) | decide)) | (apply Wl.nilCheck; exact rfl; exact rfl) | (apply Wl.pickT; exact rfl; exact rfl; (first | with_reducible rfl | with_reducible assumption | decide); exact rfl) | (apply Wl.pickF; exact rfl; exact rfl; (first | with_reducible rfl | with_reducible assumption | decide); exact rfl) | (apply Wl.fieldAddrZ; exact rfl; exact rfl) | (apply Wl.eqlPN; exact rfl; exact rfl; exact rfl) | (apply Wl.eqlIs; exact rfl; exact rfl; exact rfl; (first | with_reducible assumption | with_reducible rfl)) | (apply Wl.eql; exact rfl; exact rfl; exact rfl) | (apply Wl.lss; exact rfl; exact rfl; exact rfl) | (apply Wl.geq; exact rfl; exact rfl; exact rfl) | (apply Wl.convI; exact rfl; exact rfl) | (apply Wl.nil) | (apply St.seq) | (apply St.block) | (apply St.region) | (apply St.condT; exact rfl; (first | with_reducible rfl | with_reducible assumption | decide)) | (apply St.condF; exact rfl; (first | with_reducible rfl | with_reducible assumption | decide)) | (apply St.ret) | (apply St.skip) | (apply Gt.next) | (apply Gt.thenRet) | (apply Gt.inNormal) | (apply Gt.inRet) | (apply Gt.out2; exact rfl; exact rfl; exact rfl; intro w' hp))
  exact ⟨rfl, Hp.same hp hc⟩
set_option maxHeartbeats 4000000 in
theorem freadEp (c : Nat) (F : Fs) (w : World) (hF : FX w c F) :
    Calls Tryd.prog 13 #[.pointer (some ⟨c, 0, none⟩), .int .u32 833] w fun e w' => e = .returned (.tuple #[.int .u32 F.ep, .bool true]) ∧ Hp w [] w' := by
  obtain ⟨hl, hk, hc⟩ := hF
  obtain ⟨md, st, mie, mip, tv, sc, ep, ca, tl, cy, re, cf⟩ := F
  simp only [Fs.cells] at hl hk hc ⊢
  refine enter (args := [_, _]) (Γ := [(0, _), (1, _)]) Tryd.func13 Tryd.ntmps13 rfl (of_decide_eq_true rfl) (.cons rfl (.cons rfl .nil)) ?_
  refine St.cls (C' := Hp w [⟨c, .int .i64 md :: .int .u32 st :: .int .u32 mie :: .int .u32 mip :: .int .u32 tv :: .int .u32 sc :: .int .u32 ep :: .int .u32 ca :: .int .u32 tl :: (cf ++ [.int .u64 cy, .int .u64 re]), 54⟩]) (fun _ h' => Hp.open h' hc) ?_
  repeat' (first | (apply Wl.move; exact rfl; exact rfl) | (apply Wl.assign; exact rfl; exact rfl) | (apply Wl.off; exact rfl; exact rfl; exact rfl; (first | with_reducible rfl | (show _ = false; with_reducible assumption) | (show _ = true; with_reducible assumption) | decide)) | (apply Wl.nilCheck; exact rfl; exact rfl) | (apply Wl.pickF; exact rfl; exact rfl; (first | with_reducible rfl | with_reducible assumption | decide); exact rfl) | (apply Wl.fieldAddrZ; exact rfl; exact rfl) | (apply Wl.loadH; exact rfl; exact rfl; (repeat (first | exact List.Mem.head _ | apply List.Mem.tail)); exact rfl) | (apply Wl.eqlPN; exact rfl; exact rfl; exact rfl) | (apply Wl.eqlIs; exact rfl; exact rfl; exact rfl; (first | with_reducible assumption | with_reducible rfl)) | (apply Wl.eql; exact rfl; exact rfl; exact rfl) | (apply Wl.geq; exact rfl; exact rfl; exact rfl) | (apply Wl.nil) | (apply St.seq) | (apply St.block) | (apply St.region) | (apply St.condT; exact rfl; (first | with_reducible rfl | with_reducible assumption | decide)) | (apply St.condF; exact rfl; (first | with_reducible rfl | with_reducible assumption | decide)) | (apply St.ret) | (apply St.skip) | (apply Gt.next) | (apply Gt.thenRet) | (apply Gt.inNormal) | (apply Gt.inRet) | (apply Gt.out2; exact rfl; exact rfl; exact rfl; intro w' hp))
  exact ⟨rfl, Hp.same hp hc⟩
end Go.Proofs.YtcefkbnachnciaaDoor
end
