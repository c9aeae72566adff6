/-
  porticolaw15.play of any call but Back: both files keep their trap vector alike. Conditions: the files lie in blocks of their own; the call's entries lie in older blocks.
-/
import Derived.Test.YtahgpfjkmcaeaaaDoorCsrO
namespace Go.Proofs.YtahgpfjkmcaeaaaDoor
open Go.RowKit Go.Pt
theorem FF.lt {w : World} {c : Nat} {md tv : Int} (h : FF w c md tv) : c < w.heap.size := by
  obtain ⟨st, mie, mip, sc, ep, ca, tl, cs, hk, hc⟩ := h
  exact lt_of_block hc
theorem MM.ltc {w : World} {c b n : Nat} {tv : Int} (h : MM w c b n tv) : c < w.heap.size := by
  obtain ⟨md, cs, n', lk, hk, h1, h2, h3⟩ := h
  exact lt_of_block h1
theorem MM.ltb {w : World} {c b n : Nat} {tv : Int} (h : MM w c b n tv) : b < w.heap.size := by
  obtain ⟨md, cs, n', lk, hk, h1, h2, h3⟩ := h
  exact h2.lt
theorem FF.ne {w : World} {c c' b n : Nat} {md tv tv' : Int} (h : FF w c md tv) (k : MM w c' b n tv') : c ≠ c' ∧ c ≠ b := by
  obtain ⟨st, mie, mip, sc, ep, ca, tl, cs, hk, hc⟩ := h
  obtain ⟨md', cs', n', lk, hk', hc', ⟨D, ⟨es, clock, hb, _⟩, _⟩, _⟩ := k
  constructor
  · intro e; subst e; rw [hc] at hc'; simp at hc'
  · intro e; subst e; rw [hc] at hb; cases hb
theorem Hp.rest {S : Nat → Prop} {w0 w w' : World} {H : List Blk} (h : Hp w0 H w) (u : Upd S w w') (hs : ∀ x ∈ H, ¬ S x.b) : Hp w' H w' := ⟨Upd.refl _ _, h.own.upd u hs, h.apart⟩
theorem MM.le {w : World} {c b n m : Nat} {tv : Int} (h : MM w c b n tv) (hn : n ≤ m) : MM w c b m tv := by
  obtain ⟨md, cs, n', lk, hk, h1, h2, h3, h4⟩ := h
  exact ⟨md, cs, n', lk, hk, h1, h2, Nat.le_trans h3 hn, h4⟩
/-- both files in one world: the mode is one of two, the vectors are these, all else of w0 is as it was -/
structure Both (w0 w : World) (c cm b n : Nat) (md tv tv2 : Int) : Prop where
  f : FF w c md tv
  m : MM w cm b n tv2
  mode : md = 0 ∨ md = 3
  tv0 : 0 ≤ tv ∧ tv < 4294967296
  u : Upd (fun k => w0.heap.size ≤ k) w0 w
  c0 : w0.heap.size ≤ c
  m0 : w0.heap.size ≤ cm
  b0 : w0.heap.size ≤ b
theorem Both.keep {w0 w w' : World} {c cm b n : Nat} {md tv tv2 : Int} {S : Nat → Prop} (h : Both w0 w c cm b n md tv tv2) (u : Upd S w w') (hc : ¬ S c) (hm : ¬ S cm) (hb : ¬ S b) (h0 : ∀ k, S k → w0.heap.size ≤ k) : Both w0 w' c cm b n md tv tv2 :=
  ⟨h.f.upd u hc, h.m.upd u hm hb, h.mode, h.tv0, h.u.comp u fun k _ hs => hs.elim id (h0 k), h.c0, h.m0, h.b0⟩
theorem Both.keepP {w0 w w' : World} {c cm b n p t : Nat} {xs : List Value} {md tv tv2 : Int} (h : Both w0 w c cm b n md tv tv2) (k : Hp w [⟨p, xs, t⟩] w') (hp : c < p ∧ cm < p ∧ b < p) : Both w0 w' c cm b n md tv tv2 :=
  h.keep (Hp.turned k) (by omega) (by omega) (by omega) fun k hk => by have := h.c0; omega
theorem Both.fcall {w0 w w' : World} {c cm b n : Nat} {md tv tv2 md' tv' : Int} (h : Both w0 w c cm b n md tv tv2) (f : FF w' c md' tv') (u : Upd (fun k => k = c) w w') (hm : md' = 0 ∨ md' = 3) (ht : 0 ≤ tv' ∧ tv' < 4294967296) : Both w0 w' c cm b n md' tv' tv2 :=
  ⟨f, h.m.upd u (fun e => (h.f.ne h.m).1 e.symm) (fun e => (h.f.ne h.m).2 e.symm), hm, ht, h.u.comp u fun k _ hs => hs.elim id fun e => by rw [e]; exact h.c0, h.c0, h.m0, h.b0⟩
theorem Both.mcall {w0 w w' : World} {c cm b n n' : Nat} {md tv tv2 tv' : Int} (h : Both w0 w c cm b n md tv tv2) (m : MM w' cm b n' tv') (u : Upd (fun k => k = cm ∨ k = b) w w') : Both w0 w' c cm b n' md tv tv' :=
  ⟨h.f.upd u (fun e => e.elim (h.f.ne h.m).1 (h.f.ne h.m).2), m, h.mode, h.tv0, h.u.comp u fun k _ hs => hs.elim id fun e => by rcases e with e | e <;> rw [e] <;> first | exact h.m0 | exact h.b0, h.c0, h.m0, h.b0⟩
theorem Both.le {w0 w : World} {c cm b n m : Nat} {md tv tv2 : Int} (h : Both w0 w c cm b n md tv tv2) (hn : n ≤ m) : Both w0 w c cm b m md tv tv2 := ⟨h.f, h.m.le hn, h.mode, h.tv0, h.u, h.c0, h.m0, h.b0⟩
set_option maxHeartbeats 8000000 in
theorem play_any (cf cm b n ln lc : Nat) (a : Option Addr) (k r x y md tv : Int) (w0 w : World) (hB : Both w0 w cf cm b n md tv tv) (hn : n < 900000) (hk3 : k ≠ 3) (hr : 0 ≤ r ∧ r < 4294967296) (hx : 0 ≤ x ∧ x < 4294967296) (hy : 0 ≤ y ∧ y < 4294967296) (hS : EntS w0 a ln) :
    Calls Tryd.prog 8 #[.pointer (some ⟨cf, 0, none⟩), .pointer (some ⟨cm, 0, none⟩), .agg #[.int .i64 k, .int .u32 r, .int .u32 x, .int .u32 y, .slice a ln lc]] w fun e w' => e = .returned (.bool true) ∧ ∃ md' tv', Both w0 w' cf cm b (n + 40) md' tv' tv' := by
  have lc' := hB.f.lt
  have lm' := hB.m.ltc
  have lb' := hB.m.ltb
  refine enter (args := [_, _, _]) (Γ := [(0, _), (1, _), (2, _)]) Tryd.func8 Tryd.ntmps8 rfl (of_decide_eq_true rfl) (.cons rfl (.cons rfl (.cons rfl .nil))) ?_
  have hne := hB.f.ne hB.m
  have hneb := hB.m.ne
  by_cases h67 : k = 6 ∨ k = 7
  · obtain ⟨⟨st, mie, mip, sc, ep, ca, tl, cs, hk, hc⟩, ⟨md', cs', n', lk, hk', hcm, hm, hn', hK⟩, hmode, htv, hu, hc0, hm0, hb0⟩ := hB
    refine St.cls (C' := Hp w [⟨cf, .int .i64 md :: .int .u32 st :: .int .u32 mie :: .int .u32 mip :: .int .u32 tv :: .int .u32 sc :: .int .u32 ep :: .int .u32 ca :: .int .u32 tl :: cs, 39⟩, ⟨cm, .int .i64 md' :: .map (some b) :: cs', 50⟩]) (fun _ h' => Hp.open (Hp.open h' hcm) hc ⟨fun e => hne.1 e.symm, trivial⟩) ?_
    repeat' (first | (apply Wl.move; exact rfl; exact rfl) | (apply Wl.assign; exact rfl; exact rfl) | (apply Wl.nilCheck; exact rfl; exact rfl) | (apply Wl.fieldAddr0; exact rfl; exact rfl) | (apply Wl.fieldAddrZ; exact rfl; exact rfl) | (apply Wl.loadH; exact rfl; exact rfl; (repeat (first | exact List.Mem.head _ | apply List.Mem.tail)); exact rfl) | (apply Wl.eql; exact rfl; exact rfl; exact rfl) | (apply Wl.convI64; exact rfl; exact rfl; (constructor <;> omega)) | (apply Wl.store; exact rfl; exact rfl; exact rfl; (repeat (first | apply HSet.here | apply HSet.there)); (repeat (first | apply LSet.z | apply LSet.s))) | (apply Wl.boxA; exact rfl; exact rfl; intro c hc ho) | (apply Wl.nil) | (apply Wl.nilQ) | (apply St.seq) | (apply St.block) | (apply St.region) | (apply St.draw; exact mixed; (kernel_rfl); exact (fun _ h => Hp.drew h)) | (apply St.ret) | (apply Gt.next) | (apply Gt.inNormal) | (apply Gt.out1; exact rfl; exact rfl; intro w' hp) | (apply Wl.splitP; exact rfl; exact rfl; all_goals (intros; try (exfalso; omega))) | (apply Wl.splitB; exact rfl; exact rfl; all_goals intros) | (apply St.condP; exact rfl; all_goals (intros; try (exfalso; omega))) | (apply St.condB; exact rfl; all_goals intros))
    all_goals
      have fin : ∀ w' (p : Nat) (xs : List Value) (m m2 : Int), w.heap.size ≤ p → (m = 0 ∨ m = 3) → Hp w [⟨p, xs, 33⟩, ⟨cf, .int .i64 m :: .int .u32 st :: .int .u32 mie :: .int .u32 mip :: .int .u32 tv :: .int .u32 sc :: .int .u32 ep :: .int .u32 ca :: .int .u32 tl :: cs, 39⟩, ⟨cm, .int .i64 m2 :: .map (some b) :: cs', 50⟩] w' → Both w0 w' cf cm b (n + 40) m tv tv := fun w' p xs m m2 hp hm' h =>
        ⟨⟨st, mie, mip, sc, ep, ca, tl, cs, hk, h.own.2.1⟩, ⟨m2, cs', n', lk, hk', h.own.2.2.1, hm.upd h.upd fun y => y ⟨by simp only; omega, fun e => hne.2 e, hneb, trivial⟩, by omega, hK⟩, hm', htv,
          hu.comp h.upd fun j hj hs => hs.elim id fun y => Classical.byContradiction fun z => y ⟨by simp only; have := hu.size; omega, fun e => by simp only at e; omega, fun e => by simp only at e; omega, trivial⟩, hc0, hm0, hb0⟩
      refine ⟨rfl, _, _, fin _ _ _ _ _ (by assumption) ?_ hp⟩
      first | exact .inl rfl | exact .inr rfl | exact hmode
  repeat' (first | (apply Wl.assign; exact rfl; exact rfl) | (apply Wl.boxA; exact rfl; exact rfl; intro c hc ho) | (apply Wl.nil) | (apply St.seq) | (apply St.region) | (apply Gt.next) | (apply Wl.splitP; exact rfl; exact rfl; all_goals (intros; try (exfalso; omega))) | (apply Wl.splitB; exact rfl; exact rfl; all_goals intros) | (apply St.condP; exact rfl; all_goals (intros; try (exfalso; omega))) | (apply St.condB; exact rfl; all_goals intros))
  apply St.draw
  · exact mixed
  · kernel_rfl
  · exact fun _ h => Hp.drew h
  repeat' (first | (apply Wl.move; exact rfl; exact rfl) | (apply Wl.assign; exact rfl; exact rfl) | (apply Wl.fieldAddr0; exact rfl; exact rfl) | (apply Wl.fieldAddrZ; exact rfl; exact rfl) | (apply Wl.loadH; exact rfl; exact rfl; (repeat (first | exact List.Mem.head _ | apply List.Mem.tail)); exact rfl) | (apply Wl.eql; exact rfl; exact rfl; exact rfl) | (apply Wl.and; exact rfl; exact rfl; exact rfl) | (apply Wl.convI64; exact rfl; exact rfl; (constructor <;> omega)) | (apply Wl.nil) | (apply Wl.nilQ) | (apply St.seq) | (apply St.block) | (apply St.region) | (apply St.ret) | (apply St.skip) | (apply Gt.next) | (apply Gt.inNormal) | (apply Gt.out1; exact rfl; exact rfl; intro w' hp) | (apply Wl.splitP; exact rfl; exact rfl; all_goals (intros; try (exfalso; omega))) | (apply Wl.splitB; exact rfl; exact rfl; all_goals intros) | (apply St.condP; exact rfl; all_goals (intros; try (exfalso; omega))) | (apply St.condB; exact rfl; all_goals intros))
  all_goals have hcp : cf < c ∧ cm < c ∧ b < c := by omega
  · apply Wl.callC
    · exact rfl
    · (repeat (first | exact Evs.nil | apply Evs.cons rfl))
    intro wq hq
    have hBq := hB.keepP hq hcp
    refine (fwrite cf r x md tv wq hr hx hBq.f).mono ?_
    rintro e w1 ⟨rfl, f1, u1⟩
    have hB1 := hBq.fcall f1 u1 hBq.mode (by have := hB.tv0; split <;> constructor <;> omega)
    refine ⟨_, Hp w1 [⟨c, [.int .i64 k, .int .u32 r, .int .u32 x, .int .u32 y, .slice a ln lc], 33⟩], rfl, Hp.rest hq u1 (by simp only [List.mem_singleton, forall_eq]; omega), ?_⟩
    clear hq hBq f1 u1
    repeat' (first | (apply Wl.move; exact rfl; exact rfl) | (apply Wl.splitP; exact rfl; exact rfl; all_goals (intros; try (exfalso; omega))) | (apply Wl.splitB; exact rfl; exact rfl; all_goals intros) | (apply St.condP; exact rfl; all_goals (intros; try (exfalso; omega))) | (apply St.condB; exact rfl; all_goals intros))
    apply Wl.callC
    · exact rfl
    · (repeat (first | exact Evs.nil | apply Evs.cons rfl))
    intro wq hq
    have hBq := hB1.keepP hq hcp
    refine (mwrite cm b n r x tv wq hr hx hBq.m (by omega)).mono ?_
    rintro e w2 ⟨rfl, m1, u1⟩
    have hB2 := hBq.mcall m1 u1
    refine ⟨_, Hp w2 [⟨c, [.int .i64 k, .int .u32 r, .int .u32 x, .int .u32 y, .slice a ln lc], 33⟩], rfl, Hp.rest hq u1 (by simp only [List.mem_singleton, forall_eq]; omega), ?_⟩
    clear hq hBq m1 u1
    repeat' (first | (apply Wl.assign; exact rfl; exact rfl) | (apply Wl.eqlBs; exact rfl; exact rfl; exact rfl; (first | with_reducible assumption | with_reducible rfl)) | (apply Wl.nil) | (apply St.ret) | (apply Gt.next) | (apply Gt.thenRet) | (apply Gt.inRet) | (apply Gt.out1; exact rfl; exact rfl; intro w' hp) | (apply Wl.splitP; exact rfl; exact rfl; all_goals (intros; try (exfalso; omega))) | (apply Wl.splitB; exact rfl; exact rfl; all_goals intros) | (apply St.condP; exact rfl; all_goals (intros; try (exfalso; omega))) | (apply St.condB; exact rfl; all_goals intros))
    exact ⟨rfl, _, _, (hB2.keepP hp hcp).le (by omega)⟩
  · apply Wl.callC
    · exact rfl
    · (repeat (first | exact Evs.nil | apply Evs.cons rfl))
    intro wq hq
    have hBq := hB.keepP hq hcp
    refine (ftimer cf _ md tv wq hBq.f).mono ?_
    rintro e w1 ⟨rfl, f1, u1⟩
    have hB1 := hBq.fcall f1 u1 hBq.mode (hBq.tv0)
    refine ⟨_, Hp w1 [⟨c, [.int .i64 k, .int .u32 r, .int .u32 x, .int .u32 y, .slice a ln lc], 33⟩], rfl, Hp.rest hq u1 (by simp only [List.mem_singleton, forall_eq]; omega), ?_⟩
    clear hq hBq f1 u1
    repeat' (first | (apply Wl.move; exact rfl; exact rfl) | (apply Wl.fieldAddrZ; exact rfl; exact rfl) | (apply Wl.loadH; exact rfl; exact rfl; (repeat (first | exact List.Mem.head _ | apply List.Mem.tail)); exact rfl) | (apply Wl.eql; exact rfl; exact rfl; exact rfl) | (apply Wl.and; exact rfl; exact rfl; exact rfl) | (apply Wl.nil) | (apply St.region) | (apply Gt.next) | (apply Wl.splitP; exact rfl; exact rfl; all_goals (intros; try (exfalso; omega))) | (apply Wl.splitB; exact rfl; exact rfl; all_goals intros) | (apply St.condP; exact rfl; all_goals (intros; try (exfalso; omega))) | (apply St.condB; exact rfl; all_goals intros))
    apply Wl.callC
    · exact rfl
    · (repeat (first | exact Evs.nil | apply Evs.cons rfl))
    intro wq hq
    have hBq := hB1.keepP hq hcp
    refine (mtimer cm b n _ tv wq hBq.m (by omega)).mono ?_
    rintro e w2 ⟨rfl, m1, u1⟩
    have hB2 := hBq.mcall m1 u1
    refine ⟨_, Hp w2 [⟨c, [.int .i64 k, .int .u32 r, .int .u32 x, .int .u32 y, .slice a ln lc], 33⟩], rfl, Hp.rest hq u1 (by simp only [List.mem_singleton, forall_eq]; omega), ?_⟩
    clear hq hBq m1 u1
    repeat' (first | (apply Wl.assign; exact rfl; exact rfl) | (apply Wl.nil) | (apply St.seq) | (apply St.region) | (apply St.ret) | (apply Gt.next) | (apply Gt.inNormal) | (apply Gt.out1; exact rfl; exact rfl; intro w' hp) | (apply Wl.splitP; exact rfl; exact rfl; all_goals (intros; try (exfalso; omega))) | (apply Wl.splitB; exact rfl; exact rfl; all_goals intros) | (apply St.condP; exact rfl; all_goals (intros; try (exfalso; omega))) | (apply St.condB; exact rfl; all_goals intros))
    exact ⟨rfl, _, _, (hB2.keepP hp hcp).le (by omega)⟩
  · refine St.tree (fun w' => w'.heap[c]? = some (.cells [.int .i64 k, .int .u32 r, .int .u32 x, .int .u32 y, .slice a ln lc].toArray 33 (0, 0))) mixed (fun _ h => ⟨Hp.drew h, (Hp.drew h).own.1⟩) ?_
    refine Mt.pure 0 (by decide +kernel) (by exact rfl) (by exact rfl) (by decide +kernel) (by decide +kernel) ?_
    repeat' (first | (apply Wl.move; exact rfl; exact rfl) | (apply Wl.nilM) | (apply Wl.splitP; exact rfl; exact rfl; all_goals (intros; try (exfalso; omega))) | (apply Wl.splitB; exact rfl; exact rfl; all_goals intros) | (apply St.condP; exact rfl; all_goals (intros; try (exfalso; omega))) | (apply St.condB; exact rfl; all_goals intros))
    apply Mt.back
    refine Mt.pure 1 (by decide +kernel) (by exact rfl) (by exact rfl) (by decide +kernel) (by decide +kernel) ?_
    repeat' (first | (apply Wl.fieldAddrZ; exact rfl; exact rfl) | (apply Wl.nilM) | (apply Wl.splitP; exact rfl; exact rfl; all_goals (intros; try (exfalso; omega))) | (apply Wl.splitB; exact rfl; exact rfl; all_goals intros) | (apply St.condP; exact rfl; all_goals (intros; try (exfalso; omega))) | (apply St.condB; exact rfl; all_goals intros))
    apply Mt.back
    refine Mt.pure 2 (by decide +kernel) (by exact rfl) (by exact rfl) (by decide +kernel) (by decide +kernel) ?_
    repeat' (first | (apply Wl.loadF; exact rfl; exact rfl; (intro w' h; exact cell_of h rfl)) | (apply Wl.nilM) | (apply Wl.splitP; exact rfl; exact rfl; all_goals (intros; try (exfalso; omega))) | (apply Wl.splitB; exact rfl; exact rfl; all_goals intros) | (apply St.condP; exact rfl; all_goals (intros; try (exfalso; omega))) | (apply St.condB; exact rfl; all_goals intros))
    apply Mt.back
    refine Mt.pure 3 (by decide +kernel) (by exact rfl) (by exact rfl) (by decide +kernel) (by decide +kernel) ?_
    repeat' (first | (apply Wl.fieldAddrZ; exact rfl; exact rfl) | (apply Wl.nilM) | (apply Wl.splitP; exact rfl; exact rfl; all_goals (intros; try (exfalso; omega))) | (apply Wl.splitB; exact rfl; exact rfl; all_goals intros) | (apply St.condP; exact rfl; all_goals (intros; try (exfalso; omega))) | (apply St.condB; exact rfl; all_goals intros))
    apply Mt.back
    refine Mt.pure 4 (by decide +kernel) (by exact rfl) (by exact rfl) (by decide +kernel) (by decide +kernel) ?_
    repeat' (first | (apply Wl.loadF; exact rfl; exact rfl; (intro w' h; exact cell_of h rfl)) | (apply Wl.nilM) | (apply Wl.splitP; exact rfl; exact rfl; all_goals (intros; try (exfalso; omega))) | (apply Wl.splitB; exact rfl; exact rfl; all_goals intros) | (apply St.condP; exact rfl; all_goals (intros; try (exfalso; omega))) | (apply St.condB; exact rfl; all_goals intros))
    apply Mt.back
    refine Mt.pure 5 (by decide +kernel) (by exact rfl) (by exact rfl) (by decide +kernel) (by decide +kernel) ?_
    repeat' (first | (apply Wl.fieldAddrZ; exact rfl; exact rfl) | (apply Wl.nilM) | (apply Wl.splitP; exact rfl; exact rfl; all_goals (intros; try (exfalso; omega))) | (apply Wl.splitB; exact rfl; exact rfl; all_goals intros) | (apply St.condP; exact rfl; all_goals (intros; try (exfalso; omega))) | (apply St.condB; exact rfl; all_goals intros))
    apply Mt.back
    refine Mt.pure 6 (by decide +kernel) (by exact rfl) (by exact rfl) (by decide +kernel) (by decide +kernel) ?_
    repeat' (first | (apply Wl.loadF; exact rfl; exact rfl; (intro w' h; exact cell_of h rfl)) | (apply Wl.nilM) | (apply Wl.splitP; exact rfl; exact rfl; all_goals (intros; try (exfalso; omega))) | (apply Wl.splitB; exact rfl; exact rfl; all_goals intros) | (apply St.condP; exact rfl; all_goals (intros; try (exfalso; omega))) | (apply St.condB; exact rfl; all_goals intros))
    apply Mt.back
    refine Mt.pure 9 (by decide +kernel) (by exact rfl) (by exact rfl) (by decide +kernel) (by decide +kernel) ?_
    repeat' (first | (apply Wl.move; exact rfl; exact rfl) | (apply Wl.nilM) | (apply Wl.splitP; exact rfl; exact rfl; all_goals (intros; try (exfalso; omega))) | (apply Wl.splitB; exact rfl; exact rfl; all_goals intros) | (apply St.condP; exact rfl; all_goals (intros; try (exfalso; omega))) | (apply St.condB; exact rfl; all_goals intros))
    apply Mt.back
    refine Mt.pure 10 (by decide +kernel) (by exact rfl) (by exact rfl) (by decide +kernel) (by decide +kernel) ?_
    repeat' (first | (apply Wl.move; exact rfl; exact rfl) | (apply Wl.nilM) | (apply Wl.splitP; exact rfl; exact rfl; all_goals (intros; try (exfalso; omega))) | (apply Wl.splitB; exact rfl; exact rfl; all_goals intros) | (apply St.condP; exact rfl; all_goals (intros; try (exfalso; omega))) | (apply St.condB; exact rfl; all_goals intros))
    apply Mt.back
    refine Mt.pure 11 (by decide +kernel) (by exact rfl) (by exact rfl) (by decide +kernel) (by decide +kernel) ?_
    repeat' (first | (apply Wl.move; exact rfl; exact rfl) | (apply Wl.nilM) | (apply Wl.splitP; exact rfl; exact rfl; all_goals (intros; try (exfalso; omega))) | (apply Wl.splitB; exact rfl; exact rfl; all_goals intros) | (apply St.condP; exact rfl; all_goals (intros; try (exfalso; omega))) | (apply St.condB; exact rfl; all_goals intros))
    apply Mt.back
    refine Mt.pure 12 (by decide +kernel) (by exact rfl) (by exact rfl) (by decide +kernel) (by decide +kernel) ?_
    repeat' (first | (apply Wl.fieldAddrZ; exact rfl; exact rfl) | (apply Wl.nilM) | (apply Wl.splitP; exact rfl; exact rfl; all_goals (intros; try (exfalso; omega))) | (apply Wl.splitB; exact rfl; exact rfl; all_goals intros) | (apply St.condP; exact rfl; all_goals (intros; try (exfalso; omega))) | (apply St.condB; exact rfl; all_goals intros))
    apply Mt.back
    refine Mt.pure 13 (by decide +kernel) (by exact rfl) (by exact rfl) (by decide +kernel) (by decide +kernel) ?_
    repeat' (first | (apply Wl.loadF; exact rfl; exact rfl; (intro w' h; exact cell_of h rfl)) | (apply Wl.nilM) | (apply Wl.splitP; exact rfl; exact rfl; all_goals (intros; try (exfalso; omega))) | (apply Wl.splitB; exact rfl; exact rfl; all_goals intros) | (apply St.condP; exact rfl; all_goals (intros; try (exfalso; omega))) | (apply St.condB; exact rfl; all_goals intros))
    apply Mt.back
    refine Mt.pure 14 (by decide +kernel) (by exact rfl) (by exact rfl) (by decide +kernel) (by decide +kernel) ?_
    repeat' (first | (apply Wl.convI64; exact rfl; exact rfl; (constructor <;> omega)) | (apply Wl.nilM) | (apply Wl.splitP; exact rfl; exact rfl; all_goals (intros; try (exfalso; omega))) | (apply Wl.splitB; exact rfl; exact rfl; all_goals intros) | (apply St.condP; exact rfl; all_goals (intros; try (exfalso; omega))) | (apply St.condB; exact rfl; all_goals intros))
    apply Mt.back
    refine Mt.eff1 (i := 7) (by decide +kernel) (by exact rfl) ?_
    apply Wl.callC
    · exact rfl
    · (repeat (first | exact Evs.nil | apply Evs.cons rfl))
    intro wq hq
    have hBq := hB.keepP hq hcp
    refine (ftrap cf r x y md tv wq hBq.f).mono ?_
    rintro e w1 ⟨rfl, f1, u1⟩
    have hB1 := hBq.fcall f1 u1 (.inr rfl) (hBq.tv0)
    refine ⟨_, Hp w1 [⟨c, [.int .i64 k, .int .u32 r, .int .u32 x, .int .u32 y, .slice a ln lc], 33⟩], rfl, Hp.rest hq u1 (by simp only [List.mem_singleton, forall_eq]; omega), ?_⟩
    clear hq hBq f1 u1
    repeat' (first | (apply Wl.nil) | (apply Wl.splitP; exact rfl; exact rfl; all_goals (intros; try (exfalso; omega))) | (apply Wl.splitB; exact rfl; exact rfl; all_goals intros) | (apply St.condP; exact rfl; all_goals (intros; try (exfalso; omega))) | (apply St.condB; exact rfl; all_goals intros))
    refine Mt.backE (fun _ h => h.own.1) ?_
    have htv := hB.tv0
    refine Mt.pure 8 (by decide +kernel) (by exact rfl) (by exact rfl) (by decide +kernel) (by decide +kernel) ?_
    repeat' (first | (apply Wl.convI64; exact rfl; exact rfl; (constructor <;> omega)) | (apply Wl.nilM) | (apply Wl.splitP; exact rfl; exact rfl; all_goals (intros; try (exfalso; omega))) | (apply Wl.splitB; exact rfl; exact rfl; all_goals intros) | (apply St.condP; exact rfl; all_goals (intros; try (exfalso; omega))) | (apply St.condB; exact rfl; all_goals intros))
    apply Mt.back
    refine Mt.eff1 (i := 15) (by decide +kernel) (by exact rfl) ?_
    apply Wl.callC
    · exact rfl
    · (repeat (first | exact Evs.nil | apply Evs.cons rfl))
    intro wq hq
    have hBq := hB1.keepP hq hcp
    refine (mtrap cm b n r x y tv wq hr hx hy hBq.m (by omega)).mono ?_
    rintro e w2 ⟨rfl, m1, u1⟩
    have hB2 := hBq.mcall m1 u1
    refine ⟨_, Hp w2 [⟨c, [.int .i64 k, .int .u32 r, .int .u32 x, .int .u32 y, .slice a ln lc], 33⟩], rfl, Hp.rest hq u1 (by simp only [List.mem_singleton, forall_eq]; omega), ?_⟩
    clear hq hBq m1 u1
    repeat' (first | (apply Wl.nil) | (apply Wl.splitP; exact rfl; exact rfl; all_goals (intros; try (exfalso; omega))) | (apply Wl.splitB; exact rfl; exact rfl; all_goals intros) | (apply St.condP; exact rfl; all_goals (intros; try (exfalso; omega))) | (apply St.condB; exact rfl; all_goals intros))
    refine Mt.backE (fun _ h => h.own.1) ?_
    refine Mt.pure 16 (by decide +kernel) (by exact rfl) (by exact rfl) (by decide +kernel) (by decide +kernel) ?_
    repeat' (first | (apply Wl.eqlIs; exact rfl; exact rfl; exact rfl; (first | with_reducible assumption | with_reducible rfl)) | (apply Wl.nilM) | (apply Wl.splitP; exact rfl; exact rfl; all_goals (intros; try (exfalso; omega))) | (apply Wl.splitB; exact rfl; exact rfl; all_goals intros) | (apply St.condP; exact rfl; all_goals (intros; try (exfalso; omega))) | (apply St.condB; exact rfl; all_goals intros))
    apply Mt.back
    refine Mt.pure 17 (by decide +kernel) (by exact rfl) (by exact rfl) (by decide +kernel) (by decide +kernel) ?_
    repeat' (first | (apply Wl.assign; exact rfl; exact rfl) | (apply Wl.nilM) | (apply Wl.splitP; exact rfl; exact rfl; all_goals (intros; try (exfalso; omega))) | (apply Wl.splitB; exact rfl; exact rfl; all_goals intros) | (apply St.condP; exact rfl; all_goals (intros; try (exfalso; omega))) | (apply St.condB; exact rfl; all_goals intros))
    apply Mt.back
    refine Mt.toGt (by decide +kernel) ?_
    repeat' (first | (apply St.ret) | (apply Gt.next) | (apply Gt.thenRet) | (apply Gt.inRet) | (apply Gt.out1; exact rfl; exact rfl; intro w' hp) | (apply Wl.splitP; exact rfl; exact rfl; all_goals (intros; try (exfalso; omega))) | (apply Wl.splitB; exact rfl; exact rfl; all_goals intros) | (apply St.condP; exact rfl; all_goals (intros; try (exfalso; omega))) | (apply St.condB; exact rfl; all_goals intros))
    exact ⟨rfl, _, _, (hB2.keepP hp hcp).le (by omega)⟩
  · apply Wl.callC
    · exact rfl
    · (repeat (first | exact Evs.nil | apply Evs.cons rfl))
    intro wq hq
    have hBq := hB.keepP hq hcp
    refine (fprotect cf ln lc a md tv w0 wq hBq.f hBq.u hBq.c0 hS).mono ?_
    rintro e w1 ⟨rfl, f1, u1⟩
    have hB1 := hBq.fcall f1 u1 hBq.mode (hBq.tv0)
    refine ⟨_, Hp w1 [⟨c, [.int .i64 k, .int .u32 r, .int .u32 x, .int .u32 y, .slice a ln lc], 33⟩], rfl, Hp.rest hq u1 (by simp only [List.mem_singleton, forall_eq]; omega), ?_⟩
    clear hq hBq f1 u1
    by_cases h16 : 16 < ln
    · rw [if_pos h16]
      repeat' (first | (apply Wl.move; exact rfl; exact rfl) | (apply Wl.assign; exact rfl; exact rfl) | (apply Wl.fieldAddrZ; exact rfl; exact rfl) | (apply Wl.loadH; exact rfl; exact rfl; (repeat (first | exact List.Mem.head _ | apply List.Mem.tail)); exact rfl) | (apply Wl.eqlIs; exact rfl; exact rfl; exact rfl; (first | with_reducible assumption | with_reducible rfl)) | (apply Wl.gtr; exact rfl; exact rfl; exact rfl) | (apply Wl.len; exact rfl; exact rfl) | (apply Wl.nil) | (apply St.seq) | (apply St.region) | (apply St.ret) | (apply Gt.next) | (apply Gt.thenRet) | (apply Gt.inRet) | (apply Gt.out1; exact rfl; exact rfl; intro w' hp) | (apply Wl.splitP; exact rfl; exact rfl; all_goals (intros; try (exfalso; omega))) | (apply Wl.splitB; exact rfl; exact rfl; all_goals intros) | (apply St.condP; exact rfl; all_goals (intros; try (exfalso; omega))) | (apply St.condB; exact rfl; all_goals intros))
      exact ⟨rfl, _, _, (hB1.keepP hp hcp).le (by omega)⟩
    rw [if_neg h16]
    repeat' (first | (apply Wl.move; exact rfl; exact rfl) | (apply Wl.assign; exact rfl; exact rfl) | (apply Wl.fieldAddrZ; exact rfl; exact rfl) | (apply Wl.loadH; exact rfl; exact rfl; (repeat (first | exact List.Mem.head _ | apply List.Mem.tail)); exact rfl) | (apply Wl.gtr; exact rfl; exact rfl; exact rfl) | (apply Wl.len; exact rfl; exact rfl) | (apply Wl.nil) | (apply St.seq) | (apply St.region) | (apply St.skip) | (apply Gt.next) | (apply Wl.splitP; exact rfl; exact rfl; all_goals (intros; try (exfalso; omega))) | (apply Wl.splitB; exact rfl; exact rfl; all_goals intros) | (apply St.condP; exact rfl; all_goals (intros; try (exfalso; omega))) | (apply St.condB; exact rfl; all_goals intros))
    apply Wl.callC
    · exact rfl
    · (repeat (first | exact Evs.nil | apply Evs.cons rfl))
    intro wq hq
    have hBq := hB1.keepP hq hcp
    refine (mprotect cm b n ln lc a tv w0 wq hBq.m (by omega) hBq.u hBq.m0 hBq.b0 hS).mono ?_
    rintro e w2 ⟨rfl, m1, u1⟩
    have hB2 := hBq.mcall m1 u1
    refine ⟨_, Hp w2 [⟨c, [.int .i64 k, .int .u32 r, .int .u32 x, .int .u32 y, .slice a ln lc], 33⟩], rfl, Hp.rest hq u1 (by simp only [List.mem_singleton, forall_eq]; omega), ?_⟩
    clear hq hBq m1 u1
    repeat' (first | (apply Wl.move; exact rfl; exact rfl) | (apply Wl.assign; exact rfl; exact rfl) | (apply Wl.eqlIs; exact rfl; exact rfl; exact rfl; (first | with_reducible assumption | with_reducible rfl)) | (apply Wl.nil) | (apply St.seq) | (apply St.region) | (apply St.ret) | (apply Gt.next) | (apply Gt.thenRet) | (apply Gt.inRet) | (apply Gt.out1; exact rfl; exact rfl; intro w' hp) | (apply Wl.splitP; exact rfl; exact rfl; all_goals (intros; try (exfalso; omega))) | (apply Wl.splitB; exact rfl; exact rfl; all_goals intros) | (apply St.condP; exact rfl; all_goals (intros; try (exfalso; omega))) | (apply St.condB; exact rfl; all_goals intros))
    exact ⟨rfl, _, _, (hB2.keepP hp hcp).le (by omega)⟩
  · apply Wl.callC
    · exact rfl
    · (repeat (first | exact Evs.nil | apply Evs.cons rfl))
    intro wq hq
    have hBq := hB.keepP hq hcp
    refine (ftick cf _ md tv wq hBq.f).mono ?_
    rintro e w1 ⟨rfl, f1, u1⟩
    have hB1 := hBq.fcall f1 u1 hBq.mode (hBq.tv0)
    refine ⟨_, Hp w1 [⟨c, [.int .i64 k, .int .u32 r, .int .u32 x, .int .u32 y, .slice a ln lc], 33⟩], rfl, Hp.rest hq u1 (by simp only [List.mem_singleton, forall_eq]; omega), ?_⟩
    clear hq hBq f1 u1
    repeat' (first | (apply Wl.move; exact rfl; exact rfl) | (apply Wl.fieldAddrZ; exact rfl; exact rfl) | (apply Wl.loadH; exact rfl; exact rfl; (repeat (first | exact List.Mem.head _ | apply List.Mem.tail)); exact rfl) | (apply Wl.eql; exact rfl; exact rfl; exact rfl) | (apply Wl.and; exact rfl; exact rfl; exact rfl) | (apply Wl.nil) | (apply St.region) | (apply Gt.next) | (apply Wl.splitP; exact rfl; exact rfl; all_goals (intros; try (exfalso; omega))) | (apply Wl.splitB; exact rfl; exact rfl; all_goals intros) | (apply St.condP; exact rfl; all_goals (intros; try (exfalso; omega))) | (apply St.condB; exact rfl; all_goals intros))
    apply Wl.callC
    · exact rfl
    · (repeat (first | exact Evs.nil | apply Evs.cons rfl))
    intro wq hq
    have hBq := hB1.keepP hq hcp
    refine (mtick cm b n _ tv wq hBq.m).mono ?_
    rintro e w2 ⟨rfl, m1, u1⟩
    have hB2 := hBq.mcall m1 u1
    refine ⟨_, Hp w2 [⟨c, [.int .i64 k, .int .u32 r, .int .u32 x, .int .u32 y, .slice a ln lc], 33⟩], rfl, Hp.rest hq u1 (by simp only [List.mem_singleton, forall_eq]; omega), ?_⟩
    clear hq hBq m1 u1
    repeat' (first | (apply Wl.assign; exact rfl; exact rfl) | (apply Wl.nil) | (apply St.seq) | (apply St.region) | (apply St.ret) | (apply Gt.next) | (apply Gt.inNormal) | (apply Gt.out1; exact rfl; exact rfl; intro w' hp) | (apply Wl.splitP; exact rfl; exact rfl; all_goals (intros; try (exfalso; omega))) | (apply Wl.splitB; exact rfl; exact rfl; all_goals intros) | (apply St.condP; exact rfl; all_goals (intros; try (exfalso; omega))) | (apply St.condB; exact rfl; all_goals intros))
    exact ⟨rfl, _, _, (hB2.keepP hp hcp).le (by omega)⟩
  · exact ⟨rfl, _, _, (hB.keepP hp hcp).le (by omega)⟩
end Go.Proofs.YtahgpfjkmcaeaaaDoor
