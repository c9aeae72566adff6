/-
  The laws ElfParts, ElfSafe, ElfEnds: their walks. Conditions: a part's bytes are no more than a machine holds.
-/
import Derived.Test.YthdojhldiinkcaaReads08
import Derived.Test.YthdojhldiinkcaaParts
import Derived.Test.YthdojhldiinkcaaApp
namespace Go.Proofs.Ythdojhldiinkcaa
open Go.RowKit Go.Pt

theorem Made.size {entry : Nat} {hs : List Hd} {ds : List (List UInt8)} (h : Made hs ds) : 52 ≤ (fileB entry hs ds).length ∧ (fileB entry hs ds).length ≤ 3000 := by
  have htf : (topL entry hs.length).flatten.length = 52 := by simp [topL, leB_length, elfIdent]
  have hrf := rows_flat hs ds hs.length
  have := h.small
  have := h.few
  unfold fileB fileL
  rw [List.flatten_append, List.flatten_append, List.length_append, List.length_append, htf, hrf]
  omega
theorem fileB_entry (entry : Nat) (hs : List Hd) (ds : List (List UInt8)) : num (fileB entry hs ds) 24 4 = entry % 4294967296 := by
  have : (fileL entry hs ds)[4]? = some (leB 4 entry) := by simp [fileL, topL]
  exact (num_piece (i := 4) (n := 4) (y := entry) this (by simp [fileL, topL, leB_length, elfIdent])).trans rfl
theorem Parts'.upd {w w' : World} {v : Value} {ps : List Part} (h : Parts' w v ps) (u : Ext w w') : Parts' w' v ps :=
  ⟨Sv.upd h.1 u fun _ _ _ _ y => y, fun p hp => ⟨(h.2 p hp).1.upd u fun _ _ _ _ y => y, (h.2 p hp).2⟩⟩

theorem parts08 (entry : Nat) (v : Value) (ps : List Part) (w : World) (he : entry ≤ 4294967295) (hv : Parts' w v ps) :
    Calls Try.prog 7 #[.int .u32 entry, v] w fun e w' => e = .returned (.bool true) ∧ Hp w [] w' := by
  refine enter (args := [_, _]) (Γ := [(0, _), (1, _)]) Try.func7 Try.ntmps7 rfl (of_decide_eq_true rfl) (.cons rfl (.cons rfl .nil)) ?_
  repeat' (first | (apply Wl.assign; exact rfl; exact rfl) | (apply Wl.nil) | (apply St.seq) | (apply St.region) | (apply Gt.next) | (apply Wl.splitP; exact rfl; exact rfl; all_goals (intros; try (exfalso; omega))) | (apply Wl.splitB; exact rfl; exact rfl; all_goals intros) | (apply St.condP; exact rfl; all_goals (intros; try (exfalso; omega))) | (apply St.condB; exact rfl; all_goals intros))
  apply Wl.callQ
  exact rfl
  (repeat (first | exact Evs.nil | apply Evs.cons rfl))
  · intro wq hq
    exact (fit_any wq).mono fun e w' ⟨h1, h2⟩ => ⟨h1, hq.keep (hp_of h2)⟩
  repeat' (first | (apply Wl.move; exact rfl; exact rfl) | (apply Wl.not; exact rfl; exact rfl) | (apply Wl.nil) | (apply St.seq) | (apply St.region) | (apply St.condF; exact rfl; (first | rfl | assumption)) | (apply St.skip) | (apply Gt.next) | (apply Wl.splitP; exact rfl; exact rfl; all_goals (intros; try (exfalso; omega))) | (apply Wl.splitB; exact rfl; exact rfl; all_goals intros) | (apply St.condP; exact rfl; all_goals (intros; try (exfalso; omega))) | (apply St.condB; exact rfl; all_goals intros))
  apply Wl.call
  exact rfl
  (repeat (first | exact Evs.nil | apply Evs.cons rfl))
  intro w1 h1
  refine (fileP_any entry _ ps w1 he (hv.upd h1.ext)).mono ?_
  rintro e w2 ⟨u2, rfl | ⟨v', hs, ds, rfl, hmade, hb⟩⟩
  · refine ⟨_, rfl, ?_⟩
    repeat' (first | (apply Wl.eqlSZ; exact rfl; exact rfl; exact rfl) | (apply Wl.move; exact rfl; exact rfl) | (apply Wl.assign; exact rfl; exact rfl) | (apply Wl.off; exact rfl; exact rfl; exact rfl; (first | rfl | assumption)) | (apply Wl.pickT; exact rfl; exact rfl; (first | rfl | assumption); exact rfl) | (apply Wl.nil) | (apply St.seq) | (apply St.region) | (apply St.ret) | (apply Gt.next) | (apply Gt.out1; exact rfl; exact rfl; intro w' hp) | (apply Wl.splitP; exact rfl; exact rfl; all_goals (intros; try (exfalso; omega))) | (apply Wl.splitB; exact rfl; exact rfl; all_goals intros) | (apply St.condP; exact rfl; all_goals (intros; try (exfalso; omega))) | (apply St.condB; exact rfl; all_goals intros))
    exact ⟨rfl, hp_of ((bag_call h1 u2 hp).mono fun _ _ y => y.elim)⟩
  · refine ⟨_, rfl, ?_⟩
    have hsz := hmade.size (entry := entry)
    obtain ⟨a, c, rfl, _, _⟩ := hb.shape
    obtain ⟨b, o, rfl, _⟩ := hb.bs.cells (fun e => by rw [e] at hsz; simp at hsz)
    repeat' (first | (apply Wl.eqlSN; exact rfl; exact rfl; exact rfl) | (apply Wl.move; exact rfl; exact rfl) | (apply Wl.assign; exact rfl; exact rfl) | (apply Wl.on; exact rfl; exact rfl; (first | rfl | assumption)) | (apply Wl.nil) | (apply St.seq) | (apply St.region) | (apply Gt.next) | (apply Wl.splitP; exact rfl; exact rfl; all_goals (intros; try (exfalso; omega))) | (apply Wl.splitB; exact rfl; exact rfl; all_goals intros) | (apply St.condP; exact rfl; all_goals (intros; try (exfalso; omega))) | (apply St.condB; exact rfl; all_goals intros))
    apply Wl.callQ
    exact rfl
    (repeat (first | exact Evs.nil | apply Evs.cons rfl))
    · intro wq hq
      exact (same_any _ _ wq (hb.bs.upd hq.upd fun _ _ _ _ y => y trivial) hsz.2).mono fun e w' ⟨h1, h2⟩ => ⟨h1, hq.keep (hp_of h2)⟩
    repeat' (first | (apply Wl.assign; exact rfl; exact rfl) | (apply Wl.pickF; exact rfl; exact rfl; (first | rfl | assumption); exact rfl) | (apply Wl.nil) | (apply St.ret) | (apply Gt.next) | (apply Gt.out1; exact rfl; exact rfl; intro w' hp) | (apply Wl.splitP; exact rfl; exact rfl; all_goals (intros; try (exfalso; omega))) | (apply Wl.splitB; exact rfl; exact rfl; all_goals intros) | (apply St.condP; exact rfl; all_goals (intros; try (exfalso; omega))) | (apply St.condB; exact rfl; all_goals intros))
    exact ⟨rfl, hp_of ((bag_call h1 u2 hp).mono fun _ _ y => y.elim)⟩

/-! ### ElfSafe -/
theorem segAt_sorted {f : List UInt8} {A e i : Nat} {l : List Sg} {nd : Nat} {b : Bool} (h : segAt f A e i = some (l, nd, b)) : ∀ j s s', l[j]? = some s → l[j + 1]? = some s' → s.addr + s.size ≤ s'.addr := by
  induction i generalizing l nd b with
  | zero => simp only [segAt, Option.some.injEq, Prod.mk.injEq] at h; obtain ⟨rfl, rfl, rfl⟩ := h; intro j s s' hj; simp at hj
  | succ i ih =>
    cases hs : segAt f A e i with
    | none => simp only [segAt, hs, Option.bind_none] at h; cases h
    | some x =>
      obtain ⟨l', nd', b'⟩ := x
      have hl := ih hs
      by_cases h2 : num f (A + 32 * i) 4 = 2
      · rw [segAt_dyn hs h2] at h; cases h; exact hl
      · by_cases hb : segBad f (A + 32 * i) l'
        · rw [segAt_bad hs h2 hb] at h; cases h
        · rw [segAt_put hs h2 hb] at h
          cases h
          intro j s s' hj hj'
          rcases Nat.lt_or_ge (j + 1) l'.length with hlt | hge
          · rw [List.getElem?_append_left (by omega)] at hj
            rw [List.getElem?_append_left hlt] at hj'
            exact hl j s s' hj hj'
          · have hjl : j + 1 < (l' ++ [sgOf f (A + 32 * i)]).length := (List.getElem?_eq_some_iff.1 hj').1
            rw [List.length_append, List.length_singleton] at hjl
            have he : j + 1 = l'.length := by omega
            rw [List.getElem?_append_left (by omega)] at hj
            rw [he, List.getElem?_append_right (Nat.le_refl _), Nat.sub_self] at hj'
            simp only [List.getElem?_cons_zero, Option.some.injEq] at hj'
            subst hj'
            have hlast : l'.getLast? = some s := by rw [List.getLast?_eq_getElem?, ← he]; exact hj
            exact Nat.le_of_not_lt fun hlt => hb (.inr (.inr (.inr (.inr (.inr (.inr (.inr ⟨s, hlast, hlt⟩)))))))
def segEnt (e : Nat) (s : Sg) : Bool := decide (4 ≤ s.rights) && decide (e % 4 = 0) && decide (s.addr ≤ e) && decide (e + 4 ≤ s.addr + s.size)
theorem segAt_any {f : List UInt8} {A e i : Nat} {l : List Sg} {nd : Nat} {b : Bool} (h : segAt f A e i = some (l, nd, b)) : b = l.any (segEnt e) := by
  induction i generalizing l nd b with
  | zero => simp only [segAt, Option.some.injEq, Prod.mk.injEq] at h; obtain ⟨rfl, rfl, rfl⟩ := h; rfl
  | succ i ih =>
    cases hs : segAt f A e i with
    | none => simp only [segAt, hs, Option.bind_none] at h; cases h
    | some x =>
      obtain ⟨l', nd', b'⟩ := x
      have hl := ih hs
      by_cases h2 : num f (A + 32 * i) 4 = 2
      · rw [segAt_dyn hs h2] at h; cases h; exact hl
      · by_cases hb : segBad f (A + 32 * i) l'
        · rw [segAt_bad hs h2 hb] at h; cases h
        · rw [segAt_put hs h2 hb] at h
          cases h
          rw [List.any_append, ← hl]
          simp only [List.any_cons, List.any_nil, Bool.or_false]
          rfl
theorem SegsOf.small {f : List UInt8} {l : List Sg} {nd : Nat} (hok : okHeads f) (h : SegsOf f l nd) : ∀ s ∈ l, s.bytes.length ≤ s.size := by
  intro s hs
  obtain ⟨_, _, _, _, _, _, j, hj, rfl⟩ := segAt_ok h.1 s hs
  have := (hok.2 j hj).2.2.2
  simp only [sgOf, List.length_take]
  omega
/-- where the segments ahead of i end -/
def endOf (l : List Sg) (i : Nat) : Nat := match i with
  | 0 => 0
  | i + 1 => match l[i]? with
    | some s => s.addr + s.size
    | none => 0
def fnd (e : Nat) (s : Sg) : Bool := decide (4 ≤ s.rights) && (decide (s.addr ≤ e) && decide (e + 4 ≤ s.addr + s.size))

set_option maxHeartbeats 1000000 in
theorem safe08 (entry : Nat) (v : Value) (ps : List Part) (w : World) (he : entry ≤ 4294967295) (hv : Parts' w v ps) :
    Calls Try.prog 9 #[.int .u32 entry, v] w fun e w' => e = .returned (.bool true) ∧ Hp w [] w' := by
  refine enter (args := [_, _]) (Γ := [(0, _), (1, _)]) Try.func9 Try.ntmps9 rfl (of_decide_eq_true rfl) (.cons rfl (.cons rfl .nil)) ?_
  repeat' (first | (apply Wl.assign; exact rfl; exact rfl) | (apply Wl.nil) | (apply St.seq) | (apply St.region) | (apply Gt.next) | (apply Wl.splitP; exact rfl; exact rfl; all_goals (intros; try (exfalso; omega))) | (apply Wl.splitB; exact rfl; exact rfl; all_goals intros) | (apply St.condP; exact rfl; all_goals (intros; try (exfalso; omega))) | (apply St.condB; exact rfl; all_goals intros))
  apply Wl.callQ
  exact rfl
  (repeat (first | exact Evs.nil | apply Evs.cons rfl))
  · intro wq hq
    exact (fit_any wq).mono fun e w' ⟨h1, h2⟩ => ⟨h1, hq.keep (hp_of h2)⟩
  repeat' (first | (apply Wl.move; exact rfl; exact rfl) | (apply Wl.not; exact rfl; exact rfl) | (apply Wl.nil) | (apply St.seq) | (apply St.region) | (apply St.condF; exact rfl; (first | rfl | assumption)) | (apply St.skip) | (apply Gt.next) | (apply Wl.splitP; exact rfl; exact rfl; all_goals (intros; try (exfalso; omega))) | (apply Wl.splitB; exact rfl; exact rfl; all_goals intros) | (apply St.condP; exact rfl; all_goals (intros; try (exfalso; omega))) | (apply St.condB; exact rfl; all_goals intros))
  apply Wl.call
  exact rfl
  (repeat (first | exact Evs.nil | apply Evs.cons rfl))
  intro w1 h1
  refine (fileP_any entry _ ps w1 he (hv.upd h1.ext)).mono ?_
  rintro e w2 ⟨u2, rfl | ⟨v', hs, ds, rfl, hmade, hb⟩⟩
  · refine ⟨_, rfl, ?_⟩
    repeat' (first | (apply Wl.eqlSZ; exact rfl; exact rfl; exact rfl) | (apply Wl.move; exact rfl; exact rfl) | (apply Wl.assign; exact rfl; exact rfl) | (apply Wl.nil) | (apply St.seq) | (apply St.region) | (apply St.condT; exact rfl; (first | rfl | assumption)) | (apply St.ret) | (apply Gt.next) | (apply Gt.thenRet) | (apply Gt.out1; exact rfl; exact rfl; intro w' hp) | (apply Wl.splitP; exact rfl; exact rfl; all_goals (intros; try (exfalso; omega))) | (apply Wl.splitB; exact rfl; exact rfl; all_goals intros) | (apply St.condP; exact rfl; all_goals (intros; try (exfalso; omega))) | (apply St.condB; exact rfl; all_goals intros))
    exact ⟨rfl, hp_of ((bag_call h1 u2 hp).mono fun _ _ y => y.elim)⟩
  refine ⟨_, rfl, ?_⟩
  have hsz := hmade.size (entry := entry)
  have hent := fileB_entry entry hs ds
  rw [Nat.mod_eq_of_lt (by omega)] at hent
  obtain ⟨a, c, rfl, _, _⟩ := hb.shape
  obtain ⟨b, o, rfl, _⟩ := hb.bs.cells (fun e => by rw [e] at hsz; simp at hsz)
  have e2 : Ext w w2 := Ext.trans _ _ _ h1.ext (u2.mono fun k hk y => by omega)
  repeat' (first | (apply Wl.eqlSN; exact rfl; exact rfl; exact rfl) | (apply Wl.move; exact rfl; exact rfl) | (apply Wl.assign; exact rfl; exact rfl) | (apply Wl.nil) | (apply St.seq) | (apply St.region) | (apply St.condF; exact rfl; (first | rfl | assumption)) | (apply St.skip) | (apply Gt.next) | (apply Wl.splitP; exact rfl; exact rfl; all_goals (intros; try (exfalso; omega))) | (apply Wl.splitB; exact rfl; exact rfl; all_goals intros) | (apply St.condP; exact rfl; all_goals (intros; try (exfalso; omega))) | (apply St.condB; exact rfl; all_goals intros))
  apply Wl.call
  exact rfl
  (repeat (first | exact Evs.nil | apply Evs.cons rfl))
  intro w3 h3
  refine (segs_any _ _ w3 (hb.bs.upd h3.upd fun _ _ _ _ y => y trivial) hsz.2).mono ?_
  rintro e w4 ⟨u4, ⟨_, rfl⟩ | ⟨_, _, rfl⟩ | ⟨hok, l, nd, vs, ad, cd, hseg, rfl, xs, hxs, hsv, hbs⟩⟩
  · refine ⟨_, rfl, ?_⟩
    repeat' (first | (apply Wl.move; exact rfl; exact rfl) | (apply Wl.assign; exact rfl; exact rfl) | (apply Wl.on; exact rfl; exact rfl; (first | rfl | assumption)) | (apply Wl.extract; exact rfl; exact rfl; exact rfl) | (apply Wl.pickT; exact rfl; exact rfl; (first | rfl | assumption); exact rfl) | (apply Wl.eqlIs; exact rfl; exact rfl; exact rfl; (first | assumption | with_reducible rfl)) | (apply Wl.eql; exact rfl; exact rfl; exact rfl) | (apply Wl.neq; exact rfl; exact rfl; exact rfl) | (apply Wl.len; exact rfl; exact rfl) | (apply Wl.nil) | (apply St.seq) | (apply St.region) | (apply St.condT; exact rfl; (first | rfl | assumption)) | (apply St.ret) | (apply Gt.next) | (apply Gt.thenRet) | (apply Gt.out1; exact rfl; exact rfl; intro w' hp) | (apply Wl.splitP; exact rfl; exact rfl; all_goals (intros; try (exfalso; omega))) | (apply Wl.splitB; exact rfl; exact rfl; all_goals intros) | (apply St.condP; exact rfl; all_goals (intros; try (exfalso; omega))) | (apply St.condB; exact rfl; all_goals intros))
    exact ⟨rfl, hp_of ((Ext.trans _ _ _ e2 (bag_call h3 u4 hp)).mono fun _ _ y => y.elim)⟩
  · refine ⟨_, rfl, ?_⟩
    repeat' (first | (apply Wl.move; exact rfl; exact rfl) | (apply Wl.assign; exact rfl; exact rfl) | (apply Wl.on; exact rfl; exact rfl; (first | rfl | assumption)) | (apply Wl.extract; exact rfl; exact rfl; exact rfl) | (apply Wl.pickT; exact rfl; exact rfl; (first | rfl | assumption); exact rfl) | (apply Wl.eqlIs; exact rfl; exact rfl; exact rfl; (first | assumption | with_reducible rfl)) | (apply Wl.eql; exact rfl; exact rfl; exact rfl) | (apply Wl.neq; exact rfl; exact rfl; exact rfl) | (apply Wl.len; exact rfl; exact rfl) | (apply Wl.nil) | (apply St.seq) | (apply St.region) | (apply St.condT; exact rfl; (first | rfl | assumption)) | (apply St.ret) | (apply Gt.next) | (apply Gt.thenRet) | (apply Gt.out1; exact rfl; exact rfl; intro w' hp) | (apply Wl.splitP; exact rfl; exact rfl; all_goals (intros; try (exfalso; omega))) | (apply Wl.splitB; exact rfl; exact rfl; all_goals intros) | (apply St.condP; exact rfl; all_goals (intros; try (exfalso; omega))) | (apply St.condB; exact rfl; all_goals intros))
    exact ⟨rfl, hp_of ((Ext.trans _ _ _ e2 (bag_call h3 u4 hp)).mono fun _ _ y => y.elim)⟩
  refine ⟨_, rfl, ?_⟩
  have e4 : Ext w w4 := Ext.trans _ _ _ e2 (Ext.trans _ _ _ h3.ext (u4.mono fun k hk y => by omega))
  have hsort := segAt_sorted hseg.1
  have hany := segAt_any hseg.1
  have hall := segAt_ok hseg.1
  have hlen := (segAt_len hseg.1).1
  have hsm := hseg.small hok
  rw [hent] at hany
  rw [hent]
  have hE4 : (entry : Int).tmod 4 = 0 := by
    obtain ⟨s, _, hs⟩ := List.any_eq_true.1 hany.symm
    unfold segEnt at hs
    simp only [Bool.and_eq_true, decide_eq_true_eq] at hs
    exact congrArg Nat.cast hs.1.1.2
  have hfound : l.any (fnd entry) = true := by
    obtain ⟨s, h1, hs⟩ := List.any_eq_true.1 hany.symm
    refine List.any_eq_true.2 ⟨s, h1, ?_⟩
    unfold segEnt at hs
    unfold fnd
    simp only [Bool.and_eq_true, decide_eq_true_eq] at hs ⊢
    exact ⟨hs.1.1.1, hs.1.2, hs.2⟩
  have hend : ∀ i, endOf l i ≤ 4294967292 := fun i => by
    unfold endOf
    split
    · omega
    · split
      · rename_i s hs
        exact (hall s (List.mem_of_getElem? hs)).2.2.2.1
      · omega
  obtain ⟨_, al, cl, rfl, hlc1, hlc2, _, hlcell⟩ := hsv
  have hll : xs.length = l.length := by rw [← hxs, List.length_map]
  repeat' (first | (apply Wl.move; exact rfl; exact rfl) | (apply Wl.assign; exact rfl; exact rfl) | (apply Wl.extract; exact rfl; exact rfl; exact rfl) | (apply Wl.neqIs; exact rfl; exact rfl; exact rfl; (first | assumption | with_reducible rfl)) | (apply Wl.len; exact rfl; exact rfl) | (apply Wl.nil) | (apply St.seq) | (apply St.block) | (apply St.region) | (apply St.condF; exact rfl; (first | rfl | assumption)) | (apply St.skip) | (apply Gt.next) | (apply Wl.splitP; exact rfl; exact rfl; all_goals (intros; try (exfalso; omega))) | (apply Wl.splitB; exact rfl; exact rfl; all_goals intros) | (apply St.condP; exact rfl; all_goals (intros; try (exfalso; omega))) | (apply St.condB; exact rfl; all_goals intros))
  refine St.loop (σ := Nat)
    (fun i => i ≤ xs.length)
    (fun i => [(0, .int .u32 entry), (6, .int .u32 entry), (7, .slice al xs.length cl), (10, .int .u64 (endOf l i)), (11, .bool ((l.take i).any (fnd entry))), (37, .slice al xs.length cl), (38, .int .i64 xs.length), (39, .int .i64 i)])
    (fun _ => Hp w4 [])
    (fun i => xs.length - i) 0 (Nat.zero_le _) (by (repeat (first | exact Sub.nil | apply Sub.cons rfl))) (fun _ h => h) ?_
  intro i hin
  by_cases hlt : i < xs.length
  · obtain ⟨g, og, rfl, hgc⟩ := hlcell (fun e => by cases xs with | nil => simp at hlt | cons x r => simp [sgP] at e)
    obtain ⟨x, hx⟩ : ∃ x, xs[i]? = some x := ⟨_, List.getElem?_eq_getElem hlt⟩
    have hbx := hbs x (List.mem_of_getElem? hx)
    obtain ⟨s, y⟩ := x
    simp only at hbx
    obtain ⟨ax, cx, rfl, _, _⟩ := hbx.shape
    have hli : l[i]? = some s := by rw [← hxs, List.getElem?_map, hx]; rfl
    have hce : ∀ j v, [Value.int .u32 s.addr, .slice ax s.bytes.length cx, .int .u32 s.size, .int .i64 s.rights][j]? = some v → w4.cell? ⟨g, og + (i : Int).toNat * 4 + j, none⟩ = some v := by
      intro j v hj
      have hj4 : j < 4 := (List.getElem?_eq_some_iff.1 hj).1
      have hj' : (sgP (s, .slice ax s.bytes.length cx))[j]? = some v := hj
      rw [← flat4 (g := sgP) (fun _ => rfl) hx hj4] at hj'
      obtain ⟨h1, h2⟩ := List.getElem?_eq_some_iff.1 hj'
      have := hgc _ h1
      rw [h2] at this
      rw [show og + (i : Int).toNat * 4 + j = og + (i * 4 + j) by omega]
      exact this
    obtain ⟨q1, q2, q3, q4, q5, q6, _⟩ := hall s (List.mem_of_getElem? hli)
    have q7 := hsm s (List.mem_of_getElem? hli)
    have q8 : endOf l i ≤ s.addr := by
      unfold endOf
      split
      · omega
      · rename_i k
        split
        · rename_i s' hs'
          exact hsort k s' s hs' hli
        · omega
    have q9 : ¬ bits .and .i64 (s.rights : Int) 6 = 6 := fun e => by have := (and6 _ (by omega)).1 e; omega
    have t1 : (s.addr : Int).tmod 4 = 0 := congrArg Nat.cast q2
    have t2 : (s.size : Int).tmod 4 = 0 := congrArg Nat.cast q3
    have hend' : endOf l (i + 1) = s.addr + s.size := by simp only [endOf, hli]
    have hfd : (l.take (i + 1)).any (fnd entry) = ((l.take i).any (fnd entry) || fnd entry s) := by rw [List.take_add_one, hli]; simp
    have b4 := and4 s.rights (by omega)
    repeat' (first | (apply Wl.loadAO; exact rfl; exact rfl; exact hce; exact trivial; exact rfl) | (apply Wl.move; exact rfl; exact rfl) | (apply Wl.assign; exact rfl; exact rfl) | (apply Wl.on; exact rfl; exact rfl; (first | rfl | assumption)) | (apply Wl.off; exact rfl; exact rfl; exact rfl; (first | rfl | assumption)) | (apply Wl.offU; exact rfl; exact rfl; exact rfl) | (apply Wl.pickT; exact rfl; exact rfl; (first | rfl | assumption); exact rfl) | (apply Wl.pickF; exact rfl; exact rfl; (first | rfl | assumption); exact rfl) | (apply Wl.fieldAddr0; exact rfl; exact rfl) | (apply Wl.fieldAddrZ; exact rfl; exact rfl) | (apply Wl.loadH; exact rfl; exact rfl; (repeat (first | exact List.Mem.head _ | apply List.Mem.tail)); exact rfl) | (apply Wl.eql; exact rfl; exact rfl; exact rfl) | (apply Wl.neq; exact rfl; exact rfl; exact rfl) | (apply Wl.lss; exact rfl; exact rfl; exact rfl) | (apply Wl.leq; exact rfl; exact rfl; exact rfl) | (apply Wl.gtr; exact rfl; exact rfl; exact rfl) | (apply Wl.geq; exact rfl; exact rfl; exact rfl) | (apply Wl.addI; exact rfl; exact rfl; exact rfl; (constructor <;> omega)) | (apply Wl.addU; exact rfl; exact rfl; exact rfl; (constructor <;> omega)) | (apply Wl.add; exact rfl; exact rfl; exact rfl) | (apply Wl.rem; exact rfl; exact rfl; exact rfl; (first | decide | omega)) | (apply Wl.and; exact rfl; exact rfl; exact rfl) | (apply Wl.convI64; exact rfl; exact rfl; (constructor <;> omega)) | (apply Wl.convU64; exact rfl; exact rfl; (constructor <;> omega)) | (apply Wl.len; exact rfl; exact rfl) | (apply Wl.storeA; exact rfl; exact rfl; exact rfl; exact rfl; (repeat (first | apply HSet.here | apply HSet.there)); (repeat (first | apply LPut.s | apply LPut.z | apply LOver.nil | apply LOver.cons))) | (apply Wl.alloc; exact rfl; intro c hc ho) | (apply Wl.indexAddr; exact rfl; exact rfl; exact rfl; (constructor <;> omega)) | (apply Wl.nil) | (apply St.seq) | (apply St.block) | (apply St.region) | (apply St.condT; exact rfl; (first | rfl | assumption)) | (apply St.ret) | (apply St.skip) | (apply Gt.next) | (apply Gt.thenRet) | (apply Gt.inNormal) | (apply Gt.inRet) | (apply Gt.out1; exact rfl; exact rfl; intro w' hp) | (apply Wl.splitP; exact rfl; exact rfl; all_goals (intros; try (exfalso; omega))) | (apply Wl.splitB; exact rfl; exact rfl; all_goals intros) | (apply St.condP; exact rfl; all_goals (intros; try (exfalso; omega))) | (apply St.condB; exact rfl; all_goals intros))
    · rename_i hne _
      exact (hne (by rw [t1, t2]; rfl)).elim
    · apply Gt.round (i + 1)
      · exact hlt
      · omega
      · refine .cons rfl (.cons rfl (.cons rfl (.cons' rfl ?_ (.cons' rfl (congrArg Value.bool ?_) (.cons rfl (.cons rfl (.cons rfl .nil)))))))
        · rw [hend']; rfl
        · rw [hfd, ‹(l.take i).any (fnd entry) = true›]
          rfl
      · exact fun u hu => hu.drop (by simp; omega)
    · apply Gt.round (i + 1)
      · exact hlt
      · omega
      · refine .cons rfl (.cons rfl (.cons rfl (.cons' rfl ?_ (.cons' rfl (congrArg Value.bool ?_) (.cons rfl (.cons rfl (.cons rfl .nil)))))))
        · rw [hend']; rfl
        · rw [hfd, ‹(l.take i).any (fnd entry) = false›]
          have h1 : 4 ≤ s.rights := b4.1 ‹_›
          have h2 : s.addr ≤ entry := by omega
          unfold fnd
          simp only [h1, h2, decide_true, Bool.true_and, Bool.false_or]
          rw [Bool.eq_iff_iff]
          simp only [decide_eq_true_eq]
          omega
      · exact fun u hu => hu.drop (by simp; omega)
    · apply Gt.round (i + 1)
      · exact hlt
      · omega
      · refine .cons rfl (.cons rfl (.cons rfl (.cons' rfl ?_ (.cons' rfl (congrArg Value.bool ?_) (.cons rfl (.cons rfl (.cons rfl .nil)))))))
        · rw [hend']; rfl
        · rw [hfd, ‹(l.take i).any (fnd entry) = false›]
          have h2 : ¬ s.addr ≤ entry := by omega
          unfold fnd
          simp only [h2, decide_false, Bool.false_and, Bool.and_false, Bool.or_false]
      · exact fun u hu => hu.drop (by simp; omega)
    · apply Gt.round (i + 1)
      · exact hlt
      · omega
      · refine .cons rfl (.cons rfl (.cons rfl (.cons' rfl ?_ (.cons' rfl (congrArg Value.bool ?_) (.cons rfl (.cons rfl (.cons rfl .nil)))))))
        · rw [hend']; rfl
        · rw [hfd, ‹(l.take i).any (fnd entry) = false›]
          have h1 : ¬ 4 ≤ s.rights := fun e => ‹¬ 0 < bits .and .i64 (s.rights : Int) 4› (b4.2 e)
          unfold fnd
          simp only [h1, decide_false, Bool.false_and, Bool.or_false]
      · exact fun u hu => hu.drop (by simp; omega)
  · have hin' : i = xs.length := by omega
    subst hin'
    rw [hll, List.take_length, hfound]
    have := hend l.length
    repeat' (first | (apply Wl.move; exact rfl; exact rfl) | (apply Wl.assign; exact rfl; exact rfl) | (apply Wl.on; exact rfl; exact rfl; (first | rfl | assumption)) | (apply Wl.pickT; exact rfl; exact rfl; (first | rfl | assumption); exact rfl) | (apply Wl.eqlIs; exact rfl; exact rfl; exact rfl; (first | assumption | with_reducible rfl)) | (apply Wl.lss; exact rfl; exact rfl; exact rfl) | (apply Wl.leq; exact rfl; exact rfl; exact rfl) | (apply Wl.rem; exact rfl; exact rfl; exact rfl; (first | decide | omega)) | (apply Wl.len; exact rfl; exact rfl) | (apply Wl.nil) | (apply St.seq) | (apply St.region) | (apply St.ret) | (apply St.exit) | (apply Gt.next) | (apply Gt.thenExit) | (apply Gt.inExit) | (apply Gt.out1; exact rfl; exact rfl; intro w' hp) | (apply Wl.splitP; exact rfl; exact rfl; all_goals (intros; try (exfalso; omega))) | (apply Wl.splitB; exact rfl; exact rfl; all_goals intros) | (apply St.condP; exact rfl; all_goals (intros; try (exfalso; omega))) | (apply St.condB; exact rfl; all_goals intros))
    exact ⟨by rw [decide_eq_true (show (l.length : Int) ≤ 4 by omega)], hp_of ((Ext.trans _ _ _ e4 hp.ext).mono fun _ _ y => y.elim)⟩

/-! ### ElfEnds -/
theorem Bs.pre {w : World} {a : Option Addr} {n cap k mx : Nat} {l : List UInt8} (h : Bs w (.slice a n cap) l) (h1 : k ≤ l.length) (h2 : k ≤ mx) (h3 : mx ≤ cap) : Bs w (.slice a k mx) (l.take k) := by
  have := h.sub (lo := 0) (hi := k) (mx := mx) (Nat.zero_le _) h1 h2 h3
  rw [List.drop_zero, Nat.sub_zero, Nat.sub_zero, Nat.zero_mul] at this
  have e : (if mx = 0 then a else a.map (·.add 0)) = a := by split <;> cases a <;> simp [Addr.add]
  rw [e] at this
  exact this
set_option maxHeartbeats 1000000 in
theorem ends08 (v : Value) (b : List UInt8) (cut : Int) (w : World) (hv : Bs w v b) (hc : -9223372036854775808 ≤ cut ∧ cut ≤ 9223372036854775807) :
    Calls Try.prog 10 #[v, .int .i64 cut] w fun e w' => e = .returned (.bool true) ∧ Hp w [] w' := by
  obtain ⟨a, cap, rfl, hlc, hm⟩ := hv.shape
  unfold maxLen at hm
  refine enter (args := [_, _]) (Γ := [(0, _), (1, _)]) Try.func10 Try.ntmps10 rfl (of_decide_eq_true rfl) (.cons rfl (.cons rfl .nil)) ?_
  repeat' (first | (apply Wl.assign; exact rfl; exact rfl) | (apply Wl.nil) | (apply St.seq) | (apply St.region) | (apply Gt.next) | (apply Wl.splitP; exact rfl; exact rfl; all_goals (intros; try (exfalso; omega))) | (apply Wl.splitB; exact rfl; exact rfl; all_goals intros) | (apply St.condP; exact rfl; all_goals (intros; try (exfalso; omega))) | (apply St.condB; exact rfl; all_goals intros))
  apply Wl.callQ
  exact rfl
  (repeat (first | exact Evs.nil | apply Evs.cons rfl))
  · intro wq hq
    exact (fit_any wq).mono fun e w' ⟨h1, h2⟩ => ⟨h1, hq.keep (hp_of h2)⟩
  repeat' (first | (apply Wl.move; exact rfl; exact rfl) | (apply Wl.assign; exact rfl; exact rfl) | (apply Wl.on; exact rfl; exact rfl; (first | rfl | assumption)) | (apply Wl.off; exact rfl; exact rfl; exact rfl; (first | rfl | assumption)) | (apply Wl.pickT; exact rfl; exact rfl; (first | rfl | assumption); exact rfl) | (apply Wl.pickF; exact rfl; exact rfl; (first | rfl | assumption); exact rfl) | (apply Wl.not; exact rfl; exact rfl) | (apply Wl.eql; exact rfl; exact rfl; exact rfl) | (apply Wl.gtr; exact rfl; exact rfl; exact rfl) | (apply Wl.len; exact rfl; exact rfl) | (apply Wl.nil) | (apply St.seq) | (apply St.region) | (apply St.condT; exact rfl; (first | rfl | assumption)) | (apply St.condF; exact rfl; (first | rfl | assumption)) | (apply St.ret) | (apply St.skip) | (apply Gt.next) | (apply Gt.thenRet) | (apply Gt.out1; exact rfl; exact rfl; intro w' hp) | (apply Wl.splitP; exact rfl; exact rfl; all_goals (intros; try (exfalso; omega))) | (apply Wl.splitB; exact rfl; exact rfl; all_goals intros) | (apply St.condP; exact rfl; all_goals (intros; try (exfalso; omega))) | (apply St.condB; exact rfl; all_goals intros))
  · exact ⟨rfl, hp⟩
  · exact ⟨rfl, hp⟩
  have hbl : b.length ≤ 1000 := by omega
  apply Wl.call
  exact rfl
  (repeat (first | exact Evs.nil | apply Evs.cons rfl))
  intro w1 h1
  refine (plain_any _ b w1 (hv.upd h1.upd fun _ _ _ _ y => y trivial) (by omega)).mono ?_
  rintro e w2 ⟨v', rfl, hb2, u2⟩
  refine ⟨_, rfl, ?_⟩
  have e2 : Ext w w2 := Ext.trans _ _ _ h1.ext (u2.mono fun k _ y => by omega)
  clear u2 h1
  have hL := pl_len b []
  rw [List.append_nil] at hL
  simp only [List.length_nil, Nat.add_zero] at hL
  have hf := hb2.bs
  clear hb2 w1
  obtain ⟨a2, cap2, rfl, hlc2, hm2⟩ := hf.shape
  unfold maxLen at hm2
  have r1 : -((plainB b).length : Int) < cut.tmod (plainB b).length ∧ cut.tmod (plainB b).length < (plainB b).length := by
    have h0 : (0 : Int) < (plainB b).length := by omega
    refine ⟨?_, Int.tmod_lt_of_pos _ h0⟩
    have := Int.tmod_lt_of_pos (-cut) h0
    rw [Int.neg_tmod] at this
    omega
  have r2 : 0 ≤ (cut.tmod (plainB b).length + (plainB b).length).tmod (plainB b).length ∧ (cut.tmod (plainB b).length + (plainB b).length).tmod (plainB b).length < (plainB b).length := by
    have h0 : (0 : Int) < (plainB b).length := by omega
    exact ⟨Int.tmod_nonneg _ (by omega), Int.tmod_lt_of_pos _ h0⟩
  repeat' (first | (apply Wl.move; exact rfl; exact rfl) | (apply Wl.assign; exact rfl; exact rfl) | (apply Wl.addI; exact rfl; exact rfl; exact rfl; (constructor <;> omega)) | (apply Wl.rem; exact rfl; exact rfl; exact rfl; (first | decide | omega)) | (apply Wl.len; exact rfl; exact rfl) | (apply Wl.slice0; exact rfl; exact rfl; (first | exact BoundIs.no | exact BoundIs.yes rfl (by omega)); (first | exact BoundIs.no | exact BoundIs.yes rfl (by omega)); (first | exact fun _ => rfl | exact fun h => nomatch h); (omega); (omega)) | (apply Wl.nil) | (apply St.seq) | (apply St.region) | (apply Gt.next) | (apply Wl.splitP; exact rfl; exact rfl; all_goals (intros; try (exfalso; omega))) | (apply Wl.splitB; exact rfl; exact rfl; all_goals intros) | (apply St.condP; exact rfl; all_goals (intros; try (exfalso; omega))) | (apply St.condB; exact rfl; all_goals intros))
  generalize hmm : (cut.tmod (plainB b).length + (plainB b).length).tmod (plainB b).length = mi at *
  obtain ⟨m, rfl⟩ := Int.eq_ofNat_of_zero_le r2.1
  have hml : m < (plainB b).length := by omega
  have hno := pl_cut b (by omega) m (by omega)
  simp only [Int.toNat_natCast]
  have hpre := Bs.pre hf (k := m) (mx := cap2) (by omega) (by omega) (Nat.le_refl _)
  apply Wl.call
  exact rfl
  (repeat (first | exact Evs.nil | apply Evs.cons rfl))
  intro w3 h3
  refine (heads_any _ _ w3 (hpre.upd h3.upd fun _ _ _ _ y => y trivial) (by rw [List.length_take]; omega)).mono ?_
  rintro e w4 ⟨u4, ⟨_, rfl⟩ | ⟨hok, _⟩⟩
  rotate_left
  · exact (hno hok).elim
  refine ⟨_, rfl, ?_⟩
  have e4 : Ext w2 w4 := bag_call h3 u4 (Hp.start w4)
  clear u4 h3 w3
  repeat' (first | (apply Wl.move; exact rfl; exact rfl) | (apply Wl.assign; exact rfl; exact rfl) | (apply Wl.extract; exact rfl; exact rfl; exact rfl) | (apply Wl.slice0; exact rfl; exact rfl; (first | exact BoundIs.no | exact BoundIs.yes rfl (by omega)); (first | exact BoundIs.no | exact BoundIs.yes rfl (by omega)); (first | exact fun _ => rfl | exact fun h => nomatch h); (omega); (omega)) | (apply Wl.nil) | (apply St.seq) | (apply St.region) | (apply Gt.next) | (apply Wl.splitP; exact rfl; exact rfl; all_goals (intros; try (exfalso; omega))) | (apply Wl.splitB; exact rfl; exact rfl; all_goals intros) | (apply St.condP; exact rfl; all_goals (intros; try (exfalso; omega))) | (apply St.condB; exact rfl; all_goals intros))
  apply Wl.call
  exact rfl
  (repeat (first | exact Evs.nil | apply Evs.cons rfl))
  intro w5 h5
  refine (segs_any _ _ w5 (hpre.upd (Ext.trans _ _ _ e4 h5.ext) fun _ _ _ _ y => y) (by rw [List.length_take]; omega)).mono ?_
  rintro e w6 ⟨u6, ⟨_, rfl⟩ | ⟨hok, _⟩ | ⟨hok, _⟩⟩
  rotate_left
  · exact (hno hok).elim
  · exact (hno hok).elim
  refine ⟨_, rfl, ?_⟩
  have e6 : Ext w2 w6 := Ext.trans _ _ _ e4 (bag_call h5 u6 (Hp.start w6))
  clear u6 h5 w5 e4 w4
  repeat' (first | (apply Wl.move; exact rfl; exact rfl) | (apply Wl.assign; exact rfl; exact rfl) | (apply Wl.extract; exact rfl; exact rfl; exact rfl) | (apply Wl.len; exact rfl; exact rfl) | (apply Wl.lit; exact rfl; (repeat (first | exact Parts.nil | apply Parts.cons rfl)); exact rfl; exact rfl; (repeat (first | apply CatP.nil | (apply CatP.one; exact rfl; exact rfl) | (apply CatP.agg; exact rfl) | apply LApp.nil | apply LApp.cons)); intro c hc ho) | (apply Wl.slice0; exact rfl; exact rfl; (first | exact BoundIs.no | exact BoundIs.yes rfl (by omega)); (first | exact BoundIs.no | exact BoundIs.yes rfl (by omega)); (first | exact fun _ => rfl | exact fun h => nomatch h); (omega); (omega)) | (apply Wl.nil) | (apply St.seq) | (apply St.region) | (apply Gt.next) | (apply Wl.splitP; exact rfl; exact rfl; all_goals (intros; try (exfalso; omega))) | (apply Wl.splitB; exact rfl; exact rfl; all_goals intros) | (apply St.condP; exact rfl; all_goals (intros; try (exfalso; omega))) | (apply St.condB; exact rfl; all_goals intros))
  have hf6 := hf.upd e6 fun _ _ _ _ y => y
  obtain ⟨g, og, rfl, hgc⟩ := hf6.cells (fun e => by have := congrArg List.length e; rw [List.length_nil] at this; omega)
  apply Wl.appendG (olds := byteCells (plainB b)) (news := [.int .u8 9])
  · exact rfl
  · exact rfl
  · exact rfl
  · simp [byteCells]
  · intro w' hw' j u hj
    obtain ⟨h1, h2⟩ := List.getElem?_eq_some_iff.1 hj
    rw [byteCells_length] at h1
    rw [addLit]
    have := hgc j h1
    refine hw'.old ?_ ⟨fun e => by have e' : c = g := e; have := World.block_lt_of_cell? w6 _ this; simp only at this; omega, trivial⟩
    rw [this, ← h2]
    simp [byteCells]
  · rfl
  · intro w' hw' j u hj
    rw [addLit]
    exact hw'.cell (.head _) (by simpa using hj)
  · omega
  · rfl
  · decide
  · unfold maxLen; omega
  · omega
  intro v7 w7 ho7 h7 hk7
  have hb7 : Bs w7 v7 (plainB b ++ [9]) := by
    have := Sv.ofOwn ho7
    unfold Bs
    rw [List.length_append, List.length_singleton]
    simpa [byteCells] using this
  apply Wl.call
  exact rfl
  (repeat (first | exact Evs.nil | apply Evs.cons rfl))
  intro w8 h8
  have hb8 : Bs w8 v7 (plainB b ++ [9]) := hb7.upd h8.upd fun k hk _ _ y => y (hk7 k hk)
  refine (segs_plain _ _ _ w8 hb8 (by rw [pl_len]; simp; omega) (by omega)).mono ?_
  rintro e w9 ⟨u9, vs, a9, c9, g9, og9, x9, rfl, _⟩
  refine ⟨_, rfl, ?_⟩
  have e8 : Ext w6 w8 := (h7.drop (by simp; omega)).ext.comp h8.upd fun k hk hs => hs.elim id fun y => (y ⟨fun e => by have e' : c = k := e; omega, trivial⟩).elim
  repeat' (first | (apply Wl.move; exact rfl; exact rfl) | (apply Wl.assign; exact rfl; exact rfl) | (apply Wl.on; exact rfl; exact rfl; (first | rfl | assumption)) | (apply Wl.extract; exact rfl; exact rfl; exact rfl) | (apply Wl.pickT; exact rfl; exact rfl; (first | rfl | assumption); exact rfl) | (apply Wl.eqlIs; exact rfl; exact rfl; exact rfl; (first | assumption | with_reducible rfl)) | (apply Wl.nil) | (apply St.seq) | (apply St.region) | (apply St.ret) | (apply Gt.next) | (apply Gt.out1; exact rfl; exact rfl; intro w' hp) | (apply Wl.splitP; exact rfl; exact rfl; all_goals (intros; try (exfalso; omega))) | (apply Wl.splitB; exact rfl; exact rfl; all_goals intros) | (apply St.condP; exact rfl; all_goals (intros; try (exfalso; omega))) | (apply St.condB; exact rfl; all_goals intros))
  have e9 : Ext w8 w' := Ext.trans _ _ _ (u9.mono fun k hk y => by omega) hp.ext
  exact ⟨rfl, hp_of ((Ext.trans _ _ _ (Ext.trans _ _ _ e2 e6) (Ext.trans _ _ _ e8 e9)).mono fun _ _ y => y.elim)⟩
end Go.Proofs.Ythdojhldiinkcaa
