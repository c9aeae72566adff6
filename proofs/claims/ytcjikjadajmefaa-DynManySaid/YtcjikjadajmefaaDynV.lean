/-
  Layer 9: both readers answer alike: porticolaw09.like answers true. Conditions: the file has at most 100000 bytes.
-/
import Derived.Test.YtcjikjadajmefaaDynT
namespace Go.Pt
theorem klStruct {P : Program} {d t : Nat} {fs : Array Field} {cs : List Value} {ps : List (Nat × Nat)} (hu : P.underlying t = some (.struct fs)) (hn : fs.all (·.name != "_") = true) (hp : fs.toList.map (fun f => (f.type, f.offset)) = ps) (hl : cs.length = P.cellsOf t) :
    P.keyLits (d + 1) t cs = (ps.mapM fun p => P.keyLits d p.1 ((cs.drop p.2).take (P.cellsOf p.1))).map List.flatten := by
  simp only [Program.keyLits, hu]
  rw [if_pos ⟨hl, hn⟩]
  subst hp
  rw [List.mapM_map]
  rfl
end Go.Pt
namespace Go.Proofs.Ytcjikjadajmefaa
open Go.RowKit Go.Pt

structure DOk (A : DAns) : Prop where
  e : A.e < 4294967296
  c : A.c ≤ 12
  l : ∀ s ∈ A.l, s.addr + s.size ≤ 4294967292
  sy : ∀ x ∈ A.sy, x < 4294967296
  re : ∀ r ∈ A.re, r.at_ < 4294967296 ∧ r.type < 4294967296 ∧ r.sym < 4294967296 ∧ r.add < 4294967296
theorem rlOf_ok (r : List UInt8) (i : Nat) : (rlOf r i).at_ < 4294967296 ∧ (rlOf r i).type < 4294967296 ∧ (rlOf r i).sym < 4294967296 ∧ (rlOf r i).add < 4294967296 := by
  have h1 := num4 r (12 * i)
  have h2 := num4 r (12 * i + 4)
  have h3 := num4 r (12 * i + 8)
  unfold rlOf
  simp only
  omega
theorem symOf_ok {l : List Sg} {b : List UInt8} {n : Nat} {sy : List Nat} (h : symOf l b n = some sy) : ∀ x ∈ sy, x < 4294967296 := by
  unfold symOf at h
  split at h
  · simp only [Option.some.injEq] at h; subst h; intro x hx; cases hx
  · simp only at h
    split at h
    · cases h
    · simp only [Option.some.injEq] at h
      subst h
      intro x hx
      obtain ⟨i, _, rfl⟩ := List.mem_map.1 hx
      exact num4 _ _
theorem relOf_ok {l : List Sg} {b : List UInt8} {n k : Nat} {re : List Rl} (h : relOf l b n k = some re) : ∀ r ∈ re, r.at_ < 4294967296 ∧ r.type < 4294967296 ∧ r.sym < 4294967296 ∧ r.add < 4294967296 := by
  unfold relOf at h
  split at h
  · split at h
    · simp only [Option.some.injEq] at h; subst h; intro x hx; cases hx
    · cases h
  · simp only at h
    split at h
    · cases h
    · simp only [Option.some.injEq] at h
      subst h
      intro x hx
      obtain ⟨i, _, rfl⟩ := List.mem_map.1 hx
      exact rlOf_ok _ _
theorem dynAns_ok (f : List UInt8) : DOk (dynAns f) := by
  have h1 := segAns_lt f
  have h2 := fun s hs => (segAns_in f s hs).1.2
  unfold dynAns
  split
  · exact ⟨by simp only; omega, by simp only; omega, fun s hs => (by cases hs), fun s hs => (by cases hs), fun s hs => (by cases hs)⟩
  · split
    · exact ⟨by simp only; omega, by simp only; omega, h2, fun s hs => (by cases hs), fun s hs => (by cases hs)⟩
    · split
      · exact ⟨by decide, by decide, fun s hs => (by cases hs), fun s hs => (by cases hs), fun s hs => (by cases hs)⟩
      · rename_i p hp
        unfold dynTab at hp
        simp only at hp
        split at hp
        · cases hp
        · split at hp
          · cases hp
          · split at hp
            · cases hp
            · split at hp
              · cases hp
              · rename_i _ sy hsy _ re hre
                simp only [Option.some.injEq] at hp
                subst hp
                exact ⟨by simp only; omega, by simp only; omega, h2, symOf_ok hsy, relOf_ok hre⟩
section
variable {md : Md} {N : Nat} {ops : Array Oper} {rest : List Oper} {Γ : Env} {C : World → Prop} {Q : Exit → Act → World → Prop} {d : Nat} {ty : TypeId} {pos : String} {af : Array Edge} {x y : Operand} {u : TypeId}
theorem run_rel (w : World) (p : Rl) (hp : p.at_ < 4294967296 ∧ p.type < 4294967296 ∧ p.sym < 4294967296 ∧ p.add < 4294967296) : (binOp .neq 62 (.agg (rlR p).toArray) (.agg (rlR p).toArray)).run Try.prog w = .ok (.bool false) w := by
  have hfs : ∃ fs, Try.prog.underlying 62 = some (.struct fs) ∧ fs.all (·.name != "_") = true ∧ fs.toList.map (fun f => (f.type, f.offset)) = [(3, 0), (3, 1), (3, 2), (3, 3)] := ⟨Try.prog.fieldsOf 62, by kernel_rfl, by kernel_rfl, by kernel_rfl⟩
  obtain ⟨fs, hu, hn, hps⟩ := hfs
  have h3 : Try.prog.cellsOf 62 = 4 := by kernel_rfl
  have c2 : Try.prog.cellsOf 3 = 1 := by kernel_rfl
  have u2 : Try.prog.underlying 3 = some (.int .i64) := by kernel_rfl
  have form : (Value.agg (rlR p).toArray).formed Try.prog 62 = true := by
    simp [Value.formed, hu, h3, rlR]
  have lits : Try.prog.keyLits 8 62 (rlR p).toArray.toList = some [Lit.int .i64 p.at_, .int .i64 p.type, .int .i64 p.sym, .int .i64 p.add] := by
    obtain ⟨a1, a2, a3, a4⟩ := hp
    rw [klStruct hu hn hps (by rw [h3]; rfl)]
    simp only [List.mapM_cons, List.mapM_nil, c2, rlR, List.drop_zero, List.take_succ_cons, List.take_zero, List.drop_succ_cons]
    rw [klInt u2 (by simp only [IntKind.min, IntKind.max, IntKind.signed, IntKind.bits]; constructor <;> simp <;> omega), klInt u2 (by simp only [IntKind.min, IntKind.max, IntKind.signed, IntKind.bits]; constructor <;> simp <;> omega), klInt u2 (by simp only [IntKind.min, IntKind.max, IntKind.signed, IntKind.bits]; constructor <;> simp <;> omega), klInt u2 (by simp only [IntKind.min, IntKind.max, IntKind.signed, IntKind.bits]; constructor <;> simp <;> omega)]
    rfl
  obtain ⟨r, _, h2, hiff⟩ := run_neq_agg (P := Try.prog) w (t := 62) (by kernel_rfl) form form lits lits
  have : r = true := hiff.2 rfl
  rw [h2, this]
  rfl
theorem Wl.neqRel {p : Rl} (hd : Nat.blt d N = true) (hx : ev Γ x = some (.agg (rlR p).toArray)) (hy : ev Γ y = some (.agg (rlR p).toArray)) (hp : p.at_ < 4294967296 ∧ p.type < 4294967296 ∧ p.sym < 4294967296 ∧ p.add < 4294967296)
    (h : Wl rest Try.prog md ops N ((d, .bool false) :: Γ) C Q) : Wl (⟨some d, .binOp .neq 62 x y u, ty, pos, af, none⟩ :: rest) Try.prog md ops N Γ C Q :=
  Wl.val hd (fun a w ha _ => by simp only [execOp, ha.ev hx, ha.ev hy, pure_bind, Sem.run_bind, guard_agg (P := Try.prog) (t := 62) (by kernel_rfl), Result.andThen_ok, run_rel w p hp]; rfl) h
end
theorem SegsP.upd {S : Nat → Prop} {w w' : World} {v : Value} {l : List Sg} (h : SegsP w v l) (u : Upd S w w') (hs : ∀ k, k < w.heap.size → ¬ S k) : SegsP w' v l := by
  obtain ⟨xs, hxs, hsv, hb⟩ := h
  exact ⟨xs, hxs, hsv.upd u fun k _ hk _ => hs k hk, fun x hx => (hb x hx).upd u fun k _ hk _ => hs k hk⟩
/-- a cell of an element -/
theorem _root_.Go.Pt.Sv.elem {w : World} {sz n : Nat} {v : Value} {cs xs : List Value} (h : Sv w sz n v cs) {i : Nat} (hi : i < n) (hx : xs.length = sz) (hsz : 0 < sz) (hg : ∀ j, j < sz → cs[i * sz + j]? = xs[j]?) :
    ∃ b o c, v = .slice (some ⟨b, o, none⟩) n c ∧ b < w.heap.size ∧ ∀ j v, xs[j]? = some v → w.cell? ⟨b, o + (i : Int).toNat * sz + j, none⟩ = some v := by
  obtain ⟨hl, a, c, rfl, _, _, _, hc⟩ := h
  have hlt : i * sz + sz ≤ n * sz := by
    have := Nat.mul_le_mul_right sz hi
    rw [Nat.succ_mul] at this
    exact this
  obtain ⟨b, o, rfl, hcell⟩ := hc (fun e => by rw [e] at hl; simp at hl; omega)
  have hall : ∀ j v, xs[j]? = some v → w.cell? ⟨b, o + (i : Int).toNat * sz + j, none⟩ = some v := by
    intro j v hj
    have hj' : j < sz := by have := (List.getElem?_eq_some_iff.1 hj).1; omega
    have h1 := (hg j hj').trans hj
    obtain ⟨h2, h3⟩ := List.getElem?_eq_some_iff.1 h1
    have := hcell _ h2
    rw [h3] at this
    rw [show o + (i : Int).toNat * sz + j = o + (i * sz + j) by rw [Int.toNat_natCast]; omega]
    exact this
  refine ⟨b, o, c, rfl, ?_, hall⟩
  obtain ⟨y, hy⟩ : ∃ y, xs[0]? = some y := ⟨_, List.getElem?_eq_getElem (by omega)⟩
  exact World.block_lt_of_cell? w _ (hall 0 y hy)
theorem u32C_get {l : List Nat} {i : Nat} {x : Nat} (h : l[i]? = some x) : (u32C l)[i * 1]? = some (.int .u32 x) := by simp [u32C, h]
theorem i64C_get {l : List Nat} {i : Nat} {x : Nat} (h : l[i]? = some x) : (i64C l)[i * 1]? = some (.int .i64 x) := by simp [i64C, h]

theorem _root_.Go.Pt.Sv.bound {w : World} {sz n : Nat} {v : Value} {cs : List Value} (h : Sv w sz n v cs) : n ≤ 9223372036854775807 := by
  obtain ⟨_, a, c, _, h1, h2, _⟩ := h
  unfold maxLen at h2
  omega
set_option maxHeartbeats 4000000 in
theorem like_any (v : Value) (f : List UInt8) (w : World) (hv : Bs w v f) (h3 : f.length ≤ 100000) :
    Calls Try.prog 9 #[v] w (fun e w' => e = .returned (.bool true) ∧ Upd (fun k => w.heap.size ≤ k) w w') := by
  obtain ⟨a, cap, rfl, hlc, hm⟩ := hv.shape
  refine enter (args := [_]) (Γ := [(0, _)]) Try.func9 Try.ntmps9 rfl (of_decide_eq_true rfl) (.cons rfl .nil) ?_
  repeat' (first | (apply Wl.move; exact rfl; exact rfl) | (apply Wl.assign; exact rfl; exact rfl) | (apply Wl.nil) | (apply St.seq) | (apply St.region) | (apply Gt.next) | (apply Wl.splitP; exact rfl; exact rfl; all_goals (intros; try (exfalso; omega))) | (apply Wl.splitB; exact rfl; exact rfl; all_goals intros) | (apply St.condP; exact rfl; all_goals (intros; try (exfalso; omega))) | (apply St.condB; exact rfl; all_goals intros))
  apply Wl.call
  exact rfl
  (repeat (first | exact Evs.nil | apply Evs.cons rfl))
  intro w1 h1
  refine (read_any _ f w1 (hv.upd h1.upd fun _ _ _ _ y => y trivial) h3).mono ?_
  rintro e w2 ⟨u2', vs, vr, vy, rfl, hsg, hvr, hvy⟩
  refine ⟨_, rfl, ?_⟩
  have u2 : Upd (fun k => w.heap.size ≤ k) w w2 := h1.upd.comp u2' fun k _ hs => hs.elim (fun y => (y trivial).elim) fun y => Nat.le_trans h1.upd.size y
  clear u2' h1 w1
  have hok := dynAns_ok f
  obtain ⟨sa, sn, sc, rfl⟩ : ∃ a n c, vs = .slice a n c := by
    obtain ⟨_, _, ⟨_, a, c, rfl, _⟩, _⟩ := hsg
    exact ⟨_, _, _, rfl⟩
  obtain ⟨ya, yc, rfl⟩ : ∃ a c, vy = .slice a (dynAns f).sy.length c := by
    obtain ⟨_, a, c, rfl, _⟩ := hvy
    exact ⟨_, _, rfl⟩
  obtain ⟨ra, rc, rfl⟩ : ∃ a c, vr = .slice a (dynAns f).re.length c := by
    obtain ⟨_, a, c, rfl, _⟩ := hvr
    exact ⟨_, _, rfl⟩
  repeat' (first | (apply Wl.move; exact rfl; exact rfl) | (apply Wl.assign; exact rfl; exact rfl) | (apply Wl.extract; exact rfl; exact rfl; exact rfl) | (apply Wl.storeA; exact rfl; exact rfl; exact rfl; exact rfl; (repeat (first | apply HSet.here | apply HSet.there)); (repeat (first | apply LPut.s | apply LPut.z | apply LOver.nil | apply LOver.cons))) | (apply Wl.alloc; exact rfl; intro c hc ho) | (apply Wl.nil) | (apply St.seq) | (apply St.region) | (apply Gt.next) | (apply Wl.splitP; exact rfl; exact rfl; all_goals (intros; try (exfalso; omega))) | (apply Wl.splitB; exact rfl; exact rfl; all_goals intros) | (apply St.condP; exact rfl; all_goals (intros; try (exfalso; omega))) | (apply St.condB; exact rfl; all_goals intros))
  generalize c = cX at *
  apply Wl.callC
  exact rfl
  (repeat (first | exact Evs.nil | apply Evs.cons rfl))
  intro w3 h3'
  have u2s := u2.size
  refine (rread_any _ f w3 (hv.upd (u2.comp h3'.upd (T := fun k => w.heap.size ≤ k) fun k hk hs => hs.elim id fun y => Classical.byContradiction fun hn => y ⟨by simp only; omega, trivial⟩) fun k _ hk _ y => by omega) h3).mono ?_
  rintro e w4 ⟨u4', ws, wy, wr, rfl, hsg', hwy, hwr⟩
  have hcXl := h3'.own.lt (.head _)
  have hX : w4.heap[cX]? = some (.cells #[.int .u32 (dynAns f).e, .slice sa sn sc, .slice ra (dynAns f).re.length rc, .slice ya (dynAns f).sy.length yc] 38 (0, 0)) := u4'.heap (h3'.own.at (.head _)) (by simp only at hcXl ⊢; omega)
  refine ⟨_, Hp w4 [], rfl, Hp.start _, ?_⟩
  have u24 : Upd (fun k => w2.heap.size ≤ k) w2 w4 := h3'.upd.comp u4' fun k hk hs => hs.elim (fun y => Classical.byContradiction fun hn => y ⟨by simp only; omega, trivial⟩) fun y => Nat.le_trans h3'.upd.size y
  have u4 : Upd (fun k => w.heap.size ≤ k) w w4 := u2.comp u24 fun k _ hs => hs.elim id fun y => Nat.le_trans u2.size y
  have hsg4 := hsg.upd u24 fun k hk y => by omega
  have hvr4 := Sv.upd hvr u24 fun k _ hk _ y => by omega
  have hvy4 := Sv.upd hvy u24 fun k _ hk _ y => by omega
  clear u4' h3' hsg hvr hvy u2 u24 u2s
  generalize dynAns f = A at *
  obtain ⟨Ae, Al, Asy, Are, Ac⟩ := A
  obtain ⟨ok1, ok2, ok3, ok4, ok5⟩ := hok
  simp only at ok1 ok2 ok3 ok4 ok5 hsg4 hvr4 hvy4 hsg' hwy hwr hX ⊢
  have q0 : w4.cell? ⟨cX, 0, none⟩ = some (.int .u32 Ae) := by rw [cellAt hX]; rfl
  have q1 : w4.cell? ⟨cX, 1, none⟩ = some (.slice sa sn sc) := by rw [cellAt hX]; rfl
  have q2 : w4.cell? ⟨cX, 2, none⟩ = some (.slice ra Are.length rc) := by rw [cellAt hX]; rfl
  have q3 : w4.cell? ⟨cX, 3, none⟩ = some (.slice ya Asy.length yc) := by rw [cellAt hX]; rfl
  have hXl := World.block_lt_of_cell? w4 _ q0
  simp only at hXl
  obtain ⟨xs, hxs, hsx, hbx⟩ := hsg4
  obtain ⟨ys, hys, hsy, hby⟩ := hsg'
  have hlen : xs.length = ys.length := by have := congrArg List.length (hxs.trans hys.symm); simpa using this
  obtain ⟨sa', sc', hsl⟩ : ∃ a c, Value.slice sa sn sc = .slice a xs.length c := by
    obtain ⟨_, a, c, h, _⟩ := hsx
    exact ⟨_, _, h⟩
  cases hsl
  obtain ⟨ta, tc, rfl⟩ : ∃ a c, ws = .slice a xs.length c := by
    obtain ⟨_, a, c, h, _⟩ := hsy
    rw [hlen]; exact ⟨_, _, h⟩
  obtain ⟨ya', yc', rfl⟩ : ∃ a c, wy = .slice a Asy.length c := by
    obtain ⟨_, a, c, rfl, _⟩ := hwy
    exact ⟨_, _, rfl⟩
  obtain ⟨ra', rc', rfl⟩ : ∃ a c, wr = .slice a Are.length c := by
    obtain ⟨_, a, c, rfl, _⟩ := hwr
    exact ⟨_, _, rfl⟩
  unfold maxLen at hm
  have mS := hsx.bound
  have mY := hvy4.bound
  have mR := hvr4.bound
  repeat' (first | (apply Wl.loadO; exact rfl; exact rfl; (assumption); (repeat (first | exact trivial | refine ⟨by first | assumption | omega | (simp only; omega), ?_⟩))) | (apply Wl.move; exact rfl; exact rfl) | (apply Wl.assign; exact rfl; exact rfl) | (apply Wl.on; exact rfl; exact rfl; (first | with_reducible rfl | with_reducible assumption | decide)) | (apply Wl.extract; exact rfl; exact rfl; exact rfl) | (apply Wl.pickF; exact rfl; exact rfl; (first | with_reducible rfl | with_reducible assumption | decide); exact rfl) | (apply Wl.fieldAddr0; exact rfl; exact rfl) | (apply Wl.fieldAddrZ; exact rfl; exact rfl) | (apply Wl.loadH; exact rfl; exact rfl; (repeat (first | exact List.Mem.head _ | apply List.Mem.tail)); exact rfl) | (apply Wl.neqIs; exact rfl; exact rfl; exact rfl; (first | with_reducible assumption | with_reducible rfl)) | (apply Wl.convI64; exact rfl; exact rfl; (constructor <;> omega)) | (apply Wl.len; exact rfl; exact rfl) | (apply Wl.storeA; exact rfl; exact rfl; exact rfl; exact rfl; (repeat (first | apply HSet.here | apply HSet.there)); (repeat (first | apply LPut.s | apply LPut.z | apply LOver.nil | apply LOver.cons))) | (apply Wl.alloc; exact rfl; intro c hc ho) | (apply Wl.nil) | (apply St.seq) | (apply St.block) | (apply St.region) | (apply St.condF; exact rfl; (first | with_reducible rfl | with_reducible assumption | decide)) | (apply St.skip) | (apply Gt.next) | (apply Wl.splitP; exact rfl; exact rfl; all_goals (intros; try (exfalso; omega))) | (apply Wl.splitB; exact rfl; exact rfl; all_goals intros) | (apply St.condP; exact rfl; all_goals (intros; try (exfalso; omega))) | (apply St.condB; exact rfl; all_goals intros))
  generalize c = cY at *
  have hcY : w4.heap.size ≤ cY := by assumption
  refine St.loop (σ := Nat) (fun τ => τ ≤ Asy.length)
    (fun τ => [(3, .pointer (some ⟨cX, 0, none⟩)), (5, .pointer (some ⟨cY, 0, none⟩)), (62, .slice ya Asy.length yc), (63, .int .i64 Asy.length), (64, .int .i64 τ)])
    (fun _ => Hp w4 [⟨cY, [.int .i64 Ae, .slice ta xs.length tc, .slice ya' Asy.length yc', .slice ra' Are.length rc'], 58⟩]) (fun τ => Asy.length - τ) 0 (Nat.zero_le _) (by (repeat (first | exact Sub.nil | apply Sub.cons rfl))) (fun _ h => h) ?_
  intro i hin
  by_cases hlt : i < Asy.length
  · obtain ⟨x, hx⟩ : ∃ x, Asy[i]? = some x := ⟨_, List.getElem?_eq_getElem hlt⟩
    have hx4 := ok4 x (List.mem_of_getElem? hx)
    obtain ⟨b1, o1, c1, he1, hb1, hce1⟩ := hvy4.elem hlt (xs := [.int .u32 x]) rfl (by decide) fun j hj => by
      have : j = 0 := by omega
      subst this; exact u32C_get hx
    obtain ⟨b2, o2, c2, he2, hb2, hce2⟩ := hwy.elem hlt (xs := [.int .i64 x]) rfl (by decide) fun j hj => by
      have : j = 0 := by omega
      subst this; exact i64C_get hx
    cases he1
    cases he2
    have e1 := hce1 0 _ rfl
    have e2 := hce2 0 _ rfl
    rw [Nat.add_zero, Nat.mul_one] at e1 e2
    repeat' (first | (apply Wl.loadO; exact rfl; exact rfl; (assumption); (repeat (first | exact trivial | refine ⟨by first | assumption | omega | (simp only; omega), ?_⟩))) | (apply Wl.move; exact rfl; exact rfl) | (apply Wl.assign; exact rfl; exact rfl) | (apply Wl.fieldAddrZ; exact rfl; exact rfl) | (apply Wl.loadH; exact rfl; exact rfl; (repeat (first | exact List.Mem.head _ | apply List.Mem.tail)); exact rfl) | (apply Wl.neqIs; exact rfl; exact rfl; exact rfl; (first | with_reducible assumption | with_reducible rfl)) | (apply Wl.lss; exact rfl; exact rfl; exact rfl) | (apply Wl.addI; exact rfl; exact rfl; exact rfl; (constructor <;> omega)) | (apply Wl.convI64; exact rfl; exact rfl; (constructor <;> omega)) | (apply Wl.indexAddr1; exact rfl; exact rfl; exact rfl; (constructor <;> omega)) | (apply Wl.nil) | (apply St.seq) | (apply St.block) | (apply St.region) | (apply St.condF; exact rfl; (first | with_reducible rfl | with_reducible assumption | decide)) | (apply St.skip) | (apply Gt.next) | (apply Gt.inNormal) | (apply Wl.splitP; exact rfl; exact rfl; all_goals (intros; try (exfalso; omega))) | (apply Wl.splitB; exact rfl; exact rfl; all_goals intros) | (apply St.condP; exact rfl; all_goals (intros; try (exfalso; omega))) | (apply St.condB; exact rfl; all_goals intros))
    apply Gt.round (i + 1)
    · exact hlt
    · omega
    · (repeat (first | exact Sub.nil | apply Sub.cons rfl))
    · exact fun _ h => h
  have hin' : i = Asy.length := by omega
  subst hin'
  repeat' (first | (apply Wl.loadO; exact rfl; exact rfl; (assumption); (repeat (first | exact trivial | refine ⟨by first | assumption | omega | (simp only; omega), ?_⟩))) | (apply Wl.move; exact rfl; exact rfl) | (apply Wl.fieldAddrZ; exact rfl; exact rfl) | (apply Wl.lss; exact rfl; exact rfl; exact rfl) | (apply Wl.len; exact rfl; exact rfl) | (apply Wl.nil) | (apply St.seq) | (apply St.block) | (apply St.region) | (apply St.exit) | (apply Gt.next) | (apply Gt.thenExit) | (apply Gt.inExit) | (apply Wl.splitP; exact rfl; exact rfl; all_goals (intros; try (exfalso; omega))) | (apply Wl.splitB; exact rfl; exact rfl; all_goals intros) | (apply St.condP; exact rfl; all_goals (intros; try (exfalso; omega))) | (apply St.condB; exact rfl; all_goals intros))
  refine St.loop (σ := Nat) (fun τ => τ ≤ Are.length)
    (fun τ => [(3, .pointer (some ⟨cX, 0, none⟩)), (5, .pointer (some ⟨cY, 0, none⟩)), (79, .slice ra Are.length rc), (80, .int .i64 Are.length), (81, .int .i64 τ)])
    (fun _ => Hp w4 [⟨cY, [.int .i64 Ae, .slice ta xs.length tc, .slice ya' Asy.length yc', .slice ra' Are.length rc'], 58⟩]) (fun τ => Are.length - τ) 0 (Nat.zero_le _) (by (repeat (first | exact Sub.nil | apply Sub.cons rfl))) (fun _ h => h) ?_
  clear hlt hin
  intro i hin
  by_cases hlt : i < Are.length
  · obtain ⟨x, hx⟩ : ∃ x, Are[i]? = some x := ⟨_, List.getElem?_eq_getElem hlt⟩
    have hx5 := ok5 x (List.mem_of_getElem? hx)
    obtain ⟨z1, z2, z3, z4⟩ := hx5
    obtain ⟨b1, o1, c1, he1, hb1, hce1⟩ := hvr4.elem hlt (xs := rlP x) rfl (by decide) fun j hj => flat4 (g := rlP) (fun _ => rfl) hx hj
    obtain ⟨b2, o2, c2, he2, hb2, hce2⟩ := hwr.elem hlt (xs := rlR x) rfl (by decide) fun j hj => flat4 (g := rlR) (fun _ => rfl) hx hj
    cases he1
    cases he2
    have n1 : cY ≠ b1 := by omega
    have n2 : cY ≠ b2 := by omega
    repeat' (first | (apply Wl.loadAO; exact rfl; exact rfl; exact hce1; exact ⟨n1, trivial⟩; exact rfl) | (apply Wl.move; exact rfl; exact rfl) | (apply Wl.assign; exact rfl; exact rfl) | (apply Wl.lss; exact rfl; exact rfl; exact rfl) | (apply Wl.storeA; exact rfl; exact rfl; exact rfl; exact rfl; (repeat (first | apply HSet.here | apply HSet.there)); (repeat (first | apply LPut.s | apply LPut.z | apply LOver.nil | apply LOver.cons))) | (apply Wl.alloc; exact rfl; intro c hc ho) | (apply Wl.indexAddr; exact rfl; exact rfl; exact rfl; (constructor <;> omega)) | (apply Wl.nil) | (apply St.seq) | (apply St.block) | (apply St.region) | (apply St.skip) | (apply Gt.next) | (apply Wl.splitP; exact rfl; exact rfl; all_goals (intros; try (exfalso; omega))) | (apply Wl.splitB; exact rfl; exact rfl; all_goals intros) | (apply St.condP; exact rfl; all_goals (intros; try (exfalso; omega))) | (apply St.condB; exact rfl; all_goals intros))
    generalize c = cZ at *
    have n3 : cZ ≠ b2 := by omega
    repeat' (first | (apply Wl.loadAO; exact rfl; exact rfl; exact hce2; exact ⟨n3, n2, trivial⟩; exact rfl) | (apply Wl.neqRel (p := x); exact rfl; exact rfl; exact rfl; exact ⟨z1, z2, z3, z4⟩) | (apply Wl.move; exact rfl; exact rfl) | (apply Wl.fieldAddr0; exact rfl; exact rfl) | (apply Wl.fieldAddrZ; exact rfl; exact rfl) | (apply Wl.loadH; exact rfl; exact rfl; (repeat (first | exact List.Mem.head _ | apply List.Mem.tail)); exact rfl) | (apply Wl.addI; exact rfl; exact rfl; exact rfl; (constructor <;> omega)) | (apply Wl.convI64; exact rfl; exact rfl; (constructor <;> omega)) | (apply Wl.buildS; exact rfl; (repeat (first | exact Parts.nil | apply Parts.cons rfl)); (repeat (first | apply Fills.nil | (apply Fills.one; exact rfl; exact rfl; (repeat (first | apply LSet.z | apply LSet.s))) | (apply Fills.agg; exact rfl; exact rfl; (repeat (first | apply LPut.s | apply LPut.z | apply LOver.nil | apply LOver.cons)))))) | (apply Wl.indexAddr; exact rfl; exact rfl; exact rfl; (constructor <;> omega)) | (apply Wl.nil) | (apply Wl.nilQ) | (apply St.region) | (apply St.draw; exact mixed; (kernel_rfl); exact (fun _ h => Hp.drew h)) | (apply St.condF; exact rfl; (first | with_reducible rfl | with_reducible assumption | decide)) | (apply St.skip) | (apply Gt.next) | (apply Gt.inNormal) | (apply Wl.splitP; exact rfl; exact rfl; all_goals (intros; try (exfalso; omega))) | (apply Wl.splitB; exact rfl; exact rfl; all_goals intros) | (apply St.condP; exact rfl; all_goals (intros; try (exfalso; omega))) | (apply St.condB; exact rfl; all_goals intros))
    apply Gt.round (i + 1)
    · exact hlt
    · omega
    · (repeat (first | exact Sub.nil | apply Sub.cons rfl))
    · exact fun u hu => Hp.pop hu (by simp only; omega)
  have hin' : i = Are.length := by omega
  subst hin'
  repeat' (first | (apply Wl.loadO; exact rfl; exact rfl; (assumption); (repeat (first | exact trivial | refine ⟨by first | assumption | omega | (simp only; omega), ?_⟩))) | (apply Wl.move; exact rfl; exact rfl) | (apply Wl.fieldAddrZ; exact rfl; exact rfl) | (apply Wl.lss; exact rfl; exact rfl; exact rfl) | (apply Wl.len; exact rfl; exact rfl) | (apply Wl.nil) | (apply St.seq) | (apply St.block) | (apply St.region) | (apply St.exit) | (apply Gt.next) | (apply Gt.thenExit) | (apply Gt.inExit) | (apply Wl.splitP; exact rfl; exact rfl; all_goals (intros; try (exfalso; omega))) | (apply Wl.splitB; exact rfl; exact rfl; all_goals intros) | (apply St.condP; exact rfl; all_goals (intros; try (exfalso; omega))) | (apply St.condB; exact rfl; all_goals intros))
  refine St.loop (σ := Nat) (fun τ => τ ≤ xs.length)
    (fun τ => [(5, .pointer (some ⟨cY, 0, none⟩)), (105, .slice sa xs.length sc), (106, .int .i64 xs.length), (107, .int .i64 τ)])
    (fun _ => Hp w4 [⟨cY, [.int .i64 Ae, .slice ta xs.length tc, .slice ya' Asy.length yc', .slice ra' Are.length rc'], 58⟩]) (fun τ => xs.length - τ) 0 (Nat.zero_le _) (by (repeat (first | exact Sub.nil | apply Sub.cons rfl))) (fun _ h => h) ?_
  clear hlt hin
  intro i hin
  by_cases hlt : i < xs.length
  · obtain ⟨x, hx⟩ : ∃ x, xs[i]? = some x := ⟨_, List.getElem?_eq_getElem hlt⟩
    obtain ⟨y, hy⟩ : ∃ y, ys[i]? = some y := ⟨_, List.getElem?_eq_getElem (hlen ▸ hlt)⟩
    have hxy : x.1 = y.1 := by
      have h1 : (xs.map (·.1))[i]? = some x.1 := by rw [List.getElem?_map, hx]; rfl
      have h2 : (ys.map (·.1))[i]? = some y.1 := by rw [List.getElem?_map, hy]; rfl
      rw [hxs, ← hys, h2] at h1
      exact (Option.some.inj h1).symm
    obtain ⟨s, vx⟩ := x
    obtain ⟨s', vy⟩ := y
    simp only at hxy
    subst hxy
    have hbx' := hbx _ (List.mem_of_getElem? hx)
    have hby' := hby _ (List.mem_of_getElem? hy)
    have hsg := ok3 s (by rw [← hxs]; exact List.mem_map_of_mem (List.mem_of_getElem? hx))
    simp only at hbx' hby'
    obtain ⟨ax, cx, rfl, _, _⟩ := hbx'.shape
    obtain ⟨ay, cy, rfl, _, _⟩ := hby'.shape
    rw [← hlen] at hsy
    obtain ⟨b1, o1, c1, he1, hb1, hce1⟩ := hsx.elem hlt (xs := [Value.int .u32 s.addr, .slice ax s.bytes.length cx, .int .u32 s.size, .int .i64 s.rights]) rfl (by decide) fun j hj => flat4 (g := sgP) (fun _ => rfl) hx hj
    obtain ⟨b2, o2, c2, he2, hb2, hce2⟩ := hsy.elem hlt (xs := [Value.int .i64 s.addr, .int .i64 s.size, .int .i64 s.rights, .slice ay s.bytes.length cy]) rfl (by decide) fun j hj => flat4 (g := sgR) (fun _ => rfl) hy hj
    cases he1
    cases he2
    have r0 := hce2 0 _ rfl
    have r1 := hce2 1 _ rfl
    have r2 := hce2 2 _ rfl
    have r3 := hce2 3 _ rfl
    have n1 : cY ≠ b1 := by omega
    have n2 : cY ≠ b2 := by omega
    repeat' (first | (apply Wl.loadAO; exact rfl; exact rfl; exact hce1; exact ⟨n1, trivial⟩; exact rfl) | (apply Wl.move; exact rfl; exact rfl) | (apply Wl.assign; exact rfl; exact rfl) | (apply Wl.lss; exact rfl; exact rfl; exact rfl) | (apply Wl.storeA; exact rfl; exact rfl; exact rfl; exact rfl; (repeat (first | apply HSet.here | apply HSet.there)); (repeat (first | apply LPut.s | apply LPut.z | apply LOver.nil | apply LOver.cons))) | (apply Wl.alloc; exact rfl; intro c hc ho) | (apply Wl.indexAddr; exact rfl; exact rfl; exact rfl; (constructor <;> omega)) | (apply Wl.nil) | (apply St.seq) | (apply St.block) | (apply St.region) | (apply St.skip) | (apply Gt.next) | (apply Wl.splitP; exact rfl; exact rfl; all_goals (intros; try (exfalso; omega))) | (apply Wl.splitB; exact rfl; exact rfl; all_goals intros) | (apply St.condP; exact rfl; all_goals (intros; try (exfalso; omega))) | (apply St.condB; exact rfl; all_goals intros))
    generalize c = cZ at *
    have n3 : cZ ≠ b2 := by omega
    have hcZ : w4.heap.size ≤ cZ := by assumption
    repeat' (first | (apply Wl.loadO; exact rfl; exact rfl; (assumption); (repeat (first | exact trivial | refine ⟨by first | assumption | omega | (simp only; omega), ?_⟩))) | (apply Wl.move; exact rfl; exact rfl) | (apply Wl.on; exact rfl; exact rfl; (first | with_reducible rfl | with_reducible assumption | decide)) | (apply Wl.fieldAddr0; exact rfl; exact rfl) | (apply Wl.fieldAddrZ; exact rfl; exact rfl) | (apply Wl.loadH; exact rfl; exact rfl; (repeat (first | exact List.Mem.head _ | apply List.Mem.tail)); exact rfl) | (apply Wl.neqIs; exact rfl; exact rfl; exact rfl; (first | with_reducible assumption | with_reducible rfl)) | (apply Wl.convI64; exact rfl; exact rfl; (constructor <;> omega)) | (apply Wl.indexAddr; exact rfl; exact rfl; exact rfl; (constructor <;> omega)) | (apply St.draw; exact mixed; (kernel_rfl); exact (fun _ h => Hp.drew h)) | (apply Wl.splitP; exact rfl; exact rfl; all_goals (intros; try (exfalso; omega))) | (apply Wl.splitB; exact rfl; exact rfl; all_goals intros) | (apply St.condP; exact rfl; all_goals (intros; try (exfalso; omega))) | (apply St.condB; exact rfl; all_goals intros))
    apply Wl.convBSo
    · exact rfl
    · exact rfl
    · exact hbx'
    · exact fun k _ hk _ => ⟨by simp only; omega, by simp only; omega, trivial⟩
    repeat' (first | (apply Wl.loadO; exact rfl; exact rfl; (assumption); (repeat (first | exact trivial | refine ⟨by first | assumption | omega | (simp only; omega), ?_⟩))) | (apply Wl.move; exact rfl; exact rfl) | (apply Wl.on; exact rfl; exact rfl; (first | with_reducible rfl | with_reducible assumption | decide)) | (apply Wl.fieldAddrZ; exact rfl; exact rfl) | (apply Wl.fieldAddr; exact rfl; exact rfl) | (apply Wl.loadH; exact rfl; exact rfl; (repeat (first | exact List.Mem.head _ | apply List.Mem.tail)); exact rfl) | (apply Wl.indexAddr; exact rfl; exact rfl; exact rfl; (constructor <;> omega)) | (apply Wl.splitP; exact rfl; exact rfl; all_goals (intros; try (exfalso; omega))) | (apply Wl.splitB; exact rfl; exact rfl; all_goals intros) | (apply St.condP; exact rfl; all_goals (intros; try (exfalso; omega))) | (apply St.condB; exact rfl; all_goals intros))
    apply Wl.convBSo
    · exact rfl
    · exact rfl
    · exact hby'
    · exact fun k _ hk _ => ⟨by simp only; omega, by simp only; omega, trivial⟩
    repeat' (first | (apply Wl.loadO; exact rfl; exact rfl; (assumption); (repeat (first | exact trivial | refine ⟨by first | assumption | omega | (simp only; omega), ?_⟩))) | (apply Wl.move; exact rfl; exact rfl) | (apply Wl.assign; exact rfl; exact rfl) | (apply Wl.on; exact rfl; exact rfl; (first | with_reducible rfl | with_reducible assumption | decide)) | (apply Wl.off; exact rfl; exact rfl; exact rfl; (first | with_reducible rfl | (show _ = false; with_reducible assumption) | (show _ = true; with_reducible assumption) | decide)) | (apply Wl.pickT; exact rfl; exact rfl; (first | with_reducible rfl | with_reducible assumption | decide); exact rfl) | (apply Wl.pickF; exact rfl; exact rfl; (first | with_reducible rfl | with_reducible assumption | decide); exact rfl) | (apply Wl.fieldAddrZ; exact rfl; exact rfl) | (apply Wl.fieldAddr; exact rfl; exact rfl) | (apply Wl.loadH; exact rfl; exact rfl; (repeat (first | exact List.Mem.head _ | apply List.Mem.tail)); exact rfl) | (apply Wl.neqIs; exact rfl; exact rfl; exact rfl; (first | with_reducible assumption | with_reducible rfl)) | (apply Wl.addI; exact rfl; exact rfl; exact rfl; (constructor <;> omega)) | (apply Wl.neqSB; exact rfl; exact rfl; exact rfl) | (apply Wl.convI64; exact rfl; exact rfl; (constructor <;> omega)) | (apply Wl.indexAddr; exact rfl; exact rfl; exact rfl; (constructor <;> omega)) | (apply Wl.nil) | (apply Wl.nilQ) | (apply St.seq) | (apply St.region) | (apply St.condT; exact rfl; (first | with_reducible rfl | with_reducible assumption | decide)) | (apply St.condF; exact rfl; (first | with_reducible rfl | with_reducible assumption | decide)) | (apply St.ret) | (apply St.skip) | (apply Gt.next) | (apply Gt.thenRet) | (apply Gt.inNormal) | (apply Gt.inRet) | (apply Gt.out1; exact rfl; exact rfl; intro w' hp) | (apply Wl.splitP; exact rfl; exact rfl; all_goals (intros; try (exfalso; omega))) | (apply Wl.splitB; exact rfl; exact rfl; all_goals intros) | (apply St.condP; exact rfl; all_goals (intros; try (exfalso; omega))) | (apply St.condB; exact rfl; all_goals intros))
    · rename_i hne _
      exact absurd rfl hne
    apply Gt.round (i + 1)
    · exact hlt
    · omega
    · (repeat (first | exact Sub.nil | apply Sub.cons rfl))
    · exact fun u hu => Hp.pop hu (by simp only; omega)
  have hin' : i = xs.length := by omega
  subst hin'
  repeat' (first | (apply Wl.assign; exact rfl; exact rfl) | (apply Wl.lss; exact rfl; exact rfl; exact rfl) | (apply Wl.nil) | (apply St.seq) | (apply St.region) | (apply St.ret) | (apply St.exit) | (apply Gt.next) | (apply Gt.thenExit) | (apply Gt.inExit) | (apply Gt.out1; exact rfl; exact rfl; intro w' hp) | (apply Wl.splitP; exact rfl; exact rfl; all_goals (intros; try (exfalso; omega))) | (apply Wl.splitB; exact rfl; exact rfl; all_goals intros) | (apply St.condP; exact rfl; all_goals (intros; try (exfalso; omega))) | (apply St.condB; exact rfl; all_goals intros))
  have u4s := u4.size
  exact ⟨rfl, u4.comp hp.upd fun k _ hs => hs.elim id fun y => Classical.byContradiction fun hn => y ⟨by simp only; omega, trivial⟩⟩
end Go.Proofs.Ytcjikjadajmefaa
