/-
  3 texts, one behind the other; each says what it proves. Conditions: as each text says.
-/
import Derived.Test.YtfaobdakpbpkbaaDoorM01
import Derived.Lib.AppendZerosOnto
import Derived.Test.YtfaobdakpbpkbaaDoorM06
section
/-
  append(s, make([]byte, k)...) onto a slice that the call owns.
-/
namespace Go.Pt
open Go.RowKit
theorem zeroCells_u8 (k : Nat) : Builtin.zeroCells (Value.int .u8 0).cells k = (List.replicate k (Value.int .u8 0)).toArray := by
  have h : ∀ i, (#[Value.int .u8 0] : Array Value)[i % (#[Value.int .u8 0] : Array Value).size]! = Value.int .u8 0 := fun i => by
    have : i % (#[Value.int .u8 0] : Array Value).size = 0 := by simp; omega
    rw [this]; rfl
  unfold Builtin.zeroCells
  have hc : (Value.int .u8 0).cells = #[Value.int .u8 0] := rfl
  rw [hc]
  apply Array.ext
  · simp
  · intro i h1 h2
    simp only [Array.getElem_map]
    rw [h]
    simp
theorem run_append_zeros {P : Program} {w : World} {t tn ty e base n k : Nat} {v : Value} {xs : List Value} [ht : TyD P t (.slice e)] [htn : TyD P tn (.int .i64)] [hs : TyS P e 1 1] [hz : TyZ P e (.int .u8 0)]
    (hown : w.ownsRow base e 1 v n xs) (hn : 0 < n) (hk : 0 < k) (h63 : n + k ≤ maxLen) (hb : n + k ≤ 140737488355328) (hbase : base ≤ w.heap.size) :
    ∃ v' w', (Builtin.append_ #[t, tn] ty #[v, .int .i64 k]).run P w = .ok v' w' ∧ w'.ownsRow base e 1 v' (n + k) (xs ++ List.replicate k (.int .u8 0)) ∧ w.grownBy w' v.ownBlock ∧
      (∀ j, v'.ownBlock = some j → v.ownBlock = some j ∨ w.heap.size ≤ j) := by
  have a1 := hs.out
  have a2 := hz.out
  cases e1 : P.info? e with
  | none => rw [e1] at a1; cases a1
  | some i =>
    rw [e1] at a1 a2
    simp at a1 a2
    obtain ⟨s1, s2⟩ := a1
    have hlen : (xs ++ List.replicate k (Value.int .u8 0)).length = (n + k) * 1 := by rw [List.length_append, hown.1, List.length_replicate]; omega
    rcases hown.2 with ⟨_, h0⟩ | ⟨g, cap, cur, rfl, hg, hh, hnc, hcm, hcs, htk⟩
    · omega
    have hkw : IntKind.i64.wrap (k : Int) = k := by rw [IntKind.wrap_i64]; unfold maxLen at h63; omega
    by_cases hroom : n + k ≤ cap
    · have hfit : n * i.size + (List.replicate k (Value.int .u8 0)).length ≤ cur.size := by rw [List.length_replicate, hcs, s1]; omega
      have hst := run_storeCells_at P g (n * i.size) e (List.replicate k (Value.int .u8 0)) 0 cur w hh (by simpa using hfit) (fun u hu => by rw [(List.mem_replicate.1 hu).2]; rfl)
      simp only [Nat.add_zero] at hst
      have hneg : ¬ ((k : Int) < 0) := by omega
      have h48i : ¬ (281474976710656 < (k : Int) * (i.bytes : Int)) := by rw [s2]; omega
      have hns : ¬ (k * i.size = 0) := by rw [s1]; omega
      have hr : (Builtin.append_ #[t, tn] ty #[.slice (some ⟨g, 0, none⟩) n cap, .int .i64 k]).run P w = .ok (.slice (some ⟨g, 0, none⟩) (n + k) cap) (w.setRow g (cur.toList.take (n * i.size) ++ List.replicate k (Value.int .u8 0) ++ cur.toList.drop (n * i.size + (List.replicate k (Value.int .u8 0)).length)).toArray) := by
        simp [Builtin.append_, run_underlying ht.out, run_underlying htn.out, sizeOf, typeInfo, zeroValue, e1, a2, asInt, asIntOf, hkw, hneg, h48i, hns, hroom, zeroCells_u8, Addr.add_lit]
        have hst2 := hst
        simp only [List.length_replicate] at hst2 ⊢
        simp [hst2]
      refine ⟨_, _, hr, ⟨hlen, .inr ⟨g, cap, _, rfl, hg, setRow_heap w g cur _ e _ hh, hroom, hcm, ?_, ?_⟩⟩, ⟨rfl, rfl, rfl, by simp, fun j _ hj => setRow_other w g j _ (fun e => hj (by simp [Value.ownBlock, e]))⟩, fun j hj => .inl hj⟩
      · simp only [List.size_toArray, List.length_append, List.length_take, List.length_drop, Array.length_toList]
        omega
      · rw [s1, htk, ← hlen]
        exact List.take_left
    · have holds : (Builtin.firstCells i.size n (.slice (some ⟨g, 0, none⟩) n cap)).run P w.drew = .ok xs.toArray w.drew :=
        run_firstCells_some (P := P) w.drew i.size n ⟨g, 0, none⟩ n cap xs (by rw [hown.1, s1]) fun j u hj => hown.cells (g := g) rfl j u hj
      have hgs : Builtin.nextslicecap (n + k) cap * i.bytes ≤ 281474976710656 := by
        rw [s2]
        exact growslice_fits (by omega) (by omega)
      have hr := Lib.run_append_grow_zeros (P := P) w t tn ty e i (.int .u8 0) .i64 .i64 ht.out htn.out e1 a2 (some ⟨g, 0, none⟩) n cap xs holds k hk (by omega) (by omega) (by unfold maxLen at h63; omega) (by rw [s2]; omega) hgs
      have hge := grownCap_ge w (n + k) cap e
      have hcm' : grownCap w (n + k) cap e ≤ maxLen := grownCap_le_maxLen w (n + k) cap e h63
      refine ⟨_, _, hr, ⟨hlen, .inr ⟨w.heap.size, _, _, rfl, hbase, heap_alloc_new w.drew _, hge, hcm', ?_, ?_⟩⟩, ⟨rfl, rfl, rfl, by simp, fun j hj _ => heap_alloc_old w.drew _ hj⟩, fun j hj => .inr (by simp [Value.ownBlock] at hj; omega)⟩
      · simp only [zeroCells_u8, Array.size_append, List.size_toArray, List.length_replicate, hown.1]
        omega
      · simp only [zeroCells_u8, Array.toList_append, List.append_assoc]
        rw [← List.append_assoc, ← hlen]
        exact List.take_left
section
variable {P : Program} {ops : Array Oper} {N : Nat} {rest : List Oper} {Γ : Env} {Q : Exit → Act → World → Prop} {d : Nat} {ty : TypeId} {pos : String} {af : Array Edge}
theorem Wl.appendZ {w0 : World} {H : List Blk} {t tn e base n k : Nat} {v : Value} {xs : List Value} {s x : Operand} [ht : TyD P t (.slice e)] [htn : TyD P tn (.int .i64)] [hs : TyS P e 1 1] [hz : TyZ P e (.int .u8 0)]
    (hd : Nat.blt d N = true) (hs' : ev Γ s = some v) (hx : ev Γ x = some (.int .i64 k)) (hown : w0.ownsRow base e 1 v n xs) (hoff : ∀ k, v.ownBlock = some k → Off H k) (hn : 0 < n) (hk : 0 < k) (h63 : n + k ≤ maxLen) (hb : n + k ≤ 140737488355328) (hbase : base ≤ w0.heap.size)
    (h : ∀ v' w1, w1.ownsRow base e 1 v' (n + k) (xs ++ List.replicate k (.int .u8 0)) → Upd (fun k => v.ownBlock = some k ∨ ¬ Off H k) w0 w1 → (∀ k, v'.ownBlock = some k → Off H k ∧ (v.ownBlock = some k ∨ w0.heap.size ≤ k)) → Wl rest P .seq ops N ((d, v') :: Γ) (Hp w1 H) Q) :
    Wl (⟨some d, .call { callee := .builtin .append, args := #[s, x], argTypes := #[t, tn] }, ty, pos, af, none⟩ :: rest) P .seq ops N Γ (Hp w0 H) Q :=
  Wl.eff fun a w ha hw => by
    have hown' : w.ownsRow base e 1 v n xs := ownsRow_upd hown hw.upd fun k hk x => x (hoff k hk)
    obtain ⟨v', w', hrun, ho, hg, hkk⟩ := run_append_zeros (P := P) (t := t) (tn := tn) (ty := ty) hown' hn hk h63 hb (Nat.le_trans hbase hw.upd.size)
    have u : Upd (fun k => v.ownBlock = some k) w w' := Upd.grown hg fun k hk => hk
    have hp1 : Own w' H := hw.own.upd u fun y hy hk => (hoff _ hk).at hy rfl
    refine ⟨v', w', .inl ?_, (h v' w' ho ((hw.upd.mono fun k _ hk => .inr hk).trans (u.mono fun k _ hk => .inl hk)) (fun k hk' => (hkk k hk').elim (fun e => ⟨hoff k e, .inl e⟩) fun hge => ⟨Off.of fun y hy e => by have := hw.own.lt hy; omega, .inr (Nat.le_trans hw.upd.size hge)⟩)).elim _ _ (ha.put hd _) ⟨Upd.refl _ _, hp1, hw.apart⟩⟩
    simp [execOp, resolve, invoke, builtin, ha.ev hs', ha.ev hx, hrun]
end
end Go.Pt
end
section
/-
  append(s, make([]byte, k)...) onto a slice that the call owns, k being whatever.
-/
namespace Go.Pt
open Go.RowKit
theorem run_append_zero0 {P : Program} {w : World} {t tn ty e n c : Nat} {b : Option Addr} [ht : TyD P t (.slice e)] [htn : TyD P tn (.int .i64)] [hs : TyS P e 1 1] (h : n ≤ c) :
    (Builtin.append_ #[t, tn] ty #[.slice b n c, .int .i64 0]).run P w = .ok (.slice b n c) w := by
  obtain ⟨i, hi, hsz⟩ := Option.map_eq_some_iff.1 hs.out
  simp at hsz
  have hw : IntKind.i64.wrap 0 = 0 := by decide
  cases b <;> simp [Builtin.append_, run_underlying ht.out, run_underlying htn.out, sizeOf, typeInfo, hi, asInt, asIntOf, hw, h, storeCells]
theorem run_append_zerosN {P : Program} {w : World} {t tn ty e base k : Nat} [ht : TyD P t (.slice e)] [htn : TyD P tn (.int .i64)] [hs : TyS P e 1 1] [hz : TyZ P e (.int .u8 0)] (hk : 0 < k) (h63 : k ≤ maxLen) (hb : k ≤ 140737488355328) (hbase : base ≤ w.heap.size) :
    ∃ v' w', (Builtin.append_ #[t, tn] ty #[.slice none 0 0, .int .i64 k]).run P w = .ok v' w' ∧ w'.ownsRow base e 1 v' k (List.replicate k (.int .u8 0)) ∧ w.grownBy w' none ∧ (∀ j, v'.ownBlock = some j → w.heap.size ≤ j) := by
  have a1 := hs.out
  have a2 := hz.out
  cases e1 : P.info? e with
  | none => rw [e1] at a1; cases a1
  | some i =>
    rw [e1] at a1 a2
    simp at a1 a2
    obtain ⟨s1, s2⟩ := a1
    have hr := Go.Lib.run_append_nil_zeros (P := P) w t tn ty e i (.int .u8 0) .i64 .i64 ht.out htn.out e1 a2 k hk (by omega) (by unfold maxLen at h63; omega) (by rw [s2]; omega)
    have hge := grownCap_ge w k 0 e
    have hcm' : grownCap w k 0 e ≤ maxLen := grownCap_le_maxLen w k 0 e h63
    refine ⟨_, _, hr, ⟨by simp, .inr ⟨w.heap.size, _, _, rfl, hbase, heap_alloc_new w.drew _, hge, hcm', ?_, ?_⟩⟩, ⟨rfl, rfl, rfl, by simp, fun j hj _ => heap_alloc_old w.drew _ hj⟩, fun j hj => by simp [Value.ownBlock] at hj; omega⟩
    · simp only [zeroCells_u8, Array.size_append, List.size_toArray, List.length_replicate]
      omega
    · simp only [zeroCells_u8, Array.toList_append, Nat.mul_one]
      exact List.take_left' (by simp)
section
variable {P : Program} {ops : Array Oper} {N : Nat} {rest : List Oper} {Γ : Env} {Q : Exit → Act → World → Prop} {d : Nat} {ty : TypeId} {pos : String} {af : Array Edge}
theorem Wl.appendZa {w0 : World} {H : List Blk} {t tn e base n k : Nat} {v : Value} {xs : List Value} {s x : Operand} [ht : TyD P t (.slice e)] [htn : TyD P tn (.int .i64)] [hs : TyS P e 1 1] [hz : TyZ P e (.int .u8 0)]
    (hd : Nat.blt d N = true) (hs' : ev Γ s = some v) (hx : ev Γ x = some (.int .i64 k)) (hown : w0.ownsRow base e 1 v n xs) (hoff : ∀ k, v.ownBlock = some k → Off H k) (hnil : n = 0 → v = .slice none 0 0) (h63 : n + k ≤ maxLen) (hb : n + k ≤ 140737488355328) (hbase : base ≤ w0.heap.size)
    (h : ∀ v' w1, w1.ownsRow base e 1 v' (n + k) (xs ++ List.replicate k (.int .u8 0)) → Upd (fun k => v.ownBlock = some k ∨ ¬ Off H k) w0 w1 → (∀ k, v'.ownBlock = some k → Off H k ∧ (v.ownBlock = some k ∨ w0.heap.size ≤ k)) → Wl rest P .seq ops N ((d, v') :: Γ) (Hp w1 H) Q) :
    Wl (⟨some d, .call { callee := .builtin .append, args := #[s, x], argTypes := #[t, tn] }, ty, pos, af, none⟩ :: rest) P .seq ops N Γ (Hp w0 H) Q := by
  rcases Nat.eq_zero_or_pos k with rfl | hk
  · obtain ⟨b, c, rfl, hnc⟩ : ∃ b c, v = .slice b n c ∧ n ≤ c := by
      rcases hown.2 with ⟨h1, rfl⟩ | ⟨g, cap, cur, h1, _, _, h2, _⟩
      · exact ⟨none, 0, h1, Nat.le_refl _⟩
      · exact ⟨_, cap, h1, h2⟩
    refine Wl.eff fun a w ha hw => ?_
    refine ⟨_, w, .inl ?_, (h _ w0 (by simpa using hown) (Upd.refl _ _) (fun k hk' => ⟨hoff k hk', .inl hk'⟩)).elim _ _ (ha.put hd _) hw⟩
    simp [execOp, resolve, invoke, builtin, ha.ev hs', ha.ev hx, run_append_zero0 (P := P) (w := w) (t := t) (tn := tn) (ty := ty) (e := e) (b := b) hnc]
  · rcases Nat.eq_zero_or_pos n with rfl | hn
    · have hv := hnil rfl
      subst hv
      refine Wl.eff fun a w ha hw => ?_
      obtain ⟨v', w', hrun, ho, hg, hkk⟩ := run_append_zerosN (P := P) (w := w) (t := t) (tn := tn) (ty := ty) (e := e) (base := base) hk (by omega) (by omega) (Nat.le_trans hbase hw.upd.size)
      have u : Upd (fun _ => False) w w' := Upd.grown hg fun k hk => by cases hk
      have hp1 : Own w' H := hw.own.upd u fun y hy hk => hk
      have hx0 : xs = [] := by have := hown.1; exact List.length_eq_zero_iff.1 (by omega)
      refine ⟨v', w', .inl ?_, (h v' w' (by rw [hx0, Nat.zero_add]; exact ho) ((hw.upd.mono fun k _ hk => .inr hk).trans (u.mono fun k _ hk => hk.elim)) (fun k hk' => ⟨Off.of fun y hy e => by have := hw.own.lt hy; have := hkk k hk'; omega, .inr (Nat.le_trans hw.upd.size (hkk k hk'))⟩)).elim _ _ (ha.put hd _) ⟨Upd.refl _ _, hp1, hw.apart⟩⟩
      simp [execOp, resolve, invoke, builtin, ha.ev hs', ha.ev hx, hrun]
    · exact Wl.appendZ hd hs' hx hown hoff hn hk h63 hb hbase h
end
end Go.Pt
end
section
/-
  SealKeys. Conditions: the table of SHA-256 is laid.
-/
namespace Go.Pt
open Go.RowKit
theorem key64_of (k : List UInt8) (h : 64 < k.length) : key64 (shaL k) = key64 k := by
  unfold key64
  rw [if_pos h, if_neg (by rw [shaL_len]; decide)]
theorem mac_sha (k t : List UInt8) (h : 64 < k.length) : mac (shaL k) t = mac k t := by unfold mac; rw [key64_of k h]
theorem padL_zeros (k : List UInt8) (z c : Nat) : padL (k ++ List.replicate z 0) c = padL k c := by
  unfold padL padX Sha.byteAt
  apply List.map_congr_left
  intro i _
  rw [List.getD_eq_getElem?_getD, List.getD_eq_getElem?_getD, List.getElem?_append]
  by_cases h : i < k.length
  · rw [if_pos h]
  · rw [if_neg h, List.getElem?_eq_none (l := k) (by omega), List.getElem?_replicate]
    split <;> rfl
theorem mac_zeros (k t : List UInt8) (z : Nat) (h : k.length + z ≤ 64) : mac (k ++ List.replicate z 0) t = mac k t := by
  unfold mac macI key64
  rw [if_neg (by rw [List.length_append, List.length_replicate]; omega), if_neg (by omega), padL_zeros, padL_zeros]
end Go.Pt
namespace Go.Proofs.YtfaobdakpbpkbaaDoor
open Go.RowKit Go.Pt
attribute [local irreducible] Prim.P256 Prim.N256
theorem zero_reck {z n : Int} (hn : 0 ≤ n) (hm : n ≤ 64) : ∃ q : Nat, ((z.tmod (65 - n)) + 65 - n).tmod (65 - n) = (q : Int) ∧ n + q ≤ 64 := by
  have h1 : -(65 - n) < z.tmod (65 - n) := Int.lt_tmod_of_pos z (by omega)
  have h2 : z.tmod (65 - n) < 65 - n := Int.tmod_lt_of_pos z (by omega)
  generalize z.tmod (65 - n) = a at *
  have h3 := Int.tmod_lt_of_pos (a + 65 - n) (show 0 < 65 - n by omega)
  have h4 := Int.tmod_nonneg (65 - n) (show 0 ≤ a + 65 - n by omega)
  exact ⟨((a + 65 - n).tmod (65 - n)).toNat, by omega, by omega⟩
set_option maxHeartbeats 16000000 in
theorem keys19 (kv tv : Value) (k l : List UInt8) (z : Int) (w : World) (hK : ArrAt w 0 0 .u32 64 Sha.K) (hk : Bs w kv k) (ht : Bs w tv l) (hz : IntKind.i64.min ≤ z ∧ z ≤ IntKind.i64.max) :
    Calls Tryd.prog 6 #[kv, tv, .int .i64 z] w fun e w' => e = .returned (.bool true) ∧ Hp w [] w' := by
  have h0K := hK.lt (by decide)
  have hz' : -9223372036854775808 ≤ z ∧ z ≤ 9223372036854775807 := hz
  obtain ⟨ka, kc, rfl, hkl, hkm⟩ := hk.shape
  unfold maxLen at hkm
  obtain ⟨ta, tc, rfl, htl, htm⟩ := ht.shape
  unfold maxLen at htm
  have hKq : ∀ {wq : World}, Hp w [] wq → ArrAt wq 0 0 .u32 64 Sha.K := fun hq => hK.upd hq.upd (fun y => y trivial)
  refine enter (args := [_, _, _]) (Γ := [(0, _), (1, _), (2, _)]) Tryd.func6 Tryd.ntmps6 rfl (of_decide_eq_true rfl) (.cons rfl (.cons rfl (.cons rfl .nil))) ?_
  by_cases hkb : (k.length : Int) > 500
  · have hd1 : decide ((k.length : Int) > 500) = true := decide_eq_true hkb
    repeat' (first | (apply Wl.callQ (f := 13); exact rfl; (repeat (first | exact Evs.nil | apply Evs.cons rfl)); (intro wq hq; refine (fit19 wq (hKq hq)).mono ?_; rintro e wr ⟨rfl, hr⟩; exact ⟨rfl, hq.keep hr⟩)) | (apply Wl.move; exact rfl; exact rfl) | (apply Wl.assign; exact rfl; exact rfl) | (apply Wl.off; exact rfl; exact rfl; exact rfl; (first | with_reducible rfl | (show _ = false; with_reducible assumption) | (show _ = true; with_reducible assumption) | decide)) | (apply Wl.pickT; exact rfl; exact rfl; (first | with_reducible rfl | with_reducible assumption | decide); exact rfl) | (apply Wl.not; exact rfl; exact rfl) | (apply Wl.gtr; exact rfl; exact rfl; exact rfl) | (apply Wl.len; exact rfl; exact rfl) | (apply Wl.nil) | (apply St.seq) | (apply St.region) | (apply St.condT; exact rfl; (first | with_reducible rfl | with_reducible assumption | decide)) | (apply St.condF; exact rfl; (first | with_reducible rfl | with_reducible assumption | decide)) | (apply St.ret) | (apply St.skip) | (apply Gt.next) | (apply Gt.thenRet) | (apply Gt.out1; exact rfl; exact rfl; intro w' hp) | (apply Wl.splitP; exact rfl; exact rfl; all_goals (intros; try (exfalso; omega))) | (apply Wl.splitB; exact rfl; exact rfl; all_goals intros) | (apply St.condP; exact rfl; all_goals (intros; try (exfalso; omega))) | (apply St.condB; exact rfl; all_goals intros))
    exact ⟨rfl, hp.drop (by simp)⟩
  have hd1 : decide ((k.length : Int) > 500) = false := decide_eq_false hkb
  by_cases htb : (l.length : Int) > 500
  · have hd2 : decide ((l.length : Int) > 500) = true := decide_eq_true htb
    repeat' (first | (apply Wl.callQ (f := 13); exact rfl; (repeat (first | exact Evs.nil | apply Evs.cons rfl)); (intro wq hq; refine (fit19 wq (hKq hq)).mono ?_; rintro e wr ⟨rfl, hr⟩; exact ⟨rfl, hq.keep hr⟩)) | (apply Wl.move; exact rfl; exact rfl) | (apply Wl.assign; exact rfl; exact rfl) | (apply Wl.on; exact rfl; exact rfl; (first | with_reducible rfl | with_reducible assumption | decide)) | (apply Wl.pickF; exact rfl; exact rfl; (first | with_reducible rfl | with_reducible assumption | decide); exact rfl) | (apply Wl.not; exact rfl; exact rfl) | (apply Wl.gtr; exact rfl; exact rfl; exact rfl) | (apply Wl.len; exact rfl; exact rfl) | (apply Wl.nil) | (apply St.seq) | (apply St.region) | (apply St.condT; exact rfl; (first | with_reducible rfl | with_reducible assumption | decide)) | (apply St.condF; exact rfl; (first | with_reducible rfl | with_reducible assumption | decide)) | (apply St.ret) | (apply St.skip) | (apply Gt.next) | (apply Gt.thenRet) | (apply Gt.out1; exact rfl; exact rfl; intro w' hp) | (apply Wl.splitP; exact rfl; exact rfl; all_goals (intros; try (exfalso; omega))) | (apply Wl.splitB; exact rfl; exact rfl; all_goals intros) | (apply St.condP; exact rfl; all_goals (intros; try (exfalso; omega))) | (apply St.condB; exact rfl; all_goals intros))
    exact ⟨rfl, hp.drop (by simp)⟩
  have hd2 : decide ((l.length : Int) > 500) = false := decide_eq_false htb
  by_cases hk64 : (k.length : Int) > 64
  · have hd3 : decide ((k.length : Int) > 64) = true := decide_eq_true hk64
    have hEq : Sha.of (padL (key64 k) 92 ++ shaL (padL (key64 k) 54 ++ l)) = Sha.of (padL (key64 (shaL k)) 92 ++ shaL (padL (key64 (shaL k)) 54 ++ l)) := by rw [key64_of k (by omega)]
    repeat' (first | (apply Wl.callQ (f := 13); exact rfl; (repeat (first | exact Evs.nil | apply Evs.cons rfl)); (intro wq hq; refine (fit19 wq (hKq hq)).mono ?_; rintro e wr ⟨rfl, hr⟩; exact ⟨rfl, hq.keep hr⟩)) | (apply Wl.move; exact rfl; exact rfl) | (apply Wl.assign; exact rfl; exact rfl) | (apply Wl.on; exact rfl; exact rfl; (first | with_reducible rfl | with_reducible assumption | decide)) | (apply Wl.pickF; exact rfl; exact rfl; (first | with_reducible rfl | with_reducible assumption | decide); exact rfl) | (apply Wl.not; exact rfl; exact rfl) | (apply Wl.gtr; exact rfl; exact rfl; exact rfl) | (apply Wl.len; exact rfl; exact rfl) | (apply Wl.lit; exact rfl; (repeat (first | exact Parts.nil | apply Parts.cons rfl)); exact rfl; exact rfl; (repeat (first | apply CatP.nil | (apply CatP.one; exact rfl; exact rfl) | (apply CatP.agg; exact rfl) | apply LApp.nil | apply LApp.cons)); intro c hc ho) | (apply Wl.nil) | (apply St.seq) | (apply St.region) | (apply St.condF; exact rfl; (first | with_reducible rfl | with_reducible assumption | decide)) | (apply St.skip) | (apply Gt.next) | (apply Wl.splitP; exact rfl; exact rfl; all_goals (intros; try (exfalso; omega))) | (apply Wl.splitB; exact rfl; exact rfl; all_goals intros) | (apply St.condP; exact rfl; all_goals (intros; try (exfalso; omega))) | (apply St.condB; exact rfl; all_goals intros))
    apply Wl.callQ
    · exact rfl
    · (repeat (first | exact Evs.nil | apply Evs.cons rfl))
    · intro wq hq
      refine (sealMac _ _ k [l] wq (hK.hp hq (by (repeat (first | exact trivial | exact hX.off (by omega) | refine ⟨by first | assumption | omega | (simp only; omega), ?_⟩)))) (bsNew hk hq (by simp; omega)) (by omega) (Pts.one (hq.own.at (.head _)) (bsNew ht hq (by simp; omega))) (by simp; omega)).mono ?_
      rintro e wr ⟨rfl, hr⟩
      exact ⟨rfl, hq.keep hr⟩
    rw [show [l].flatten = l by simp]
    repeat' (first | (apply Wl.allocC (t := 45); exact rfl; exact z32b; intro c hc ho) | (apply Wl.callQ (f := 16); exact rfl; (repeat (first | exact Evs.nil | apply Evs.cons rfl)); (intro wq hq; refine (refSum _ k wq (bsNew hk hq (by simp; omega)) (by omega) (fun hne b hb => Nat.lt_of_lt_of_le (hk.aged hne b hb) hq.upd.size)).mono ?_; rintro e wr ⟨rfl, hr⟩; exact ⟨rfl, hq.keep hr⟩)) | (apply Wl.storeW; exact rfl; exact rfl; (repeat (first | apply HSet.here | apply HSet.there)); exact rfl; (first | exact cellsN_len _ _ _ | exact rfl)) | (apply Wl.move; exact rfl; exact rfl) | (apply Wl.gtr; exact rfl; exact rfl; exact rfl) | (apply Wl.len; exact rfl; exact rfl) | (apply Wl.nil) | (apply St.seq) | (apply St.region) | (apply St.condT; exact rfl; (first | with_reducible rfl | with_reducible assumption | decide)) | (apply Gt.next) | (apply Wl.splitP; exact rfl; exact rfl; all_goals (intros; try (exfalso; omega))) | (apply Wl.splitB; exact rfl; exact rfl; all_goals intros) | (apply St.condP; exact rfl; all_goals (intros; try (exfalso; omega))) | (apply St.condB; exact rfl; all_goals intros))
    rename_i c1 hc1 ho1 c7 hc7 ho7
    generalize c = c8 at *
    have hc8 : w.heap.size ≤ c8 := by assumption
    refine St.tree (Hp w [⟨c8, cellsN .u8 32 (Sha.of k), 45⟩, ⟨c7, cellsN .u8 32 (mac k l), 45⟩, ⟨c1, [.slice ta l.length tc], 22⟩]) mixed (fun _ h => ⟨Hp.drew h, Hp.drew h⟩) ?_
    refine Mt.pure 0 (by decide +kernel) (by exact rfl) (by exact rfl) (by decide +kernel) (by decide +kernel) ?_
    repeat' (first | (apply Wl.loadW; exact rfl; exact rfl; (repeat (first | exact List.Mem.head _ | apply List.Mem.tail)); exact rfl) | (apply Wl.nilM) | (apply Wl.splitP; exact rfl; exact rfl; all_goals (intros; try (exfalso; omega))) | (apply Wl.splitB; exact rfl; exact rfl; all_goals intros) | (apply St.condP; exact rfl; all_goals (intros; try (exfalso; omega))) | (apply St.condB; exact rfl; all_goals intros))
    apply Mt.back
    refine Mt.pure 1 (by decide +kernel) (by exact rfl) (by exact rfl) (by decide +kernel) (by decide +kernel) ?_
    repeat' (first | (apply Wl.sliceAll; exact rfl; exact rfl; (decide); exact rfl) | (apply Wl.nilM) | (apply Wl.splitP; exact rfl; exact rfl; all_goals (intros; try (exfalso; omega))) | (apply Wl.splitB; exact rfl; exact rfl; all_goals intros) | (apply St.condP; exact rfl; all_goals (intros; try (exfalso; omega))) | (apply St.condB; exact rfl; all_goals intros))
    apply Mt.back
    refine Mt.pure 2 (by decide +kernel) (by exact rfl) (by exact rfl) (by decide +kernel) (by decide +kernel) ?_
    repeat' (first | (apply Wl.move; exact rfl; exact rfl) | (apply Wl.nilM) | (apply Wl.splitP; exact rfl; exact rfl; all_goals (intros; try (exfalso; omega))) | (apply Wl.splitB; exact rfl; exact rfl; all_goals intros) | (apply St.condP; exact rfl; all_goals (intros; try (exfalso; omega))) | (apply St.condB; exact rfl; all_goals intros))
    apply Mt.back
    refine Mt.eff1 (i := 3) (by decide +kernel) (by exact rfl) ?_
    repeat' (first | (apply Wl.lit; exact rfl; (repeat (first | exact Parts.nil | apply Parts.cons rfl)); exact rfl; exact rfl; (repeat (first | apply CatP.nil | (apply CatP.one; exact rfl; exact rfl) | (apply CatP.agg; exact rfl) | apply LApp.nil | apply LApp.cons)); intro c hc ho) | (apply Wl.nil) | (apply Wl.splitP; exact rfl; exact rfl; all_goals (intros; try (exfalso; omega))) | (apply Wl.splitB; exact rfl; exact rfl; all_goals intros) | (apply St.condP; exact rfl; all_goals (intros; try (exfalso; omega))) | (apply St.condB; exact rfl; all_goals intros))
    generalize c = c9 at *
    have hc9 : w.heap.size ≤ c9 := by assumption
    refine Mt.backE (fun u h => hpPop h hc9) ?_
    refine Mt.eff1 (i := 4) (by decide +kernel) (by exact rfl) ?_
    apply Wl.callQ
    · exact rfl
    · (repeat (first | exact Evs.nil | apply Evs.cons rfl))
    · intro wq hq
      refine (sealMac _ _ (shaL k) [l] wq (hK.hp hq (by (repeat (first | exact trivial | exact hX.off (by omega) | refine ⟨by first | assumption | omega | (simp only; omega), ?_⟩)))) (bsSha (hq.own.at (x := ⟨c8, cellsN .u8 32 (Sha.of k), 45⟩) (.tail _ (.head _)))) (by rw [shaL_len]; decide) (Pts.one (hq.own.at (.head _)) (bsNew ht hq (by simp; omega))) (by simp; omega)).mono ?_
      rintro e wr ⟨rfl, hr⟩
      exact ⟨rfl, hq.keep hr⟩
    rw [show [l].flatten = l by simp, mac_sha k l (by omega)]
    repeat' (first | (apply Wl.nil) | (apply Wl.splitP; exact rfl; exact rfl; all_goals (intros; try (exfalso; omega))) | (apply Wl.splitB; exact rfl; exact rfl; all_goals intros) | (apply St.condP; exact rfl; all_goals (intros; try (exfalso; omega))) | (apply St.condB; exact rfl; all_goals intros))
    refine Mt.backE (fun u h => hpPop h hc9) ?_
    refine Mt.pure 5 (by decide +kernel) (by exact rfl) (by exact rfl) (by decide +kernel) (by decide +kernel) ?_
    repeat' (first | (apply Wl.eqlA (t := 45); exact rfl; exact rfl; exact rfl; kernel_rfl; kernel_rfl; kernel_rfl; kernel_rfl; exact cell8 _ (shaLt _); exact cell8 _ (shaLt _); (first | with_reducible exact eqF rfl | with_reducible exact eqF hEq)) | (apply Wl.nilM) | (apply Wl.splitP; exact rfl; exact rfl; all_goals (intros; try (exfalso; omega))) | (apply Wl.splitB; exact rfl; exact rfl; all_goals intros) | (apply St.condP; exact rfl; all_goals (intros; try (exfalso; omega))) | (apply St.condB; exact rfl; all_goals intros))
    apply Mt.back
    refine Mt.pure 6 (by decide +kernel) (by exact rfl) (by exact rfl) (by decide +kernel) (by decide +kernel) ?_
    repeat' (first | (apply Wl.assign; exact rfl; exact rfl) | (apply Wl.nilM) | (apply Wl.splitP; exact rfl; exact rfl; all_goals (intros; try (exfalso; omega))) | (apply Wl.splitB; exact rfl; exact rfl; all_goals intros) | (apply St.condP; exact rfl; all_goals (intros; try (exfalso; omega))) | (apply St.condB; exact rfl; all_goals intros))
    apply Mt.back
    refine Mt.toGt (by decide +kernel) ?_
    repeat' (first | (apply St.ret) | (apply Gt.next) | (apply Gt.thenRet) | (apply Gt.out1; exact rfl; exact rfl; intro w' hp) | (apply Wl.splitP; exact rfl; exact rfl; all_goals (intros; try (exfalso; omega))) | (apply Wl.splitB; exact rfl; exact rfl; all_goals intros) | (apply St.condP; exact rfl; all_goals (intros; try (exfalso; omega))) | (apply St.condB; exact rfl; all_goals intros))
    exact ⟨rfl, hp.drop (by simp; omega)⟩
  have hd3 : decide ((k.length : Int) > 64) = false := decide_eq_false hk64
  repeat' (first | (apply Wl.callQ (f := 13); exact rfl; (repeat (first | exact Evs.nil | apply Evs.cons rfl)); (intro wq hq; refine (fit19 wq (hKq hq)).mono ?_; rintro e wr ⟨rfl, hr⟩; exact ⟨rfl, hq.keep hr⟩)) | (apply Wl.move; exact rfl; exact rfl) | (apply Wl.assign; exact rfl; exact rfl) | (apply Wl.on; exact rfl; exact rfl; (first | with_reducible rfl | with_reducible assumption | decide)) | (apply Wl.pickF; exact rfl; exact rfl; (first | with_reducible rfl | with_reducible assumption | decide); exact rfl) | (apply Wl.not; exact rfl; exact rfl) | (apply Wl.gtr; exact rfl; exact rfl; exact rfl) | (apply Wl.len; exact rfl; exact rfl) | (apply Wl.lit; exact rfl; (repeat (first | exact Parts.nil | apply Parts.cons rfl)); exact rfl; exact rfl; (repeat (first | apply CatP.nil | (apply CatP.one; exact rfl; exact rfl) | (apply CatP.agg; exact rfl) | apply LApp.nil | apply LApp.cons)); intro c hc ho) | (apply Wl.nil) | (apply St.seq) | (apply St.region) | (apply St.condF; exact rfl; (first | with_reducible rfl | with_reducible assumption | decide)) | (apply St.skip) | (apply Gt.next) | (apply Wl.splitP; exact rfl; exact rfl; all_goals (intros; try (exfalso; omega))) | (apply Wl.splitB; exact rfl; exact rfl; all_goals intros) | (apply St.condP; exact rfl; all_goals (intros; try (exfalso; omega))) | (apply St.condB; exact rfl; all_goals intros))
  apply Wl.callQ
  · exact rfl
  · (repeat (first | exact Evs.nil | apply Evs.cons rfl))
  · intro wq hq
    refine (sealMac _ _ k [l] wq (hK.hp hq (by (repeat (first | exact trivial | exact hX.off (by omega) | refine ⟨by first | assumption | omega | (simp only; omega), ?_⟩)))) (bsNew hk hq (by simp; omega)) (by omega) (Pts.one (hq.own.at (.head _)) (bsNew ht hq (by simp; omega))) (by simp; omega)).mono ?_
    rintro e wr ⟨rfl, hr⟩
    exact ⟨rfl, hq.keep hr⟩
  rw [show [l].flatten = l by simp]
  repeat' (first | (apply Wl.allocC (t := 45); exact rfl; exact z32b; intro c hc ho) | (apply Wl.storeW; exact rfl; exact rfl; (repeat (first | apply HSet.here | apply HSet.there)); exact rfl; (first | exact cellsN_len _ _ _ | exact rfl)) | (apply Wl.move; exact rfl; exact rfl) | (apply Wl.assign; exact rfl; exact rfl) | (apply Wl.gtr; exact rfl; exact rfl; exact rfl) | (apply Wl.subI; exact rfl; exact rfl; exact rfl; (constructor <;> omega)) | (apply Wl.add; exact rfl; exact rfl; exact rfl) | (apply Wl.sub'; exact rfl; exact rfl; exact rfl) | (apply Wl.rem; exact rfl; exact rfl; exact rfl; (first | decide | omega)) | (apply Wl.len; exact rfl; exact rfl) | (apply Wl.nil) | (apply St.seq) | (apply St.region) | (apply St.condF; exact rfl; (first | with_reducible rfl | with_reducible assumption | decide)) | (apply St.skip) | (apply Gt.next) | (apply Wl.splitP; exact rfl; exact rfl; all_goals (intros; try (exfalso; omega))) | (apply Wl.splitB; exact rfl; exact rfl; all_goals intros) | (apply St.condP; exact rfl; all_goals (intros; try (exfalso; omega))) | (apply St.condB; exact rfl; all_goals intros))
  have hn0 : (0 : Int) ≤ (k.length : Int) := by omega
  obtain ⟨q, hq, hqk⟩ := zero_reck (z := z) hn0 (by omega)
  have ha1 : -(65 - (k.length : Int)) < z.tmod (65 - (k.length : Int)) := Int.lt_tmod_of_pos z (by omega)
  have ha2 := Int.tmod_lt_of_pos z (show 0 < 65 - (k.length : Int) by omega)
  generalize z.tmod (65 - (k.length : Int)) = za at *
  rw [show IntKind.i64.wrap (za + 65) = za + 65 from IntWalk.i64_in _ ⟨by omega, by omega⟩, show IntKind.i64.wrap (za + 65 - (k.length : Int)) = za + 65 - (k.length : Int) from IntWalk.i64_in _ ⟨by omega, by omega⟩, hq]
  clear hq ha1 ha2
  rename_i c1 hc1 ho1
  generalize c = c7 at *
  have hc7 : w.heap.size ≤ c7 := by assumption
  apply St.reb (H' := [])
  intro w1 hw1
  refine ⟨trivial, trivial, ?_⟩
  have h7 : w1.heap[c7]? = some (.cells (cellsN .u8 32 (mac k l)).toArray 45 (0, 0)) := hw1.own.1
  have hu1 : Upd (fun j => w.heap.size ≤ j) w w1 := hpOn hw1 (Upd.refl _ _) (by simp; omega)
  have hk1 : Bs w1 (.slice ka k.length kc) k := hk.upd hu1 fun j _ hj _ y => by omega
  have s1 := hu1.size
  have l7 : c7 < w1.heap.size := lt_of_block h7
  clear hw1
  have hld : ∀ w', (fun w' : World => w'.heap[c7]? = some (.cells (cellsN .u8 32 (mac k l)).toArray 45 (0, 0))) w' → ∀ i v, (cellsN .u8 32 (mac k l))[i]? = some v → w'.cell? (Addr.add ⟨c7, 0, none⟩ i) = some v := fun w' hB i v hi => by rw [addLit, Nat.zero_add, cellAt hB]; simpa using hi
  refine St.tree (fun w' : World => w'.heap[c7]? = some (.cells (cellsN .u8 32 (mac k l)).toArray 45 (0, 0))) mixed (fun _ h => ⟨Hp.drew h, (Hp.drew h).upd.heap h7 (fun y => y trivial)⟩) ?_
  refine Mt.pure 0 (by decide +kernel) (by exact rfl) (by exact rfl) (by decide +kernel) (by decide +kernel) ?_
  repeat' (first | (apply Wl.loadAF (xs := cellsN .u8 32 (mac k l)); exact rfl; exact rfl; exact cellsN_len _ _ _; exact hld) | (apply Wl.nilM) | (apply Wl.splitP; exact rfl; exact rfl; all_goals (intros; try (exfalso; omega))) | (apply Wl.splitB; exact rfl; exact rfl; all_goals intros) | (apply St.condP; exact rfl; all_goals (intros; try (exfalso; omega))) | (apply St.condB; exact rfl; all_goals intros))
  apply Mt.back
  refine Mt.pure 1 (by decide +kernel) (by exact rfl) (by exact rfl) (by decide +kernel) (by decide +kernel) ?_
  repeat' (first | (apply Wl.move; exact rfl; exact rfl) | (apply Wl.nilM) | (apply Wl.splitP; exact rfl; exact rfl; all_goals (intros; try (exfalso; omega))) | (apply Wl.splitB; exact rfl; exact rfl; all_goals intros) | (apply St.condP; exact rfl; all_goals (intros; try (exfalso; omega))) | (apply St.condB; exact rfl; all_goals intros))
  apply Mt.back
  refine Mt.pure 3 (by decide +kernel) (by exact rfl) (by exact rfl) (by decide +kernel) (by decide +kernel) ?_
  repeat' (first | (apply Wl.move; exact rfl; exact rfl) | (apply Wl.nilM) | (apply Wl.splitP; exact rfl; exact rfl; all_goals (intros; try (exfalso; omega))) | (apply Wl.splitB; exact rfl; exact rfl; all_goals intros) | (apply St.condP; exact rfl; all_goals (intros; try (exfalso; omega))) | (apply St.condB; exact rfl; all_goals intros))
  apply Mt.back
  refine Mt.pure 5 (by decide +kernel) (by exact rfl) (by exact rfl) (by decide +kernel) (by decide +kernel) ?_
  repeat' (first | (apply Wl.move; exact rfl; exact rfl) | (apply Wl.nilM) | (apply Wl.splitP; exact rfl; exact rfl; all_goals (intros; try (exfalso; omega))) | (apply Wl.splitB; exact rfl; exact rfl; all_goals intros) | (apply St.condP; exact rfl; all_goals (intros; try (exfalso; omega))) | (apply St.condB; exact rfl; all_goals intros))
  apply Mt.back
  refine Mt.eff2 (i := 2) (j := 6) (by decide +kernel) (by exact rfl) (by exact rfl) ?_ ?_
  · apply Wl.appendV (news := Go.Pt.byteCells k) (m := k.length) (base := w.heap.size) (n := 0) (xs := [])
    · exact rfl
    · exact rfl
    · exact rfl
    · exact hk1
    · exact fun j _ hlt _ => by first | exact trivial | exact ⟨show cl ≠ j by omega, trivial⟩
    · exact Bo.nil _ _
    · exact fun j hj => by cases hj
    · exact byteCells_all _
    · exact rfl
    · decide
    · unfold maxLen; omega
    · omega
    · omega
    intro v2 w2 ho2 u2 hnl2 hof2
    have hb2 : Bo w2 w.heap.size v2 k := Bo.of (l := []) (m := k) ho2 rfl rfl
    have hn2 : k.length = 0 → v2 = .slice none 0 0 := fun h => hnl2.2 ⟨rfl, h⟩
    have hB2 : Upd (fun j => w.heap.size ≤ j) w w2 := hu1.comp u2 fun j _ hs => hs.elim id fun hs => hs.elim (fun e => by cases e) fun y => absurd trivial y
    have h72 := u2.heap h7 (fun hs => hs.elim (fun e => by cases e) fun y => y (by first | exact trivial | exact ⟨show cl ≠ c7 by omega, trivial⟩))
    have s2 := u2.size
    repeat' (first | (apply Wl.nil) | (apply Wl.splitP; exact rfl; exact rfl; all_goals (intros; try (exfalso; omega))) | (apply Wl.splitB; exact rfl; exact rfl; all_goals intros) | (apply St.condP; exact rfl; all_goals (intros; try (exfalso; omega))) | (apply St.condB; exact rfl; all_goals intros))
    refine Mt.backE (fun u h => h.upd.heap h72 (fun y => y (by first | exact trivial | exact ⟨show cl ≠ c7 by omega, trivial⟩))) ?_
    refine Mt.eff2 (i := 4) (j := 6) (by decide +kernel) (by exact rfl) (by exact rfl) ?_ ?_
    · apply Wl.appendZa (n := k.length) (k := q) (base := w.heap.size) (xs := Go.Pt.byteCells k)
      · exact rfl
      · exact rfl
      · exact rfl
      · exact hb2
      · exact fun _ _ => trivial
      · exact hn2
      · unfold maxLen; omega
      · omega
      · omega
      intro v3 w3 ho3 u3 hof3
      have hb3 : Bo w3 w.heap.size v3 (k ++ List.replicate q 0) := by
        unfold Bo
        rw [List.length_append, List.length_replicate, show Go.Pt.byteCells (k ++ List.replicate q 0) = Go.Pt.byteCells k ++ List.replicate q (.int .u8 0) by unfold Go.Pt.byteCells; rw [List.map_append, List.map_replicate]; rfl]
        exact ho3
      have hB3 : Upd (fun j => w.heap.size ≤ j) w w3 := hB2.comp u3 fun j _ hs => hs.elim id fun hs => hs.elim (fun e => hb2.base e) fun y => absurd trivial y
      have h73 := u3.heap h72 (fun hs => hs.elim (fun e => (hof2 c7 e).2.elim (fun e => by cases e) fun hge => by omega) fun y => y (by first | exact trivial | exact ⟨show cl ≠ c7 by omega, trivial⟩))
      have s3 := u3.size
      repeat' (first | (apply Wl.nil) | (apply Wl.splitP; exact rfl; exact rfl; all_goals (intros; try (exfalso; omega))) | (apply Wl.splitB; exact rfl; exact rfl; all_goals intros) | (apply St.condP; exact rfl; all_goals (intros; try (exfalso; omega))) | (apply St.condB; exact rfl; all_goals intros))
      refine Mt.backE (fun u h => h.upd.heap h73 (fun y => y (by first | exact trivial | exact ⟨show cl ≠ c7 by omega, trivial⟩))) ?_
      refine Mt.eff1 (i := 6) (by decide +kernel) (by exact rfl) ?_
      repeat' (first | (apply Wl.lit; exact rfl; (repeat (first | exact Parts.nil | apply Parts.cons rfl)); exact rfl; exact rfl; (repeat (first | apply CatP.nil | (apply CatP.one; exact rfl; exact rfl) | (apply CatP.agg; exact rfl) | apply LApp.nil | apply LApp.cons)); intro c hc ho) | (apply Wl.nil) | (apply Wl.splitP; exact rfl; exact rfl; all_goals (intros; try (exfalso; omega))) | (apply Wl.splitB; exact rfl; exact rfl; all_goals intros) | (apply St.condP; exact rfl; all_goals (intros; try (exfalso; omega))) | (apply St.condB; exact rfl; all_goals intros))
      generalize c = cl at *
      have hcl : w3.heap.size ≤ cl := by assumption
      refine Mt.backE (fun u h => h.upd.heap h73 (fun y => y (by first | exact trivial | exact ⟨show cl ≠ c7 by omega, trivial⟩))) ?_
      refine Mt.eff1 (i := 7) (by decide +kernel) (by exact rfl) ?_
      apply Wl.callQ
      · exact rfl
      · (repeat (first | exact Evs.nil | apply Evs.cons rfl))
      · intro wq hq
        have huq : Upd (fun j => w.heap.size ≤ j) w wq := hpOn hq hB3 (by simp; omega)
        refine (sealMac _ _ (k ++ List.replicate q 0) [l] wq (hK.upd huq (by omega)) (hb3.upd hq.upd (fun j hj hs => hs ⟨show cl ≠ j by have := (hb3.lt j hj).2; omega, trivial⟩)).bs (by rw [List.length_append, List.length_replicate]; omega) (Pts.one (hq.own.at (.head _)) (ht.upd huq fun j _ hj _ y => by omega)) (by simp; omega)).mono ?_
        rintro e wr ⟨rfl, hr⟩
        exact ⟨rfl, hq.keep hr⟩
      rw [show [l].flatten = l by simp, mac_zeros k l q (by omega)]
      repeat' (first | (apply Wl.nil) | (apply Wl.splitP; exact rfl; exact rfl; all_goals (intros; try (exfalso; omega))) | (apply Wl.splitB; exact rfl; exact rfl; all_goals intros) | (apply St.condP; exact rfl; all_goals (intros; try (exfalso; omega))) | (apply St.condB; exact rfl; all_goals intros))
      refine Mt.backE (fun u h => h.upd.heap h73 (fun y => y (by first | exact trivial | exact ⟨show cl ≠ c7 by omega, trivial⟩))) ?_
      refine Mt.pure 8 (by decide +kernel) (by exact rfl) (by exact rfl) (by decide +kernel) (by decide +kernel) ?_
      repeat' (first | (apply Wl.eqlA (t := 45); exact rfl; exact rfl; exact rfl; kernel_rfl; kernel_rfl; kernel_rfl; kernel_rfl; exact cell8 _ (shaLt _); exact cell8 _ (shaLt _); (first | with_reducible exact eqF rfl | with_reducible exact eqF hEq)) | (apply Wl.nilM) | (apply Wl.splitP; exact rfl; exact rfl; all_goals (intros; try (exfalso; omega))) | (apply Wl.splitB; exact rfl; exact rfl; all_goals intros) | (apply St.condP; exact rfl; all_goals (intros; try (exfalso; omega))) | (apply St.condB; exact rfl; all_goals intros))
      apply Mt.back
      refine Mt.pure 9 (by decide +kernel) (by exact rfl) (by exact rfl) (by decide +kernel) (by decide +kernel) ?_
      repeat' (first | (apply Wl.assign; exact rfl; exact rfl) | (apply Wl.nilM) | (apply Wl.splitP; exact rfl; exact rfl; all_goals (intros; try (exfalso; omega))) | (apply Wl.splitB; exact rfl; exact rfl; all_goals intros) | (apply St.condP; exact rfl; all_goals (intros; try (exfalso; omega))) | (apply St.condB; exact rfl; all_goals intros))
      apply Mt.back
      refine Mt.toGt (by decide +kernel) ?_
      repeat' (first | (apply St.ret) | (apply Gt.next) | (apply Gt.out1; exact rfl; exact rfl; intro w' hp) | (apply Wl.splitP; exact rfl; exact rfl; all_goals (intros; try (exfalso; omega))) | (apply Wl.splitB; exact rfl; exact rfl; all_goals intros) | (apply St.condP; exact rfl; all_goals (intros; try (exfalso; omega))) | (apply St.condB; exact rfl; all_goals intros))
      exact ⟨rfl, hpFin hp hB3 (by simp; omega)⟩
    · repeat' (first | (apply Wl.lit; exact rfl; (repeat (first | exact Parts.nil | apply Parts.cons rfl)); exact rfl; exact rfl; (repeat (first | apply CatP.nil | (apply CatP.one; exact rfl; exact rfl) | (apply CatP.agg; exact rfl) | apply LApp.nil | apply LApp.cons)); intro c hc ho) | (apply Wl.nil) | (apply Wl.splitP; exact rfl; exact rfl; all_goals (intros; try (exfalso; omega))) | (apply Wl.splitB; exact rfl; exact rfl; all_goals intros) | (apply St.condP; exact rfl; all_goals (intros; try (exfalso; omega))) | (apply St.condB; exact rfl; all_goals intros))
      generalize c = cl at *
      have hcl : w2.heap.size ≤ cl := by assumption
      refine Mt.backE (fun u h => h.upd.heap h72 (fun y => y (by first | exact trivial | exact ⟨show cl ≠ c7 by omega, trivial⟩))) ?_
      refine Mt.eff1 (i := 4) (by decide +kernel) (by exact rfl) ?_
      apply Wl.appendZa (n := k.length) (k := q) (base := w.heap.size) (xs := Go.Pt.byteCells k)
      · exact rfl
      · exact rfl
      · exact rfl
      · exact hb2
      · exact fun j hj => ⟨show cl ≠ j by have := (hb2.lt j hj).2; omega, trivial⟩
      · exact hn2
      · unfold maxLen; omega
      · omega
      · omega
      intro v3 w3 ho3 u3 hof3
      have hb3 : Bo w3 w.heap.size v3 (k ++ List.replicate q 0) := by
        unfold Bo
        rw [List.length_append, List.length_replicate, show Go.Pt.byteCells (k ++ List.replicate q 0) = Go.Pt.byteCells k ++ List.replicate q (.int .u8 0) by unfold Go.Pt.byteCells; rw [List.map_append, List.map_replicate]; rfl]
        exact ho3
      have hB3 : Upd (fun j => w.heap.size ≤ j) w w3 := hB2.comp u3 fun j _ hs => hs.elim id fun hs => hs.elim (fun e => hb2.base e) fun y => offAll (n := w.heap.size) (H := [⟨cl, [.slice ta l.length tc], 22⟩]) (by simp; omega) y
      have h73 := u3.heap h72 (fun hs => hs.elim (fun e => (hof2 c7 e).2.elim (fun e => by cases e) fun hge => by omega) fun y => y (by first | exact trivial | exact ⟨show cl ≠ c7 by omega, trivial⟩))
      have s3 := u3.size
      repeat' (first | (apply Wl.nil) | (apply Wl.splitP; exact rfl; exact rfl; all_goals (intros; try (exfalso; omega))) | (apply Wl.splitB; exact rfl; exact rfl; all_goals intros) | (apply St.condP; exact rfl; all_goals (intros; try (exfalso; omega))) | (apply St.condB; exact rfl; all_goals intros))
      refine Mt.backE (fun u h => h.upd.heap h73 (fun y => y (by first | exact trivial | exact ⟨show cl ≠ c7 by omega, trivial⟩))) ?_
      refine Mt.eff1 (i := 7) (by decide +kernel) (by exact rfl) ?_
      apply Wl.callQ
      · exact rfl
      · (repeat (first | exact Evs.nil | apply Evs.cons rfl))
      · intro wq hq
        have huq : Upd (fun j => w.heap.size ≤ j) w wq := hpOn hq hB3 (by simp; omega)
        refine (sealMac _ _ (k ++ List.replicate q 0) [l] wq (hK.upd huq (by omega)) (hb3.upd hq.upd (fun j hj hs => hs (hof3 j hj).1)).bs (by rw [List.length_append, List.length_replicate]; omega) (Pts.one (hq.own.at (.head _)) (ht.upd huq fun j _ hj _ y => by omega)) (by simp; omega)).mono ?_
        rintro e wr ⟨rfl, hr⟩
        exact ⟨rfl, hq.keep hr⟩
      rw [show [l].flatten = l by simp, mac_zeros k l q (by omega)]
      repeat' (first | (apply Wl.nil) | (apply Wl.splitP; exact rfl; exact rfl; all_goals (intros; try (exfalso; omega))) | (apply Wl.splitB; exact rfl; exact rfl; all_goals intros) | (apply St.condP; exact rfl; all_goals (intros; try (exfalso; omega))) | (apply St.condB; exact rfl; all_goals intros))
      refine Mt.backE (fun u h => h.upd.heap h73 (fun y => y (by first | exact trivial | exact ⟨show cl ≠ c7 by omega, trivial⟩))) ?_
      refine Mt.pure 8 (by decide +kernel) (by exact rfl) (by exact rfl) (by decide +kernel) (by decide +kernel) ?_
      repeat' (first | (apply Wl.eqlA (t := 45); exact rfl; exact rfl; exact rfl; kernel_rfl; kernel_rfl; kernel_rfl; kernel_rfl; exact cell8 _ (shaLt _); exact cell8 _ (shaLt _); (first | with_reducible exact eqF rfl | with_reducible exact eqF hEq)) | (apply Wl.nilM) | (apply Wl.splitP; exact rfl; exact rfl; all_goals (intros; try (exfalso; omega))) | (apply Wl.splitB; exact rfl; exact rfl; all_goals intros) | (apply St.condP; exact rfl; all_goals (intros; try (exfalso; omega))) | (apply St.condB; exact rfl; all_goals intros))
      apply Mt.back
      refine Mt.pure 9 (by decide +kernel) (by exact rfl) (by exact rfl) (by decide +kernel) (by decide +kernel) ?_
      repeat' (first | (apply Wl.assign; exact rfl; exact rfl) | (apply Wl.nilM) | (apply Wl.splitP; exact rfl; exact rfl; all_goals (intros; try (exfalso; omega))) | (apply Wl.splitB; exact rfl; exact rfl; all_goals intros) | (apply St.condP; exact rfl; all_goals (intros; try (exfalso; omega))) | (apply St.condB; exact rfl; all_goals intros))
      apply Mt.back
      refine Mt.toGt (by decide +kernel) ?_
      repeat' (first | (apply St.ret) | (apply Gt.next) | (apply Gt.out1; exact rfl; exact rfl; intro w' hp) | (apply Wl.splitP; exact rfl; exact rfl; all_goals (intros; try (exfalso; omega))) | (apply Wl.splitB; exact rfl; exact rfl; all_goals intros) | (apply St.condP; exact rfl; all_goals (intros; try (exfalso; omega))) | (apply St.condB; exact rfl; all_goals intros))
      exact ⟨rfl, hpFin hp hB3 (by simp; omega)⟩
  · repeat' (first | (apply Wl.lit; exact rfl; (repeat (first | exact Parts.nil | apply Parts.cons rfl)); exact rfl; exact rfl; (repeat (first | apply CatP.nil | (apply CatP.one; exact rfl; exact rfl) | (apply CatP.agg; exact rfl) | apply LApp.nil | apply LApp.cons)); intro c hc ho) | (apply Wl.nil) | (apply Wl.splitP; exact rfl; exact rfl; all_goals (intros; try (exfalso; omega))) | (apply Wl.splitB; exact rfl; exact rfl; all_goals intros) | (apply St.condP; exact rfl; all_goals (intros; try (exfalso; omega))) | (apply St.condB; exact rfl; all_goals intros))
    generalize c = cl at *
    have hcl : w1.heap.size ≤ cl := by assumption
    refine Mt.backE (fun u h => h.upd.heap h7 (fun y => y (by first | exact trivial | exact ⟨show cl ≠ c7 by omega, trivial⟩))) ?_
    refine Mt.eff1 (i := 2) (by decide +kernel) (by exact rfl) ?_
    apply Wl.appendV (news := Go.Pt.byteCells k) (m := k.length) (base := w.heap.size) (n := 0) (xs := [])
    · exact rfl
    · exact rfl
    · exact rfl
    · exact hk1
    · exact fun j _ hlt _ => by first | exact trivial | exact ⟨show cl ≠ j by omega, trivial⟩
    · exact Bo.nil _ _
    · exact fun j hj => by cases hj
    · exact byteCells_all _
    · exact rfl
    · decide
    · unfold maxLen; omega
    · omega
    · omega
    intro v2 w2 ho2 u2 hnl2 hof2
    have hb2 : Bo w2 w.heap.size v2 k := Bo.of (l := []) (m := k) ho2 rfl rfl
    have hn2 : k.length = 0 → v2 = .slice none 0 0 := fun h => hnl2.2 ⟨rfl, h⟩
    have hB2 : Upd (fun j => w.heap.size ≤ j) w w2 := hu1.comp u2 fun j _ hs => hs.elim id fun hs => hs.elim (fun e => by cases e) fun y => offAll (n := w.heap.size) (H := [⟨cl, [.slice ta l.length tc], 22⟩]) (by simp; omega) y
    have h72 := u2.heap h7 (fun hs => hs.elim (fun e => by cases e) fun y => y (by first | exact trivial | exact ⟨show cl ≠ c7 by omega, trivial⟩))
    have s2 := u2.size
    repeat' (first | (apply Wl.nil) | (apply Wl.splitP; exact rfl; exact rfl; all_goals (intros; try (exfalso; omega))) | (apply Wl.splitB; exact rfl; exact rfl; all_goals intros) | (apply St.condP; exact rfl; all_goals (intros; try (exfalso; omega))) | (apply St.condB; exact rfl; all_goals intros))
    refine Mt.backE (fun u h => h.upd.heap h72 (fun y => y (by first | exact trivial | exact ⟨show cl ≠ c7 by omega, trivial⟩))) ?_
    refine Mt.eff1 (i := 4) (by decide +kernel) (by exact rfl) ?_
    apply Wl.appendZa (n := k.length) (k := q) (base := w.heap.size) (xs := Go.Pt.byteCells k)
    · exact rfl
    · exact rfl
    · exact rfl
    · exact hb2
    · exact fun j hj => (hof2 j hj).1
    · exact hn2
    · unfold maxLen; omega
    · omega
    · omega
    intro v3 w3 ho3 u3 hof3
    have hb3 : Bo w3 w.heap.size v3 (k ++ List.replicate q 0) := by
      unfold Bo
      rw [List.length_append, List.length_replicate, show Go.Pt.byteCells (k ++ List.replicate q 0) = Go.Pt.byteCells k ++ List.replicate q (.int .u8 0) by unfold Go.Pt.byteCells; rw [List.map_append, List.map_replicate]; rfl]
      exact ho3
    have hB3 : Upd (fun j => w.heap.size ≤ j) w w3 := hB2.comp u3 fun j _ hs => hs.elim id fun hs => hs.elim (fun e => hb2.base e) fun y => offAll (n := w.heap.size) (H := [⟨cl, [.slice ta l.length tc], 22⟩]) (by simp; omega) y
    have h73 := u3.heap h72 (fun hs => hs.elim (fun e => (hof2 c7 e).2.elim (fun e => by cases e) fun hge => by omega) fun y => y (by first | exact trivial | exact ⟨show cl ≠ c7 by omega, trivial⟩))
    have s3 := u3.size
    repeat' (first | (apply Wl.nil) | (apply Wl.splitP; exact rfl; exact rfl; all_goals (intros; try (exfalso; omega))) | (apply Wl.splitB; exact rfl; exact rfl; all_goals intros) | (apply St.condP; exact rfl; all_goals (intros; try (exfalso; omega))) | (apply St.condB; exact rfl; all_goals intros))
    refine Mt.backE (fun u h => h.upd.heap h73 (fun y => y (by first | exact trivial | exact ⟨show cl ≠ c7 by omega, trivial⟩))) ?_
    refine Mt.eff1 (i := 7) (by decide +kernel) (by exact rfl) ?_
    apply Wl.callQ
    · exact rfl
    · (repeat (first | exact Evs.nil | apply Evs.cons rfl))
    · intro wq hq
      have huq : Upd (fun j => w.heap.size ≤ j) w wq := hpOn hq hB3 (by simp; omega)
      refine (sealMac _ _ (k ++ List.replicate q 0) [l] wq (hK.upd huq (by omega)) (hb3.upd hq.upd (fun j hj hs => hs (hof3 j hj).1)).bs (by rw [List.length_append, List.length_replicate]; omega) (Pts.one (hq.own.at (.head _)) (ht.upd huq fun j _ hj _ y => by omega)) (by simp; omega)).mono ?_
      rintro e wr ⟨rfl, hr⟩
      exact ⟨rfl, hq.keep hr⟩
    rw [show [l].flatten = l by simp, mac_zeros k l q (by omega)]
    repeat' (first | (apply Wl.nil) | (apply Wl.splitP; exact rfl; exact rfl; all_goals (intros; try (exfalso; omega))) | (apply Wl.splitB; exact rfl; exact rfl; all_goals intros) | (apply St.condP; exact rfl; all_goals (intros; try (exfalso; omega))) | (apply St.condB; exact rfl; all_goals intros))
    refine Mt.backE (fun u h => h.upd.heap h73 (fun y => y (by first | exact trivial | exact ⟨show cl ≠ c7 by omega, trivial⟩))) ?_
    refine Mt.pure 8 (by decide +kernel) (by exact rfl) (by exact rfl) (by decide +kernel) (by decide +kernel) ?_
    repeat' (first | (apply Wl.eqlA (t := 45); exact rfl; exact rfl; exact rfl; kernel_rfl; kernel_rfl; kernel_rfl; kernel_rfl; exact cell8 _ (shaLt _); exact cell8 _ (shaLt _); (first | with_reducible exact eqF rfl | with_reducible exact eqF hEq)) | (apply Wl.nilM) | (apply Wl.splitP; exact rfl; exact rfl; all_goals (intros; try (exfalso; omega))) | (apply Wl.splitB; exact rfl; exact rfl; all_goals intros) | (apply St.condP; exact rfl; all_goals (intros; try (exfalso; omega))) | (apply St.condB; exact rfl; all_goals intros))
    apply Mt.back
    refine Mt.pure 9 (by decide +kernel) (by exact rfl) (by exact rfl) (by decide +kernel) (by decide +kernel) ?_
    repeat' (first | (apply Wl.assign; exact rfl; exact rfl) | (apply Wl.nilM) | (apply Wl.splitP; exact rfl; exact rfl; all_goals (intros; try (exfalso; omega))) | (apply Wl.splitB; exact rfl; exact rfl; all_goals intros) | (apply St.condP; exact rfl; all_goals (intros; try (exfalso; omega))) | (apply St.condB; exact rfl; all_goals intros))
    apply Mt.back
    refine Mt.toGt (by decide +kernel) ?_
    repeat' (first | (apply St.ret) | (apply Gt.next) | (apply Gt.out1; exact rfl; exact rfl; intro w' hp) | (apply Wl.splitP; exact rfl; exact rfl; all_goals (intros; try (exfalso; omega))) | (apply Wl.splitB; exact rfl; exact rfl; all_goals intros) | (apply St.condP; exact rfl; all_goals (intros; try (exfalso; omega))) | (apply St.condB; exact rfl; all_goals intros))
    exact ⟨rfl, hpFin hp hB3 (by simp; omega)⟩
end Go.Proofs.YtfaobdakpbpkbaaDoor
end
