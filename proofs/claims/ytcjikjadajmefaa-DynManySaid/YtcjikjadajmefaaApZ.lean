/-
  append(s, make([]byte, k)...) onto a slice that the call owns.
-/
import Derived.Test.YtcjikjadajmefaaFacts
import Derived.Lib.AppendZerosOnto
namespace Go.Pt
open Go.RowKit
theorem zeroCells_u8 (k : Nat) : Builtin.zeroCells (Value.int .u8 0).cells k = (List.replicate k (Value.int .u8 0)).toArray := by
  have h : ∀ i, (#[Value.int .u8 0] : Array Value)[i % (#[Value.int .u8 0] : Array Value).size]! = Value.int .u8 0 := fun i => by
    have : i % (#[Value.int .u8 0] : Array Value).size = 0 := by simp; omega
    rw [this]; rfl
  unfold Builtin.zeroCells
  have hc : (Value.int .u8 0).cells = #[Value.int .u8 0] := rfl
  rw [hc]
  apply Array.ext
  · simp
  · intro i h1 h2
    simp only [Array.getElem_map]
    rw [h]
    simp
theorem run_append_zeros {P : Program} {w : World} {t tn ty e base n k : Nat} {v : Value} {xs : List Value} [ht : TyD P t (.slice e)] [htn : TyD P tn (.int .i64)] [hs : TyS P e 1 1] [hz : TyZ P e (.int .u8 0)]
    (hown : w.ownsRow base e 1 v n xs) (hn : 0 < n) (hk : 0 < k) (h63 : n + k ≤ maxLen) (hb : n + k ≤ 140737488355328) (hbase : base ≤ w.heap.size) :
    ∃ v' w', (Builtin.append_ #[t, tn] ty #[v, .int .i64 k]).run P w = .ok v' w' ∧ w'.ownsRow base e 1 v' (n + k) (xs ++ List.replicate k (.int .u8 0)) ∧ w.grownBy w' v.ownBlock ∧
      (∀ j, v'.ownBlock = some j → v.ownBlock = some j ∨ w.heap.size ≤ j) := by
  have a1 := hs.out
  have a2 := hz.out
  cases e1 : P.info? e with
  | none => rw [e1] at a1; cases a1
  | some i =>
    rw [e1] at a1 a2
    simp at a1 a2
    obtain ⟨s1, s2⟩ := a1
    have hlen : (xs ++ List.replicate k (Value.int .u8 0)).length = (n + k) * 1 := by rw [List.length_append, hown.1, List.length_replicate]; omega
    rcases hown.2 with ⟨_, h0⟩ | ⟨g, cap, cur, rfl, hg, hh, hnc, hcm, hcs, htk⟩
    · omega
    have hkw : IntKind.i64.wrap (k : Int) = k := by rw [IntKind.wrap_i64]; unfold maxLen at h63; omega
    by_cases hroom : n + k ≤ cap
    · have hfit : n * i.size + (List.replicate k (Value.int .u8 0)).length ≤ cur.size := by rw [List.length_replicate, hcs, s1]; omega
      have hst := run_storeCells_at P g (n * i.size) e (List.replicate k (Value.int .u8 0)) 0 cur w hh (by simpa using hfit) (fun u hu => by rw [(List.mem_replicate.1 hu).2]; rfl)
      simp only [Nat.add_zero] at hst
      have hneg : ¬ ((k : Int) < 0) := by omega
      have h48i : ¬ (281474976710656 < (k : Int) * (i.bytes : Int)) := by rw [s2]; omega
      have hns : ¬ (k * i.size = 0) := by rw [s1]; omega
      have hr : (Builtin.append_ #[t, tn] ty #[.slice (some ⟨g, 0, none⟩) n cap, .int .i64 k]).run P w = .ok (.slice (some ⟨g, 0, none⟩) (n + k) cap) (w.setRow g (cur.toList.take (n * i.size) ++ List.replicate k (Value.int .u8 0) ++ cur.toList.drop (n * i.size + (List.replicate k (Value.int .u8 0)).length)).toArray) := by
        simp [Builtin.append_, run_underlying ht.out, run_underlying htn.out, sizeOf, typeInfo, zeroValue, e1, a2, asInt, asIntOf, hkw, hneg, h48i, hns, hroom, zeroCells_u8, Addr.add_lit]
        have hst2 := hst
        simp only [List.length_replicate] at hst2 ⊢
        simp [hst2]
      refine ⟨_, _, hr, ⟨hlen, .inr ⟨g, cap, _, rfl, hg, setRow_heap w g cur _ e _ hh, hroom, hcm, ?_, ?_⟩⟩, ⟨rfl, rfl, rfl, by simp, fun j _ hj => setRow_other w g j _ (fun e => hj (by simp [Value.ownBlock, e]))⟩, fun j hj => .inl hj⟩
      · simp only [List.size_toArray, List.length_append, List.length_take, List.length_drop, Array.length_toList]
        omega
      · rw [s1, htk, ← hlen]
        exact List.take_left
    · have holds : (Builtin.firstCells i.size n (.slice (some ⟨g, 0, none⟩) n cap)).run P w.drew = .ok xs.toArray w.drew :=
        run_firstCells_some (P := P) w.drew i.size n ⟨g, 0, none⟩ n cap xs (by rw [hown.1, s1]) fun j u hj => hown.cells (g := g) rfl j u hj
      have hgs : Builtin.nextslicecap (n + k) cap * i.bytes ≤ 281474976710656 := by
        rw [s2]
        exact growslice_fits (by omega) (by omega)
      have hr := Lib.run_append_grow_zeros (P := P) w t tn ty e i (.int .u8 0) .i64 .i64 ht.out htn.out e1 a2 (some ⟨g, 0, none⟩) n cap xs holds k hk (by omega) (by omega) (by unfold maxLen at h63; omega) (by rw [s2]; omega) hgs
      have hge := grownCap_ge w (n + k) cap e
      have hcm' : grownCap w (n + k) cap e ≤ maxLen := grownCap_le_maxLen w (n + k) cap e h63
      refine ⟨_, _, hr, ⟨hlen, .inr ⟨w.heap.size, _, _, rfl, hbase, heap_alloc_new w.drew _, hge, hcm', ?_, ?_⟩⟩, ⟨rfl, rfl, rfl, by simp, fun j hj _ => heap_alloc_old w.drew _ hj⟩, fun j hj => .inr (by simp [Value.ownBlock] at hj; omega)⟩
      · simp only [zeroCells_u8, Array.size_append, List.size_toArray, List.length_replicate, hown.1]
        omega
      · simp only [zeroCells_u8, Array.toList_append, List.append_assoc]
        rw [← List.append_assoc, ← hlen]
        exact List.take_left
section
variable {P : Program} {ops : Array Oper} {N : Nat} {rest : List Oper} {Γ : Env} {Q : Exit → Act → World → Prop} {d : Nat} {ty : TypeId} {pos : String} {af : Array Edge}
theorem Wl.appendZ {w0 : World} {H : List Blk} {t tn e base n k : Nat} {v : Value} {xs : List Value} {s x : Operand} [ht : TyD P t (.slice e)] [htn : TyD P tn (.int .i64)] [hs : TyS P e 1 1] [hz : TyZ P e (.int .u8 0)]
    (hd : Nat.blt d N = true) (hs' : ev Γ s = some v) (hx : ev Γ x = some (.int .i64 k)) (hown : w0.ownsRow base e 1 v n xs) (hoff : ∀ k, v.ownBlock = some k → Off H k) (hn : 0 < n) (hk : 0 < k) (h63 : n + k ≤ maxLen) (hb : n + k ≤ 140737488355328) (hbase : base ≤ w0.heap.size)
    (h : ∀ v' w1, w1.ownsRow base e 1 v' (n + k) (xs ++ List.replicate k (.int .u8 0)) → Upd (fun k => v.ownBlock = some k ∨ ¬ Off H k) w0 w1 → (∀ k, v'.ownBlock = some k → Off H k ∧ (v.ownBlock = some k ∨ w0.heap.size ≤ k)) → Wl rest P .seq ops N ((d, v') :: Γ) (Hp w1 H) Q) :
    Wl (⟨some d, .call { callee := .builtin .append, args := #[s, x], argTypes := #[t, tn] }, ty, pos, af, none⟩ :: rest) P .seq ops N Γ (Hp w0 H) Q :=
  Wl.eff fun a w ha hw => by
    have hown' : w.ownsRow base e 1 v n xs := ownsRow_upd hown hw.upd fun k hk x => x (hoff k hk)
    obtain ⟨v', w', hrun, ho, hg, hkk⟩ := run_append_zeros (P := P) (t := t) (tn := tn) (ty := ty) hown' hn hk h63 hb (Nat.le_trans hbase hw.upd.size)
    have u : Upd (fun k => v.ownBlock = some k) w w' := Upd.grown hg fun k hk => hk
    have hp1 : Own w' H := hw.own.upd u fun y hy hk => (hoff _ hk).at hy rfl
    refine ⟨v', w', .inl ?_, (h v' w' ho ((hw.upd.mono fun k _ hk => .inr hk).trans (u.mono fun k _ hk => .inl hk)) (fun k hk' => (hkk k hk').elim (fun e => ⟨hoff k e, .inl e⟩) fun hge => ⟨Off.of fun y hy e => by have := hw.own.lt hy; omega, .inr (Nat.le_trans hw.upd.size hge)⟩)).elim _ _ (ha.put hd _) ⟨Upd.refl _ _, hp1, hw.apart⟩⟩
    simp [execOp, resolve, invoke, builtin, ha.ev hs', ha.ev hx, hrun]
/-- an element of an array's value -/
theorem Wl.indexV {md : Md} {C : World → Prop} {t e n b1 : TypeId} [ht : TyD P t (.array n e)] [hs : TyS P e 1 b1] [hc : TyC P e] {x i : Operand} {q : IntKind} {j : Nat} {xs : List Value} {v : Value} (hd : Nat.blt d N = true) (hx : ev Γ x = some (.agg xs.toArray)) (hi : ev Γ i = some (.int q (j : Int)))
    (hj : xs[j]? = some v) (hn : j < n) (h : Wl rest P md ops N ((d, v) :: Γ) C Q) : Wl (⟨some d, .index t x i, ty, pos, af, none⟩ :: rest) P md ops N Γ C Q :=
  Wl.val hd (fun a w ha _ => by
    have hj' : xs.toArray[j]? = some v := by simpa using hj
    simp [execOp, ha.ev hx, ha.ev hi, Instr.index, asIntOf, run_underlying ht.out, hn, run_size (P := P) (t := e), part, run_aggC (P := P) (t := e), hj', hj]) h
end
end Go.Pt
