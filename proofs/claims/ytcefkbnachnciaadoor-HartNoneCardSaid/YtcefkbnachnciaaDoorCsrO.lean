/-
  csr.New, porticoref15.New: a file of zeros, in the machine's mode; the map of the registers, all zero.
-/
import Derived.Test.YtcefkbnachnciaaDoorCsrN
namespace Go.Proofs.YtcefkbnachnciaaDoor
open Go.RowKit Go.Pt
def fzero : List Value := [.int .u8 0, .int .u8 0, .int .u8 0, .int .u8 0, .int .u8 0, .int .u8 0, .int .u8 0, .int .u8 0, .int .u8 0, .int .u8 0, .int .u8 0, .int .u8 0, .int .u8 0, .int .u8 0, .int .u8 0, .int .u8 0,
  .int .u32 0, .int .u32 0, .int .u32 0, .int .u32 0, .int .u32 0, .int .u32 0, .int .u32 0, .int .u32 0, .int .u32 0, .int .u32 0, .int .u32 0, .int .u32 0, .int .u32 0, .int .u32 0, .int .u32 0, .int .u32 0, .int .u64 0, .int .u64 0]
theorem fzero_kd : Kd fkd 34 fzero := by
  have : fzero = (List.range 34).map fun i => Value.int (fkd i) ((fun _ => 0 : Nat → Int) i) := by rfl
  rw [this]; exact Kd.mk'
def mzero : List Value := [.int .i64 0, .int .i64 0, .int .i64 0, .int .i64 0, .int .i64 0, .int .i64 0, .int .i64 0, .int .i64 0, .int .i64 0, .int .i64 0, .int .i64 0, .int .i64 0, .int .i64 0, .int .i64 0, .int .i64 0, .int .i64 0, .int .u64 0, .int .u64 0]
theorem mzero_kd : Kd mkd 18 mzero := by
  have : mzero = (List.range 18).map fun i => Value.int (mkd i) ((fun _ => 0 : Nat → Int) i) := by rfl
  rw [this]; exact Kd.mk'
theorem newUpd {w w' : World} {H : List Blk} (h : Hp w H w') (hn : ∀ x ∈ H, w.heap.size ≤ x.b) : Upd (fun k => w.heap.size ≤ k) w w' := (h.drop hn).upd.mono fun _ _ y => (y trivial).elim
set_option maxHeartbeats 4000000 in
theorem fnew (w : World) : Calls Tryd.prog 21 #[] w fun e w' => ∃ c, e = .returned (.pointer (some ⟨c, 0, none⟩)) ∧ FF w' c 3 0 ∧ w.heap.size ≤ c ∧ Upd (fun k => w.heap.size ≤ k) w w' := by
  refine enter (args := []) (Γ := []) Tryd.func21 Tryd.ntmps21 rfl (of_decide_eq_true rfl) .nil ?_
  repeat' (first | (apply Wl.assign; exact rfl; exact rfl) | (apply Wl.buildS; exact rfl; (repeat (first | exact Parts.nil | apply Parts.cons rfl)); (repeat (first | apply Fills.nil | (apply Fills.one; exact rfl; exact rfl; (repeat (first | apply LSet.z | apply LSet.s))) | (apply Fills.agg; exact rfl; exact rfl; (repeat (first | apply LPut.s | apply LPut.z | apply LOver.nil | apply LOver.cons)))))) | (apply Wl.boxA; exact rfl; exact rfl; intro c hc ho) | (apply Wl.nil) | (apply St.seq) | (apply St.region) | (apply St.ret) | (apply Gt.next) | (apply Gt.out1; exact rfl; exact rfl; intro w' hp) | (apply Wl.splitP; exact rfl; exact rfl; all_goals (intros; try (exfalso; omega))) | (apply Wl.splitB; exact rfl; exact rfl; all_goals intros) | (apply St.condP; exact rfl; all_goals (intros; try (exfalso; omega))) | (apply St.condB; exact rfl; all_goals intros))
  exact ⟨_, rfl, (FF.leaf (cs := fzero) fzero_kd hp).1, by assumption, newUpd hp (by simpa using by assumption)⟩
def keys15 : List Int := [768, 772, 773, 832, 833, 834, 835, 836]
set_option maxHeartbeats 4000000 in
theorem mnew (w : World) : Calls Tryd.prog 29 #[] w fun e w' => ∃ c b, e = .returned (.pointer (some ⟨c, 0, none⟩)) ∧ MM w' c b 24 0 ∧ w.heap.size ≤ c ∧ w.heap.size ≤ b ∧ Upd (fun k => w.heap.size ≤ k) w w' := by
  refine enter (args := []) (Γ := []) Tryd.func29 Tryd.ntmps29 rfl (of_decide_eq_true rfl) .nil ?_
  repeat' (first | (apply Wl.assign; exact rfl; exact rfl) | (apply Wl.nil) | (apply St.seq) | (apply St.region) | (apply Gt.next) | (apply Wl.splitP; exact rfl; exact rfl; all_goals (intros; try (exfalso; omega))) | (apply Wl.splitB; exact rfl; exact rfl; all_goals intros) | (apply St.condP; exact rfl; all_goals (intros; try (exfalso; omega))) | (apply St.condB; exact rfl; all_goals intros))
  apply Wl.makeMapI (k := 3) (e := 3)
  · exact rfl
  intro b wm hbm hmm hum hoff
  repeat' (first | (apply Wl.assign; exact rfl; exact rfl) | (apply Wl.buildS; exact rfl; (repeat (first | exact Parts.nil | apply Parts.cons rfl)); (repeat (first | apply Fills.nil | (apply Fills.one; exact rfl; exact rfl; (repeat (first | apply LSet.z | apply LSet.s))) | (apply Fills.agg; exact rfl; exact rfl; (repeat (first | apply LPut.s | apply LPut.z | apply LOver.nil | apply LOver.cons)))))) | (apply Wl.lit; exact rfl; (repeat (first | exact Parts.nil | apply Parts.cons rfl)); exact rfl; exact rfl; (repeat (first | apply CatP.nil | (apply CatP.one; exact rfl; exact rfl) | (apply CatP.agg; exact rfl) | apply LApp.nil | apply LApp.cons)); intro c hc ho) | (apply Wl.boxA; exact rfl; exact rfl; intro c hc ho) | (apply Wl.nil) | (apply St.seq) | (apply St.block) | (apply St.region) | (apply Gt.next) | (apply Wl.splitP; exact rfl; exact rfl; all_goals (intros; try (exfalso; omega))) | (apply Wl.splitB; exact rfl; exact rfl; all_goals intros) | (apply St.condP; exact rfl; all_goals (intros; try (exfalso; omega))) | (apply St.condB; exact rfl; all_goals intros))
  rename_i cf hcf hof
  have hb := hmm.lt
  have hcfb : cf ≠ b := by omega
  have hcb : c ≠ b := by omega
  have hcc : c ≠ cf := fun e => ho.1 e.symm
  have hmax : 40 < maxLen := by unfold maxLen; omega
  refine St.loop (σ := Nat × World) (fun τ => τ.1 ≤ 8 ∧ (∃ lk, MapI Tryd.prog 3 3 τ.2 b τ.1 lk ∧ ∀ t, lk t = if t ∈ keys15.take τ.1 then some 0 else none) ∧ Upd (fun k => w.heap.size ≤ k) w τ.2)
    (fun τ => [(3, .int .i64 τ.1), (2, .slice (some ⟨c, 0, none⟩) 8 8), (1, .pointer (some ⟨cf, 0, none⟩)), (0, .pointer none)])
    (fun τ => Hp τ.2 [⟨c, keys15.map (Value.int .i64), 3⟩, ⟨cf, .int .i64 3 :: .map (some b) :: mzero, 89⟩]) (fun τ => 8 - τ.1) (0, wm) ⟨by simp, ⟨_, hmm, fun _ => rfl⟩, hum.mono fun _ _ y => (y trivial).elim⟩ (by (repeat (first | exact Sub.nil | apply Sub.cons rfl))) (fun _ h => h) ?_
  rintro ⟨i, w1⟩ ⟨hi, ⟨lk, hm, hlk⟩, hU⟩
  simp only at hi hm hlk hU ⊢
  by_cases hlt : i < 8
  · obtain ⟨k, hk⟩ : ∃ k, keys15[i]? = some k := ⟨_, List.getElem?_eq_getElem hlt⟩
    have hki : (keys15.map (Value.int .i64))[0 + (i : Int).toNat]? = some (.int .i64 k) := by rw [Nat.zero_add, Int.toNat_natCast, List.getElem?_map, hk]; rfl
    have hkr : k ∈ keys15 := List.mem_of_getElem? hk
    have hkI : I64 k := by simp only [keys15, List.mem_cons, List.not_mem_nil, or_false] at hkr; unfold I64; omega
    repeat' (first | (apply Wl.move; exact rfl; exact rfl) | (apply Wl.lss; exact rfl; exact rfl; exact rfl) | (apply Wl.len; exact rfl; exact rfl) | (apply Wl.nil) | (apply St.seq) | (apply St.block) | (apply St.region) | (apply St.skip) | (apply Gt.next) | (apply Wl.splitP; exact rfl; exact rfl; all_goals (intros; try (exfalso; omega))) | (apply Wl.splitB; exact rfl; exact rfl; all_goals intros) | (apply St.condP; exact rfl; all_goals (intros; try (exfalso; omega))) | (apply St.condB; exact rfl; all_goals intros))
    refine St.tree (fun w' => w'.heap[c]? = some (.cells (keys15.map (Value.int .i64)).toArray 3 (0, 0)) ∧ w'.heap[cf]? = some (.cells (.int .i64 3 :: .map (some b) :: mzero).toArray 89 (0, 0))) mixed (fun _ h => ⟨Hp.drew h, (Hp.drew h).own.1, (Hp.drew h).own.2.1⟩) ?_
    refine Mt.pure 0 (by decide +kernel) (by exact rfl) (by exact rfl) (by decide +kernel) (by decide +kernel) ?_
    repeat' (first | (apply Wl.move; exact rfl; exact rfl) | (apply Wl.nilM) | (apply Wl.splitP; exact rfl; exact rfl; all_goals (intros; try (exfalso; omega))) | (apply Wl.splitB; exact rfl; exact rfl; all_goals intros) | (apply St.condP; exact rfl; all_goals (intros; try (exfalso; omega))) | (apply St.condB; exact rfl; all_goals intros))
    apply Mt.back
    refine Mt.pure 1 (by decide +kernel) (by exact rfl) (by exact rfl) (by decide +kernel) (by decide +kernel) ?_
    repeat' (first | (apply Wl.nilCheck; exact rfl; exact rfl) | (apply Wl.nilM) | (apply Wl.splitP; exact rfl; exact rfl; all_goals (intros; try (exfalso; omega))) | (apply Wl.splitB; exact rfl; exact rfl; all_goals intros) | (apply St.condP; exact rfl; all_goals (intros; try (exfalso; omega))) | (apply St.condB; exact rfl; all_goals intros))
    apply Mt.back
    refine Mt.pure 2 (by decide +kernel) (by exact rfl) (by exact rfl) (by decide +kernel) (by decide +kernel) ?_
    repeat' (first | (apply Wl.fieldAddrZ; exact rfl; exact rfl) | (apply Wl.nilM) | (apply Wl.splitP; exact rfl; exact rfl; all_goals (intros; try (exfalso; omega))) | (apply Wl.splitB; exact rfl; exact rfl; all_goals intros) | (apply St.condP; exact rfl; all_goals (intros; try (exfalso; omega))) | (apply St.condB; exact rfl; all_goals intros))
    apply Mt.back
    refine Mt.pure 3 (by decide +kernel) (by exact rfl) (by exact rfl) (by decide +kernel) (by decide +kernel) ?_
    repeat' (first | (apply Wl.loadF; exact rfl; exact rfl; (intro w' h; first | exact cell_of h.1 hki | exact cell_of h.2 rfl)) | (apply Wl.nilM) | (apply Wl.splitP; exact rfl; exact rfl; all_goals (intros; try (exfalso; omega))) | (apply Wl.splitB; exact rfl; exact rfl; all_goals intros) | (apply St.condP; exact rfl; all_goals (intros; try (exfalso; omega))) | (apply St.condB; exact rfl; all_goals intros))
    apply Mt.back
    refine Mt.pure 4 (by decide +kernel) (by exact rfl) (by exact rfl) (by decide +kernel) (by decide +kernel) ?_
    repeat' (first | (apply Wl.move; exact rfl; exact rfl) | (apply Wl.nilM) | (apply Wl.splitP; exact rfl; exact rfl; all_goals (intros; try (exfalso; omega))) | (apply Wl.splitB; exact rfl; exact rfl; all_goals intros) | (apply St.condP; exact rfl; all_goals (intros; try (exfalso; omega))) | (apply St.condB; exact rfl; all_goals intros))
    apply Mt.back
    refine Mt.pure 5 (by decide +kernel) (by exact rfl) (by exact rfl) (by decide +kernel) (by decide +kernel) ?_
    repeat' (first | (apply Wl.move; exact rfl; exact rfl) | (apply Wl.nilM) | (apply Wl.splitP; exact rfl; exact rfl; all_goals (intros; try (exfalso; omega))) | (apply Wl.splitB; exact rfl; exact rfl; all_goals intros) | (apply St.condP; exact rfl; all_goals (intros; try (exfalso; omega))) | (apply St.condB; exact rfl; all_goals intros))
    apply Mt.back
    refine Mt.pure 6 (by decide +kernel) (by exact rfl) (by exact rfl) (by decide +kernel) (by decide +kernel) ?_
    repeat' (first | (apply Wl.indexAddr1; exact rfl; exact rfl; exact rfl; (constructor <;> omega)) | (apply Wl.nilM) | (apply Wl.splitP; exact rfl; exact rfl; all_goals (intros; try (exfalso; omega))) | (apply Wl.splitB; exact rfl; exact rfl; all_goals intros) | (apply St.condP; exact rfl; all_goals (intros; try (exfalso; omega))) | (apply St.condB; exact rfl; all_goals intros))
    apply Mt.back
    refine Mt.pure 7 (by decide +kernel) (by exact rfl) (by exact rfl) (by decide +kernel) (by decide +kernel) ?_
    repeat' (first | (apply Wl.loadF; exact rfl; exact rfl; (intro w' h; first | exact cell_of h.1 hki | exact cell_of h.2 rfl)) | (apply Wl.nilM) | (apply Wl.splitP; exact rfl; exact rfl; all_goals (intros; try (exfalso; omega))) | (apply Wl.splitB; exact rfl; exact rfl; all_goals intros) | (apply St.condP; exact rfl; all_goals (intros; try (exfalso; omega))) | (apply St.condB; exact rfl; all_goals intros))
    apply Mt.back
    refine Mt.eff1 (i := 8) (by decide +kernel) (by exact rfl) ?_
    apply Wl.storeI (k := 3) (e := 3) (hown := hm)
    · exact rfl
    · exact rfl
    · exact rfl
    · exact hkI
    · unfold I64; omega
    · omega
    · exact ⟨hcb, hcfb, trivial⟩
    intro w2 hm2 hu2
    have hU2 : Upd (fun k => w.heap.size ≤ k) w w2 := hU.comp hu2 fun j _ hs => hs.elim id fun hs => hs.elim (fun e => by omega) fun y => Classical.byContradiction fun z => y ⟨fun e => by simp only at e; omega, fun e => by simp only at e; omega, trivial⟩
    repeat' (first | (apply Wl.nil) | (apply Wl.splitP; exact rfl; exact rfl; all_goals (intros; try (exfalso; omega))) | (apply Wl.splitB; exact rfl; exact rfl; all_goals intros) | (apply St.condP; exact rfl; all_goals (intros; try (exfalso; omega))) | (apply St.condB; exact rfl; all_goals intros))
    refine Mt.backE (fun _ h => ⟨h.own.1, h.own.2.1⟩) ?_
    refine Mt.toGt (by decide +kernel) ?_
    repeat' (first | (apply Wl.move; exact rfl; exact rfl) | (apply Wl.assign; exact rfl; exact rfl) | (apply Wl.addI; exact rfl; exact rfl; exact rfl; (constructor <;> omega)) | (apply Wl.nil) | (apply St.region) | (apply Gt.next) | (apply Gt.inNormal) | (apply Wl.splitP; exact rfl; exact rfl; all_goals (intros; try (exfalso; omega))) | (apply Wl.splitB; exact rfl; exact rfl; all_goals intros) | (apply St.condP; exact rfl; all_goals (intros; try (exfalso; omega))) | (apply St.condB; exact rfl; all_goals intros))
    apply Gt.round (i + 1, w2)
    rotate_left
    · simp only; omega
    · (repeat (first | exact Sub.nil | apply Sub.cons rfl))
    · exact fun _ h => h
    · refine ⟨by simp only; omega, ⟨_, hm2, fun t => ?_⟩, hU2⟩
      simp only
      rw [List.take_add_one, hk, hlk t]
      by_cases e : t = k
      · subst e; simp
      · simp [e]
  · have hi8 : i = 8 := by omega
    subst hi8
    repeat' (first | (apply Wl.move; exact rfl; exact rfl) | (apply Wl.assign; exact rfl; exact rfl) | (apply Wl.lss; exact rfl; exact rfl; exact rfl) | (apply Wl.len; exact rfl; exact rfl) | (apply Wl.nil) | (apply St.seq) | (apply St.block) | (apply St.region) | (apply St.condF; exact rfl; (first | with_reducible rfl | with_reducible assumption | decide)) | (apply St.exit) | (apply Gt.next) | (apply Gt.thenExit) | (apply Gt.inExit) | (apply Wl.splitP; exact rfl; exact rfl; all_goals (intros; try (exfalso; omega))) | (apply Wl.splitB; exact rfl; exact rfl; all_goals intros) | (apply St.condP; exact rfl; all_goals (intros; try (exfalso; omega))) | (apply St.condB; exact rfl; all_goals intros))
    refine St.loop (σ := Nat × World) (fun τ => τ.1 ≤ 16 ∧ (∃ lk, MapI Tryd.prog 3 3 τ.2 b (8 + τ.1) lk ∧ ∀ t, lk t = if t ∈ keys15 ∨ (944 ≤ t ∧ t < 944 + (τ.1 : Int)) then some 0 else none) ∧ Upd (fun k => w.heap.size ≤ k) w τ.2)
      (fun τ => [(4, .int .i64 τ.1), (1, .pointer (some ⟨cf, 0, none⟩)), (0, .pointer none)])
      (fun τ => Hp τ.2 [⟨c, keys15.map (Value.int .i64), 3⟩, ⟨cf, .int .i64 3 :: .map (some b) :: mzero, 89⟩]) (fun τ => 16 - τ.1) (0, w1)
      ⟨by simp, ⟨_, hm, fun t => by rw [hlk t, show keys15.take 8 = keys15 from rfl]; congr 1; simp only [eq_iff_iff]; constructor <;> (intro h; first | exact .inl h | (rcases h with h | h; exact h; exact absurd h (by omega)))⟩, hU⟩ (by (repeat (first | exact Sub.nil | apply Sub.cons rfl))) (fun _ h => h) ?_
    rintro ⟨i, w1⟩ ⟨hi, ⟨lk, hm, hlk⟩, hU⟩
    simp only at hi hm hlk hU ⊢
    by_cases hlt : i < 16
    · repeat' (first | (apply Wl.move; exact rfl; exact rfl) | (apply Wl.nilCheck; exact rfl; exact rfl) | (apply Wl.fieldAddrZ; exact rfl; exact rfl) | (apply Wl.loadH; exact rfl; exact rfl; (repeat (first | exact List.Mem.head _ | apply List.Mem.tail)); exact rfl) | (apply Wl.lss; exact rfl; exact rfl; exact rfl) | (apply Wl.addI; exact rfl; exact rfl; exact rfl; (constructor <;> omega)) | (apply Wl.nil) | (apply St.seq) | (apply St.block) | (apply St.region) | (apply St.skip) | (apply Gt.next) | (apply Wl.splitP; exact rfl; exact rfl; all_goals (intros; try (exfalso; omega))) | (apply Wl.splitB; exact rfl; exact rfl; all_goals intros) | (apply St.condP; exact rfl; all_goals (intros; try (exfalso; omega))) | (apply St.condB; exact rfl; all_goals intros))
      apply Wl.storeI (k := 3) (e := 3) (hown := hm)
      · exact rfl
      · exact rfl
      · exact rfl
      · unfold I64; omega
      · unfold I64; omega
      · omega
      · exact ⟨hcb, hcfb, trivial⟩
      intro w2 hm2 hu2
      have hU2 : Upd (fun k => w.heap.size ≤ k) w w2 := hU.comp hu2 fun j _ hs => hs.elim id fun hs => hs.elim (fun e => by omega) fun y => Classical.byContradiction fun z => y ⟨fun e => by simp only at e; omega, fun e => by simp only at e; omega, trivial⟩
      repeat' (first | (apply Wl.move; exact rfl; exact rfl) | (apply Wl.assign; exact rfl; exact rfl) | (apply Wl.addI; exact rfl; exact rfl; exact rfl; (constructor <;> omega)) | (apply Wl.nil) | (apply St.region) | (apply Gt.next) | (apply Gt.inNormal) | (apply Wl.splitP; exact rfl; exact rfl; all_goals (intros; try (exfalso; omega))) | (apply Wl.splitB; exact rfl; exact rfl; all_goals intros) | (apply St.condP; exact rfl; all_goals (intros; try (exfalso; omega))) | (apply St.condB; exact rfl; all_goals intros))
      apply Gt.round (i + 1, w2)
      rotate_left
      · simp only; omega
      · (repeat (first | exact Sub.nil | apply Sub.cons rfl))
      · exact fun _ h => h
      · refine ⟨by simp only; omega, ⟨_, hm2, fun t => ?_⟩, hU2⟩
        simp only
        rw [hlk t]
        by_cases e : t = 944 + i
        · rw [if_pos e, if_pos (.inr (by omega))]
        · rw [if_neg e]
          congr 1
          simp only [eq_iff_iff]
          constructor
          · rintro (h | h)
            · exact .inl h
            · exact .inr (by omega)
          · rintro (h | h)
            · exact .inl h
            · exact .inr (by omega)
    · have hi16 : i = 16 := by omega
      subst hi16
      repeat' (first | (apply Wl.move; exact rfl; exact rfl) | (apply Wl.assign; exact rfl; exact rfl) | (apply Wl.lss; exact rfl; exact rfl; exact rfl) | (apply Wl.nil) | (apply St.seq) | (apply St.region) | (apply St.condF; exact rfl; (first | with_reducible rfl | with_reducible assumption | decide)) | (apply St.ret) | (apply St.exit) | (apply Gt.next) | (apply Gt.thenExit) | (apply Gt.inExit) | (apply Gt.out1; exact rfl; exact rfl; intro w' hp) | (apply Wl.splitP; exact rfl; exact rfl; all_goals (intros; try (exfalso; omega))) | (apply Wl.splitB; exact rfl; exact rfl; all_goals intros) | (apply St.condP; exact rfl; all_goals (intros; try (exfalso; omega))) | (apply St.condB; exact rfl; all_goals intros))
      have hKO : KeysOk lk 0 := by
        refine ⟨fun t => ?_, ?_⟩
        · rw [hlk t]
          by_cases h : IsKey t
          · rw [if_pos (by unfold IsKey at h; simp only [keys15, List.mem_cons, List.not_mem_nil, or_false]; omega), decide_eq_true h]; rfl
          · rw [if_neg (by unfold IsKey at h; simp only [keys15, List.mem_cons, List.not_mem_nil, or_false]; omega), decide_eq_false h]; rfl
        · rw [hlk, if_pos (.inl (by decide))]
      exact ⟨cf, b, rfl, ⟨3, mzero, 24, lk, mzero_kd, hp.own.2.1, hm.upd hp.upd fun y => y ⟨hcb, hcfb, trivial⟩, Nat.le_refl _, hKO⟩, by omega, hbm,
        hU.comp hp.upd fun j _ hs => hs.elim id fun y => Classical.byContradiction fun z => y ⟨fun e => by simp only at e; omega, fun e => by simp only at e; omega, trivial⟩⟩
end Go.Proofs.YtcefkbnachnciaaDoor
