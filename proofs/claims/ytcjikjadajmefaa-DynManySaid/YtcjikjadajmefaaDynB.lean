/-
  Layer 9: porticolaw09.File: a file of code and tables, byte by byte. Conditions: the arguments are of their types.
-/
import Derived.Test.YtcjikjadajmefaaDynF
import Derived.Test.YtcjikjadajmefaaApZ
namespace Go.Proofs.Ytcjikjadajmefaa
open Go.RowKit Go.Pt

/-- an int's eight bytes as a number -/
def y64 (x : Int) : Nat := (x % 18446744073709551616).toNat
theorem y64_nat {x : Nat} (h : x < 18446744073709551616) : y64 x = x := by unfold y64; omega
theorem y64_wrap (x : Int) : y64 (IntKind.i64.wrap x) = y64 x := by
  unfold y64
  rw [IntKind.wrap_i64]
  omega
theorem y64_byte (x : Int) (k : Nat) (hk : k < 8) : x / 2 ^ (8 * k) % 256 = ((y64 x / 2 ^ (8 * k) % 256 : Nat) : Int) := by
  have : k = 0 ∨ k = 1 ∨ k = 2 ∨ k = 3 ∨ k = 4 ∨ k = 5 ∨ k = 6 ∨ k = 7 := by omega
  unfold y64
  rcases this with rfl | rfl | rfl | rfl | rfl | rfl | rfl | rfl <;> simp <;> omega
set_option maxHeartbeats 400000 in
theorem putI_any (n : Nat) (x : Int) (hn : n ≤ 8) (w : World) :
    Calls Try.prog 12 #[.int .i64 n, .int .i64 x] w fun e w' => ∃ v, e = .returned v ∧ Bo w' w.heap.size v (leB n (y64 x)) ∧ Upd (fun k => w.heap.size ≤ k) w w' := by
  refine enter (args := [_, _]) (Γ := [(0, _), (1, _)]) Try.func12 Try.ntmps12 rfl (of_decide_eq_true rfl) (.cons rfl (.cons rfl .nil)) ?_
  repeat' (first | (apply Wl.assign; exact rfl; exact rfl) | (apply Wl.nil) | (apply St.seq) | (apply St.block) | (apply St.region) | (apply Gt.next) | (apply Wl.splitP; exact rfl; exact rfl; all_goals (intros; try (exfalso; omega))) | (apply Wl.splitB; exact rfl; exact rfl; all_goals intros) | (apply St.condP; exact rfl; all_goals (intros; try (exfalso; omega))) | (apply St.condB; exact rfl; all_goals intros))
  refine St.loop (σ := Nat × World × Value) (fun τ => τ.1 ≤ n ∧ Bo τ.2.1 w.heap.size τ.2.2 (leB τ.1 (y64 x)) ∧ Upd (fun k => w.heap.size ≤ k) w τ.2.1)
    (fun τ => [(0, .int .i64 n), (1, .int .i64 x), (5, τ.2.2), (6, .int .i64 τ.1)]) (fun τ => Hp τ.2.1 []) (fun τ => n - τ.1) (0, w, .slice none 0 0)
    ⟨Nat.zero_le _, Bo.nil w _, Upd.refl _ _⟩ (by (repeat (first | exact Sub.nil | apply Sub.cons rfl))) (fun _ h => h) ?_
  rintro ⟨k, w0, b⟩ ⟨hk, hbo, hu⟩
  simp only at hk hbo hu ⊢
  obtain ⟨a, cap, rfl, hlc, hm⟩ := hbo.shape
  repeat' (first | (apply Wl.move; exact rfl; exact rfl) | (apply Wl.assign; exact rfl; exact rfl) | (apply Wl.lss; exact rfl; exact rfl; exact rfl) | (apply Wl.mulI; exact rfl; exact rfl; exact rfl; (constructor <;> omega)) | (apply Wl.shr; exact rfl; exact rfl; exact rfl; (omega)) | (apply Wl.convI; exact rfl; exact rfl) | (apply Wl.lit; exact rfl; (repeat (first | exact Parts.nil | apply Parts.cons rfl)); exact rfl; exact rfl; (repeat (first | apply CatP.nil | (apply CatP.one; exact rfl; exact rfl) | (apply CatP.agg; exact rfl) | apply LApp.nil | apply LApp.cons)); intro c hc ho) | (apply Wl.nil) | (apply St.seq) | (apply St.block) | (apply St.region) | (apply St.ret) | (apply St.skip) | (apply St.exit) | (apply Gt.next) | (apply Gt.thenExit) | (apply Gt.inExit) | (apply Gt.out1; exact rfl; exact rfl; intro w' hp) | (apply Wl.splitP; exact rfl; exact rfl; all_goals (intros; try (exfalso; omega))) | (apply Wl.splitB; exact rfl; exact rfl; all_goals intros) | (apply St.condP; exact rfl; all_goals (intros; try (exfalso; omega))) | (apply St.condB; exact rfl; all_goals intros))
  · apply Wl.appendT
    exact rfl
    exact rfl
    exact rfl
    exact hc
    exact rfl
    exact hbo
    · intro k _; trivial
    exact rfl
    exact rfl
    · decide
    · rw [leB_length]; unfold maxLen; omega
    · rw [leB_length]; omega
    · exact hu.size
    intro v' w1 ho2 u _ _
    have hlt : k < n := by omega
    repeat' (first | (apply Wl.move; exact rfl; exact rfl) | (apply Wl.assign; exact rfl; exact rfl) | (apply Wl.addI; exact rfl; exact rfl; exact rfl; (constructor <;> omega)) | (apply Wl.nil) | (apply St.region) | (apply Gt.next) | (apply Gt.inNormal) | (apply Wl.splitP; exact rfl; exact rfl; all_goals (intros; try (exfalso; omega))) | (apply Wl.splitB; exact rfl; exact rfl; all_goals intros) | (apply St.condP; exact rfl; all_goals (intros; try (exfalso; omega))) | (apply St.condB; exact rfl; all_goals intros))
    apply Gt.round (k + 1, w1, v')
    rotate_left
    · simp only; omega
    · (repeat (first | exact Sub.nil | apply Sub.cons rfl))
    · exact fun _ h => h
    refine ⟨hlt, ?_, hu.comp u fun j _ hs => hs.elim id fun hs => hs.elim (fun hs => hbo.base hs) fun y => (y trivial).elim⟩
    rw [leB_snoc]
    refine Bo.of ho2 rfl ?_
    simp only [byteCells, List.map_cons, List.map_nil, wrap8]
    congr 4
    have e1 : (8 * (k : Int)).toNat = 8 * k := by omega
    have e2 : min (8 * k) IntKind.i64.bits = 8 * k := Nat.min_eq_left (by simp [IntKind.bits]; omega)
    rw [e1, e2, Int.fdiv_eq_ediv_of_nonneg _ (Int.le_of_lt (Int.pow_pos (by decide)))]
    have e5 : (256 : Nat) ^ k = 2 ^ (8 * k) := by rw [show (256 : Nat) = 2 ^ 8 from rfl, ← Nat.pow_mul]
    rw [e5, y64_byte x k (by omega)]
    rfl
  · have : k = n := by omega
    subst this
    exact ⟨_, rfl, hbo.upd hp.upd fun _ _ y => y trivial, hu.comp hp.upd fun _ _ hs => hs.elim id fun y => (y trivial).elim⟩

/-! ### the file's bytes -/
structure Tb where
  tags : List (Nat × Nat)
  syms : List Nat
  relas : List (Nat × Nat × Nat)
  more : Int
  plain : Bool
def pairC (p : Nat × Nat) : List Value := [.int .u32 p.1, .int .u32 p.2]
def tripC (p : Nat × Nat × Nat) : List Value := [.int .u32 p.1, .int .u32 p.2.1, .int .u32 p.2.2]
def symB (v : Nat) : List UInt8 := [1, 0, 0, 0] ++ (leB 4 v ++ List.replicate 8 0)
def tripL (r : Nat × Nat × Nat) : List Nat := [r.1, r.2.1, r.2.2]
def relB (r : Nat × Nat × Nat) : List UInt8 := (tripL r).flatMap (leB 4)
def tagB (x : Nat × Nat) : List UInt8 := leB 4 x.1 ++ leB 4 x.2
def tb0 (t : Tb) : List UInt8 := leB 4 1 ++ leB 4 (y64 (t.syms.length + t.more))
def tb1 (t : Tb) : List UInt8 := tb0 t ++ t.syms.flatMap symB
def tb2 (t : Tb) : List UInt8 := tb1 t ++ t.relas.flatMap relB
def ownTags (t : Tb) : List (Nat × Nat) := [(4, 256), (6, 264), (11, 16), (7, 256 + (tb1 t).length), (8, 12 * t.relas.length), (9, 12), (0, 0)]
def allTags (t : Tb) : List (Nat × Nat) := if t.plain then t.tags ++ ownTags t else t.tags
def tb3 (t : Tb) : List UInt8 := tb2 t ++ (allTags t).flatMap tagB
def tbN (t : Tb) : Nat := (tb3 t).length - (tb2 t).length
def tbHs (code : List UInt8) (t : Tb) : List Hd := [⟨1, 0, code.length, 5⟩, ⟨1, 256, (tb3 t).length, 1⟩, ⟨2, 256 + (tb2 t).length, tbN t, 1⟩]
def tbDs (code : List UInt8) (t : Tb) : List (List UInt8) := [code, tb3 t, List.replicate (tbN t) 0]
def fileT (code : List UInt8) (t : Tb) : List UInt8 := fileB 0 (tbHs code t) (tbDs code t)
def OkTb (code : List UInt8) (t : Tb) : Prop := code.length ≤ 240 ∧ code.length % 4 = 0 ∧ code.length ≠ 0 ∧ t.tags.length ≤ 20 ∧ t.syms.length ≤ 80 ∧ t.relas.length ≤ 80
theorem symB_len (v : Nat) : (symB v).length = 16 := by simp [symB, leB_length]
theorem relB_len (r : Nat × Nat × Nat) : (relB r).length = 12 := by simp [relB, tripL, leB_length]
theorem tagB_len (x : Nat × Nat) : (tagB x).length = 8 := by simp [tagB, leB_length]
theorem flatMap_len {α β : Type} {g : α → List β} {n : Nat} (h : ∀ x, (g x).length = n) (l : List α) : (l.flatMap g).length = n * l.length := by
  induction l with
  | nil => simp
  | cons x r ih => rw [List.flatMap_cons, List.length_append, h, ih, List.length_cons, Nat.mul_succ]; omega
theorem tb0_len (t : Tb) : (tb0 t).length = 8 := by simp [tb0, leB_length]
theorem tb1_len (t : Tb) : (tb1 t).length = 8 + 16 * t.syms.length := by rw [tb1, List.length_append, tb0_len, flatMap_len symB_len]
theorem tb2_len (t : Tb) : (tb2 t).length = 8 + 16 * t.syms.length + 12 * t.relas.length := by rw [tb2, List.length_append, tb1_len, flatMap_len relB_len]
theorem tb3_len (t : Tb) : (tb3 t).length = 8 + 16 * t.syms.length + 12 * t.relas.length + 8 * (allTags t).length := by rw [tb3, List.length_append, tb2_len, flatMap_len tagB_len]
theorem tbN_eq (t : Tb) : tbN t = 8 * (allTags t).length := by rw [tbN, tb3_len, tb2_len]; omega
theorem allTags_len {t : Tb} (h : t.tags.length ≤ 20) : (allTags t).length ≤ 27 := by
  unfold allTags
  split
  · simp [ownTags]; omega
  · omega
/-- what a caller hands over -/
structure TbV (w : World) (vt vs vr : Value) (t : Tb) : Prop where
  tags : Sv w 2 t.tags.length vt (t.tags.flatMap pairC)
  syms : Sv w 1 t.syms.length vs (u32C t.syms)
  relas : Sv w 3 t.relas.length vr (t.relas.flatMap tripC)
  tagsOk : ∀ x ∈ t.tags, x.1 < 4294967296 ∧ x.2 < 4294967296
  symsOk : ∀ x ∈ t.syms, x < 4294967296
  relasOk : ∀ x ∈ t.relas, ∀ y ∈ tripL x, y < 4294967296
theorem notOff1 {c k t : Nat} {cs : List Value} (h : ¬ Off [⟨c, cs, t⟩] k) : k = c := Classical.byContradiction fun e => h ⟨fun e2 => e e2.symm, trivial⟩
theorem made_zeros (n : Nat) : (madeCells (Value.int .u8 0).cells (n * 1)).toList = Pt.byteCells (List.replicate n 0) := by
  have h : ∀ i, (#[Value.int .u8 0] : Array Value)[i % (#[Value.int .u8 0] : Array Value).size]! = Value.int .u8 0 := fun i => by
    have : i % (#[Value.int .u8 0] : Array Value).size = 0 := by simp; omega
    rw [this]; rfl
  unfold madeCells
  have hc : (Value.int .u8 0).cells = #[Value.int .u8 0] := rfl
  rw [hc, Nat.mul_one]
  apply List.ext_getElem
  · simp [Pt.byteCells]
  · intro i h1 h2
    simp only [Array.getElem_toList, Array.getElem_map]
    rw [h]
    simp [Pt.byteCells]
theorem flat3 {α : Type} {g : α → List Value} (hg : ∀ x, (g x).length = 3) {xs : List α} {i j : Nat} {x : α} (hi : xs[i]? = some x) (hj : j < 3) : (xs.flatMap g)[i * 3 + j]? = (g x)[j]? := by
  induction xs generalizing i with
  | nil => simp at hi
  | cons y ys ih =>
    rw [List.flatMap_cons]
    cases i with
    | zero =>
      simp only [List.getElem?_cons_zero, Option.some.injEq] at hi
      subst hi
      rw [List.getElem?_append_left (by rw [hg]; omega)]
      congr 1; omega
    | succ i =>
      rw [List.getElem?_append_right (by rw [hg]; omega), hg]
      rw [List.getElem?_cons_succ] at hi
      rw [← ih hi]
      congr 1; omega
theorem flat2 {α : Type} {g : α → List Value} (hg : ∀ x, (g x).length = 2) {xs : List α} {i j : Nat} {x : α} (hi : xs[i]? = some x) (hj : j < 2) : (xs.flatMap g)[i * 2 + j]? = (g x)[j]? := by
  induction xs generalizing i with
  | nil => simp at hi
  | cons y ys ih =>
    rw [List.flatMap_cons]
    cases i with
    | zero =>
      simp only [List.getElem?_cons_zero, Option.some.injEq] at hi
      subst hi
      rw [List.getElem?_append_left (by rw [hg]; omega)]
      congr 1; omega
    | succ i =>
      rw [List.getElem?_append_right (by rw [hg]; omega), hg]
      rw [List.getElem?_cons_succ] at hi
      rw [← ih hi]
      congr 1; omega
/-- what the walk of File keeps: the base world has grown, b is the call's own -/
theorem Wl.appBs {ops : Array Oper} {N : Nat} {rest : List Oper} {Γ : Env} {Q : Exit → Act → World → Prop} {d : Nat} {ty : TypeId} {pos : String} {af : Array Edge} {w0 : World} {H : List Blk} {base : Nat} {v y : Value} {l m : List UInt8} {s x : Operand}
    (hd : Nat.blt d N = true) (hs' : ev Γ s = some v) (hx : ev Γ x = some y) (hb : Bo w0 base v l) (hy : Bs w0 y m) (hyo : ∀ k, y.ownBlock = some k → k < w0.heap.size → m ≠ [] → Off H k) (hoff : ∀ k, v.ownBlock = some k → Off H k)
    (hlen : l.length + m.length ≤ 1000000) (hbase : base ≤ w0.heap.size)
    (h : ∀ v' w1, Bo w1 base v' (l ++ m) → Upd (fun k => v.ownBlock = some k ∨ ¬ Off H k) w0 w1 → (∀ k, v'.ownBlock = some k → Off H k ∧ (v.ownBlock = some k ∨ w0.heap.size ≤ k)) → Wl rest Try.prog .seq ops N ((d, v') :: Γ) (Hp w1 H) Q) :
    Wl (⟨some d, .call { callee := .builtin .append, args := #[s, x], argTypes := #[22, 22] }, ty, pos, af, none⟩ :: rest) Try.prog .seq ops N Γ (Hp w0 H) Q := by
  refine Wl.appendV (e := 5) (sz := 1) hd hs' hx hy (fun k h1 h2 h3 => hyo k h1 h2 (byteCells_ne.1 h3)) hb hoff (byteCells_all m) rfl (by decide) (by unfold maxLen; omega) (by omega) hbase ?_
  intro v' w1 h1 h2 _ h4
  exact h v' w1 (Bo.of h1 rfl rfl) h2 h4
set_option maxHeartbeats 4000000 in
theorem file09_any (vc vt vs vr : Value) (code : List UInt8) (t : Tb) (w : World) (hcode : Bs w vc code) (ht : TbV w vt vs vr t) :
    Calls Try.prog 8 #[vc, .agg #[vt, vs, vr, .int .i64 t.more, .bool t.plain]] w fun e w' => Upd (fun k => w.heap.size ≤ k) w w' ∧
      ((¬ OkTb code t ∧ e = .returned (.slice none 0 0)) ∨ (OkTb code t ∧ ∃ v', e = .returned v' ∧ Bo w' w.heap.size v' (fileT code t))) := by
  obtain ⟨ca, cc, rfl, hcl, hcm⟩ := hcode.shape
  obtain ⟨sa, sc, rfl⟩ : ∃ a c, vs = .slice a t.syms.length c := by
    obtain ⟨_, a, c, rfl, _⟩ := ht.syms
    exact ⟨_, _, rfl⟩
  obtain ⟨ta, tc, rfl⟩ : ∃ a c, vt = .slice a t.tags.length c := by
    obtain ⟨_, a, c, rfl, _⟩ := ht.tags
    exact ⟨_, _, rfl⟩
  obtain ⟨ra, rc, rfl⟩ : ∃ a c, vr = .slice a t.relas.length c := by
    obtain ⟨_, a, c, rfl, _⟩ := ht.relas
    exact ⟨_, _, rfl⟩
  unfold maxLen at hcm
  have m1 := ht.tags.bound
  have m2 := ht.syms.bound
  have m3 := ht.relas.bound
  refine enter (args := [_, _]) (Γ := [(0, _), (1, _)]) Try.func8 Try.ntmps8 rfl (of_decide_eq_true rfl) (.cons rfl (.cons rfl .nil)) ?_
  have hno {H : List Blk} {w' : World} (hn : ¬ OkTb code t) (hp : Hp w H w') (hH : ∀ x ∈ H, w.heap.size ≤ x.b) : Upd (fun k => w.heap.size ≤ k) w w' ∧ ((¬ OkTb code t ∧ Ending.returned (.slice none 0 0) = .returned (.slice none 0 0)) ∨ (OkTb code t ∧ ∃ v', Ending.returned (.slice none 0 0) = .returned v' ∧ Bo w' w.heap.size v' (fileT code t))) :=
    ⟨upd_new (Upd.refl _ _) hp hH, .inl ⟨hn, rfl⟩⟩
  repeat' (first | (apply Wl.move; exact rfl; exact rfl) | (apply Wl.assign; exact rfl; exact rfl) | (apply Wl.on; exact rfl; exact rfl; (first | with_reducible rfl | with_reducible assumption | decide)) | (apply Wl.off; exact rfl; exact rfl; exact rfl; (first | with_reducible rfl | (show _ = false; with_reducible assumption) | (show _ = true; with_reducible assumption) | decide)) | (apply Wl.pickT; exact rfl; exact rfl; (first | with_reducible rfl | with_reducible assumption | decide); exact rfl) | (apply Wl.pickF; exact rfl; exact rfl; (first | with_reducible rfl | with_reducible assumption | decide); exact rfl) | (apply Wl.fieldAddr0; exact rfl; exact rfl) | (apply Wl.fieldAddrZ; exact rfl; exact rfl) | (apply Wl.loadH; exact rfl; exact rfl; (repeat (first | exact List.Mem.head _ | apply List.Mem.tail)); exact rfl) | (apply Wl.eql; exact rfl; exact rfl; exact rfl) | (apply Wl.neq; exact rfl; exact rfl; exact rfl) | (apply Wl.gtr; exact rfl; exact rfl; exact rfl) | (apply Wl.rem; exact rfl; exact rfl; exact rfl; (first | decide | omega)) | (apply Wl.len; exact rfl; exact rfl) | (apply Wl.boxA; exact rfl; exact rfl; intro c hc ho) | (apply Wl.nil) | (apply St.seq) | (apply St.region) | (apply St.condT; exact rfl; (first | with_reducible rfl | with_reducible assumption | decide)) | (apply St.ret) | (apply St.skip) | (apply Gt.next) | (apply Gt.thenRet) | (apply Gt.out1; exact rfl; exact rfl; intro w' hp) | (apply Wl.splitP; exact rfl; exact rfl; all_goals (intros; try (exfalso; omega))) | (apply Wl.splitB; exact rfl; exact rfl; all_goals intros) | (apply St.condP; exact rfl; all_goals (intros; try (exfalso; omega))) | (apply St.condB; exact rfl; all_goals intros))
  all_goals generalize c = cT at *
  · exact hno (fun ⟨h1, _⟩ => by omega) hp (by simp; omega)
  · exact hno (fun ⟨_, h1, _⟩ => by have h := ‹(code.length : Int).tmod 4 ≠ 0›; exact h (congrArg Nat.cast h1)) hp (by simp; omega)
  · exact hno (fun ⟨_, _, h1, _⟩ => by omega) hp (by simp; omega)
  · exact hno (fun ⟨_, _, _, h1, _⟩ => by omega) hp (by simp; omega)
  · exact hno (fun ⟨_, _, _, _, h1, _⟩ => by omega) hp (by simp; omega)
  · exact hno (fun ⟨_, _, _, _, _, h1⟩ => by omega) hp (by simp; omega)
  have hcT : w.heap.size ≤ cT := by assumption
  have hok : OkTb code t := by
    refine ⟨by omega, ?_, by omega, by omega, by omega, by omega⟩
    have h := ‹¬ (code.length : Int).tmod 4 ≠ 0›
    exact Classical.byContradiction fun e => h fun h => e (by have h' : ((code.length % 4 : Nat) : Int) = 0 := h; omega)
  refine St.tree (Hp w [⟨cT, [.slice ta t.tags.length tc, .slice sa t.syms.length sc, .slice ra t.relas.length rc, .int .i64 t.more, .bool t.plain], 27⟩]) mixed (fun _ h => ⟨Hp.drew h, Hp.drew h⟩) ?_
  refine Mt.pure 1 (by decide +kernel) (by exact rfl) (by exact rfl) (by decide +kernel) (by decide +kernel) ?_
  repeat' (first | (apply Wl.fieldAddrZ; exact rfl; exact rfl) | (apply Wl.nilM) | (apply Wl.splitP; exact rfl; exact rfl; all_goals (intros; try (exfalso; omega))) | (apply Wl.splitB; exact rfl; exact rfl; all_goals intros) | (apply St.condP; exact rfl; all_goals (intros; try (exfalso; omega))) | (apply St.condB; exact rfl; all_goals intros))
  apply Mt.back
  refine Mt.pure 2 (by decide +kernel) (by exact rfl) (by exact rfl) (by decide +kernel) (by decide +kernel) ?_
  repeat' (first | (apply Wl.loadH; exact rfl; exact rfl; (repeat (first | exact List.Mem.head _ | apply List.Mem.tail)); exact rfl) | (apply Wl.nilM) | (apply Wl.splitP; exact rfl; exact rfl; all_goals (intros; try (exfalso; omega))) | (apply Wl.splitB; exact rfl; exact rfl; all_goals intros) | (apply St.condP; exact rfl; all_goals (intros; try (exfalso; omega))) | (apply St.condB; exact rfl; all_goals intros))
  apply Mt.back
  refine Mt.pure 3 (by decide +kernel) (by exact rfl) (by exact rfl) (by decide +kernel) (by decide +kernel) ?_
  repeat' (first | (apply Wl.len; exact rfl; exact rfl) | (apply Wl.nilM) | (apply Wl.splitP; exact rfl; exact rfl; all_goals (intros; try (exfalso; omega))) | (apply Wl.splitB; exact rfl; exact rfl; all_goals intros) | (apply St.condP; exact rfl; all_goals (intros; try (exfalso; omega))) | (apply St.condB; exact rfl; all_goals intros))
  apply Mt.back
  refine Mt.pure 4 (by decide +kernel) (by exact rfl) (by exact rfl) (by decide +kernel) (by decide +kernel) ?_
  repeat' (first | (apply Wl.fieldAddrZ; exact rfl; exact rfl) | (apply Wl.nilM) | (apply Wl.splitP; exact rfl; exact rfl; all_goals (intros; try (exfalso; omega))) | (apply Wl.splitB; exact rfl; exact rfl; all_goals intros) | (apply St.condP; exact rfl; all_goals (intros; try (exfalso; omega))) | (apply St.condB; exact rfl; all_goals intros))
  apply Mt.back
  refine Mt.pure 5 (by decide +kernel) (by exact rfl) (by exact rfl) (by decide +kernel) (by decide +kernel) ?_
  repeat' (first | (apply Wl.loadH; exact rfl; exact rfl; (repeat (first | exact List.Mem.head _ | apply List.Mem.tail)); exact rfl) | (apply Wl.nilM) | (apply Wl.splitP; exact rfl; exact rfl; all_goals (intros; try (exfalso; omega))) | (apply Wl.splitB; exact rfl; exact rfl; all_goals intros) | (apply St.condP; exact rfl; all_goals (intros; try (exfalso; omega))) | (apply St.condB; exact rfl; all_goals intros))
  apply Mt.back
  refine Mt.pure 6 (by decide +kernel) (by exact rfl) (by exact rfl) (by decide +kernel) (by decide +kernel) ?_
  repeat' (first | (apply Wl.add; exact rfl; exact rfl; exact rfl) | (apply Wl.nilM) | (apply Wl.splitP; exact rfl; exact rfl; all_goals (intros; try (exfalso; omega))) | (apply Wl.splitB; exact rfl; exact rfl; all_goals intros) | (apply St.condP; exact rfl; all_goals (intros; try (exfalso; omega))) | (apply St.condB; exact rfl; all_goals intros))
  apply Mt.back
  refine Mt.eff1 (i := 0) (by decide +kernel) (by exact rfl) ?_
  apply Wl.callC
  exact rfl
  (repeat (first | exact Evs.nil | apply Evs.cons rfl))
  intro wq hq
  refine (putI_any 4 1 (by decide) wq).mono ?_
  rintro e wA ⟨v1, rfl, hb1, hpu⟩
  have hqA := hq.step hpu (fun x hx e => by have := hq.own.lt hx; omega) (fun k hk e => by have := hq.upd.size; omega)
  refine ⟨_, _, rfl, hqA.rebase, ?_⟩
  have wAs : wq.heap.size ≤ wA.heap.size := hpu.size
  have hb1g : ∀ k, v1.ownBlock = some k → wq.heap.size ≤ k := fun k hk => (hb1.lt k hk).1
  have hqs := hq.upd.size
  have hcTq := hq.own.lt (.head _)
  simp only at hcTq
  clear hq hpu
  have hsA := hqA.upd.size
  repeat' (first | (apply Wl.nil) | (apply Wl.splitP; exact rfl; exact rfl; all_goals (intros; try (exfalso; omega))) | (apply Wl.splitB; exact rfl; exact rfl; all_goals intros) | (apply St.condP; exact rfl; all_goals (intros; try (exfalso; omega))) | (apply St.condB; exact rfl; all_goals intros))
  refine Mt.backE (fun u h => hqA.trans h) ?_
  refine Mt.eff1 (i := 7) (by decide +kernel) (by exact rfl) ?_
  apply Wl.callC
  exact rfl
  (repeat (first | exact Evs.nil | apply Evs.cons rfl))
  intro wq hq
  refine (putI_any 4 _ (by decide) wq).mono ?_
  rintro e wB ⟨v2, rfl, hb2, hpu⟩
  have hqB := hq.step hpu (fun x hx e => by have := hq.own.lt hx; omega) (fun k hk e => by have := hq.upd.size; omega)
  refine ⟨_, _, rfl, hqB.rebase, ?_⟩
  have wBs : wq.heap.size ≤ wB.heap.size := hpu.size
  have hb2g : ∀ k, v2.ownBlock = some k → wq.heap.size ≤ k := fun k hk => (hb2.lt k hk).1
  have hqs2 := hq.upd.size
  clear hq hpu
  have hsB := hqB.upd.size
  have hb1B : Bo wB _ v1 _ := hb1.upd hqB.upd fun k hk y => y ⟨by have := hb1g k hk; simp only; omega, trivial⟩
  repeat' (first | (apply Wl.nil) | (apply Wl.splitP; exact rfl; exact rfl; all_goals (intros; try (exfalso; omega))) | (apply Wl.splitB; exact rfl; exact rfl; all_goals intros) | (apply St.condP; exact rfl; all_goals (intros; try (exfalso; omega))) | (apply St.condB; exact rfl; all_goals intros))
  refine Mt.backE (fun u h => hqA.trans (hqB.trans h)) ?_
  refine Mt.eff1 (i := 8) (by decide +kernel) (by exact rfl) ?_
  rw [y64_wrap] at hb2
  apply Wl.appBs (hb := hb1B) (hy := hb2.bs)
  · exact rfl
  · exact rfl
  · exact rfl
  · exact fun k hk _ _ => ⟨by have := hb2g k hk; simp only; omega, trivial⟩
  · exact fun k hk => ⟨by have := hb1g k hk; simp only; omega, trivial⟩
  · rw [leB_length, leB_length]; omega
  · omega
  intro vb w1 hbo u1 hk1
  have hu1 : Upd (fun k => w.heap.size ≤ k) w w1 := (upd_new (Upd.refl _ _) (hqA.trans hqB) (by simp; omega)).comp u1 fun k hk hs => by
    rcases hs with h | h | h
    · exact h
    · have := hb1g k h; omega
    · exact Classical.byContradiction fun hn => h ⟨fun e => by simp only at e; omega, trivial⟩
  repeat' (first | (apply Wl.nil) | (apply Wl.splitP; exact rfl; exact rfl; all_goals (intros; try (exfalso; omega))) | (apply Wl.splitB; exact rfl; exact rfl; all_goals intros) | (apply St.condP; exact rfl; all_goals (intros; try (exfalso; omega))) | (apply St.condB; exact rfl; all_goals intros))
  refine Mt.backE (fun u h => Hp.under h hu1) ?_
  refine Mt.pure 9 (by decide +kernel) (by exact rfl) (by exact rfl) (by decide +kernel) (by decide +kernel) ?_
  repeat' (first | (apply Wl.assign; exact rfl; exact rfl) | (apply Wl.nilM) | (apply Wl.splitP; exact rfl; exact rfl; all_goals (intros; try (exfalso; omega))) | (apply Wl.splitB; exact rfl; exact rfl; all_goals intros) | (apply St.condP; exact rfl; all_goals (intros; try (exfalso; omega))) | (apply St.condB; exact rfl; all_goals intros))
  apply Mt.back
  refine Mt.toGt (by decide +kernel) ?_
  have hbo0 : Bo w1 w.heap.size vb (tb0 t) := hbo.less (by omega)
  have hbT : ∀ k, vb.ownBlock = some k → cT ≠ k := fun k hk => (hk1 k hk).1.1
  have hcT1 : cT < w1.heap.size := by have := u1.size; omega
  clear hbo u1 hk1 hb1B hb2 hb1 hqA hqB hb1g hb2g
  repeat' (first | (apply Wl.move; exact rfl; exact rfl) | (apply Wl.fieldAddrZ; exact rfl; exact rfl) | (apply Wl.loadH; exact rfl; exact rfl; (repeat (first | exact List.Mem.head _ | apply List.Mem.tail)); exact rfl) | (apply Wl.len; exact rfl; exact rfl) | (apply Wl.nil) | (apply St.seq) | (apply St.block) | (apply St.region) | (apply Gt.next) | (apply Wl.splitP; exact rfl; exact rfl; all_goals (intros; try (exfalso; omega))) | (apply Wl.splitB; exact rfl; exact rfl; all_goals intros) | (apply St.condP; exact rfl; all_goals (intros; try (exfalso; omega))) | (apply St.condB; exact rfl; all_goals intros))
  refine St.loop (σ := Nat × World × Value)
    (fun τ => τ.1 ≤ t.syms.length ∧ Upd (fun k => w.heap.size ≤ k) w τ.2.1 ∧ Bo τ.2.1 w.heap.size τ.2.2 (tb0 t ++ (t.syms.take τ.1).flatMap symB) ∧ (∀ k, τ.2.2.ownBlock = some k → cT ≠ k) ∧ cT < τ.2.1.heap.size)
    (fun τ => [(0, .slice ca code.length cc), (3, .pointer (some ⟨cT, 0, none⟩)), (5, τ.2.2), (61, .slice sa t.syms.length sc), (62, .int .i64 t.syms.length), (63, .int .i64 τ.1)])
    (fun τ => Hp τ.2.1 [⟨cT, [.slice ta t.tags.length tc, .slice sa t.syms.length sc, .slice ra t.relas.length rc, .int .i64 t.more, .bool t.plain], 27⟩]) (fun τ => t.syms.length - τ.1) (0, w1, vb) ⟨Nat.zero_le _, hu1, by simpa using hbo0, hbT, hcT1⟩ (by (repeat (first | exact Sub.nil | apply Sub.cons rfl))) (fun _ h => h) ?_
  clear hu1 hbo0 hbT hcT1 vb
  rintro ⟨i, w0, vb⟩ ⟨hin, hu, hbo, hbT, hcT0⟩
  simp only at hin hu hbo hbT hcT0 ⊢
  have hus := hu.size
  by_cases hlt : i < t.syms.length
  · obtain ⟨x, hx⟩ : ∃ x, t.syms[i]? = some x := ⟨_, List.getElem?_eq_getElem hlt⟩
    have hx4 := ht.symsOk x (List.mem_of_getElem? hx)
    obtain ⟨b1, o1, c1, he1, hb1, hce1⟩ := ht.syms.elem hlt (xs := [.int .u32 x]) rfl (by decide) fun j hj => by
      have : j = 0 := by omega
      subst this; exact u32C_get hx
    cases he1
    have e1 := hu.cell (hce1 0 _ rfl) (by simp only; omega)
    rw [Nat.add_zero, Nat.mul_one] at e1
    have hlen : (tb0 t ++ (t.syms.take i).flatMap symB).length ≤ 100000 := by rw [List.length_append, tb0_len, flatMap_len symB_len, List.length_take]; omega
    repeat' (first | (apply Wl.loadO; exact rfl; exact rfl; (assumption); (repeat (first | exact trivial | refine ⟨by first | assumption | omega | (simp only; omega), ?_⟩))) | (apply Wl.move; exact rfl; exact rfl) | (apply Wl.assign; exact rfl; exact rfl) | (apply Wl.lss; exact rfl; exact rfl; exact rfl) | (apply Wl.lit; exact rfl; (repeat (first | exact Parts.nil | apply Parts.cons rfl)); exact rfl; exact rfl; (repeat (first | apply CatP.nil | (apply CatP.one; exact rfl; exact rfl) | (apply CatP.agg; exact rfl) | apply LApp.nil | apply LApp.cons)); intro c hc ho) | (apply Wl.indexAddr1; exact rfl; exact rfl; exact rfl; (constructor <;> omega)) | (apply Wl.nil) | (apply St.seq) | (apply St.block) | (apply St.region) | (apply St.skip) | (apply Gt.next) | (apply Wl.splitP; exact rfl; exact rfl; all_goals (intros; try (exfalso; omega))) | (apply Wl.splitB; exact rfl; exact rfl; all_goals intros) | (apply St.condP; exact rfl; all_goals (intros; try (exfalso; omega))) | (apply St.condB; exact rfl; all_goals intros))
    apply Wl.appendT
    · exact rfl
    · exact rfl
    · exact rfl
    · exact hc
    · exact rfl
    · exact hbo
    · exact fun k hk => ⟨hbT k hk, trivial⟩
    · exact rfl
    · exact rfl
    · decide
    · unfold maxLen; omega
    · omega
    · exact hus
    intro vb1 w2 hbo1 u2 _ hk2
    have hbo1' : Bo w2 w.heap.size vb1 ((tb0 t ++ (t.syms.take i).flatMap symB) ++ [1, 0, 0, 0]) := Bo.of hbo1 rfl rfl
    have hu2 : Upd (fun k => w.heap.size ≤ k) w w2 := hu.comp u2 fun k hk hs => by
      rcases hs with h | h | h
      · exact h
      · exact hbo.base h
      · exact Classical.byContradiction fun hn => h ⟨fun e => by simp only at e; omega, trivial⟩
    have hs2 := u2.size
    have hbT2 : ∀ k, vb1.ownBlock = some k → cT ≠ k := fun k hk => (hk2 k hk).1.1
    clear hbo1 u2 hk2
    repeat' (first | (apply Wl.move; exact rfl; exact rfl) | (apply Wl.convI64; exact rfl; exact rfl; (constructor <;> omega)) | (apply Wl.splitP; exact rfl; exact rfl; all_goals (intros; try (exfalso; omega))) | (apply Wl.splitB; exact rfl; exact rfl; all_goals intros) | (apply St.condP; exact rfl; all_goals (intros; try (exfalso; omega))) | (apply St.condB; exact rfl; all_goals intros))
    apply Wl.callC
    exact rfl
    (repeat (first | exact Evs.nil | apply Evs.cons rfl))
    intro wq hq
    refine (putI_any 4 x (by decide) wq).mono ?_
    rintro e w3 ⟨vp, rfl, hpo, hpu⟩
    have hq3 := hq.step hpu (fun x hx e => by have := hq.own.lt hx; omega) (fun k hk e => by have := hq.upd.size; omega)
    refine ⟨_, _, rfl, hq3.rebase, ?_⟩
    have w3s : wq.heap.size ≤ w3.heap.size := hpu.size
    have hpog : ∀ k, vp.ownBlock = some k → wq.heap.size ≤ k := fun k hk => (hpo.lt k hk).1
    have hqs3 := hq.upd.size
    clear hq hpu
    rw [y64_nat (by omega)] at hpo
    have hu3 : Upd (fun k => w.heap.size ≤ k) w w3 := upd_new hu2 hq3 (by simp; omega)
    have hbo3 : Bo w3 w.heap.size vb1 _ := hbo1'.upd hq3.upd fun k hk y => y ⟨hbT2 k hk, trivial⟩
    have hbl3 : ∀ k, vb1.ownBlock = some k → k < w2.heap.size := fun k hk => (hbo1'.lt k hk).2
    have hs3 := hq3.upd.size
    clear hq3
    repeat' (first | (apply Wl.splitP; exact rfl; exact rfl; all_goals (intros; try (exfalso; omega))) | (apply Wl.splitB; exact rfl; exact rfl; all_goals intros) | (apply St.condP; exact rfl; all_goals (intros; try (exfalso; omega))) | (apply St.condB; exact rfl; all_goals intros))
    apply Wl.appendZ (k := 8) (hown := hpo)
    · exact rfl
    · exact rfl
    · exact rfl
    · exact fun k hk => ⟨by have := hpog k hk; simp only; omega, trivial⟩
    · rw [leB_length]; decide
    · decide
    · rw [leB_length]; decide
    · rw [leB_length]; decide
    · omega
    intro vz w4 hz4 u4 hk4
    have hbz : Bo w4 _ vz (leB 4 x ++ List.replicate 8 0) := Bo.of hz4 (by rw [List.length_replicate]) rfl
    have hbo4 : Bo w4 w.heap.size vb1 _ := hbo3.upd u4 fun k hk h => by
      rcases h with h | h
      · have := hpog k h; have := hbl3 k hk; omega
      · exact h ⟨hbT2 k hk, trivial⟩
    have hu4 : Upd (fun k => w.heap.size ≤ k) w w4 := hu3.comp u4 fun k hk hs => by
      rcases hs with h | h | h
      · exact h
      · have := hpog k h; omega
      · exact Classical.byContradiction fun hn => h ⟨fun e => by simp only at e; omega, trivial⟩
    have hzT : ∀ k, vz.ownBlock = some k → cT ≠ k := fun k hk => (hk4 k hk).1.1
    have hs4 := u4.size
    clear hz4 u4 hk4
    repeat' (first | (apply Wl.splitP; exact rfl; exact rfl; all_goals (intros; try (exfalso; omega))) | (apply Wl.splitB; exact rfl; exact rfl; all_goals intros) | (apply St.condP; exact rfl; all_goals (intros; try (exfalso; omega))) | (apply St.condB; exact rfl; all_goals intros))
    apply Wl.appBs (hb := hbo4) (hy := hbz.bs)
    · exact rfl
    · exact rfl
    · exact rfl
    · exact fun k hk _ _ => ⟨hzT k hk, trivial⟩
    · exact fun k hk => ⟨hbT2 k hk, trivial⟩
    · rw [List.length_append]; simp only [List.length_cons, List.length_nil, List.length_append, leB_length, List.length_replicate]; simp only [List.length_append] at hlen; omega
    · omega
    intro vb5 w5 hbo5 u5 hk5
    have hu5 : Upd (fun k => w.heap.size ≤ k) w w5 := hu4.comp u5 fun k hk hs => by
      rcases hs with h | h | h
      · exact h
      · exact hbo4.base h
      · exact Classical.byContradiction fun hn => h ⟨fun e => by simp only at e; omega, trivial⟩
    have hs5 := u5.size
    repeat' (first | (apply Wl.move; exact rfl; exact rfl) | (apply Wl.assign; exact rfl; exact rfl) | (apply Wl.addI; exact rfl; exact rfl; exact rfl; (constructor <;> omega)) | (apply Wl.nil) | (apply St.region) | (apply Gt.next) | (apply Gt.inNormal) | (apply Wl.splitP; exact rfl; exact rfl; all_goals (intros; try (exfalso; omega))) | (apply Wl.splitB; exact rfl; exact rfl; all_goals intros) | (apply St.condP; exact rfl; all_goals (intros; try (exfalso; omega))) | (apply St.condB; exact rfl; all_goals intros))
    apply Gt.round (i + 1, w5, vb5)
    · refine ⟨hlt, hu5, ?_, fun k hk => (hk5 k hk).1.1, by simp only; omega⟩
      simp only
      rw [List.take_add_one, hx, Option.toList_some, List.flatMap_append, List.flatMap_singleton]
      unfold symB
      simp only [List.append_assoc] at hbo5 ⊢
      exact hbo5
    · simp only; omega
    · (repeat (first | exact Sub.nil | apply Sub.cons rfl))
    · exact fun _ h => h
  have hin' : i = t.syms.length := by omega
  subst hin'
  rw [List.take_length] at hbo
  obtain ⟨ba, bc, rfl, _, _⟩ := hbo.shape
  have hl1 : (tb0 t ++ t.syms.flatMap symB).length = 8 + 16 * t.syms.length := tb1_len t
  repeat' (first | (apply Wl.move; exact rfl; exact rfl) | (apply Wl.assign; exact rfl; exact rfl) | (apply Wl.fieldAddrZ; exact rfl; exact rfl) | (apply Wl.loadH; exact rfl; exact rfl; (repeat (first | exact List.Mem.head _ | apply List.Mem.tail)); exact rfl) | (apply Wl.lss; exact rfl; exact rfl; exact rfl) | (apply Wl.addI; exact rfl; exact rfl; exact rfl; (constructor <;> omega)) | (apply Wl.len; exact rfl; exact rfl) | (apply Wl.nil) | (apply St.seq) | (apply St.block) | (apply St.region) | (apply St.exit) | (apply Gt.next) | (apply Gt.thenExit) | (apply Gt.inExit) | (apply Wl.splitP; exact rfl; exact rfl; all_goals (intros; try (exfalso; omega))) | (apply Wl.splitB; exact rfl; exact rfl; all_goals intros) | (apply St.condP; exact rfl; all_goals (intros; try (exfalso; omega))) | (apply St.condB; exact rfl; all_goals intros))
  refine St.loop (σ := Nat × World × Value)
    (fun τ => τ.1 ≤ t.relas.length ∧ Upd (fun k => w.heap.size ≤ k) w τ.2.1 ∧ Bo τ.2.1 w.heap.size τ.2.2 (tb1 t ++ (t.relas.take τ.1).flatMap relB) ∧ (∀ k, τ.2.2.ownBlock = some k → cT ≠ k) ∧ cT < τ.2.1.heap.size)
    (fun τ => [(0, .slice ca code.length cc), (3, .pointer (some ⟨cT, 0, none⟩)), (5, τ.2.2), (8, .int .i64 (256 + (tb1 t).length)), (80, .slice ra t.relas.length rc), (81, .int .i64 t.relas.length), (82, .int .i64 τ.1)])
    (fun τ => Hp τ.2.1 [⟨cT, [.slice ta t.tags.length tc, .slice sa t.syms.length sc, .slice ra t.relas.length rc, .int .i64 t.more, .bool t.plain], 27⟩]) (fun τ => t.relas.length - τ.1) (0, w0, _) ⟨Nat.zero_le _, hu, by show Bo _ _ _ (tb1 t ++ (t.relas.take 0).flatMap relB); rw [List.take_zero, List.flatMap_nil, List.append_nil]; exact hbo, hbT, hcT0⟩ (by (repeat (first | exact Sub.nil | apply Sub.cons rfl))) (fun _ h => h) ?_
  clear hu hbo hbT hcT0 hus hlt hin
  rintro ⟨i, w0, vb⟩ ⟨hin, hu, hbo, hbT, hcT0⟩
  simp only at hin hu hbo hbT hcT0 ⊢
  have hus := hu.size
  by_cases hlt : i < t.relas.length
  · obtain ⟨x, hx⟩ : ∃ x, t.relas[i]? = some x := ⟨_, List.getElem?_eq_getElem hlt⟩
    have hx4 := ht.relasOk x (List.mem_of_getElem? hx)
    obtain ⟨b1, o1, c1, he1, hb1, hce1⟩ := ht.relas.elem hlt (xs := tripC x) rfl (by decide) fun j hj => flat3 (g := tripC) (fun _ => rfl) hx hj
    cases he1
    have hce : ∀ j v, (tripC x)[j]? = some v → w0.cell? ⟨b1, o1 + (i : Int).toNat * 3 + j, none⟩ = some v := fun j v hj => hu.cell (hce1 j v hj) (by simp only; omega)
    have nT : cT ≠ b1 := by omega
    have hlen : (tb1 t ++ (t.relas.take i).flatMap relB).length ≤ 100000 := by rw [List.length_append, tb1_len, flatMap_len relB_len, List.length_take]; omega
    repeat' (first | (apply Wl.loadAO; exact rfl; exact rfl; exact hce; exact ⟨nT, trivial⟩; exact rfl) | (apply Wl.move; exact rfl; exact rfl) | (apply Wl.lss; exact rfl; exact rfl; exact rfl) | (apply Wl.storeA; exact rfl; exact rfl; exact rfl; exact rfl; (repeat (first | apply HSet.here | apply HSet.there)); (repeat (first | apply LPut.s | apply LPut.z | apply LOver.nil | apply LOver.cons))) | (apply Wl.loadAH; exact rfl; exact rfl; (repeat (first | exact List.Mem.head _ | apply List.Mem.tail)); (repeat (first | apply LSub.z | apply LSub.t | apply LSub.s))) | (apply Wl.alloc; exact rfl; intro c hc ho) | (apply Wl.indexAddr; exact rfl; exact rfl; exact rfl; (constructor <;> omega)) | (apply Wl.nil) | (apply St.seq) | (apply St.block) | (apply St.region) | (apply St.skip) | (apply Gt.next) | (apply Wl.splitP; exact rfl; exact rfl; all_goals (intros; try (exfalso; omega))) | (apply Wl.splitB; exact rfl; exact rfl; all_goals intros) | (apply St.condP; exact rfl; all_goals (intros; try (exfalso; omega))) | (apply St.condB; exact rfl; all_goals intros))
    generalize c = cE at *
    refine St.loop (σ := Nat × World × Value)
      (fun τ => τ.1 ≤ 3 ∧ Upd (fun k => w.heap.size ≤ k) w τ.2.1 ∧ Bo τ.2.1 w.heap.size τ.2.2 ((tb1 t ++ (t.relas.take i).flatMap relB) ++ ((tripL x).take τ.1).flatMap (leB 4)) ∧ (∀ k, τ.2.2.ownBlock = some k → cE ≠ k ∧ cT ≠ k) ∧ cT < τ.2.1.heap.size ∧ (τ.1 = 0 ∨ cE < τ.2.1.heap.size))
      (fun τ => [(0, .slice ca code.length cc), (3, .pointer (some ⟨cT, 0, none⟩)), (5, τ.2.2), (8, .int .i64 (256 + (tb1 t).length)), (80, .slice (some ⟨b1, o1, none⟩) t.relas.length rc), (81, .int .i64 t.relas.length), (82, .int .i64 i), (86, .agg (tripC x).toArray), (87, .int .i64 τ.1)])
      (fun τ => Hp τ.2.1 [⟨cE, tripC x, 33⟩, ⟨cT, [.slice ta t.tags.length tc, .slice sa t.syms.length sc, .slice (some ⟨b1, o1, none⟩) t.relas.length rc, .int .i64 t.more, .bool t.plain], 27⟩]) (fun τ => 3 - τ.1) (0, w0, vb) ⟨Nat.zero_le _, hu, by simpa using hbo, fun k hk => ⟨by have := (hbo.lt k hk).2; omega, hbT k hk⟩, hcT0, .inl rfl⟩ (by (repeat (first | exact Sub.nil | apply Sub.cons rfl))) (fun _ h => h) ?_
    have hcE : w0.heap.size ≤ cE := by assumption
    have hcEw : w.heap.size ≤ cE := by omega
    rintro ⟨j, w1, vb1⟩ ⟨hj3, hu1, hbo1, hbT1, hcT1, hcE1⟩
    simp only at hj3 hu1 hbo1 hbT1 hcT1 hcE1 ⊢
    have hus1 := hu1.size
    by_cases hj : j < 3
    · obtain ⟨y, hy⟩ : ∃ y, (tripL x)[j]? = some y := ⟨_, List.getElem?_eq_getElem (by simpa [tripL] using hj)⟩
      have hy4 := hx4 y (List.mem_of_getElem? hy)
      have hyC : (tripC x)[j]? = some (.int .u32 y) := by
        have : tripC x = (tripL x).map fun (z : Nat) => Value.int .u32 (z : Int) := rfl
        rw [this, List.getElem?_map, hy]; rfl
      repeat' (first | (apply Wl.lss; exact rfl; exact rfl; exact rfl) | (apply Wl.nil) | (apply St.seq) | (apply St.block) | (apply St.region) | (apply St.skip) | (apply Gt.next) | (apply Wl.splitP; exact rfl; exact rfl; all_goals (intros; try (exfalso; omega))) | (apply Wl.splitB; exact rfl; exact rfl; all_goals intros) | (apply St.condP; exact rfl; all_goals (intros; try (exfalso; omega))) | (apply St.condB; exact rfl; all_goals intros))
      apply Wl.indexV
      · exact rfl
      · exact rfl
      · exact rfl
      · exact hyC
      · omega
      repeat' (first | (apply Wl.move; exact rfl; exact rfl) | (apply Wl.assign; exact rfl; exact rfl) | (apply Wl.convI64; exact rfl; exact rfl; (constructor <;> omega)) | (apply Wl.nil) | (apply St.region) | (apply Gt.next) | (apply Wl.splitP; exact rfl; exact rfl; all_goals (intros; try (exfalso; omega))) | (apply Wl.splitB; exact rfl; exact rfl; all_goals intros) | (apply St.condP; exact rfl; all_goals (intros; try (exfalso; omega))) | (apply St.condB; exact rfl; all_goals intros))
      apply Wl.callC
      exact rfl
      (repeat (first | exact Evs.nil | apply Evs.cons rfl))
      intro wq hq
      refine (putI_any 4 y (by decide) wq).mono ?_
      rintro e w3 ⟨vp, rfl, hpo, hpu⟩
      have hq3 := hq.step hpu (fun x hx e => by have := hq.own.lt hx; omega) (fun k hk e => by have := hq.upd.size; omega)
      refine ⟨_, _, rfl, hq3.rebase, ?_⟩
      have w3s : wq.heap.size ≤ w3.heap.size := hpu.size
      have hpog : ∀ k, vp.ownBlock = some k → wq.heap.size ≤ k := fun k hk => (hpo.lt k hk).1
      have hqs3 := hq.upd.size
      have hoq := hq.own.lt (.head _)
      simp only at hoq
      clear hq hpu
      rw [y64_nat (by omega)] at hpo
      have hu3 : Upd (fun k => w.heap.size ≤ k) w w3 := upd_new hu1 hq3 (by simp; omega)
      have hbo3 : Bo w3 w.heap.size vb1 _ := hbo1.upd hq3.upd fun k hk y => y ⟨(hbT1 k hk).1, (hbT1 k hk).2, trivial⟩
      have hs3 := hq3.upd.size
      clear hq3
      repeat' (first | (apply Wl.splitP; exact rfl; exact rfl; all_goals (intros; try (exfalso; omega))) | (apply Wl.splitB; exact rfl; exact rfl; all_goals intros) | (apply St.condP; exact rfl; all_goals (intros; try (exfalso; omega))) | (apply St.condB; exact rfl; all_goals intros))
      apply Wl.appBs (hb := hbo3) (hy := hpo.bs)
      · exact rfl
      · exact rfl
      · exact rfl
      · exact fun k hk _ _ => ⟨by have := hpog k hk; simp only; omega, by have := hpog k hk; simp only; omega, trivial⟩
      · exact fun k hk => ⟨(hbT1 k hk).1, (hbT1 k hk).2, trivial⟩
      · have h12 : (((tripL x).take j).flatMap (leB 4)).length ≤ 12 := by rw [flatMap_len (leB_length 4), List.length_take]; omega
        rw [List.length_append, leB_length]; omega
      · omega
      intro vb5 w5 hbo5 u5 hk5
      have hu5 : Upd (fun k => w.heap.size ≤ k) w w5 := hu3.comp u5 fun k hk hs => by
        rcases hs with h | h | h
        · exact h
        · exact hbo3.base h
        · exact Classical.byContradiction fun hn => h ⟨fun e => by simp only at e; omega, fun e => by simp only at e; omega, trivial⟩
      have hs5 := u5.size
      repeat' (first | (apply Wl.move; exact rfl; exact rfl) | (apply Wl.assign; exact rfl; exact rfl) | (apply Wl.addI; exact rfl; exact rfl; exact rfl; (constructor <;> omega)) | (apply Wl.nil) | (apply St.region) | (apply Gt.next) | (apply Gt.inNormal) | (apply Wl.splitP; exact rfl; exact rfl; all_goals (intros; try (exfalso; omega))) | (apply Wl.splitB; exact rfl; exact rfl; all_goals intros) | (apply St.condP; exact rfl; all_goals (intros; try (exfalso; omega))) | (apply St.condB; exact rfl; all_goals intros))
      apply Gt.round (j + 1, w5, vb5)
      · refine ⟨hj, hu5, ?_, fun k hk => ⟨(hk5 k hk).1.1, (hk5 k hk).1.2.1⟩, by simp only; omega, .inr (by simp only; omega)⟩
        simp only
        rw [List.take_add_one, hy, Option.toList_some, List.flatMap_append, List.flatMap_singleton, ← List.append_assoc]
        exact hbo5
      · simp only; omega
      · (repeat (first | exact Sub.nil | apply Sub.cons rfl))
      · exact fun _ h => h
    have hj' : j = 3 := by omega
    subst hj'
    repeat' (first | (apply Wl.move; exact rfl; exact rfl) | (apply Wl.lss; exact rfl; exact rfl; exact rfl) | (apply Wl.addI; exact rfl; exact rfl; exact rfl; (constructor <;> omega)) | (apply Wl.nil) | (apply St.seq) | (apply St.region) | (apply St.condF; exact rfl; (first | with_reducible rfl | with_reducible assumption | decide)) | (apply St.exit) | (apply Gt.next) | (apply Gt.thenExit) | (apply Gt.inNormal) | (apply Gt.inExit) | (apply Wl.splitP; exact rfl; exact rfl; all_goals (intros; try (exfalso; omega))) | (apply Wl.splitB; exact rfl; exact rfl; all_goals intros) | (apply St.condP; exact rfl; all_goals (intros; try (exfalso; omega))) | (apply St.condB; exact rfl; all_goals intros))
    apply Gt.reb (H' := [⟨cT, [.slice ta t.tags.length tc, .slice sa t.syms.length sc, .slice (some ⟨b1, o1, none⟩) t.relas.length rc, .int .i64 t.more, .bool t.plain], 27⟩])
    intro w6 h6
    refine ⟨h6.own.2, h6.apart.2, ?_⟩
    have hs6 := h6.upd.size
    apply Gt.round (i + 1, w6, vb1)
    · refine ⟨hlt, upd_new hu1 h6 (by simp; omega), ?_, fun k hk => (hbT1 k hk).2, by simp only; omega⟩
      simp only
      rw [List.take_add_one, hx, Option.toList_some, List.flatMap_append, List.flatMap_singleton, ← List.append_assoc]
      exact hbo1.upd h6.upd fun k hk y => y ⟨(hbT1 k hk).1, (hbT1 k hk).2, trivial⟩
    · simp only; omega
    · (repeat (first | exact Sub.nil | apply Sub.cons rfl))
    · exact fun _ h => h
  have hin' : i = t.relas.length := by omega
  subst hin'
  rw [List.take_length] at hbo
  have hbo2 : Bo w0 w.heap.size vb (tb2 t) := hbo
  obtain ⟨ba, bc, rfl, _, _⟩ := hbo2.shape
  have hl2 := tb2_len t
  clear hbo
  repeat' (first | (apply Wl.move; exact rfl; exact rfl) | (apply Wl.assign; exact rfl; exact rfl) | (apply Wl.fieldAddr0; exact rfl; exact rfl) | (apply Wl.loadH; exact rfl; exact rfl; (repeat (first | exact List.Mem.head _ | apply List.Mem.tail)); exact rfl) | (apply Wl.lss; exact rfl; exact rfl; exact rfl) | (apply Wl.len; exact rfl; exact rfl) | (apply Wl.nil) | (apply St.region) | (apply St.exit) | (apply Gt.next) | (apply Gt.thenExit) | (apply Gt.inExit) | (apply St.seqK (k := 21); exact rfl) | (apply St.seqC) | (apply Wl.splitP; exact rfl; exact rfl; all_goals (intros; try (exfalso; omega))) | (apply Wl.splitB; exact rfl; exact rfl; all_goals intros) | (apply St.condP; exact rfl; all_goals (intros; try (exfalso; omega))) | (apply St.condB; exact rfl; all_goals intros))
  have hbw : ∀ k, (Value.slice ba (tb2 t).length bc).ownBlock = some k → w.heap.size ≤ k := fun k hk => (hbo2.lt k hk).1
  refine St.cut (σ := World × Value)
    (fun τ => Upd (fun k => w.heap.size ≤ k) w τ.1 ∧ Bo τ.1 w.heap.size (.slice ba (tb2 t).length bc) (tb2 t) ∧ cT < τ.1.heap.size ∧ Sv τ.1 2 (allTags t).length τ.2 ((allTags t).flatMap pairC) ∧ (∀ k, τ.2.ownBlock = some k → (allTags t) ≠ [] → cT ≠ k ∧ (Value.slice ba (tb2 t).length bc).ownBlock ≠ some k))
    (fun τ => [(0, .slice ca code.length cc), (3, .pointer (some ⟨cT, 0, none⟩)), (5, .slice ba (tb2 t).length bc), (13, .int .i64 (tb2 t).length), (14, τ.2)])
    (fun τ => Hp τ.1 [⟨cT, [.slice ta t.tags.length tc, .slice sa t.syms.length sc, .slice ra t.relas.length rc, .int .i64 t.more, .bool t.plain], 27⟩]) ?_ ?_
  · have htg0 := ht.tags.upd hu fun k hk hlt _ h => by omega
    have hl1 := tb1_len t
    repeat' (first | (apply Wl.fieldAddrZ; exact rfl; exact rfl) | (apply Wl.loadH; exact rfl; exact rfl; (repeat (first | exact List.Mem.head _ | apply List.Mem.tail)); exact rfl) | (apply Wl.nil) | (apply St.seq) | (apply St.region) | (apply St.skip) | (apply Gt.next) | (apply Wl.splitP; exact rfl; exact rfl; all_goals (intros; try (exfalso; omega))) | (apply Wl.splitB; exact rfl; exact rfl; all_goals intros) | (apply St.condP; exact rfl; all_goals (intros; try (exfalso; omega))) | (apply St.condB; exact rfl; all_goals intros))
    · obtain ⟨_, a0, c0, e0, htc1, htc2, htc0, htcl⟩ := ht.tags
      cases e0
      unfold maxLen at htc2
      have hlit : [Value.int .u32 4, .int .u32 256, .int .u32 6, .int .u32 264, .int .u32 11, .int .u32 16, .int .u32 7, .int .u32 (256 + (tb1 t).length), .int .u32 8, .int .u32 (12 * t.relas.length), .int .u32 9, .int .u32 12, .int .u32 0, .int .u32 0] = (ownTags t).flatMap pairC := by simp [ownTags, pairC]
      have hall : allTags t = t.tags ++ ownTags t := by unfold allTags; rw [‹t.plain = true›]; rfl
      rcases ta with _ | ad
      · have htc := htc0 rfl
        have ht0 : t.tags.length = 0 := by omega
        refine St.tree (Hp w0 [⟨cT, [.slice none t.tags.length tc, .slice sa t.syms.length sc, .slice ra t.relas.length rc, .int .i64 t.more, .bool t.plain], 27⟩]) mixed (fun _ h => ⟨Hp.drew h, Hp.drew h⟩) ?_
        refine Mt.pure 0 (by decide +kernel) (by exact rfl) (by exact rfl) (by decide +kernel) (by decide +kernel) ?_
        repeat' (first | (apply Wl.move; exact rfl; exact rfl) | (apply Wl.nilM) | (apply Wl.splitP; exact rfl; exact rfl; all_goals (intros; try (exfalso; omega))) | (apply Wl.splitB; exact rfl; exact rfl; all_goals intros) | (apply St.condP; exact rfl; all_goals (intros; try (exfalso; omega))) | (apply St.condB; exact rfl; all_goals intros))
        apply Mt.back
        refine Mt.pure 1 (by decide +kernel) (by exact rfl) (by exact rfl) (by decide +kernel) (by decide +kernel) ?_
        repeat' (first | (apply Wl.move; exact rfl; exact rfl) | (apply Wl.nilM) | (apply Wl.splitP; exact rfl; exact rfl; all_goals (intros; try (exfalso; omega))) | (apply Wl.splitB; exact rfl; exact rfl; all_goals intros) | (apply St.condP; exact rfl; all_goals (intros; try (exfalso; omega))) | (apply St.condB; exact rfl; all_goals intros))
        apply Mt.back
        refine Mt.pure 2 (by decide +kernel) (by exact rfl) (by exact rfl) (by decide +kernel) (by decide +kernel) ?_
        repeat' (first | (apply Wl.len; exact rfl; exact rfl) | (apply Wl.nilM) | (apply Wl.splitP; exact rfl; exact rfl; all_goals (intros; try (exfalso; omega))) | (apply Wl.splitB; exact rfl; exact rfl; all_goals intros) | (apply St.condP; exact rfl; all_goals (intros; try (exfalso; omega))) | (apply St.condB; exact rfl; all_goals intros))
        apply Mt.back
        refine Mt.pure 3 (by decide +kernel) (by exact rfl) (by exact rfl) (by decide +kernel) (by decide +kernel) ?_
        repeat' (first | (apply Wl.move; exact rfl; exact rfl) | (apply Wl.nilM) | (apply Wl.splitP; exact rfl; exact rfl; all_goals (intros; try (exfalso; omega))) | (apply Wl.splitB; exact rfl; exact rfl; all_goals intros) | (apply St.condP; exact rfl; all_goals (intros; try (exfalso; omega))) | (apply St.condB; exact rfl; all_goals intros))
        apply Mt.back
        refine Mt.pure 4 (by decide +kernel) (by exact rfl) (by exact rfl) (by decide +kernel) (by decide +kernel) ?_
        repeat' (first | (apply Wl.len; exact rfl; exact rfl) | (apply Wl.nilM) | (apply Wl.splitP; exact rfl; exact rfl; all_goals (intros; try (exfalso; omega))) | (apply Wl.splitB; exact rfl; exact rfl; all_goals intros) | (apply St.condP; exact rfl; all_goals (intros; try (exfalso; omega))) | (apply St.condB; exact rfl; all_goals intros))
        apply Mt.back
        refine Mt.pure 5 (by decide +kernel) (by exact rfl) (by exact rfl) (by decide +kernel) (by decide +kernel) ?_
        repeat' (first | (apply Wl.slice0; exact rfl; exact rfl; (first | exact BoundIs.no | exact BoundIs.yes rfl (by omega)); (first | exact BoundIs.no | exact BoundIs.yes rfl (by omega)); (first | exact fun _ => rfl | exact fun h => nomatch h); (omega); (omega)) | (apply Wl.nilM) | (apply Wl.splitP; exact rfl; exact rfl; all_goals (intros; try (exfalso; omega))) | (apply Wl.splitB; exact rfl; exact rfl; all_goals intros) | (apply St.condP; exact rfl; all_goals (intros; try (exfalso; omega))) | (apply St.condB; exact rfl; all_goals intros))
        apply Mt.back
        refine Mt.pure 6 (by decide +kernel) (by exact rfl) (by exact rfl) (by decide +kernel) (by decide +kernel) ?_
        repeat' (first | (apply Wl.buildA; exact rfl; (repeat (first | exact Parts.nil | apply Parts.cons rfl)); (repeat (first | apply Fills.nil | (apply Fills.one; exact rfl; exact rfl; (repeat (first | apply LSet.z | apply LSet.s))) | (apply Fills.agg; exact rfl; exact rfl; (repeat (first | apply LPut.s | apply LPut.z | apply LOver.nil | apply LOver.cons)))))) | (apply Wl.nilM) | (apply Wl.splitP; exact rfl; exact rfl; all_goals (intros; try (exfalso; omega))) | (apply Wl.splitB; exact rfl; exact rfl; all_goals intros) | (apply St.condP; exact rfl; all_goals (intros; try (exfalso; omega))) | (apply St.condB; exact rfl; all_goals intros))
        apply Mt.back
        refine Mt.pure 7 (by decide +kernel) (by exact rfl) (by exact rfl) (by decide +kernel) (by decide +kernel) ?_
        repeat' (first | (apply Wl.buildA; exact rfl; (repeat (first | exact Parts.nil | apply Parts.cons rfl)); (repeat (first | apply Fills.nil | (apply Fills.one; exact rfl; exact rfl; (repeat (first | apply LSet.z | apply LSet.s))) | (apply Fills.agg; exact rfl; exact rfl; (repeat (first | apply LPut.s | apply LPut.z | apply LOver.nil | apply LOver.cons)))))) | (apply Wl.nilM) | (apply Wl.splitP; exact rfl; exact rfl; all_goals (intros; try (exfalso; omega))) | (apply Wl.splitB; exact rfl; exact rfl; all_goals intros) | (apply St.condP; exact rfl; all_goals (intros; try (exfalso; omega))) | (apply St.condB; exact rfl; all_goals intros))
        apply Mt.back
        refine Mt.pure 8 (by decide +kernel) (by exact rfl) (by exact rfl) (by decide +kernel) (by decide +kernel) ?_
        repeat' (first | (apply Wl.buildA; exact rfl; (repeat (first | exact Parts.nil | apply Parts.cons rfl)); (repeat (first | apply Fills.nil | (apply Fills.one; exact rfl; exact rfl; (repeat (first | apply LSet.z | apply LSet.s))) | (apply Fills.agg; exact rfl; exact rfl; (repeat (first | apply LPut.s | apply LPut.z | apply LOver.nil | apply LOver.cons)))))) | (apply Wl.nilM) | (apply Wl.splitP; exact rfl; exact rfl; all_goals (intros; try (exfalso; omega))) | (apply Wl.splitB; exact rfl; exact rfl; all_goals intros) | (apply St.condP; exact rfl; all_goals (intros; try (exfalso; omega))) | (apply St.condB; exact rfl; all_goals intros))
        apply Mt.back
        refine Mt.pure 9 (by decide +kernel) (by exact rfl) (by exact rfl) (by decide +kernel) (by decide +kernel) ?_
        repeat' (first | (apply Wl.move; exact rfl; exact rfl) | (apply Wl.nilM) | (apply Wl.splitP; exact rfl; exact rfl; all_goals (intros; try (exfalso; omega))) | (apply Wl.splitB; exact rfl; exact rfl; all_goals intros) | (apply St.condP; exact rfl; all_goals (intros; try (exfalso; omega))) | (apply St.condB; exact rfl; all_goals intros))
        apply Mt.back
        refine Mt.pure 10 (by decide +kernel) (by exact rfl) (by exact rfl) (by decide +kernel) (by decide +kernel) ?_
        repeat' (first | (apply Wl.convU32; exact rfl; exact rfl; (constructor <;> omega)) | (apply Wl.nilM) | (apply Wl.splitP; exact rfl; exact rfl; all_goals (intros; try (exfalso; omega))) | (apply Wl.splitB; exact rfl; exact rfl; all_goals intros) | (apply St.condP; exact rfl; all_goals (intros; try (exfalso; omega))) | (apply St.condB; exact rfl; all_goals intros))
        apply Mt.back
        refine Mt.pure 11 (by decide +kernel) (by exact rfl) (by exact rfl) (by decide +kernel) (by decide +kernel) ?_
        repeat' (first | (apply Wl.buildA; exact rfl; (repeat (first | exact Parts.nil | apply Parts.cons rfl)); (repeat (first | apply Fills.nil | (apply Fills.one; exact rfl; exact rfl; (repeat (first | apply LSet.z | apply LSet.s))) | (apply Fills.agg; exact rfl; exact rfl; (repeat (first | apply LPut.s | apply LPut.z | apply LOver.nil | apply LOver.cons)))))) | (apply Wl.nilM) | (apply Wl.splitP; exact rfl; exact rfl; all_goals (intros; try (exfalso; omega))) | (apply Wl.splitB; exact rfl; exact rfl; all_goals intros) | (apply St.condP; exact rfl; all_goals (intros; try (exfalso; omega))) | (apply St.condB; exact rfl; all_goals intros))
        apply Mt.back
        refine Mt.pure 12 (by decide +kernel) (by exact rfl) (by exact rfl) (by decide +kernel) (by decide +kernel) ?_
        repeat' (first | (apply Wl.fieldAddrZ; exact rfl; exact rfl) | (apply Wl.nilM) | (apply Wl.splitP; exact rfl; exact rfl; all_goals (intros; try (exfalso; omega))) | (apply Wl.splitB; exact rfl; exact rfl; all_goals intros) | (apply St.condP; exact rfl; all_goals (intros; try (exfalso; omega))) | (apply St.condB; exact rfl; all_goals intros))
        apply Mt.back
        refine Mt.pure 13 (by decide +kernel) (by exact rfl) (by exact rfl) (by decide +kernel) (by decide +kernel) ?_
        repeat' (first | (apply Wl.loadH; exact rfl; exact rfl; (repeat (first | exact List.Mem.head _ | apply List.Mem.tail)); exact rfl) | (apply Wl.nilM) | (apply Wl.splitP; exact rfl; exact rfl; all_goals (intros; try (exfalso; omega))) | (apply Wl.splitB; exact rfl; exact rfl; all_goals intros) | (apply St.condP; exact rfl; all_goals (intros; try (exfalso; omega))) | (apply St.condB; exact rfl; all_goals intros))
        apply Mt.back
        refine Mt.pure 14 (by decide +kernel) (by exact rfl) (by exact rfl) (by decide +kernel) (by decide +kernel) ?_
        repeat' (first | (apply Wl.len; exact rfl; exact rfl) | (apply Wl.nilM) | (apply Wl.splitP; exact rfl; exact rfl; all_goals (intros; try (exfalso; omega))) | (apply Wl.splitB; exact rfl; exact rfl; all_goals intros) | (apply St.condP; exact rfl; all_goals (intros; try (exfalso; omega))) | (apply St.condB; exact rfl; all_goals intros))
        apply Mt.back
        refine Mt.pure 15 (by decide +kernel) (by exact rfl) (by exact rfl) (by decide +kernel) (by decide +kernel) ?_
        repeat' (first | (apply Wl.mulI; exact rfl; exact rfl; exact rfl; (constructor <;> omega)) | (apply Wl.nilM) | (apply Wl.splitP; exact rfl; exact rfl; all_goals (intros; try (exfalso; omega))) | (apply Wl.splitB; exact rfl; exact rfl; all_goals intros) | (apply St.condP; exact rfl; all_goals (intros; try (exfalso; omega))) | (apply St.condB; exact rfl; all_goals intros))
        apply Mt.back
        refine Mt.pure 16 (by decide +kernel) (by exact rfl) (by exact rfl) (by decide +kernel) (by decide +kernel) ?_
        repeat' (first | (apply Wl.convU32; exact rfl; exact rfl; (constructor <;> omega)) | (apply Wl.nilM) | (apply Wl.splitP; exact rfl; exact rfl; all_goals (intros; try (exfalso; omega))) | (apply Wl.splitB; exact rfl; exact rfl; all_goals intros) | (apply St.condP; exact rfl; all_goals (intros; try (exfalso; omega))) | (apply St.condB; exact rfl; all_goals intros))
        apply Mt.back
        refine Mt.pure 17 (by decide +kernel) (by exact rfl) (by exact rfl) (by decide +kernel) (by decide +kernel) ?_
        repeat' (first | (apply Wl.buildA; exact rfl; (repeat (first | exact Parts.nil | apply Parts.cons rfl)); (repeat (first | apply Fills.nil | (apply Fills.one; exact rfl; exact rfl; (repeat (first | apply LSet.z | apply LSet.s))) | (apply Fills.agg; exact rfl; exact rfl; (repeat (first | apply LPut.s | apply LPut.z | apply LOver.nil | apply LOver.cons)))))) | (apply Wl.nilM) | (apply Wl.splitP; exact rfl; exact rfl; all_goals (intros; try (exfalso; omega))) | (apply Wl.splitB; exact rfl; exact rfl; all_goals intros) | (apply St.condP; exact rfl; all_goals (intros; try (exfalso; omega))) | (apply St.condB; exact rfl; all_goals intros))
        apply Mt.back
        refine Mt.pure 18 (by decide +kernel) (by exact rfl) (by exact rfl) (by decide +kernel) (by decide +kernel) ?_
        repeat' (first | (apply Wl.buildA; exact rfl; (repeat (first | exact Parts.nil | apply Parts.cons rfl)); (repeat (first | apply Fills.nil | (apply Fills.one; exact rfl; exact rfl; (repeat (first | apply LSet.z | apply LSet.s))) | (apply Fills.agg; exact rfl; exact rfl; (repeat (first | apply LPut.s | apply LPut.z | apply LOver.nil | apply LOver.cons)))))) | (apply Wl.nilM) | (apply Wl.splitP; exact rfl; exact rfl; all_goals (intros; try (exfalso; omega))) | (apply Wl.splitB; exact rfl; exact rfl; all_goals intros) | (apply St.condP; exact rfl; all_goals (intros; try (exfalso; omega))) | (apply St.condB; exact rfl; all_goals intros))
        apply Mt.back
        refine Mt.pure 19 (by decide +kernel) (by exact rfl) (by exact rfl) (by decide +kernel) (by decide +kernel) ?_
        repeat' (first | (apply Wl.buildA; exact rfl; (repeat (first | exact Parts.nil | apply Parts.cons rfl)); (repeat (first | apply Fills.nil | (apply Fills.one; exact rfl; exact rfl; (repeat (first | apply LSet.z | apply LSet.s))) | (apply Fills.agg; exact rfl; exact rfl; (repeat (first | apply LPut.s | apply LPut.z | apply LOver.nil | apply LOver.cons)))))) | (apply Wl.nilM) | (apply Wl.splitP; exact rfl; exact rfl; all_goals (intros; try (exfalso; omega))) | (apply Wl.splitB; exact rfl; exact rfl; all_goals intros) | (apply St.condP; exact rfl; all_goals (intros; try (exfalso; omega))) | (apply St.condB; exact rfl; all_goals intros))
        apply Mt.back
        refine Mt.eff1 (i := 20) (by decide +kernel) (by exact rfl) ?_
        apply Wl.lit
        · exact rfl
        · (repeat (first | exact Parts.nil | apply Parts.cons rfl))
        · exact rfl
        · exact rfl
        · (repeat (first | apply CatP.nil | (apply CatP.one; exact rfl; exact rfl) | (apply CatP.agg; exact rfl) | apply LApp.nil | apply LApp.cons))
        intro d hd hod
        repeat' (first | (apply Wl.nil) | (apply Wl.splitP; exact rfl; exact rfl; all_goals (intros; try (exfalso; omega))) | (apply Wl.splitB; exact rfl; exact rfl; all_goals intros) | (apply St.condP; exact rfl; all_goals (intros; try (exfalso; omega))) | (apply St.condB; exact rfl; all_goals intros))
        refine Mt.backE (fun u h => Hp.pop h hd) ?_
        refine Mt.eff1 (i := 21) (by decide +kernel) (by exact rfl) ?_
        have hl0 : t.tags = [] := List.eq_nil_of_length_eq_zero ht0
        rw [show (t.tags.length : Int).toNat = 0 from by omega]
        apply Wl.appendT (base := w0.heap.size) (hown := World.ownsRow_nil w0 w0.heap.size 48 2)
        · exact rfl
        · exact rfl
        · exact rfl
        · exact hd
        · exact rfl
        · exact fun k hk => (by cases hk)
        · exact rfl
        · exact rfl
        · decide
        · unfold maxLen; omega
        · decide
        · exact Nat.le_refl _
        intro v' w1 ho' u1 _ hk1
        have hoff := fun k hk => (hk1 k hk).1
        have u1T : Upd (fun k => k = cT) w0 w1 := u1.mono fun k _ hs => hs.elim (fun e => by cases e) notOff1
        rw [List.nil_append, hlit] at ho'
        repeat' (first | (apply Wl.nil) | (apply Wl.splitP; exact rfl; exact rfl; all_goals (intros; try (exfalso; omega))) | (apply Wl.splitB; exact rfl; exact rfl; all_goals intros) | (apply St.condP; exact rfl; all_goals (intros; try (exfalso; omega))) | (apply St.condB; exact rfl; all_goals intros))
        refine Mt.backE (fun u h => ⟨u1T.comp h.upd fun k hk hs => hs.elim (fun e y => y.1 e.symm) id, h.own, h.apart⟩) ?_
        refine Mt.pure 22 (by decide +kernel) (by exact rfl) (by exact rfl) (by decide +kernel) (by decide +kernel) ?_
        repeat' (first | (apply Wl.assign; exact rfl; exact rfl) | (apply Wl.nilM) | (apply Wl.splitP; exact rfl; exact rfl; all_goals (intros; try (exfalso; omega))) | (apply Wl.splitB; exact rfl; exact rfl; all_goals intros) | (apply St.condP; exact rfl; all_goals (intros; try (exfalso; omega))) | (apply St.condB; exact rfl; all_goals intros))
        apply Mt.back
        refine Mt.toGt (by decide +kernel) ?_
        repeat' (first | (apply Wl.splitP; exact rfl; exact rfl; all_goals (intros; try (exfalso; omega))) | (apply Wl.splitB; exact rfl; exact rfl; all_goals intros) | (apply St.condP; exact rfl; all_goals (intros; try (exfalso; omega))) | (apply St.condB; exact rfl; all_goals intros))
        apply Gt.reb (H' := [⟨cT, [.slice none t.tags.length tc, .slice sa t.syms.length sc, .slice ra t.relas.length rc, .int .i64 t.more, .bool t.plain], 27⟩])
        intro w3 h3
        refine ⟨h3.own, h3.apart, ?_⟩
        have hu3 : Upd (fun k => k = cT) w0 w3 := u1T.comp h3.upd fun k _ hs => hs.elim id notOff1
        have hs3 := hu3.size
        apply Gt.meet (w3, v')
        · refine ⟨hu.comp hu3 fun k _ hs => hs.elim id fun e => by omega, hbo2.upd hu3 fun k hk e => hbT k hk e.symm, by simp only; omega, ?_, fun k hk _ => ?_⟩
          · rw [hall]
            have h7 := Sv.ofOwn (ownsRow_upd ho' h3.upd fun k hk y => y (hoff k hk))
            rw [hl0, List.nil_append]; exact h7
          · have h1 := ho'.lt k hk
            exact ⟨by omega, fun e => by have := (hbo2.lt k e).2; omega⟩
        · (repeat (first | exact Sub.nil | apply Sub.cons rfl))
        · exact fun _ h => h
      · skip
        refine St.tree (Hp w0 [⟨cT, [.slice (some ad) t.tags.length tc, .slice sa t.syms.length sc, .slice ra t.relas.length rc, .int .i64 t.more, .bool t.plain], 27⟩]) mixed (fun _ h => ⟨Hp.drew h, Hp.drew h⟩) ?_
        refine Mt.pure 0 (by decide +kernel) (by exact rfl) (by exact rfl) (by decide +kernel) (by decide +kernel) ?_
        repeat' (first | (apply Wl.move; exact rfl; exact rfl) | (apply Wl.nilM) | (apply Wl.splitP; exact rfl; exact rfl; all_goals (intros; try (exfalso; omega))) | (apply Wl.splitB; exact rfl; exact rfl; all_goals intros) | (apply St.condP; exact rfl; all_goals (intros; try (exfalso; omega))) | (apply St.condB; exact rfl; all_goals intros))
        apply Mt.back
        refine Mt.pure 1 (by decide +kernel) (by exact rfl) (by exact rfl) (by decide +kernel) (by decide +kernel) ?_
        repeat' (first | (apply Wl.move; exact rfl; exact rfl) | (apply Wl.nilM) | (apply Wl.splitP; exact rfl; exact rfl; all_goals (intros; try (exfalso; omega))) | (apply Wl.splitB; exact rfl; exact rfl; all_goals intros) | (apply St.condP; exact rfl; all_goals (intros; try (exfalso; omega))) | (apply St.condB; exact rfl; all_goals intros))
        apply Mt.back
        refine Mt.pure 2 (by decide +kernel) (by exact rfl) (by exact rfl) (by decide +kernel) (by decide +kernel) ?_
        repeat' (first | (apply Wl.len; exact rfl; exact rfl) | (apply Wl.nilM) | (apply Wl.splitP; exact rfl; exact rfl; all_goals (intros; try (exfalso; omega))) | (apply Wl.splitB; exact rfl; exact rfl; all_goals intros) | (apply St.condP; exact rfl; all_goals (intros; try (exfalso; omega))) | (apply St.condB; exact rfl; all_goals intros))
        apply Mt.back
        refine Mt.pure 3 (by decide +kernel) (by exact rfl) (by exact rfl) (by decide +kernel) (by decide +kernel) ?_
        repeat' (first | (apply Wl.move; exact rfl; exact rfl) | (apply Wl.nilM) | (apply Wl.splitP; exact rfl; exact rfl; all_goals (intros; try (exfalso; omega))) | (apply Wl.splitB; exact rfl; exact rfl; all_goals intros) | (apply St.condP; exact rfl; all_goals (intros; try (exfalso; omega))) | (apply St.condB; exact rfl; all_goals intros))
        apply Mt.back
        refine Mt.pure 4 (by decide +kernel) (by exact rfl) (by exact rfl) (by decide +kernel) (by decide +kernel) ?_
        repeat' (first | (apply Wl.len; exact rfl; exact rfl) | (apply Wl.nilM) | (apply Wl.splitP; exact rfl; exact rfl; all_goals (intros; try (exfalso; omega))) | (apply Wl.splitB; exact rfl; exact rfl; all_goals intros) | (apply St.condP; exact rfl; all_goals (intros; try (exfalso; omega))) | (apply St.condB; exact rfl; all_goals intros))
        apply Mt.back
        refine Mt.pure 5 (by decide +kernel) (by exact rfl) (by exact rfl) (by decide +kernel) (by decide +kernel) ?_
        repeat' (first | (apply Wl.slice0; exact rfl; exact rfl; (first | exact BoundIs.no | exact BoundIs.yes rfl (by omega)); (first | exact BoundIs.no | exact BoundIs.yes rfl (by omega)); (first | exact fun _ => rfl | exact fun h => nomatch h); (omega); (omega)) | (apply Wl.nilM) | (apply Wl.splitP; exact rfl; exact rfl; all_goals (intros; try (exfalso; omega))) | (apply Wl.splitB; exact rfl; exact rfl; all_goals intros) | (apply St.condP; exact rfl; all_goals (intros; try (exfalso; omega))) | (apply St.condB; exact rfl; all_goals intros))
        apply Mt.back
        refine Mt.pure 6 (by decide +kernel) (by exact rfl) (by exact rfl) (by decide +kernel) (by decide +kernel) ?_
        repeat' (first | (apply Wl.buildA; exact rfl; (repeat (first | exact Parts.nil | apply Parts.cons rfl)); (repeat (first | apply Fills.nil | (apply Fills.one; exact rfl; exact rfl; (repeat (first | apply LSet.z | apply LSet.s))) | (apply Fills.agg; exact rfl; exact rfl; (repeat (first | apply LPut.s | apply LPut.z | apply LOver.nil | apply LOver.cons)))))) | (apply Wl.nilM) | (apply Wl.splitP; exact rfl; exact rfl; all_goals (intros; try (exfalso; omega))) | (apply Wl.splitB; exact rfl; exact rfl; all_goals intros) | (apply St.condP; exact rfl; all_goals (intros; try (exfalso; omega))) | (apply St.condB; exact rfl; all_goals intros))
        apply Mt.back
        refine Mt.pure 7 (by decide +kernel) (by exact rfl) (by exact rfl) (by decide +kernel) (by decide +kernel) ?_
        repeat' (first | (apply Wl.buildA; exact rfl; (repeat (first | exact Parts.nil | apply Parts.cons rfl)); (repeat (first | apply Fills.nil | (apply Fills.one; exact rfl; exact rfl; (repeat (first | apply LSet.z | apply LSet.s))) | (apply Fills.agg; exact rfl; exact rfl; (repeat (first | apply LPut.s | apply LPut.z | apply LOver.nil | apply LOver.cons)))))) | (apply Wl.nilM) | (apply Wl.splitP; exact rfl; exact rfl; all_goals (intros; try (exfalso; omega))) | (apply Wl.splitB; exact rfl; exact rfl; all_goals intros) | (apply St.condP; exact rfl; all_goals (intros; try (exfalso; omega))) | (apply St.condB; exact rfl; all_goals intros))
        apply Mt.back
        refine Mt.pure 8 (by decide +kernel) (by exact rfl) (by exact rfl) (by decide +kernel) (by decide +kernel) ?_
        repeat' (first | (apply Wl.buildA; exact rfl; (repeat (first | exact Parts.nil | apply Parts.cons rfl)); (repeat (first | apply Fills.nil | (apply Fills.one; exact rfl; exact rfl; (repeat (first | apply LSet.z | apply LSet.s))) | (apply Fills.agg; exact rfl; exact rfl; (repeat (first | apply LPut.s | apply LPut.z | apply LOver.nil | apply LOver.cons)))))) | (apply Wl.nilM) | (apply Wl.splitP; exact rfl; exact rfl; all_goals (intros; try (exfalso; omega))) | (apply Wl.splitB; exact rfl; exact rfl; all_goals intros) | (apply St.condP; exact rfl; all_goals (intros; try (exfalso; omega))) | (apply St.condB; exact rfl; all_goals intros))
        apply Mt.back
        refine Mt.pure 9 (by decide +kernel) (by exact rfl) (by exact rfl) (by decide +kernel) (by decide +kernel) ?_
        repeat' (first | (apply Wl.move; exact rfl; exact rfl) | (apply Wl.nilM) | (apply Wl.splitP; exact rfl; exact rfl; all_goals (intros; try (exfalso; omega))) | (apply Wl.splitB; exact rfl; exact rfl; all_goals intros) | (apply St.condP; exact rfl; all_goals (intros; try (exfalso; omega))) | (apply St.condB; exact rfl; all_goals intros))
        apply Mt.back
        refine Mt.pure 10 (by decide +kernel) (by exact rfl) (by exact rfl) (by decide +kernel) (by decide +kernel) ?_
        repeat' (first | (apply Wl.convU32; exact rfl; exact rfl; (constructor <;> omega)) | (apply Wl.nilM) | (apply Wl.splitP; exact rfl; exact rfl; all_goals (intros; try (exfalso; omega))) | (apply Wl.splitB; exact rfl; exact rfl; all_goals intros) | (apply St.condP; exact rfl; all_goals (intros; try (exfalso; omega))) | (apply St.condB; exact rfl; all_goals intros))
        apply Mt.back
        refine Mt.pure 11 (by decide +kernel) (by exact rfl) (by exact rfl) (by decide +kernel) (by decide +kernel) ?_
        repeat' (first | (apply Wl.buildA; exact rfl; (repeat (first | exact Parts.nil | apply Parts.cons rfl)); (repeat (first | apply Fills.nil | (apply Fills.one; exact rfl; exact rfl; (repeat (first | apply LSet.z | apply LSet.s))) | (apply Fills.agg; exact rfl; exact rfl; (repeat (first | apply LPut.s | apply LPut.z | apply LOver.nil | apply LOver.cons)))))) | (apply Wl.nilM) | (apply Wl.splitP; exact rfl; exact rfl; all_goals (intros; try (exfalso; omega))) | (apply Wl.splitB; exact rfl; exact rfl; all_goals intros) | (apply St.condP; exact rfl; all_goals (intros; try (exfalso; omega))) | (apply St.condB; exact rfl; all_goals intros))
        apply Mt.back
        refine Mt.pure 12 (by decide +kernel) (by exact rfl) (by exact rfl) (by decide +kernel) (by decide +kernel) ?_
        repeat' (first | (apply Wl.fieldAddrZ; exact rfl; exact rfl) | (apply Wl.nilM) | (apply Wl.splitP; exact rfl; exact rfl; all_goals (intros; try (exfalso; omega))) | (apply Wl.splitB; exact rfl; exact rfl; all_goals intros) | (apply St.condP; exact rfl; all_goals (intros; try (exfalso; omega))) | (apply St.condB; exact rfl; all_goals intros))
        apply Mt.back
        refine Mt.pure 13 (by decide +kernel) (by exact rfl) (by exact rfl) (by decide +kernel) (by decide +kernel) ?_
        repeat' (first | (apply Wl.loadH; exact rfl; exact rfl; (repeat (first | exact List.Mem.head _ | apply List.Mem.tail)); exact rfl) | (apply Wl.nilM) | (apply Wl.splitP; exact rfl; exact rfl; all_goals (intros; try (exfalso; omega))) | (apply Wl.splitB; exact rfl; exact rfl; all_goals intros) | (apply St.condP; exact rfl; all_goals (intros; try (exfalso; omega))) | (apply St.condB; exact rfl; all_goals intros))
        apply Mt.back
        refine Mt.pure 14 (by decide +kernel) (by exact rfl) (by exact rfl) (by decide +kernel) (by decide +kernel) ?_
        repeat' (first | (apply Wl.len; exact rfl; exact rfl) | (apply Wl.nilM) | (apply Wl.splitP; exact rfl; exact rfl; all_goals (intros; try (exfalso; omega))) | (apply Wl.splitB; exact rfl; exact rfl; all_goals intros) | (apply St.condP; exact rfl; all_goals (intros; try (exfalso; omega))) | (apply St.condB; exact rfl; all_goals intros))
        apply Mt.back
        refine Mt.pure 15 (by decide +kernel) (by exact rfl) (by exact rfl) (by decide +kernel) (by decide +kernel) ?_
        repeat' (first | (apply Wl.mulI; exact rfl; exact rfl; exact rfl; (constructor <;> omega)) | (apply Wl.nilM) | (apply Wl.splitP; exact rfl; exact rfl; all_goals (intros; try (exfalso; omega))) | (apply Wl.splitB; exact rfl; exact rfl; all_goals intros) | (apply St.condP; exact rfl; all_goals (intros; try (exfalso; omega))) | (apply St.condB; exact rfl; all_goals intros))
        apply Mt.back
        refine Mt.pure 16 (by decide +kernel) (by exact rfl) (by exact rfl) (by decide +kernel) (by decide +kernel) ?_
        repeat' (first | (apply Wl.convU32; exact rfl; exact rfl; (constructor <;> omega)) | (apply Wl.nilM) | (apply Wl.splitP; exact rfl; exact rfl; all_goals (intros; try (exfalso; omega))) | (apply Wl.splitB; exact rfl; exact rfl; all_goals intros) | (apply St.condP; exact rfl; all_goals (intros; try (exfalso; omega))) | (apply St.condB; exact rfl; all_goals intros))
        apply Mt.back
        refine Mt.pure 17 (by decide +kernel) (by exact rfl) (by exact rfl) (by decide +kernel) (by decide +kernel) ?_
        repeat' (first | (apply Wl.buildA; exact rfl; (repeat (first | exact Parts.nil | apply Parts.cons rfl)); (repeat (first | apply Fills.nil | (apply Fills.one; exact rfl; exact rfl; (repeat (first | apply LSet.z | apply LSet.s))) | (apply Fills.agg; exact rfl; exact rfl; (repeat (first | apply LPut.s | apply LPut.z | apply LOver.nil | apply LOver.cons)))))) | (apply Wl.nilM) | (apply Wl.splitP; exact rfl; exact rfl; all_goals (intros; try (exfalso; omega))) | (apply Wl.splitB; exact rfl; exact rfl; all_goals intros) | (apply St.condP; exact rfl; all_goals (intros; try (exfalso; omega))) | (apply St.condB; exact rfl; all_goals intros))
        apply Mt.back
        refine Mt.pure 18 (by decide +kernel) (by exact rfl) (by exact rfl) (by decide +kernel) (by decide +kernel) ?_
        repeat' (first | (apply Wl.buildA; exact rfl; (repeat (first | exact Parts.nil | apply Parts.cons rfl)); (repeat (first | apply Fills.nil | (apply Fills.one; exact rfl; exact rfl; (repeat (first | apply LSet.z | apply LSet.s))) | (apply Fills.agg; exact rfl; exact rfl; (repeat (first | apply LPut.s | apply LPut.z | apply LOver.nil | apply LOver.cons)))))) | (apply Wl.nilM) | (apply Wl.splitP; exact rfl; exact rfl; all_goals (intros; try (exfalso; omega))) | (apply Wl.splitB; exact rfl; exact rfl; all_goals intros) | (apply St.condP; exact rfl; all_goals (intros; try (exfalso; omega))) | (apply St.condB; exact rfl; all_goals intros))
        apply Mt.back
        refine Mt.pure 19 (by decide +kernel) (by exact rfl) (by exact rfl) (by decide +kernel) (by decide +kernel) ?_
        repeat' (first | (apply Wl.buildA; exact rfl; (repeat (first | exact Parts.nil | apply Parts.cons rfl)); (repeat (first | apply Fills.nil | (apply Fills.one; exact rfl; exact rfl; (repeat (first | apply LSet.z | apply LSet.s))) | (apply Fills.agg; exact rfl; exact rfl; (repeat (first | apply LPut.s | apply LPut.z | apply LOver.nil | apply LOver.cons)))))) | (apply Wl.nilM) | (apply Wl.splitP; exact rfl; exact rfl; all_goals (intros; try (exfalso; omega))) | (apply Wl.splitB; exact rfl; exact rfl; all_goals intros) | (apply St.condP; exact rfl; all_goals (intros; try (exfalso; omega))) | (apply St.condB; exact rfl; all_goals intros))
        apply Mt.back
        refine Mt.eff1 (i := 20) (by decide +kernel) (by exact rfl) ?_
        apply Wl.lit
        · exact rfl
        · (repeat (first | exact Parts.nil | apply Parts.cons rfl))
        · exact rfl
        · exact rfl
        · (repeat (first | apply CatP.nil | (apply CatP.one; exact rfl; exact rfl) | (apply CatP.agg; exact rfl) | apply LApp.nil | apply LApp.cons))
        intro d hd hod
        repeat' (first | (apply Wl.nil) | (apply Wl.splitP; exact rfl; exact rfl; all_goals (intros; try (exfalso; omega))) | (apply Wl.splitB; exact rfl; exact rfl; all_goals intros) | (apply St.condP; exact rfl; all_goals (intros; try (exfalso; omega))) | (apply St.condB; exact rfl; all_goals intros))
        refine Mt.backE (fun u h => Hp.pop h hd) ?_
        refine Mt.eff1 (i := 21) (by decide +kernel) (by exact rfl) ?_
        have htl := Int.toNat_natCast t.tags.length
        rw [htl]
        have holds : ∀ u, Hp w0 [⟨d, [Value.int .u32 4, .int .u32 256, .int .u32 6, .int .u32 264, .int .u32 11, .int .u32 16, .int .u32 7, .int .u32 (256 + (tb1 t).length), .int .u32 8, .int .u32 (12 * t.relas.length), .int .u32 9, .int .u32 12, .int .u32 0, .int .u32 0], 48⟩, ⟨cT, [.slice (some ad) t.tags.length tc, .slice sa t.syms.length sc, .slice ra t.relas.length rc, .int .i64 t.more, .bool t.plain], 27⟩] u → ∀ j x, (t.tags.flatMap pairC)[j]? = some x → u.cell? (ad.add j) = some x := by
          intro u hq j x hj
          obtain ⟨hj1, hj2⟩ := List.getElem?_eq_some_iff.1 hj
          obtain ⟨b, off, e, hcell⟩ := htcl (fun e => by rw [e] at hj; simp at hj)
          cases e
          have h1 := hcell j hj1
          rw [hj2] at h1
          have hbl := World.block_lt_of_cell? w _ h1
          simp only at hbl
          rw [addLit]
          exact hq.old (hu.cell h1 (by simp only; omega)) ⟨by simp only; omega, by simp only; omega, trivial⟩
        apply Wl.appendG (olds := t.tags.flatMap pairC) (news := [Value.int .u32 4, .int .u32 256, .int .u32 6, .int .u32 264, .int .u32 11, .int .u32 16, .int .u32 7, .int .u32 (256 + (tb1 t).length), .int .u32 8, .int .u32 (12 * t.relas.length), .int .u32 9, .int .u32 12, .int .u32 0, .int .u32 0])
        · exact rfl
        · exact rfl
        · exact rfl
        · exact (flatMap_len (n := 2) (fun _ => rfl) _).trans (Nat.mul_comm _ _)
        · exact holds
        · exact rfl
        · exact fun w hw j u hj => by rw [addLit]; exact hw.cell (List.Mem.head _) (by simpa using hj)
        · omega
        · exact rfl
        · decide
        · unfold maxLen; omega
        · omega
        intro v' w1 ho' hw1 hoff
        rw [hlit] at ho'
        repeat' (first | (apply Wl.nil) | (apply Wl.splitP; exact rfl; exact rfl; all_goals (intros; try (exfalso; omega))) | (apply Wl.splitB; exact rfl; exact rfl; all_goals intros) | (apply St.condP; exact rfl; all_goals (intros; try (exfalso; omega))) | (apply St.condB; exact rfl; all_goals intros))
        refine Mt.backE (fun u h => Hp.pop (hw1.trans h) hd) ?_
        refine Mt.pure 22 (by decide +kernel) (by exact rfl) (by exact rfl) (by decide +kernel) (by decide +kernel) ?_
        repeat' (first | (apply Wl.assign; exact rfl; exact rfl) | (apply Wl.nilM) | (apply Wl.splitP; exact rfl; exact rfl; all_goals (intros; try (exfalso; omega))) | (apply Wl.splitB; exact rfl; exact rfl; all_goals intros) | (apply St.condP; exact rfl; all_goals (intros; try (exfalso; omega))) | (apply St.condB; exact rfl; all_goals intros))
        apply Mt.back
        refine Mt.toGt (by decide +kernel) ?_
        repeat' (first | (apply Wl.splitP; exact rfl; exact rfl; all_goals (intros; try (exfalso; omega))) | (apply Wl.splitB; exact rfl; exact rfl; all_goals intros) | (apply St.condP; exact rfl; all_goals (intros; try (exfalso; omega))) | (apply St.condB; exact rfl; all_goals intros))
        apply Gt.reb (H' := [⟨cT, [.slice (some ad) t.tags.length tc, .slice sa t.syms.length sc, .slice ra t.relas.length rc, .int .i64 t.more, .bool t.plain], 27⟩])
        intro w3 h3
        refine ⟨h3.own.2, h3.apart.2, ?_⟩
        have hu3 : Upd (fun k => k = cT) w0 w3 := (hw1.trans h3).upd.mono fun k hk hs => Classical.byContradiction fun e => hs ⟨by simp only; omega, fun e' => e e'.symm, trivial⟩
        have hs3 := hu3.size
        apply Gt.meet (w3, v')
        · refine ⟨hu.comp hu3 fun k _ hs => hs.elim id fun e => by omega, hbo2.upd hu3 fun k hk e => hbT k hk e.symm, by simp only; omega, ?_, fun k hk _ => ?_⟩
          · rw [hall]
            have h7 := Sv.ofOwn (ownsRow_upd ho' h3.upd fun k hk y => y (hoff k hk))
            rw [List.flatMap_append, List.length_append]; exact h7
          · have h1 := ho'.lt k hk
            exact ⟨by omega, fun e => by have := (hbo2.lt k e).2; omega⟩
        · (repeat (first | exact Sub.nil | apply Sub.cons rfl))
        · exact fun _ h => h
    · apply Gt.meet (w0, .slice ta t.tags.length tc)
      · have hall : allTags t = t.tags := by unfold allTags; rw [‹t.plain = false›]; rfl
        refine ⟨hu, hbo2, hcT0, by rw [hall]; exact htg0, fun k hk hne => ?_⟩
        rw [hall] at hne
        have hkw : k < w.heap.size := by
          obtain ⟨_, a, c, e, _, _, _, hcl⟩ := ht.tags
          obtain ⟨g, og, rfl, hcell⟩ := hcl (fun e => hne (by cases hts : t.tags with | nil => rfl | cons x r => rw [hts] at e; simp [pairC] at e))
          cases e
          have : g = k := by simpa [Value.ownBlock] using hk
          subst this
          obtain ⟨z, hz⟩ : ∃ z, (t.tags.flatMap pairC)[0]? = some z := by
            cases hts : t.tags with
            | nil => exact (hne hts).elim
            | cons x r => exact ⟨.int .u32 x.1, by simp [pairC]⟩
          have h0 := (List.getElem?_eq_some_iff.1 hz).1
          exact World.block_lt_of_cell? w _ (hcell 0 h0)
        exact ⟨by omega, fun e => by have := hbw k e; omega⟩
      · (repeat (first | exact Sub.nil | apply Sub.cons rfl))
      · exact fun _ h => h
  clear hbo2 hu hcT0 hus hbw hlt
  rintro ⟨w0, vt'⟩ ⟨hu, hbo2, hcT0, hvt, hvtO⟩
  simp only at hu hbo2 hcT0 hvt hvtO ⊢
  have hus := hu.size
  have hat := allTags_len hok.2.2.2.1
  obtain ⟨ta', tc', rfl⟩ : ∃ a c, vt' = .slice a (allTags t).length c := by
    obtain ⟨_, a, c, rfl, _⟩ := hvt
    exact ⟨_, _, rfl⟩
  have htagsOk : ∀ x ∈ allTags t, x.1 < 4294967296 ∧ x.2 < 4294967296 := by
    have hl1 := tb1_len t
    obtain ⟨_, _, _, _, hk5, hk6⟩ := hok
    intro x hx
    unfold allTags at hx
    split at hx
    · rcases List.mem_append.1 hx with hx | hx
      · exact ht.tagsOk x hx
      · simp only [ownTags, List.mem_cons, List.not_mem_nil, or_false] at hx
        rcases hx with rfl | rfl | rfl | rfl | rfl | rfl | rfl <;> simp only <;> omega
    · exact ht.tagsOk x hx
  have hvtT : ∀ k, (Value.slice ta' (allTags t).length tc').ownBlock = some k → allTags t ≠ [] → cT ≠ k := fun k hk hne => (hvtO k hk hne).1
  repeat' (first | (apply Wl.move; exact rfl; exact rfl) | (apply Wl.len; exact rfl; exact rfl) | (apply Wl.nil) | (apply St.seq) | (apply St.block) | (apply St.region) | (apply Gt.next) | (apply Wl.splitP; exact rfl; exact rfl; all_goals (intros; try (exfalso; omega))) | (apply Wl.splitB; exact rfl; exact rfl; all_goals intros) | (apply St.condP; exact rfl; all_goals (intros; try (exfalso; omega))) | (apply St.condB; exact rfl; all_goals intros))
  refine St.loop (σ := Nat × World × Value)
    (fun τ => τ.1 ≤ (allTags t).length ∧ Upd (fun k => w.heap.size ≤ k) w τ.2.1 ∧ Bo τ.2.1 w.heap.size τ.2.2 (tb2 t ++ ((allTags t).take τ.1).flatMap tagB) ∧ (∀ k, τ.2.2.ownBlock = some k → cT ≠ k ∧ (allTags t ≠ [] → (Value.slice ta' (allTags t).length tc').ownBlock ≠ some k)) ∧ cT < τ.2.1.heap.size ∧
      Sv τ.2.1 2 (allTags t).length (.slice ta' (allTags t).length tc') ((allTags t).flatMap pairC))
    (fun τ => [(0, .slice ca code.length cc), (3, .pointer (some ⟨cT, 0, none⟩)), (5, τ.2.2), (13, .int .i64 (tb2 t).length), (125, .slice ta' (allTags t).length tc'), (126, .int .i64 (allTags t).length), (127, .int .i64 τ.1)])
    (fun τ => Hp τ.2.1 [⟨cT, [.slice ta t.tags.length tc, .slice sa t.syms.length sc, .slice ra t.relas.length rc, .int .i64 t.more, .bool t.plain], 27⟩]) (fun τ => (allTags t).length - τ.1) (0, w0, _) ⟨Nat.zero_le _, hu, by show Bo _ _ _ (tb2 t ++ ((allTags t).take 0).flatMap tagB); rw [List.take_zero, List.flatMap_nil, List.append_nil]; exact hbo2, fun k hk => ⟨hbT k hk, fun hne e => (hvtO k e hne).2 hk⟩, hcT0, hvt⟩ (by (repeat (first | exact Sub.nil | apply Sub.cons rfl))) (fun _ h => h) ?_
  clear hu hbo2 hcT0 hus hvt hvtO hbT
  rintro ⟨i, w0, vb⟩ ⟨hin, hu, hbo, hbT, hcT0, hvt⟩
  simp only at hin hu hbo hbT hcT0 hvt ⊢
  have hus := hu.size
  by_cases hlt : i < (allTags t).length
  · obtain ⟨x, hx⟩ : ∃ x, (allTags t)[i]? = some x := ⟨_, List.getElem?_eq_getElem hlt⟩
    obtain ⟨hx4, hx5⟩ := htagsOk x (List.mem_of_getElem? hx)
    have hne : allTags t ≠ [] := fun e => by rw [e] at hlt; simp at hlt
    obtain ⟨b1, o1, c1, he1, hb1, hce1⟩ := hvt.elem hlt (xs := pairC x) rfl (by decide) fun j hj => flat2 (g := pairC) (fun _ => rfl) hx hj
    cases he1
    have nT : cT ≠ b1 ∨ True := .inr trivial
    have hlen : (tb2 t ++ ((allTags t).take i).flatMap tagB).length ≤ 100000 := by rw [List.length_append, tb2_len, flatMap_len tagB_len, List.length_take]; omega
    have hcTb : cT ≠ b1 := fun e => hvtT b1 rfl hne e
    have hu0 : Upd (fun k => w.heap.size ≤ k) w w0 := hu
    repeat' (first | (apply Wl.loadAO; exact rfl; exact rfl; exact hce1; exact ⟨hcTb, trivial⟩; exact rfl) | (apply Wl.lss; exact rfl; exact rfl; exact rfl) | (apply Wl.storeA; exact rfl; exact rfl; exact rfl; exact rfl; (repeat (first | apply HSet.here | apply HSet.there)); (repeat (first | apply LPut.s | apply LPut.z | apply LOver.nil | apply LOver.cons))) | (apply Wl.alloc; exact rfl; intro c hc ho) | (apply Wl.indexAddr; exact rfl; exact rfl; exact rfl; (constructor <;> omega)) | (apply Wl.nil) | (apply St.seq) | (apply St.block) | (apply St.region) | (apply St.skip) | (apply Gt.next) | (apply Wl.splitP; exact rfl; exact rfl; all_goals (intros; try (exfalso; omega))) | (apply Wl.splitB; exact rfl; exact rfl; all_goals intros) | (apply St.condP; exact rfl; all_goals (intros; try (exfalso; omega))) | (apply St.condB; exact rfl; all_goals intros))
    generalize c = cE at *
    have hcE : w0.heap.size ≤ cE := by assumption
    have hbl : ∀ k, vb.ownBlock = some k → k < w0.heap.size := fun k hk => (hbo.lt k hk).2
    refine St.tree (Hp w [⟨cE, pairC x, 48⟩, ⟨cT, [.slice ta t.tags.length tc, .slice sa t.syms.length sc, .slice ra t.relas.length rc, .int .i64 t.more, .bool t.plain], 27⟩]) mixed (fun _ h => ⟨Hp.drew h, Hp.under (Hp.drew h) hu⟩) ?_
    refine Mt.pure 0 (by decide +kernel) (by exact rfl) (by exact rfl) (by decide +kernel) (by decide +kernel) ?_
    repeat' (first | (apply Wl.move; exact rfl; exact rfl) | (apply Wl.nilM) | (apply Wl.splitP; exact rfl; exact rfl; all_goals (intros; try (exfalso; omega))) | (apply Wl.splitB; exact rfl; exact rfl; all_goals intros) | (apply St.condP; exact rfl; all_goals (intros; try (exfalso; omega))) | (apply St.condB; exact rfl; all_goals intros))
    apply Mt.back
    refine Mt.pure 1 (by decide +kernel) (by exact rfl) (by exact rfl) (by decide +kernel) (by decide +kernel) ?_
    repeat' (first | (apply Wl.indexArr; exact rfl; exact rfl; exact rfl; (constructor <;> omega)) | (apply Wl.nilM) | (apply Wl.splitP; exact rfl; exact rfl; all_goals (intros; try (exfalso; omega))) | (apply Wl.splitB; exact rfl; exact rfl; all_goals intros) | (apply St.condP; exact rfl; all_goals (intros; try (exfalso; omega))) | (apply St.condB; exact rfl; all_goals intros))
    apply Mt.back
    refine Mt.pure 2 (by decide +kernel) (by exact rfl) (by exact rfl) (by decide +kernel) (by decide +kernel) ?_
    repeat' (first | (apply Wl.loadH; exact rfl; exact rfl; (repeat (first | exact List.Mem.head _ | apply List.Mem.tail)); exact rfl) | (apply Wl.nilM) | (apply Wl.splitP; exact rfl; exact rfl; all_goals (intros; try (exfalso; omega))) | (apply Wl.splitB; exact rfl; exact rfl; all_goals intros) | (apply St.condP; exact rfl; all_goals (intros; try (exfalso; omega))) | (apply St.condB; exact rfl; all_goals intros))
    apply Mt.back
    refine Mt.pure 3 (by decide +kernel) (by exact rfl) (by exact rfl) (by decide +kernel) (by decide +kernel) ?_
    repeat' (first | (apply Wl.convI64; exact rfl; exact rfl; (constructor <;> omega)) | (apply Wl.nilM) | (apply Wl.splitP; exact rfl; exact rfl; all_goals (intros; try (exfalso; omega))) | (apply Wl.splitB; exact rfl; exact rfl; all_goals intros) | (apply St.condP; exact rfl; all_goals (intros; try (exfalso; omega))) | (apply St.condB; exact rfl; all_goals intros))
    apply Mt.back
    refine Mt.pure 5 (by decide +kernel) (by exact rfl) (by exact rfl) (by decide +kernel) (by decide +kernel) ?_
    repeat' (first | (apply Wl.indexArr; exact rfl; exact rfl; exact rfl; (constructor <;> omega)) | (apply Wl.nilM) | (apply Wl.splitP; exact rfl; exact rfl; all_goals (intros; try (exfalso; omega))) | (apply Wl.splitB; exact rfl; exact rfl; all_goals intros) | (apply St.condP; exact rfl; all_goals (intros; try (exfalso; omega))) | (apply St.condB; exact rfl; all_goals intros))
    apply Mt.back
    refine Mt.pure 6 (by decide +kernel) (by exact rfl) (by exact rfl) (by decide +kernel) (by decide +kernel) ?_
    repeat' (first | (apply Wl.loadH; exact rfl; exact rfl; (repeat (first | exact List.Mem.head _ | apply List.Mem.tail)); exact rfl) | (apply Wl.nilM) | (apply Wl.splitP; exact rfl; exact rfl; all_goals (intros; try (exfalso; omega))) | (apply Wl.splitB; exact rfl; exact rfl; all_goals intros) | (apply St.condP; exact rfl; all_goals (intros; try (exfalso; omega))) | (apply St.condB; exact rfl; all_goals intros))
    apply Mt.back
    refine Mt.pure 7 (by decide +kernel) (by exact rfl) (by exact rfl) (by decide +kernel) (by decide +kernel) ?_
    repeat' (first | (apply Wl.convI64; exact rfl; exact rfl; (constructor <;> omega)) | (apply Wl.nilM) | (apply Wl.splitP; exact rfl; exact rfl; all_goals (intros; try (exfalso; omega))) | (apply Wl.splitB; exact rfl; exact rfl; all_goals intros) | (apply St.condP; exact rfl; all_goals (intros; try (exfalso; omega))) | (apply St.condB; exact rfl; all_goals intros))
    apply Mt.back
    refine Mt.eff1 (i := 4) (by decide +kernel) (by exact rfl) ?_
    apply Wl.callC
    exact rfl
    (repeat (first | exact Evs.nil | apply Evs.cons rfl))
    intro wq hq
    refine (putI_any 4 _ (by decide) wq).mono ?_
    rintro e w3 ⟨vp, rfl, hpo, hpu⟩
    have hq3 := hq.step hpu (fun x hx e => by have := hq.own.lt hx; omega) (fun k hk e => by have := hq.upd.size; omega)
    refine ⟨_, _, rfl, hq3.rebase, ?_⟩
    have w3s : wq.heap.size ≤ w3.heap.size := hpu.size
    have hpog : ∀ k, vp.ownBlock = some k → wq.heap.size ≤ k := fun k hk => (hpo.lt k hk).1
    have hqs3 := hq.upd.size
    have hoq := hq.own.lt (.head _)
    simp only at hoq
    clear hq hpu
    rw [y64_nat (by omega)] at hpo
    have hu3 : Upd (fun k => w.heap.size ≤ k) w w3 := upd_new hu hq3 (by simp; omega)
    have hbo3 : Bo w3 w.heap.size vb _ := hbo.upd hq3.upd fun k hk y => y ⟨by have := hbl k hk; simp only; omega, (hbT k hk).1, trivial⟩
    have hs3 := hq3.upd.size
    repeat' (first | (apply Wl.nil) | (apply Wl.splitP; exact rfl; exact rfl; all_goals (intros; try (exfalso; omega))) | (apply Wl.splitB; exact rfl; exact rfl; all_goals intros) | (apply St.condP; exact rfl; all_goals (intros; try (exfalso; omega))) | (apply St.condB; exact rfl; all_goals intros))
    refine Mt.backE (fun u h => Hp.under h hu3) ?_
    refine Mt.eff1 (i := 8) (by decide +kernel) (by exact rfl) ?_
    apply Wl.callC
    exact rfl
    (repeat (first | exact Evs.nil | apply Evs.cons rfl))
    intro wq hq
    refine (putI_any 4 _ (by decide) wq).mono ?_
    rintro e w4 ⟨vp2, rfl, hpo2, hpu⟩
    have hq4 := hq.step hpu (fun x hx e => by have := hq.own.lt hx; omega) (fun k hk e => by have := hq.upd.size; omega)
    refine ⟨_, _, rfl, hq4.rebase, ?_⟩
    have w4s : wq.heap.size ≤ w4.heap.size := hpu.size
    have hpo2g : ∀ k, vp2.ownBlock = some k → wq.heap.size ≤ k := fun k hk => (hpo2.lt k hk).1
    have hqs4 := hq.upd.size
    clear hq hpu
    rw [y64_nat (by omega)] at hpo2
    have hu4 : Upd (fun k => w.heap.size ≤ k) w w4 := upd_new hu3 hq4 (by simp; omega)
    have hpo4 : Bo w4 w0.heap.size vp _ := (hpo.upd hq4.upd fun k hk y => y ⟨by have := hpog k hk; simp only; omega, by have := hpog k hk; simp only; omega, trivial⟩).less (by omega)
    have hbo4 : Bo w4 w.heap.size vb _ := hbo3.upd hq4.upd fun k hk y => y ⟨by have := hbl k hk; simp only; omega, (hbT k hk).1, trivial⟩
    have hs4 := hq4.upd.size
    repeat' (first | (apply Wl.nil) | (apply Wl.splitP; exact rfl; exact rfl; all_goals (intros; try (exfalso; omega))) | (apply Wl.splitB; exact rfl; exact rfl; all_goals intros) | (apply St.condP; exact rfl; all_goals (intros; try (exfalso; omega))) | (apply St.condB; exact rfl; all_goals intros))
    refine Mt.backE (fun u h => Hp.under h hu4) ?_
    refine Mt.eff1 (i := 9) (by decide +kernel) (by exact rfl) ?_
    apply Wl.appBs (hb := hpo4) (hy := hpo2.bs)
    · exact rfl
    · exact rfl
    · exact rfl
    · exact fun k hk _ _ => ⟨by have := hpo2g k hk; simp only; omega, by have := hpo2g k hk; simp only; omega, trivial⟩
    · exact fun k hk => ⟨by have := hpog k hk; simp only; omega, by have := hpog k hk; simp only; omega, trivial⟩
    · rw [leB_length, leB_length]; omega
    · omega
    intro v5 w5 hbo5 u5 hk5
    have hu5 : Upd (fun k => w.heap.size ≤ k) w w5 := hu4.comp u5 fun k hk hs => by
      rcases hs with h | h | h
      · exact h
      · have := hpog k h; omega
      · exact Classical.byContradiction fun hn => h ⟨fun e => by simp only at e; omega, fun e => by simp only at e; omega, trivial⟩
    have hbo5b : Bo w5 w.heap.size vb _ := hbo4.upd u5 fun k hk h => by
      have h1 := hbl k hk
      rcases h with h | h
      · have := hpog k h; omega
      · exact h ⟨by simp only; omega, (hbT k hk).1, trivial⟩
    have hs5 := u5.size
    have h5g : ∀ k, v5.ownBlock = some k → w0.heap.size ≤ k := fun k hk => (hbo5.lt k hk).1
    have h5T : ∀ k, v5.ownBlock = some k → cE ≠ k ∧ cT ≠ k := fun k hk => ⟨(hk5 k hk).1.1, (hk5 k hk).1.2.1⟩
    repeat' (first | (apply Wl.nil) | (apply Wl.splitP; exact rfl; exact rfl; all_goals (intros; try (exfalso; omega))) | (apply Wl.splitB; exact rfl; exact rfl; all_goals intros) | (apply St.condP; exact rfl; all_goals (intros; try (exfalso; omega))) | (apply St.condB; exact rfl; all_goals intros))
    refine Mt.backE (fun u h => Hp.under h hu5) ?_
    refine Mt.eff1 (i := 10) (by decide +kernel) (by exact rfl) ?_
    apply Wl.appBs (hb := hbo5b) (hy := hbo5.bs)
    · exact rfl
    · exact rfl
    · exact rfl
    · exact fun k hk _ _ => ⟨(h5T k hk).1, (h5T k hk).2, trivial⟩
    · exact fun k hk => ⟨by have := hbl k hk; simp only; omega, (hbT k hk).1, trivial⟩
    · simp only [List.length_append, leB_length] at hlen ⊢; omega
    · omega
    intro v6 w6 hbo6 u6 hk6
    have hu6 : Upd (fun k => w.heap.size ≤ k) w w6 := hu5.comp u6 fun k hk hs => by
      rcases hs with h | h | h
      · exact h
      · exact hbo5b.base h
      · exact Classical.byContradiction fun hn => h ⟨fun e => by simp only at e; omega, fun e => by simp only at e; omega, trivial⟩
    have hs6 := u6.size
    repeat' (first | (apply Wl.nil) | (apply Wl.splitP; exact rfl; exact rfl; all_goals (intros; try (exfalso; omega))) | (apply Wl.splitB; exact rfl; exact rfl; all_goals intros) | (apply St.condP; exact rfl; all_goals (intros; try (exfalso; omega))) | (apply St.condB; exact rfl; all_goals intros))
    refine Mt.backE (fun u h => Hp.under h hu6) ?_
    refine Mt.pure 11 (by decide +kernel) (by exact rfl) (by exact rfl) (by decide +kernel) (by decide +kernel) ?_
    repeat' (first | (apply Wl.assign; exact rfl; exact rfl) | (apply Wl.nilM) | (apply Wl.splitP; exact rfl; exact rfl; all_goals (intros; try (exfalso; omega))) | (apply Wl.splitB; exact rfl; exact rfl; all_goals intros) | (apply St.condP; exact rfl; all_goals (intros; try (exfalso; omega))) | (apply St.condB; exact rfl; all_goals intros))
    apply Mt.back
    refine Mt.toGt (by decide +kernel) ?_
    repeat' (first | (apply Wl.move; exact rfl; exact rfl) | (apply Wl.addI; exact rfl; exact rfl; exact rfl; (constructor <;> omega)) | (apply Wl.nil) | (apply St.region) | (apply Gt.next) | (apply Gt.inNormal) | (apply Wl.splitP; exact rfl; exact rfl; all_goals (intros; try (exfalso; omega))) | (apply Wl.splitB; exact rfl; exact rfl; all_goals intros) | (apply St.condP; exact rfl; all_goals (intros; try (exfalso; omega))) | (apply St.condB; exact rfl; all_goals intros))
    apply Gt.reb (H' := [⟨cT, [.slice ta t.tags.length tc, .slice sa t.syms.length sc, .slice ra t.relas.length rc, .int .i64 t.more, .bool t.plain], 27⟩])
    intro w7 h7
    refine ⟨h7.own.2, h7.apart.2, ?_⟩
    have hs7 := h7.upd.size
    apply Gt.round (i + 1, w7, v6)
    · refine ⟨hlt, upd_new hu6 h7 (by simp; omega), ?_, fun k hk => ⟨(hk6 k hk).1.2.1, fun _ e => ?_⟩, by simp only; omega, ?_⟩
      · simp only
        rw [List.take_add_one, hx, Option.toList_some, List.flatMap_append, List.flatMap_singleton]
        unfold tagB
        have := hbo6.upd h7.upd fun k hk y => y ⟨(hk6 k hk).1.1, (hk6 k hk).1.2.1, trivial⟩
        simp only [List.append_assoc] at this ⊢
        exact this
      · rcases (hk6 k hk).2 with h | h
        · exact (hbT k h).2 hne e
        · have : k = b1 := by simpa [Value.ownBlock] using e.symm
          omega
      · have hbb : ∀ k, (Value.slice (some ⟨b1, o1, none⟩) (allTags t).length tc').ownBlock = some k → k = b1 := fun k hk => by simpa [Value.ownBlock] using hk.symm
        have e3 := Sv.upd hvt hq3.upd fun k hk hlt2 _ y => y ⟨by simp only; omega, by rw [hbb k hk]; exact hcTb, trivial⟩
        have e4 := Sv.upd e3 hq4.upd fun k hk hlt2 _ y => y ⟨by rw [hbb k hk]; simp only; omega, by rw [hbb k hk]; exact hcTb, trivial⟩
        have e5 := Sv.upd e4 u5 fun k hk hlt2 _ h => by
          rw [hbb k hk] at h
          rcases h with h | h
          · have := hpog b1 h; omega
          · exact h ⟨by simp only; omega, hcTb, trivial⟩
        have e6 := Sv.upd e5 u6 fun k hk hlt2 _ h => by
          rw [hbb k hk] at h
          rcases h with h | h
          · exact (hbT b1 h).2 hne rfl
          · exact h ⟨by simp only; omega, hcTb, trivial⟩
        exact Sv.upd e6 h7.upd fun k hk hlt2 _ h => by
          rw [hbb k hk] at h
          exact h ⟨by simp only; omega, hcTb, trivial⟩
    · simp only; omega
    · (repeat (first | exact Sub.nil | apply Sub.cons rfl))
    · exact fun _ h => h
  have hin' : i = (allTags t).length := by omega
  subst hin'
  rw [List.take_length] at hbo
  have hbo3 : Bo w0 w.heap.size vb (tb3 t) := hbo
  have hbT3 : ∀ k, vb.ownBlock = some k → cT ≠ k := fun k hk => (hbT k hk).1
  clear hbo hvt hbT
  obtain ⟨ba3, bc3, rfl, _, _⟩ := hbo3.shape
  have hl2 := tb2_len t
  have hl3 := tb3_len t
  have hlN := tbN_eq t
  repeat' (first | (apply Wl.move; exact rfl; exact rfl) | (apply Wl.assign; exact rfl; exact rfl) | (apply Wl.lss; exact rfl; exact rfl; exact rfl) | (apply Wl.addI; exact rfl; exact rfl; exact rfl; (constructor <;> omega)) | (apply Wl.subI; exact rfl; exact rfl; exact rfl; (constructor <;> omega)) | (apply Wl.len; exact rfl; exact rfl) | (apply Wl.buildS; exact rfl; (repeat (first | exact Parts.nil | apply Parts.cons rfl)); (repeat (first | apply Fills.nil | (apply Fills.one; exact rfl; exact rfl; (repeat (first | apply LSet.z | apply LSet.s))) | (apply Fills.agg; exact rfl; exact rfl; (repeat (first | apply LPut.s | apply LPut.z | apply LOver.nil | apply LOver.cons)))))) | (apply Wl.lit; exact rfl; (repeat (first | exact Parts.nil | apply Parts.cons rfl)); exact rfl; exact rfl; (repeat (first | apply CatP.nil | (apply CatP.one; exact rfl; exact rfl) | (apply CatP.agg; exact rfl) | apply LApp.nil | apply LApp.cons)); intro c hc ho) | (apply Wl.nil) | (apply St.seq) | (apply St.region) | (apply St.exit) | (apply Gt.next) | (apply Gt.thenExit) | (apply Gt.inExit) | (apply Wl.splitP; exact rfl; exact rfl; all_goals (intros; try (exfalso; omega))) | (apply Wl.splitB; exact rfl; exact rfl; all_goals intros) | (apply St.condP; exact rfl; all_goals (intros; try (exfalso; omega))) | (apply St.condB; exact rfl; all_goals intros))
  generalize c = cHd at *
  have hcHd : w0.heap.size ≤ cHd := by assumption
  rw [show ((tb3 t).length : Int) - (tb2 t).length = ((tbN t : Nat) : Int) from by unfold tbN; omega]
  apply Wl.makeSlice (n := tbN t)
  · exact rfl
  · exact rfl
  · exact rfl
  · simp only [Nat.ble_eq]; omega
  · omega
  intro cz hcz hoz
  rw [made_zeros]
  repeat' (first | (apply Wl.lit; exact rfl; (repeat (first | exact Parts.nil | apply Parts.cons rfl)); exact rfl; exact rfl; (repeat (first | apply CatP.nil | (apply CatP.one; exact rfl; exact rfl) | (apply CatP.agg; exact rfl) | apply LApp.nil | apply LApp.cons)); intro c hc ho) | (apply Wl.splitP; exact rfl; exact rfl; all_goals (intros; try (exfalso; omega))) | (apply Wl.splitB; exact rfl; exact rfl; all_goals intros) | (apply St.condP; exact rfl; all_goals (intros; try (exfalso; omega))) | (apply St.condB; exact rfl; all_goals intros))
  generalize c = cl at *
  have hccl : w0.heap.size ≤ cl := by assumption
  apply Wl.call
  exact rfl
  (repeat (first | exact Evs.nil | apply Evs.cons rfl))
  intro wq hq
  have hbl : ∀ k, (Value.slice ba3 (tb3 t).length bc3).ownBlock = some k → k < w0.heap.size := fun k hk => (hbo3.lt k hk).2
  obtain ⟨hk1, hk2, hk3, hk4, hk5, hk6⟩ := hok
  refine (file_any 0 _ _ (tbHs code t) (tbDs code t) wq (by decide) ?_ ?_ rfl (by simp [tbHs]) ?_ ?_).mono ?_
  · refine Sv.ofBlk (cs := (tbHs code t).flatMap hdCells) (t := 50) (fr := ((0 : Nat), (0 : Nat))) ?_ rfl (by simp [tbHs, maxLen])
    have h1 := hq.own.at (x := ⟨cHd, _, 50⟩) (.tail _ (.tail _ (.head _)))
    refine h1.trans ?_
    congr 2

  · refine ⟨[.slice ca code.length cc, .slice ba3 (tb3 t).length bc3, .slice (some ⟨cz, 0, none⟩) (tbN t) (tbN t)], rfl, Sv.ofBlk (fr := ((0 : Nat), (0 : Nat))) (hq.own.at (x := ⟨cl, _, 22⟩) (.head _)) rfl (by simp [maxLen]), ?_⟩
    intro i x l hx hl
    rcases i with _ | _ | _ | i
    · simp only [List.getElem?_cons_zero, Option.some.injEq, tbDs] at hx hl
      subst hx hl
      exact hcode.upd (hu.comp hq.upd (T := fun k => w.heap.size ≤ k) fun k hk hs => hs.elim id fun y => Classical.byContradiction fun hn => y ⟨by simp only; omega, by simp only; omega, by simp only; omega, by simp only; omega, trivial⟩) fun k _ hk _ y => by omega
    · simp only [List.getElem?_cons_succ, List.getElem?_cons_zero, Option.some.injEq, tbDs] at hx hl
      subst hx hl
      exact hbo3.bs.upd hq.upd fun k hk _ _ y => y ⟨by have := hbl k hk; simp only; omega, by have := hbl k hk; simp only; omega, by have := hbl k hk; simp only; omega, hbT3 k hk, trivial⟩
    · simp only [List.getElem?_cons_succ, List.getElem?_cons_zero, Option.some.injEq, tbDs] at hx hl
      subst hx hl
      have := Bs.ofBlk (l := List.replicate (tbN t) 0) (fr := ((0 : Nat), (0 : Nat))) (hq.own.at (x := ⟨cz, _, 5⟩) (.tail _ (.head _))) (by rw [List.length_replicate]; unfold maxLen; omega)
      rw [List.length_replicate] at this
      exact this
    · simp [tbDs] at hl
  · simp only [tbDs, List.flatten_cons, List.flatten_nil, List.length_append, List.length_nil, List.length_replicate]; omega
  · intro x hx
    simp only [tbHs, List.mem_cons, List.not_mem_nil, or_false] at hx
    rcases hx with rfl | rfl | rfl <;> simp only <;> omega
  rintro e w9 ⟨v9, rfl, hb9, hu9⟩
  refine ⟨_, rfl, ?_⟩
  have hqs := hq.upd.size
  repeat' (first | (apply Wl.assign; exact rfl; exact rfl) | (apply Wl.nil) | (apply St.ret) | (apply Gt.next) | (apply Gt.out1; exact rfl; exact rfl; intro w' hp) | (apply Wl.splitP; exact rfl; exact rfl; all_goals (intros; try (exfalso; omega))) | (apply Wl.splitB; exact rfl; exact rfl; all_goals intros) | (apply St.condP; exact rfl; all_goals (intros; try (exfalso; omega))) | (apply St.condB; exact rfl; all_goals intros))
  refine ⟨(upd_new hu hq (by simp; omega)).comp (hu9.comp hp.upd (T := fun k => wq.heap.size ≤ k) fun k hk hs => hs.elim id fun y => (y trivial).elim) fun k hk hs => hs.elim id fun h => by omega, .inr ⟨⟨hk1, hk2, hk3, hk4, hk5, hk6⟩, v9, rfl, ?_⟩⟩
  exact (hb9.upd hp.upd fun k hk y => y trivial).less (by omega)
end Go.Proofs.Ytcjikjadajmefaa
