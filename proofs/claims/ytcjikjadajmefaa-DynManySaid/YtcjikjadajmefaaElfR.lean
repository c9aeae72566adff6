/-
  The heads of a file, read by the reference, told by the same law. Conditions: the file has at most 100000 bytes.
-/
import Derived.Test.YtcjikjadajmefaaElf
namespace Go.Proofs.Ytcjikjadajmefaa
open Go.RowKit Go.Pt

theorem LSet.ofSet {l : List Value} {i : Nat} {v : Value} (h : i < l.length) : LSet l i v (l.set i v) := by
  induction l generalizing i with
  | nil => simp at h
  | cons x r ih =>
    cases i with
    | zero => exact .z
    | succ i => exact .s (ih (by simpa using h))

def rCells (f : List UInt8) (o : Nat) : List Value :=
  [.int .i64 (num f o 4), .int .i64 (num f (o + 4) 4), .int .i64 (num f (o + 8) 4), .int .i64 (num f (o + 16) 4), .int .i64 (num f (o + 20) 4), .int .i64 (rx (num f (o + 24) 4))]
def rAll (f : List UInt8) (a n : Nat) : List Value := (List.range n).flatMap fun i => rCells f (a + 32 * i)
theorem rAll_snoc (f : List UInt8) (a n : Nat) : rAll f a (n + 1) = rAll f a n ++ rCells f (a + 32 * n) := by
  simp [rAll, List.range_succ]
/-- the eight numbers of a header, when j of them have been read -/
def eight (f : List UInt8) (o j : Nat) : List Value := (List.range 8).map fun m => Value.int .i64 (if m < j then (num f (o + 4 * m) 4 : Int) else 0)
theorem eight_set (f : List UInt8) (o j : Nat) (hj : j < 8) : LSet (eight f o j) j (.int .i64 (num f (o + 4 * j) 4)) (eight f o (j + 1)) := by
  have e : eight f o (j + 1) = (eight f o j).set j (.int .i64 (num f (o + 4 * j) 4)) := by
    apply List.ext_getElem
    · simp [eight]
    · intro m h1 h2
      rw [List.getElem_set]
      simp only [eight, List.getElem_map, List.getElem_range]
      by_cases hm : j = m
      · subst hm; simp
      · rw [if_neg hm]
        by_cases hl : m < j
        · rw [if_pos hl, if_pos (by omega)]
        · rw [if_neg hl, if_neg (by omega)]
  rw [e]
  exact LSet.ofSet (by simp [eight]; exact hj)

theorem eight8 (f : List UInt8) (o : Nat) : eight f o 8 = [.int .i64 (num f o 4), .int .i64 (num f (o + 4) 4), .int .i64 (num f (o + 8) 4), .int .i64 (num f (o + 12) 4), .int .i64 (num f (o + 16) 4), .int .i64 (num f (o + 20) 4), .int .i64 (num f (o + 24) 4), .int .i64 (num f (o + 28) 4)] := rfl

def RHeadsPost (f : List UInt8) (w : World) (e : Ending) (w' : World) : Prop :=
  Upd (fun k => w.heap.size ≤ k) w w' ∧
  ((¬ okHeads f ∧ e = .returned (.tuple #[.int .i64 0, .slice none 0 0, .int .i64 8])) ∨
   (okHeads f ∧ ∃ v, e = .returned (.tuple #[.int .i64 (num f 24 4), v, .int .i64 0]) ∧ w'.ownsRow w.heap.size 50 6 v (num f 44 2) (rAll f (num f 28 4) (num f 44 2))))

theorem rnum_q (c : Nat) (v : Value) (f : List UInt8) (k p : Nat) (n : Nat) (i : Int) (hi : (n : Int) = i) (hn : n ≤ 4) (w : World) (h : w.heap[c]? = some (.cells #[v, .int .i64 p, .bool (decide (f.length < k))] 98 (0,0))) (hv : Bs w v f) (hr : RefAt f k p) :
    Calls Try.prog 29 #[.pointer (some ⟨c, 0, none⟩), .int .i64 i] w fun e w' => ∃ p' : Nat, e = .returned (.int .i64 (num f k n)) ∧ Hp w [⟨c, [v, .int .i64 p', .bool (decide (f.length < k + n))], 98⟩] w' ∧ RefAt f (k + n) p' := by
  subst hi; exact rnum_pos c v f k p n hn w h hv hr

theorem Hp.pop {w0 w : World} {x : Blk} {H : List Blk} (h : Hp w0 (x :: H) w) (hx : w0.heap.size ≤ x.b) : Hp w0 H w :=
  ⟨h.upd.mono fun k hk hs ho => hs ⟨fun e => by omega, ho⟩, h.own.2, h.apart.2⟩
theorem remF (x : Nat) (h : x ≤ 7) : (x : Int).tmod 2 = ((x % 2 : Nat) : Int) := by
  have : x = 0 ∨ x = 1 ∨ x = 2 ∨ x = 3 ∨ x = 4 ∨ x = 5 ∨ x = 6 ∨ x = 7 := by omega
  rcases this with rfl | rfl | rfl | rfl | rfl | rfl | rfl | rfl <;> rfl
theorem quoF (x : Nat) (h : x ≤ 7) : IntKind.i64.wrap ((x : Int).tdiv 4) = ((x / 4 : Nat) : Int) := by
  have : x = 0 ∨ x = 1 ∨ x = 2 ∨ x = 3 ∨ x = 4 ∨ x = 5 ∨ x = 6 ∨ x = 7 := by omega
  rcases this with rfl | rfl | rfl | rfl | rfl | rfl | rfl | rfl <;> rfl
theorem qrF (x : Nat) (h : x ≤ 7) : (IntKind.i64.wrap ((x : Int).tdiv 2)).tmod 2 = ((x / 2 % 2 : Nat) : Int) := by
  have : x = 0 ∨ x = 1 ∨ x = 2 ∨ x = 3 ∨ x = 4 ∨ x = 5 ∨ x = 6 ∨ x = 7 := by omega
  rcases this with rfl | rfl | rfl | rfl | rfl | rfl | rfl | rfl <;> rfl

/-- where the reference stands in the first three numbers -/
def r3 (i : Nat) : Nat := if i < 3 then 16 + 2 * i else 24

def okI (f : List UInt8) (i : Nat) : Prop := part f 0 16 = elfIdent ∧ (0 < i → num f 16 2 = 3) ∧ (1 < i → num f 18 2 = 243) ∧ (2 < i → num f 20 4 = 1)
theorem okI_1 (f : List UInt8) : okI f 1 ↔ okI f 0 ∧ num f 16 2 = 3 := ⟨fun ⟨a, b, c, d⟩ => ⟨⟨a, by omega, by omega, by omega⟩, by omega⟩, fun ⟨⟨a, b, c, d⟩, e⟩ => ⟨a, by omega, by omega, by omega⟩⟩
theorem okI_2 (f : List UInt8) : okI f 2 ↔ okI f 1 ∧ num f 18 2 = 243 := ⟨fun ⟨a, b, c, d⟩ => ⟨⟨a, by omega, by omega, by omega⟩, by omega⟩, fun ⟨⟨a, b, c, d⟩, e⟩ => ⟨a, by omega, by omega, by omega⟩⟩
theorem okI_3 (f : List UInt8) : okI f 3 ↔ okI f 2 ∧ num f 20 4 = 1 := ⟨fun ⟨a, b, c, d⟩ => ⟨⟨a, by omega, by omega, by omega⟩, by omega⟩, fun ⟨⟨a, b, c, d⟩, e⟩ => ⟨a, by omega, by omega, by omega⟩⟩
theorem ok_step {ok : Bool} {p q r : Prop} {x : Nat} {z : Int} [Decidable ((x : Int) = z)] (hok : ok = true ↔ p) (hr : r ↔ p ∧ q) (hq : (x : Int) = z ↔ q) (h : ok = true) : decide ((x : Int) = z) = true ↔ r := by
  rw [decide_eq_true_eq, hr, ← hok, hq]; exact ⟨fun a => ⟨h, a⟩, fun a => a.2⟩
theorem ok_stop {ok : Bool} {p q r : Prop} (hok : ok = true ↔ p) (hr : r ↔ p ∧ q) (h : ok = false) : false = true ↔ r := by
  rw [hr, ← hok, h]; exact ⟨fun a => (by cases a), fun a => (by cases a.1)⟩

set_option maxHeartbeats 1000000 in
theorem rheads_any (v : Value) (f : List UInt8) (w : World) (hv : Bs w v f) (h3 : f.length ≤ 100000) :
    Calls Try.prog 33 #[v] w (RHeadsPost f w) := by
  obtain ⟨a, cap, rfl, hlc, hm⟩ := hv.shape
  unfold maxLen at hm
  refine enter (args := [_]) (Γ := [(0, _)]) Try.func33 Try.ntmps33 rfl (of_decide_eq_true rfl) (.cons rfl .nil) ?_
  repeat' (first | (apply Wl.move; exact rfl; exact rfl) | (apply Wl.assign; exact rfl; exact rfl) | (apply Wl.buildS; exact rfl; (repeat (first | exact Parts.nil | apply Parts.cons rfl)); (repeat (first | apply Fills.nil | (apply Fills.one; exact rfl; exact rfl; (repeat (first | apply LSet.z | apply LSet.s))) | (apply Fills.agg; exact rfl; exact rfl; (repeat (first | apply LPut.s | apply LPut.z | apply LOver.nil | apply LOver.cons)))))) | (apply Wl.boxA; exact rfl; exact rfl; intro c hc ho) | (apply Wl.nil) | (apply St.seq) | (apply St.region) | (apply Gt.next) | (apply Wl.splitP; exact rfl; exact rfl; all_goals (intros; try (exfalso; omega))) | (apply Wl.splitB; exact rfl; exact rfl; all_goals intros) | (apply St.condP; exact rfl; all_goals (intros; try (exfalso; omega))) | (apply St.condB; exact rfl; all_goals intros))
  have hcw := hc
  have hbw (wq : World) (H : List Blk) (hq : Hp w H wq) (hH : ∀ x ∈ H, w.heap.size ≤ x.b) : Bs wq (.slice a f.length cap) f := hv.upd hq.upd fun j _ hj _ hno => hno (Off.of fun x hx e => by have := hH x hx; omega)
  have hp0 : RefAt f 0 0 := ⟨Nat.zero_le _, fun _ => rfl⟩
  apply Wl.callC
  exact rfl
  (repeat (first | exact Evs.nil | apply Evs.cons rfl))
  intro wq hq
  refine (rtake_pos c (.slice a f.length cap) f 0 0 16 wq (hq.own.at (.head _)) (hbw _ _ hq (by simp; omega)) hp0).mono ?_
  rintro e wr ⟨x1, p1, rfl, hp, hp1, hx1⟩
  refine ⟨_, _, rfl, hq.callSet (by (repeat (first | apply HSet.here | apply HSet.there))) hp, ?_⟩
  clear hp hq wq wr
  apply Wl.convBS
  · exact rfl
  · exact rfl
  · exact fun u hu => hx1 u (hbw u _ hu (by simp; omega))
  repeat' (first | (apply Wl.move; exact rfl; exact rfl) | (apply Wl.assign; exact rfl; exact rfl) | (apply Wl.eqlSB; exact rfl; exact rfl; exact rfl) | (apply Wl.lit; exact rfl; (repeat (first | exact Parts.nil | apply Parts.cons rfl)); exact rfl; exact rfl; (repeat (first | apply CatP.nil | (apply CatP.one; exact rfl; exact rfl) | (apply CatP.agg; exact rfl) | apply LApp.nil | apply LApp.cons)); intro c hc ho) | (apply Wl.nil) | (apply St.seq) | (apply St.block) | (apply St.region) | (apply Gt.next) | (apply Wl.splitP; exact rfl; exact rfl; all_goals (intros; try (exfalso; omega))) | (apply Wl.splitB; exact rfl; exact rfl; all_goals intros) | (apply St.condP; exact rfl; all_goals (intros; try (exfalso; omega))) | (apply St.condB; exact rfl; all_goals intros))
  rename_i c1 hc1 ho1 c2 hc2 ho2
  refine St.loop (σ := Nat × Nat × Bool) (fun τ => τ.1 ≤ 3 ∧ RefAt f (r3 τ.1) τ.2.1 ∧ (τ.2.2 = true ↔ okI f τ.1))
    (fun τ => [(0, .slice a f.length cap), (5, .pointer (some ⟨c1, 0, none⟩)), (7, .slice (some ⟨c2, 0, none⟩) 3 3), (9, .slice (some ⟨c, 0, none⟩) 3 3), (8, .bool τ.2.2), (10, .int .i64 τ.1)])
    (fun τ => Hp w [⟨c, [.int .i64 2, .int .i64 2, .int .i64 4], 3⟩, ⟨c2, [.int .i64 3, .int .i64 243, .int .i64 1], 3⟩, ⟨c1, [.slice a f.length cap, .int .i64 τ.2.1, .bool (decide (f.length < r3 τ.1))], 98⟩])
    (fun τ => 3 - τ.1) (0, p1, decide (part f 0 16 = elfIdent)) ⟨Nat.zero_le _, hp1, by simp [okI]⟩ (by (repeat (first | exact Sub.nil | apply Sub.cons rfl))) (fun _ h => h) ?_
  clear ho ho2 hp1 hx1 x1 p1
  rintro ⟨i, p1, ok⟩ ⟨hi, hp1, hok⟩
  simp only at hi hp1 hok ⊢
  repeat' (first | (apply Wl.move; exact rfl; exact rfl) | (apply Wl.lss; exact rfl; exact rfl; exact rfl) | (apply Wl.indexAddr1; exact rfl; exact rfl; exact rfl; (constructor <;> omega)) | (apply Wl.nil) | (apply St.seq) | (apply St.block) | (apply St.region) | (apply St.skip) | (apply St.exit) | (apply Gt.next) | (apply Gt.thenExit) | (apply Gt.inExit) | (apply Wl.splitP; exact rfl; exact rfl; all_goals (intros; try (exfalso; omega))) | (apply Wl.splitB; exact rfl; exact rfl; all_goals intros) | (apply St.condP; exact rfl; all_goals (intros; try (exfalso; omega))) | (apply St.condB; exact rfl; all_goals intros))
  · have : i = 0 ∨ i = 1 ∨ i = 2 := by omega
    rcases this with rfl | rfl | rfl
    · repeat' (first | (apply Wl.loadH; exact rfl; exact rfl; (repeat (first | exact List.Mem.head _ | apply List.Mem.tail)); exact rfl) | (apply Wl.splitP; exact rfl; exact rfl; all_goals (intros; try (exfalso; omega))) | (apply Wl.splitB; exact rfl; exact rfl; all_goals intros) | (apply St.condP; exact rfl; all_goals (intros; try (exfalso; omega))) | (apply St.condB; exact rfl; all_goals intros))
      apply Wl.callC
      exact rfl
      (repeat (first | exact Evs.nil | apply Evs.cons rfl))
      intro wq hq
      refine (rnum_q c1 (.slice a f.length cap) f (r3 0) p1 2 2 rfl (by decide) wq (hq.own.at (.tail _ (.tail _ (.head _)))) (hbw _ _ hq (by simp; omega)) hp1).mono ?_
      rintro e wr ⟨p2, rfl, hp, hp2⟩
      refine ⟨_, _, rfl, hq.callSet (by (repeat (first | apply HSet.here | apply HSet.there))) hp, ?_⟩
      clear hp hq wq wr
      repeat' (first | (apply Wl.move; exact rfl; exact rfl) | (apply Wl.assign; exact rfl; exact rfl) | (apply Wl.on; exact rfl; exact rfl; (first | rfl | assumption)) | (apply Wl.off; exact rfl; exact rfl; exact rfl; (first | rfl | assumption)) | (apply Wl.pickT; exact rfl; exact rfl; (first | rfl | assumption); exact rfl) | (apply Wl.pickF; exact rfl; exact rfl; (first | rfl | assumption); exact rfl) | (apply Wl.loadH; exact rfl; exact rfl; (repeat (first | exact List.Mem.head _ | apply List.Mem.tail)); exact rfl) | (apply Wl.eql; exact rfl; exact rfl; exact rfl) | (apply Wl.addI; exact rfl; exact rfl; exact rfl; (constructor <;> omega)) | (apply Wl.indexAddr1; exact rfl; exact rfl; exact rfl; (constructor <;> omega)) | (apply Wl.nil) | (apply St.region) | (apply Gt.next) | (apply Gt.inNormal) | (apply Wl.splitP; exact rfl; exact rfl; all_goals (intros; try (exfalso; omega))) | (apply Wl.splitB; exact rfl; exact rfl; all_goals intros) | (apply St.condP; exact rfl; all_goals (intros; try (exfalso; omega))) | (apply St.condB; exact rfl; all_goals intros))
      · apply Gt.round (1, p2, decide ((num f (r3 0) 2 : Int) = 3))
        rotate_left
        · exact (by decide : 3 - 1 < 3 - 0)
        · (repeat (first | exact Sub.nil | apply Sub.cons rfl))
        · exact fun _ h => h
        · exact ⟨(by decide : 1 ≤ 3), hp2, ok_step hok (okI_1 f) (by show ((num f 16 2 : Nat) : Int) = _ ↔ num f 16 2 = _; omega) ‹ok = true›⟩
      · apply Gt.round (1, p2, false)
        rotate_left
        · exact (by decide : 3 - 1 < 3 - 0)
        · (repeat (first | exact Sub.nil | apply Sub.cons rfl))
        · exact fun _ h => h
        · exact ⟨(by decide : 1 ≤ 3), hp2, ok_stop hok (okI_1 f) ‹ok = false›⟩
    · repeat' (first | (apply Wl.loadH; exact rfl; exact rfl; (repeat (first | exact List.Mem.head _ | apply List.Mem.tail)); exact rfl) | (apply Wl.splitP; exact rfl; exact rfl; all_goals (intros; try (exfalso; omega))) | (apply Wl.splitB; exact rfl; exact rfl; all_goals intros) | (apply St.condP; exact rfl; all_goals (intros; try (exfalso; omega))) | (apply St.condB; exact rfl; all_goals intros))
      apply Wl.callC
      exact rfl
      (repeat (first | exact Evs.nil | apply Evs.cons rfl))
      intro wq hq
      refine (rnum_q c1 (.slice a f.length cap) f (r3 1) p1 2 2 rfl (by decide) wq (hq.own.at (.tail _ (.tail _ (.head _)))) (hbw _ _ hq (by simp; omega)) hp1).mono ?_
      rintro e wr ⟨p2, rfl, hp, hp2⟩
      refine ⟨_, _, rfl, hq.callSet (by (repeat (first | apply HSet.here | apply HSet.there))) hp, ?_⟩
      clear hp hq wq wr
      repeat' (first | (apply Wl.move; exact rfl; exact rfl) | (apply Wl.assign; exact rfl; exact rfl) | (apply Wl.on; exact rfl; exact rfl; (first | rfl | assumption)) | (apply Wl.off; exact rfl; exact rfl; exact rfl; (first | rfl | assumption)) | (apply Wl.pickT; exact rfl; exact rfl; (first | rfl | assumption); exact rfl) | (apply Wl.pickF; exact rfl; exact rfl; (first | rfl | assumption); exact rfl) | (apply Wl.loadH; exact rfl; exact rfl; (repeat (first | exact List.Mem.head _ | apply List.Mem.tail)); exact rfl) | (apply Wl.eql; exact rfl; exact rfl; exact rfl) | (apply Wl.addI; exact rfl; exact rfl; exact rfl; (constructor <;> omega)) | (apply Wl.indexAddr1; exact rfl; exact rfl; exact rfl; (constructor <;> omega)) | (apply Wl.nil) | (apply St.region) | (apply Gt.next) | (apply Gt.inNormal) | (apply Wl.splitP; exact rfl; exact rfl; all_goals (intros; try (exfalso; omega))) | (apply Wl.splitB; exact rfl; exact rfl; all_goals intros) | (apply St.condP; exact rfl; all_goals (intros; try (exfalso; omega))) | (apply St.condB; exact rfl; all_goals intros))
      · apply Gt.round (2, p2, decide ((num f (r3 1) 2 : Int) = 243))
        rotate_left
        · exact (by decide : 3 - 2 < 3 - 1)
        · (repeat (first | exact Sub.nil | apply Sub.cons rfl))
        · exact fun _ h => h
        · exact ⟨(by decide : 2 ≤ 3), hp2, ok_step hok (okI_2 f) (by show ((num f 18 2 : Nat) : Int) = _ ↔ num f 18 2 = _; omega) ‹ok = true›⟩
      · apply Gt.round (2, p2, false)
        rotate_left
        · exact (by decide : 3 - 2 < 3 - 1)
        · (repeat (first | exact Sub.nil | apply Sub.cons rfl))
        · exact fun _ h => h
        · exact ⟨(by decide : 2 ≤ 3), hp2, ok_stop hok (okI_2 f) ‹ok = false›⟩
    · repeat' (first | (apply Wl.loadH; exact rfl; exact rfl; (repeat (first | exact List.Mem.head _ | apply List.Mem.tail)); exact rfl) | (apply Wl.splitP; exact rfl; exact rfl; all_goals (intros; try (exfalso; omega))) | (apply Wl.splitB; exact rfl; exact rfl; all_goals intros) | (apply St.condP; exact rfl; all_goals (intros; try (exfalso; omega))) | (apply St.condB; exact rfl; all_goals intros))
      apply Wl.callC
      exact rfl
      (repeat (first | exact Evs.nil | apply Evs.cons rfl))
      intro wq hq
      refine (rnum_q c1 (.slice a f.length cap) f (r3 2) p1 4 4 rfl (by decide) wq (hq.own.at (.tail _ (.tail _ (.head _)))) (hbw _ _ hq (by simp; omega)) hp1).mono ?_
      rintro e wr ⟨p2, rfl, hp, hp2⟩
      refine ⟨_, _, rfl, hq.callSet (by (repeat (first | apply HSet.here | apply HSet.there))) hp, ?_⟩
      clear hp hq wq wr
      repeat' (first | (apply Wl.move; exact rfl; exact rfl) | (apply Wl.assign; exact rfl; exact rfl) | (apply Wl.on; exact rfl; exact rfl; (first | rfl | assumption)) | (apply Wl.off; exact rfl; exact rfl; exact rfl; (first | rfl | assumption)) | (apply Wl.pickT; exact rfl; exact rfl; (first | rfl | assumption); exact rfl) | (apply Wl.pickF; exact rfl; exact rfl; (first | rfl | assumption); exact rfl) | (apply Wl.loadH; exact rfl; exact rfl; (repeat (first | exact List.Mem.head _ | apply List.Mem.tail)); exact rfl) | (apply Wl.eql; exact rfl; exact rfl; exact rfl) | (apply Wl.addI; exact rfl; exact rfl; exact rfl; (constructor <;> omega)) | (apply Wl.indexAddr1; exact rfl; exact rfl; exact rfl; (constructor <;> omega)) | (apply Wl.nil) | (apply St.region) | (apply Gt.next) | (apply Gt.inNormal) | (apply Wl.splitP; exact rfl; exact rfl; all_goals (intros; try (exfalso; omega))) | (apply Wl.splitB; exact rfl; exact rfl; all_goals intros) | (apply St.condP; exact rfl; all_goals (intros; try (exfalso; omega))) | (apply St.condB; exact rfl; all_goals intros))
      · apply Gt.round (3, p2, decide ((num f (r3 2) 4 : Int) = 1))
        rotate_left
        · exact (by decide : 3 - 3 < 3 - 2)
        · (repeat (first | exact Sub.nil | apply Sub.cons rfl))
        · exact fun _ h => h
        · exact ⟨(by decide : 3 ≤ 3), hp2, ok_step hok (okI_3 f) (by show ((num f 20 4 : Nat) : Int) = _ ↔ num f 20 4 = _; omega) ‹ok = true›⟩
      · apply Gt.round (3, p2, false)
        rotate_left
        · exact (by decide : 3 - 3 < 3 - 2)
        · (repeat (first | exact Sub.nil | apply Sub.cons rfl))
        · exact fun _ h => h
        · exact ⟨(by decide : 3 ≤ 3), hp2, ok_stop hok (okI_3 f) ‹ok = false›⟩
  have h3i : i = 3 := by omega
  subst h3i
  have hp24 : RefAt f 24 p1 := hp1
  clear hp1 hi
  apply Wl.cls (C' := Hp w [⟨c1, [.slice a f.length cap, .int .i64 p1, .bool (decide (f.length < 24))], 98⟩])
  · exact fun _ h => Hp.pop (Hp.pop h hc) hc2
  apply Wl.callC
  exact rfl
  (repeat (first | exact Evs.nil | apply Evs.cons rfl))
  intro wq hq
  refine (rnum_q c1 (.slice a f.length cap) f 24 p1 4 4 rfl (by decide) wq (hq.own.at (.head _)) (hbw _ _ hq (by simp; omega)) hp24).mono ?_
  rintro e wr ⟨p28, rfl, hp, hp28⟩
  refine ⟨_, _, rfl, hq.callSet (by (repeat (first | apply HSet.here | apply HSet.there))) hp, ?_⟩
  clear hp hq wq wr
  repeat' (first | (apply Wl.move; exact rfl; exact rfl) | (apply Wl.assign; exact rfl; exact rfl) | (apply Wl.nil) | (apply St.seq) | (apply St.region) | (apply Gt.next) | (apply Wl.splitP; exact rfl; exact rfl; all_goals (intros; try (exfalso; omega))) | (apply Wl.splitB; exact rfl; exact rfl; all_goals intros) | (apply St.condP; exact rfl; all_goals (intros; try (exfalso; omega))) | (apply St.condB; exact rfl; all_goals intros))
  apply Wl.callC
  exact rfl
  (repeat (first | exact Evs.nil | apply Evs.cons rfl))
  intro wq hq
  refine (rnum_q c1 (.slice a f.length cap) f 28 p28 4 4 rfl (by decide) wq (hq.own.at (.head _)) (hbw _ _ hq (by simp; omega)) hp28).mono ?_
  rintro e wr ⟨p32, rfl, hp, hp32⟩
  refine ⟨_, _, rfl, hq.callSet (by (repeat (first | apply HSet.here | apply HSet.there))) hp, ?_⟩
  clear hp hq wq wr
  repeat' (first | (apply Wl.move; exact rfl; exact rfl) | (apply Wl.assign; exact rfl; exact rfl) | (apply Wl.nil) | (apply St.seq) | (apply St.region) | (apply Gt.next) | (apply Wl.splitP; exact rfl; exact rfl; all_goals (intros; try (exfalso; omega))) | (apply Wl.splitB; exact rfl; exact rfl; all_goals intros) | (apply St.condP; exact rfl; all_goals (intros; try (exfalso; omega))) | (apply St.condB; exact rfl; all_goals intros))
  apply Wl.callC
  exact rfl
  (repeat (first | exact Evs.nil | apply Evs.cons rfl))
  intro wq hq
  refine (rnum_q c1 (.slice a f.length cap) f 32 p32 4 4 rfl (by decide) wq (hq.own.at (.head _)) (hbw _ _ hq (by simp; omega)) hp32).mono ?_
  rintro e wr ⟨p36, rfl, hp, hp36⟩
  refine ⟨_, _, rfl, hq.callSet (by (repeat (first | apply HSet.here | apply HSet.there))) hp, ?_⟩
  clear hp hq wq wr
  repeat' (first | (apply Wl.move; exact rfl; exact rfl) | (apply Wl.nil) | (apply St.seq) | (apply St.region) | (apply Gt.next) | (apply Wl.splitP; exact rfl; exact rfl; all_goals (intros; try (exfalso; omega))) | (apply Wl.splitB; exact rfl; exact rfl; all_goals intros) | (apply St.condP; exact rfl; all_goals (intros; try (exfalso; omega))) | (apply St.condB; exact rfl; all_goals intros))
  apply Wl.callC
  exact rfl
  (repeat (first | exact Evs.nil | apply Evs.cons rfl))
  intro wq hq
  refine (rnum_q c1 (.slice a f.length cap) f 36 p36 4 4 rfl (by decide) wq (hq.own.at (.head _)) (hbw _ _ hq (by simp; omega)) hp36).mono ?_
  rintro e wr ⟨p40, rfl, hp, hp40⟩
  refine ⟨_, _, rfl, hq.callSet (by (repeat (first | apply HSet.here | apply HSet.there))) hp, ?_⟩
  clear hp hq wq wr
  repeat' (first | (apply Wl.move; exact rfl; exact rfl) | (apply Wl.assign; exact rfl; exact rfl) | (apply Wl.nil) | (apply St.seq) | (apply St.region) | (apply Gt.next) | (apply Wl.splitP; exact rfl; exact rfl; all_goals (intros; try (exfalso; omega))) | (apply Wl.splitB; exact rfl; exact rfl; all_goals intros) | (apply St.condP; exact rfl; all_goals (intros; try (exfalso; omega))) | (apply St.condB; exact rfl; all_goals intros))
  apply Wl.callC
  exact rfl
  (repeat (first | exact Evs.nil | apply Evs.cons rfl))
  intro wq hq
  refine (rnum_q c1 (.slice a f.length cap) f 40 p40 2 2 rfl (by decide) wq (hq.own.at (.head _)) (hbw _ _ hq (by simp; omega)) hp40).mono ?_
  rintro e wr ⟨p42, rfl, hp, hp42⟩
  refine ⟨_, _, rfl, hq.callSet (by (repeat (first | apply HSet.here | apply HSet.there))) hp, ?_⟩
  clear hp hq wq wr
  repeat' (first | (apply Wl.move; exact rfl; exact rfl) | (apply Wl.assign; exact rfl; exact rfl) | (apply Wl.nil) | (apply St.seq) | (apply St.region) | (apply Gt.next) | (apply Wl.splitP; exact rfl; exact rfl; all_goals (intros; try (exfalso; omega))) | (apply Wl.splitB; exact rfl; exact rfl; all_goals intros) | (apply St.condP; exact rfl; all_goals (intros; try (exfalso; omega))) | (apply St.condB; exact rfl; all_goals intros))
  apply Wl.callC
  exact rfl
  (repeat (first | exact Evs.nil | apply Evs.cons rfl))
  intro wq hq
  refine (rnum_q c1 (.slice a f.length cap) f 42 p42 2 2 rfl (by decide) wq (hq.own.at (.head _)) (hbw _ _ hq (by simp; omega)) hp42).mono ?_
  rintro e wr ⟨p44, rfl, hp, hp44⟩
  refine ⟨_, _, rfl, hq.callSet (by (repeat (first | apply HSet.here | apply HSet.there))) hp, ?_⟩
  clear hp hq wq wr
  repeat' (first | (apply Wl.move; exact rfl; exact rfl) | (apply Wl.assign; exact rfl; exact rfl) | (apply Wl.nil) | (apply St.seq) | (apply St.region) | (apply Gt.next) | (apply Wl.splitP; exact rfl; exact rfl; all_goals (intros; try (exfalso; omega))) | (apply Wl.splitB; exact rfl; exact rfl; all_goals intros) | (apply St.condP; exact rfl; all_goals (intros; try (exfalso; omega))) | (apply St.condB; exact rfl; all_goals intros))
  apply Wl.callC
  exact rfl
  (repeat (first | exact Evs.nil | apply Evs.cons rfl))
  intro wq hq
  refine (rnum_q c1 (.slice a f.length cap) f 44 p44 2 2 rfl (by decide) wq (hq.own.at (.head _)) (hbw _ _ hq (by simp; omega)) hp44).mono ?_
  rintro e wr ⟨p46, rfl, hp, hp46⟩
  refine ⟨_, _, rfl, hq.callSet (by (repeat (first | apply HSet.here | apply HSet.there))) hp, ?_⟩
  clear hp hq wq wr
  repeat' (first | (apply Wl.move; exact rfl; exact rfl) | (apply Wl.assign; exact rfl; exact rfl) | (apply Wl.nil) | (apply St.seq) | (apply St.region) | (apply Gt.next) | (apply Wl.splitP; exact rfl; exact rfl; all_goals (intros; try (exfalso; omega))) | (apply Wl.splitB; exact rfl; exact rfl; all_goals intros) | (apply St.condP; exact rfl; all_goals (intros; try (exfalso; omega))) | (apply St.condB; exact rfl; all_goals intros))
  apply Wl.callC
  exact rfl
  (repeat (first | exact Evs.nil | apply Evs.cons rfl))
  intro wq hq
  refine (rtake_pos c1 (.slice a f.length cap) f 46 p46 6 wq (hq.own.at (.head _)) (hbw _ _ hq (by simp; omega)) hp46).mono ?_
  rintro e wr ⟨x2, p52, rfl, hp, hp52, hx2⟩
  refine ⟨_, _, rfl, hq.callSet (by (repeat (first | apply HSet.here | apply HSet.there))) hp, ?_⟩
  clear hp hq wq wr
  have n28 := num4 f 28
  have n44 := num2 f 44
  have hbad (H : List Blk) (w' : World) (hp : Hp w H w') (hH : ∀ x ∈ H, w.heap.size ≤ x.b) (hn : ¬ okTop f) : RHeadsPost f w (.returned (.tuple #[.int .i64 0, .slice none 0 0, .int .i64 8])) w' :=
    ⟨(hp.drop hH).upd.mono fun _ _ y => (y trivial).elim, .inl ⟨fun hok => hn hok.1, rfl⟩⟩
  repeat' (first | (apply Wl.move; exact rfl; exact rfl) | (apply Wl.assign; exact rfl; exact rfl) | (apply Wl.on; exact rfl; exact rfl; (first | rfl | assumption)) | (apply Wl.off; exact rfl; exact rfl; exact rfl; (first | rfl | assumption)) | (apply Wl.nilCheck; exact rfl; exact rfl) | (apply Wl.pickT; exact rfl; exact rfl; (first | rfl | assumption); exact rfl) | (apply Wl.pickF; exact rfl; exact rfl; (first | rfl | assumption); exact rfl) | (apply Wl.not; exact rfl; exact rfl) | (apply Wl.fieldAddrZ; exact rfl; exact rfl) | (apply Wl.loadH; exact rfl; exact rfl; (repeat (first | exact List.Mem.head _ | apply List.Mem.tail)); exact rfl) | (apply Wl.neq; exact rfl; exact rfl; exact rfl) | (apply Wl.lss; exact rfl; exact rfl; exact rfl) | (apply Wl.gtr; exact rfl; exact rfl; exact rfl) | (apply Wl.addI; exact rfl; exact rfl; exact rfl; (constructor <;> omega)) | (apply Wl.mulI; exact rfl; exact rfl; exact rfl; (constructor <;> omega)) | (apply Wl.len; exact rfl; exact rfl) | (apply Wl.nil) | (apply St.seq) | (apply St.block) | (apply St.region) | (apply St.condT; exact rfl; (first | rfl | assumption)) | (apply St.ret) | (apply St.skip) | (apply Gt.next) | (apply Gt.thenRet) | (apply Gt.out3; exact rfl; exact rfl; exact rfl; exact rfl; intro w' hp) | (apply Wl.splitP; exact rfl; exact rfl; all_goals (intros; try (exfalso; omega))) | (apply Wl.splitB; exact rfl; exact rfl; all_goals intros) | (apply St.condP; exact rfl; all_goals (intros; try (exfalso; omega))) | (apply St.condB; exact rfl; all_goals intros))
  · exact hbad _ _ hp (by simp; omega) fun ⟨t0, t1, t2, t3, t4, t5, t6, t7, t8, t9, t10⟩ => by
      have := hok.2 ⟨t0, by omega, by omega, by omega⟩
      have := ‹(!ok) = true›
      simp_all
  · exact hbad _ _ hp (by simp; omega) fun ⟨t0, t1, t2, t3, t4, t5, t6, t7, t8, t9, t10⟩ => by omega
  · exact hbad _ _ hp (by simp; omega) fun ⟨t0, t1, t2, t3, t4, t5, t6, t7, t8, t9, t10⟩ => by omega
  · exact hbad _ _ hp (by simp; omega) fun ⟨t0, t1, t2, t3, t4, t5, t6, t7, t8, t9, t10⟩ => by omega
  · exact hbad _ _ hp (by simp; omega) fun ⟨t0, t1, t2, t3, t4, t5, t6, t7, t8, t9, t10⟩ => by omega
  · exact hbad _ _ hp (by simp; omega) fun ⟨t0, t1, t2, t3, t4, t5, t6, t7, t8, t9, t10⟩ => by omega
  · exact hbad _ _ hp (by simp; omega) fun ⟨t0, t1, t2, t3, t4, t5, t6, t7, t8, t9, t10⟩ => by omega
  · exact hbad _ _ hp (by simp; omega) fun ⟨t0, t1, t2, t3, t4, t5, t6, t7, t8, t9, t10⟩ => by omega
  have hok4 : okI f 3 := hok.1 (by simpa using ‹(!ok) = false›)
  have hokT : okTop f := ⟨hok4.1, by omega, hok4.2.1 (by decide), hok4.2.2.1 (by decide), hok4.2.2.2 (by decide), by omega, by omega, by omega, by omega, by omega, by omega⟩
  clear hok hok4 hbad hp24 hp28 hp32 hp36 hp40 hp42 hp44 hp46 hp52 hx2 hbw hp0
  have hAn : num f 28 4 + 32 * num f 44 2 ≤ f.length := by omega
  generalize hA : num f 28 4 = A at *
  generalize hn : num f 44 2 = n at *
  have hn5 : n ≤ 5 := by omega
  refine St.loop (σ := Nat × World × Value) (fun τ => τ.1 ≤ n ∧ (∀ j, j < τ.1 → okH f (A + 32 * j)) ∧ τ.2.1.ownsRow w.heap.size 50 6 τ.2.2 τ.1 (rAll f A τ.1) ∧ Upd (fun k => w.heap.size ≤ k) w τ.2.1)
    (fun τ => [(0, .slice a f.length cap), (12, .int .i64 (num f 24 4)), (13, .int .i64 A), (17, .int .i64 n), (18, τ.2.2), (19, .int .i64 τ.1)])
    (fun τ => Hp τ.2.1 [])
    (fun τ => n - τ.1) (0, w, .slice none 0 0) ⟨Nat.zero_le _, fun j hj => by simp at hj, World.ownsRow_nil _ _ _ _, Upd.refl _ _⟩ (by (repeat (first | exact Sub.nil | apply Sub.cons rfl))) (fun _ h => h.drop (by simp; omega)) ?_
  rintro ⟨i, w0, vl⟩ ⟨hin, hall, hown, hu⟩
  simp only at hin hall hown hu ⊢
  have hus := hu.size
  have hbw (wq : World) (H : List Blk) (hq : Hp w0 H wq) (hH : ∀ x ∈ H, w.heap.size ≤ x.b) : Bs wq (.slice a f.length cap) f := hv.upd (hu.comp hq.upd fun j _ hs => hs.elim id fun y => Classical.byContradiction fun hlt => y (Off.of fun x hx e => by have := hH x hx; omega)) fun j _ hj _ hno => by omega
  have hbad (H : List Blk) (w' : World) (hp : Hp w0 H w') (hH : ∀ x ∈ H, w.heap.size ≤ x.b) (hlt : i < n) (hn' : ¬ okH f (A + 32 * i)) : RHeadsPost f w (.returned (.tuple #[.int .i64 0, .slice none 0 0, .int .i64 8])) w' :=
    ⟨hu.comp hp.upd fun j _ hs => hs.elim id fun y => Classical.byContradiction fun hlt => y (Off.of fun x hx e => by have := hH x hx; omega), .inl ⟨fun hok => hn' (by have := hok.2 i (by rw [hn]; exact hlt); rwa [hA] at this), rfl⟩⟩
  repeat' (first | (apply Wl.move; exact rfl; exact rfl) | (apply Wl.assign; exact rfl; exact rfl) | (apply Wl.lss; exact rfl; exact rfl; exact rfl) | (apply Wl.addI; exact rfl; exact rfl; exact rfl; (constructor <;> omega)) | (apply Wl.mulI; exact rfl; exact rfl; exact rfl; (constructor <;> omega)) | (apply Wl.buildS; exact rfl; (repeat (first | exact Parts.nil | apply Parts.cons rfl)); (repeat (first | apply Fills.nil | (apply Fills.one; exact rfl; exact rfl; (repeat (first | apply LSet.z | apply LSet.s))) | (apply Fills.agg; exact rfl; exact rfl; (repeat (first | apply LPut.s | apply LPut.z | apply LOver.nil | apply LOver.cons)))))) | (apply Wl.boxA; exact rfl; exact rfl; intro c hc ho) | (apply Wl.alloc; exact rfl; intro c hc ho) | (apply Wl.nil) | (apply St.seq) | (apply St.block) | (apply St.region) | (apply St.ret) | (apply St.skip) | (apply St.exit) | (apply Gt.next) | (apply Gt.thenExit) | (apply Gt.inExit) | (apply Gt.out3; exact rfl; exact rfl; exact rfl; exact rfl; intro w' hp) | (apply Wl.splitP; exact rfl; exact rfl; all_goals (intros; try (exfalso; omega))) | (apply Wl.splitB; exact rfl; exact rfl; all_goals intros) | (apply St.condP; exact rfl; all_goals (intros; try (exfalso; omega))) | (apply St.condB; exact rfl; all_goals intros))
  · have hlt : i < n := by omega
    rename_i ca hca hoa
    have hod : c ≠ ca := fun e => ho.1 e.symm
    refine St.loop (σ := Nat × Nat) (fun τ => τ.1 ≤ 8 ∧ RefAt f (A + 32 * i + 4 * τ.1) τ.2)
      (fun τ => [(0, .slice a f.length cap), (12, .int .i64 (num f 24 4)), (13, .int .i64 A), (17, .int .i64 n), (18, vl), (19, .int .i64 i), (20, .pointer (some ⟨ca, 0, none⟩)), (21, .pointer (some ⟨c, 0, none⟩)), (22, .int .i64 τ.1)])
      (fun τ => Hp w0 [⟨c, [.slice a f.length cap, .int .i64 τ.2, .bool (decide (f.length < A + 32 * i + 4 * τ.1))], 98⟩, ⟨ca, eight f (A + 32 * i) τ.1, 111⟩])
      (fun τ => 8 - τ.1) (0, A + 32 * i) ⟨Nat.zero_le _, by simp only; omega, fun _ => rfl⟩ (by (repeat (first | exact Sub.nil | apply Sub.cons rfl))) (fun u hu => ?_) ?_
    · have e1 : decide (f.length < A + 32 * i + 4 * 0) = false := decide_eq_false (by omega)
      simp only [e1]
      exact hu
    rintro ⟨j, p⟩ ⟨hj, hp0⟩
    simp only at hj hp0 ⊢
    by_cases h8 : j = 8
    · subst h8
      generalize hoo : A + 32 * i = o at *
      refine St.cls (C' := Hp w0 [⟨ca, [.int .i64 (num f o 4), .int .i64 (num f (o + 4) 4), .int .i64 (num f (o + 8) 4), .int .i64 (num f (o + 12) 4), .int .i64 (num f (o + 16) 4), .int .i64 (num f (o + 20) 4), .int .i64 (num f (o + 24) 4), .int .i64 (num f (o + 28) 4)], 111⟩]) (fun _ h => Hp.pop h hc) ?_
      have m4 := num4 f (o + 4)
      have m16 := num4 f (o + 16)
      have m20 := num4 f (o + 20)
      have hokh : num f (o + 24) 4 ≤ 7 → (num f o 4 = 1 ∨ num f o 4 = 2) → num f (o + 4) 4 + num f (o + 16) 4 ≤ f.length → num f (o + 16) 4 ≤ num f (o + 20) 4 → okH f o := fun a b c d => ⟨a, b, c, d⟩
      apply St.seq
      apply St.seq
      repeat' (first | (apply Wl.move; exact rfl; exact rfl) | (apply Wl.lss; exact rfl; exact rfl; exact rfl) | (apply Wl.nil) | (apply St.region) | (apply St.condF; exact rfl; (first | rfl | assumption)) | (apply St.exit) | (apply Gt.next) | (apply Gt.thenExit) | (apply Gt.inExit) | (apply Wl.splitP; exact rfl; exact rfl; all_goals (intros; try (exfalso; omega))) | (apply Wl.splitB; exact rfl; exact rfl; all_goals intros) | (apply St.condP; exact rfl; all_goals (intros; try (exfalso; omega))) | (apply St.condB; exact rfl; all_goals intros))
      refine St.cut (σ := Unit) (fun _ => okH f o) (fun _ => [(0, .slice a f.length cap), (12, .int .i64 (num f 24 4)), (13, .int .i64 A), (17, .int .i64 n), (18, vl), (19, .int .i64 i), (20, .pointer (some ⟨ca, 0, none⟩))]) (fun _ => Hp w0 [⟨ca, [.int .i64 (num f o 4), .int .i64 (num f (o + 4) 4), .int .i64 (num f (o + 8) 4), .int .i64 (num f (o + 12) 4), .int .i64 (num f (o + 16) 4), .int .i64 (num f (o + 20) 4), .int .i64 (num f (o + 24) 4), .int .i64 (num f (o + 28) 4)], 111⟩]) ?_ ?_
      · repeat' (first | (apply Wl.move; exact rfl; exact rfl) | (apply Wl.assign; exact rfl; exact rfl) | (apply Wl.on; exact rfl; exact rfl; (first | rfl | assumption)) | (apply Wl.off; exact rfl; exact rfl; exact rfl; (first | rfl | assumption)) | (apply Wl.pickT; exact rfl; exact rfl; (first | rfl | assumption); exact rfl) | (apply Wl.pickF; exact rfl; exact rfl; (first | rfl | assumption); exact rfl) | (apply Wl.loadH; exact rfl; exact rfl; (repeat (first | exact List.Mem.head _ | apply List.Mem.tail)); exact rfl) | (apply Wl.neq; exact rfl; exact rfl; exact rfl) | (apply Wl.gtr; exact rfl; exact rfl; exact rfl) | (apply Wl.addI; exact rfl; exact rfl; exact rfl; (constructor <;> omega)) | (apply Wl.len; exact rfl; exact rfl) | (apply Wl.indexArr; exact rfl; exact rfl; exact rfl; (constructor <;> omega)) | (apply Wl.nil) | (apply St.seq) | (apply St.region) | (apply St.condT; exact rfl; (first | rfl | assumption)) | (apply St.ret) | (apply St.skip) | (apply Gt.next) | (apply Gt.thenRet) | (apply Gt.inRet) | (apply Gt.out3; exact rfl; exact rfl; exact rfl; exact rfl; intro w' hp) | (apply Wl.splitP; exact rfl; exact rfl; all_goals (intros; try (exfalso; omega))) | (apply Wl.splitB; exact rfl; exact rfl; all_goals intros) | (apply St.condP; exact rfl; all_goals (intros; try (exfalso; omega))) | (apply St.condB; exact rfl; all_goals intros))
        all_goals first
          | exact hbad _ _ hp (by simp; omega) hlt fun ⟨t1, t2, t3, t4⟩ => by omega
          | (apply Gt.meet ()
             · exact ⟨by omega, by omega, by omega, by omega⟩
             · (repeat (first | exact Sub.nil | apply Sub.cons rfl))
             · exact fun _ h => h)
      intro _ hok
      have hF := hok.1
      apply St.seq
      repeat' (first | (apply Wl.assign; exact rfl; exact rfl) | (apply Wl.nil) | (apply St.region) | (apply Gt.next) | (apply Wl.splitP; exact rfl; exact rfl; all_goals (intros; try (exfalso; omega))) | (apply Wl.splitB; exact rfl; exact rfl; all_goals intros) | (apply St.condP; exact rfl; all_goals (intros; try (exfalso; omega))) | (apply St.condB; exact rfl; all_goals intros))
      refine St.cut (σ := Int) (fun r => r = (((num f (o + 24) 4 % 2 * 4) : Nat) : Int)) (fun r => [(0, .slice a f.length cap), (12, .int .i64 (num f 24 4)), (13, .int .i64 A), (17, .int .i64 n), (18, vl), (19, .int .i64 i), (20, .pointer (some ⟨ca, 0, none⟩)), (23, .int .i64 r)]) (fun _ => Hp w0 [⟨ca, [.int .i64 (num f o 4), .int .i64 (num f (o + 4) 4), .int .i64 (num f (o + 8) 4), .int .i64 (num f (o + 12) 4), .int .i64 (num f (o + 16) 4), .int .i64 (num f (o + 20) 4), .int .i64 (num f (o + 24) 4), .int .i64 (num f (o + 28) 4)], 111⟩]) ?_ ?_
      · repeat' (first | (apply Wl.move; exact rfl; exact rfl) | (apply Wl.assign; exact rfl; exact rfl) | (apply Wl.loadH; exact rfl; exact rfl; (repeat (first | exact List.Mem.head _ | apply List.Mem.tail)); exact rfl) | (apply Wl.eql; exact rfl; exact rfl; exact rfl) | (apply Wl.addI; exact rfl; exact rfl; exact rfl; (constructor <;> omega)) | (apply Wl.rem; exact rfl; exact rfl; exact rfl; (first | decide | omega)) | (apply Wl.indexArr; exact rfl; exact rfl; exact rfl; (constructor <;> omega)) | (apply Wl.nil) | (apply St.seq) | (apply St.region) | (apply St.skip) | (apply Gt.next) | (apply Wl.splitP; exact rfl; exact rfl; all_goals (intros; try (exfalso; omega))) | (apply Wl.splitB; exact rfl; exact rfl; all_goals intros) | (apply St.condP; exact rfl; all_goals (intros; try (exfalso; omega))) | (apply St.condB; exact rfl; all_goals intros))
        · have h := ‹_ = (1 : Int)›
          rw [remF _ hok.1] at h
          apply Gt.meet _
          rotate_left
          · (repeat (first | exact Sub.nil | apply Sub.cons rfl))
          · exact fun _ h => h
          · omega
        · have h := ‹¬ _ = (1 : Int)›
          rw [remF _ hok.1] at h
          apply Gt.meet _
          rotate_left
          · (repeat (first | exact Sub.nil | apply Sub.cons rfl))
          · exact fun _ h => h
          · omega
      intro r hr
      have hF := hok.1

      refine St.cut (σ := Int) (fun r => r = (((num f (o + 24) 4 % 2 * 4 + num f (o + 24) 4 / 2 % 2 * 2) : Nat) : Int)) (fun r => [(0, .slice a f.length cap), (12, .int .i64 (num f 24 4)), (13, .int .i64 A), (17, .int .i64 n), (18, vl), (19, .int .i64 i), (20, .pointer (some ⟨ca, 0, none⟩)), (23, .int .i64 r)]) (fun _ => Hp w0 [⟨ca, [.int .i64 (num f o 4), .int .i64 (num f (o + 4) 4), .int .i64 (num f (o + 8) 4), .int .i64 (num f (o + 12) 4), .int .i64 (num f (o + 16) 4), .int .i64 (num f (o + 20) 4), .int .i64 (num f (o + 24) 4), .int .i64 (num f (o + 28) 4)], 111⟩]) ?_ ?_
      · repeat' (first | (apply Wl.move; exact rfl; exact rfl) | (apply Wl.assign; exact rfl; exact rfl) | (apply Wl.loadH; exact rfl; exact rfl; (repeat (first | exact List.Mem.head _ | apply List.Mem.tail)); exact rfl) | (apply Wl.eql; exact rfl; exact rfl; exact rfl) | (apply Wl.addI; exact rfl; exact rfl; exact rfl; (constructor <;> omega)) | (apply Wl.quo; exact rfl; exact rfl; exact rfl; (first | decide | omega)) | (apply Wl.rem; exact rfl; exact rfl; exact rfl; (first | decide | omega)) | (apply Wl.indexArr; exact rfl; exact rfl; exact rfl; (constructor <;> omega)) | (apply Wl.nil) | (apply St.seq) | (apply St.region) | (apply St.skip) | (apply Gt.next) | (apply Wl.splitP; exact rfl; exact rfl; all_goals (intros; try (exfalso; omega))) | (apply Wl.splitB; exact rfl; exact rfl; all_goals intros) | (apply St.condP; exact rfl; all_goals (intros; try (exfalso; omega))) | (apply St.condB; exact rfl; all_goals intros))
        · have h := ‹_ = (1 : Int)›
          rw [qrF _ hok.1] at h
          apply Gt.meet _
          rotate_left
          · (repeat (first | exact Sub.nil | apply Sub.cons rfl))
          · exact fun _ h => h
          · omega
        · have h := ‹¬ _ = (1 : Int)›
          rw [qrF _ hok.1] at h
          apply Gt.meet _
          rotate_left
          · (repeat (first | exact Sub.nil | apply Sub.cons rfl))
          · exact fun _ h => h
          · omega
      intro r2 hr2
      have hF := hok.1

      refine St.cut (σ := Int) (fun r => r = (((rx (num f (o + 24) 4)) : Nat) : Int)) (fun r => [(0, .slice a f.length cap), (12, .int .i64 (num f 24 4)), (13, .int .i64 A), (17, .int .i64 n), (18, vl), (19, .int .i64 i), (20, .pointer (some ⟨ca, 0, none⟩)), (23, .int .i64 r)]) (fun _ => Hp w0 [⟨ca, [.int .i64 (num f o 4), .int .i64 (num f (o + 4) 4), .int .i64 (num f (o + 8) 4), .int .i64 (num f (o + 12) 4), .int .i64 (num f (o + 16) 4), .int .i64 (num f (o + 20) 4), .int .i64 (num f (o + 24) 4), .int .i64 (num f (o + 28) 4)], 111⟩]) ?_ ?_
      · repeat' (first | (apply Wl.move; exact rfl; exact rfl) | (apply Wl.assign; exact rfl; exact rfl) | (apply Wl.loadH; exact rfl; exact rfl; (repeat (first | exact List.Mem.head _ | apply List.Mem.tail)); exact rfl) | (apply Wl.eql; exact rfl; exact rfl; exact rfl) | (apply Wl.addI; exact rfl; exact rfl; exact rfl; (constructor <;> omega)) | (apply Wl.quo; exact rfl; exact rfl; exact rfl; (first | decide | omega)) | (apply Wl.indexArr; exact rfl; exact rfl; exact rfl; (constructor <;> omega)) | (apply Wl.nil) | (apply St.seq) | (apply St.region) | (apply St.skip) | (apply Gt.next) | (apply Wl.splitP; exact rfl; exact rfl; all_goals (intros; try (exfalso; omega))) | (apply Wl.splitB; exact rfl; exact rfl; all_goals intros) | (apply St.condP; exact rfl; all_goals (intros; try (exfalso; omega))) | (apply St.condB; exact rfl; all_goals intros))
        · have h := ‹_ = (1 : Int)›
          rw [quoF _ hok.1] at h
          apply Gt.meet _
          rotate_left
          · (repeat (first | exact Sub.nil | apply Sub.cons rfl))
          · exact fun _ h => h
          · unfold rx
            omega
        · have h := ‹¬ _ = (1 : Int)›
          rw [quoF _ hok.1] at h
          apply Gt.meet _
          rotate_left
          · (repeat (first | exact Sub.nil | apply Sub.cons rfl))
          · exact fun _ h => h
          · unfold rx
            omega
      intro r3 hr3
      have hF := hok.1

      subst hr3
      repeat' (first | (apply Wl.move; exact rfl; exact rfl) | (apply Wl.loadH; exact rfl; exact rfl; (repeat (first | exact List.Mem.head _ | apply List.Mem.tail)); exact rfl) | (apply Wl.buildS; exact rfl; (repeat (first | exact Parts.nil | apply Parts.cons rfl)); (repeat (first | apply Fills.nil | (apply Fills.one; exact rfl; exact rfl; (repeat (first | apply LSet.z | apply LSet.s))) | (apply Fills.agg; exact rfl; exact rfl; (repeat (first | apply LPut.s | apply LPut.z | apply LOver.nil | apply LOver.cons)))))) | (apply Wl.lit; exact rfl; (repeat (first | exact Parts.nil | apply Parts.cons rfl)); exact rfl; exact rfl; (repeat (first | apply CatP.nil | (apply CatP.one; exact rfl; exact rfl) | (apply CatP.agg; exact rfl) | apply LApp.nil | apply LApp.cons)); intro c hc ho) | (apply Wl.indexArr; exact rfl; exact rfl; exact rfl; (constructor <;> omega)) | (apply St.region) | (apply Wl.splitP; exact rfl; exact rfl; all_goals (intros; try (exfalso; omega))) | (apply Wl.splitB; exact rfl; exact rfl; all_goals intros) | (apply St.condP; exact rfl; all_goals (intros; try (exfalso; omega))) | (apply St.condB; exact rfl; all_goals intros))
      have hcx : w.heap.size ≤ c := by omega
      apply Wl.appendT
      · exact rfl
      · exact rfl
      · exact rfl
      · exact hc
      · exact rfl
      · exact hown
      · exact fun k hk => ⟨fun e => by have := (hown.lt k hk).2; simp only at e; omega, trivial⟩
      · exact rfl
      · exact rfl
      · decide
      · unfold maxLen; omega
      · omega
      · exact hus
      intro v' w4 ho2 u2 _ hoff2
      apply Wl.reb (H' := [])
      intro w3 h3
      refine ⟨trivial, trivial, ?_⟩
      repeat' (first | (apply Wl.move; exact rfl; exact rfl) | (apply Wl.assign; exact rfl; exact rfl) | (apply Wl.addI; exact rfl; exact rfl; exact rfl; (constructor <;> omega)) | (apply Wl.nil) | (apply St.region) | (apply Gt.next) | (apply Gt.inNormal) | (apply Wl.splitP; exact rfl; exact rfl; all_goals (intros; try (exfalso; omega))) | (apply Wl.splitB; exact rfl; exact rfl; all_goals intros) | (apply St.condP; exact rfl; all_goals (intros; try (exfalso; omega))) | (apply St.condB; exact rfl; all_goals intros))
      apply Gt.round (i + 1, w3, v')
      rotate_left
      · simp only; omega
      · (repeat (first | exact Sub.nil | apply Sub.cons rfl))
      · exact fun _ h => h
      refine ⟨hlt, fun j hj => ?_, ?_, ?_⟩
      · rcases Nat.lt_succ_iff_lt_or_eq.1 hj with hj | rfl
        · exact hall j hj
        · rw [hoo]; exact hok
      · rw [rAll_snoc, hoo]
        exact ownsRow_upd ho2 h3.upd fun k hk y => y (hoff2 k hk).1
      · exact (hu.comp u2 (T := fun k => w.heap.size ≤ k) fun j _ hs => hs.elim id fun hs => hs.elim (fun hs => (hown.lt j hs).1) fun y => Classical.byContradiction fun hlt => y ⟨fun e => by simp only at e; omega, trivial⟩).comp h3.upd fun j _ hs => hs.elim id fun y => Classical.byContradiction fun hlt => y ⟨fun e => by simp only at e; omega, trivial⟩
    have hj8 : j < 8 := by omega
    repeat' (first | (apply Wl.move; exact rfl; exact rfl) | (apply Wl.lss; exact rfl; exact rfl; exact rfl) | (apply Wl.nil) | (apply St.seq) | (apply St.block) | (apply St.region) | (apply St.skip) | (apply Gt.next) | (apply Wl.splitP; exact rfl; exact rfl; all_goals (intros; try (exfalso; omega))) | (apply Wl.splitB; exact rfl; exact rfl; all_goals intros) | (apply St.condP; exact rfl; all_goals (intros; try (exfalso; omega))) | (apply St.condB; exact rfl; all_goals intros))
    apply Wl.callC
    exact rfl
    (repeat (first | exact Evs.nil | apply Evs.cons rfl))
    intro wq hq
    refine (rnum_pos c (.slice a f.length cap) f (A + 32 * i + 4 * j) p 4 (by decide) wq (hq.own.at (.head _)) (hbw _ _ hq (by simp; omega)) hp0).mono ?_
    rintro e wr ⟨p2, rfl, hp, hp2⟩
    refine ⟨_, _, rfl, hq.callSet (by (repeat (first | apply HSet.here | apply HSet.there))) hp, ?_⟩
    clear hp hq wq wr
    repeat' (first | (apply Wl.move; exact rfl; exact rfl) | (apply Wl.assign; exact rfl; exact rfl) | (apply Wl.addI; exact rfl; exact rfl; exact rfl; (constructor <;> omega)) | (apply Wl.store; exact rfl; exact rfl; exact rfl; (repeat (first | apply HSet.here | apply HSet.there)); (repeat (first | apply LSet.z | apply LSet.s))) | (apply Wl.indexArr; exact rfl; exact rfl; exact rfl; (constructor <;> omega)) | (apply Wl.nil) | (apply St.region) | (apply Gt.next) | (apply Gt.inNormal) | (apply Wl.splitP; exact rfl; exact rfl; all_goals (intros; try (exfalso; omega))) | (apply Wl.splitB; exact rfl; exact rfl; all_goals intros) | (apply St.condP; exact rfl; all_goals (intros; try (exfalso; omega))) | (apply St.condB; exact rfl; all_goals intros))
    · have e : 0 + (j : Int).toNat * 1 = j := by omega
      rw [e]
      exact eight_set f (A + 32 * i) j hj8
    apply Gt.round (j + 1, p2)
    rotate_left
    · simp only; omega
    · (repeat (first | exact Sub.nil | apply Sub.cons rfl))
    · exact fun _ h => h
    · exact ⟨by simp only; omega, hp2⟩
  · have : i = n := by omega
    subst this
    refine ⟨hu.comp hp.upd fun j _ hs => hs.elim id fun y => (y trivial).elim, .inr ⟨⟨hokT, fun j hj => ?_⟩, vl, rfl, ?_⟩⟩
    · rw [hA]; exact hall j (by rwa [hn] at hj)
    · rw [hn, hA]
      exact ownsRow_upd hown hp.upd fun k hk y => y trivial
end Go.Proofs.Ytcjikjadajmefaa
