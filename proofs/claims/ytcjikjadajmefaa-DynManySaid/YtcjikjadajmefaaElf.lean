/-
  The heads of a file, read by the program and by the reference, told by one law. Conditions: the file has at most 100000 bytes.
-/
import Derived.Test.YtcjikjadajmefaaPos
namespace Go.Proofs.Ytcjikjadajmefaa
open Go.RowKit Go.Pt

/-! ### the plain law -/
def elfIdent : List UInt8 := [127, 69, 76, 70, 1, 1, 1, 0, 0, 0, 0, 0, 0, 0, 0, 0]
/-- rights out of a file's bits -/
def rx (x : Nat) : Nat := x / 4 % 2 + x / 2 % 2 * 2 + x % 2 * 4
def okTop (f : List UInt8) : Prop :=
  part f 0 16 = elfIdent ∧ 52 ≤ f.length ∧ num f 16 2 = 3 ∧ num f 18 2 = 243 ∧ num f 20 4 = 1 ∧ num f 36 4 = 0 ∧ num f 40 2 = 52 ∧ num f 42 2 = 32 ∧ 1 ≤ num f 44 2 ∧ num f 44 2 ≤ 5 ∧ num f 28 4 + 32 * num f 44 2 ≤ f.length
def okH (f : List UInt8) (o : Nat) : Prop :=
  num f (o + 24) 4 ≤ 7 ∧ (num f o 4 = 1 ∨ num f o 4 = 2) ∧ num f (o + 4) 4 + num f (o + 16) 4 ≤ f.length ∧ num f (o + 16) 4 ≤ num f (o + 20) 4
def okHeads (f : List UInt8) : Prop := okTop f ∧ ∀ i, i < num f 44 2 → okH f (num f 28 4 + 32 * i)
/-- a header's cells in the program, in the reference -/
def hCells (f : List UInt8) (o : Nat) : List Value :=
  [.int .i64 (num f o 4), .int .u32 (num f (o + 4) 4), .int .u32 (num f (o + 8) 4), .int .u32 (num f (o + 16) 4), .int .u32 (num f (o + 20) 4), .int .i64 (rx (num f (o + 24) 4))]
def hAll (f : List UInt8) (a n : Nat) : List Value := (List.range n).flatMap fun i => hCells f (a + 32 * i)
theorem hAll_snoc (f : List UInt8) (a n : Nat) : hAll f a (n + 1) = hAll f a n ++ hCells f (a + 32 * n) := by
  simp [hAll, List.range_succ]

theorem u32_in (c : Nat) (v0 v : Value) (f : List UInt8) (A k q : Nat) (hA : A ≤ f.length) (hq : A + k = q) (w : World) (h : w.heap[c]? = some (.cells #[v, .bool (decide ((f.drop A).length < k))] 105 (0,0))) (hb : Bs w v0 (f.drop A)) (hv : Left v0 (f.drop A) v k) :
    Calls Try.prog 22 #[.pointer (some ⟨c, 0, none⟩)] w fun e w' => ∃ v', e = .returned (.int .u32 (num f q 4)) ∧ Hp w [⟨c, [v', .bool (decide ((f.drop A).length < k + 4))], 105⟩] w' ∧ Left v0 (f.drop A) v' (k + 4) := by
  have := u32_pos c v0 v (f.drop A) k w h hb hv
  rw [num_drop f A k 4 hA, hq] at this
  exact this

theorem rx_bits (x : Nat) (h : x ≤ 7) : IntKind.i64.wrap (bits .or .u32 (bits .or .u32 (bits .and .u32 ((x : Int).fdiv (2 ^ min (Int.toNat 2) IntKind.u32.bits)) 1) (bits .and .u32 (x : Int) 2)) (IntKind.u32.wrap (bits .and .u32 (x : Int) 1 * 2 ^ min (Int.toNat 2) IntKind.u32.bits))) = (rx x : Int) := by
  have : x = 0 ∨ x = 1 ∨ x = 2 ∨ x = 3 ∨ x = 4 ∨ x = 5 ∨ x = 6 ∨ x = 7 := by omega
  rcases this with rfl | rfl | rfl | rfl | rfl | rfl | rfl | rfl <;> rfl

def HeadsPost (f : List UInt8) (w : World) (e : Ending) (w' : World) : Prop :=
  Upd (fun k => w.heap.size ≤ k) w w' ∧
  ((¬ okHeads f ∧ e = .returned (.tuple #[.int .u32 0, .slice none 0 0, .int .i64 8])) ∨
   (okHeads f ∧ ∃ v, e = .returned (.tuple #[.int .u32 (num f 24 4), v, .int .i64 0]) ∧ w'.ownsRow w.heap.size 72 6 v (num f 44 2) (hAll f (num f 28 4) (num f 44 2))))

set_option maxHeartbeats 1000000 in
theorem heads_any (v : Value) (f : List UInt8) (w : World) (hv : Bs w v f) (h3 : f.length ≤ 100000) :
    Calls Try.prog 30 #[v] w (HeadsPost f w) := by
  obtain ⟨a, cap, rfl, hlc, hm⟩ := hv.shape
  unfold maxLen at hm
  refine enter (args := [_]) (Γ := [(0, _)]) Try.func30 Try.ntmps30 rfl (of_decide_eq_true rfl) (.cons rfl .nil) ?_
  repeat' (first | (apply Wl.move; exact rfl; exact rfl) | (apply Wl.assign; exact rfl; exact rfl) | (apply Wl.nil) | (apply St.seq) | (apply St.region) | (apply Gt.next) | (apply Wl.splitP; exact rfl; exact rfl; all_goals (intros; try (exfalso; omega))) | (apply Wl.splitB; exact rfl; exact rfl; all_goals intros) | (apply St.condP; exact rfl; all_goals (intros; try (exfalso; omega))) | (apply St.condB; exact rfl; all_goals intros))
  apply Wl.callC
  exact rfl
  (repeat (first | exact Evs.nil | apply Evs.cons rfl))
  intro w1 h1
  refine (at_pos _ f w1 (hv.upd h1.upd fun _ _ _ _ y => y trivial)).mono ?_
  rintro e w2 ⟨c, rfl, hc, h2⟩
  refine ⟨_, _, rfl, h1.callNew h2 hc, ?_⟩
  have hcw : w.heap.size ≤ c := by have := h1.upd.size; omega
  clear h1 h2 hc
  have hbw (wq : World) (cs : List Value) (hq : Hp w [⟨c, cs, 105⟩] wq) : Bs wq (.slice a f.length cap) f := hv.upd hq.upd fun j _ hj _ hno => hno (off1 (by omega))
  have hv0 := left0 (.slice a f.length cap) f
  repeat' (first | (apply Wl.move; exact rfl; exact rfl) | (apply Wl.assign; exact rfl; exact rfl) | (apply Wl.nil) | (apply St.seq) | (apply St.region) | (apply Gt.next) | (apply Wl.splitP; exact rfl; exact rfl; all_goals (intros; try (exfalso; omega))) | (apply Wl.splitB; exact rfl; exact rfl; all_goals intros) | (apply St.condP; exact rfl; all_goals (intros; try (exfalso; omega))) | (apply St.condB; exact rfl; all_goals intros))
  apply Wl.callC
  exact rfl
  (repeat (first | exact Evs.nil | apply Evs.cons rfl))
  intro wq hq
  refine (take_pos c (.slice a f.length cap) _ f 0 16 wq (hq.own.at (.head _)) (hbw _ _ hq) hv0).mono ?_
  rintro e wr ⟨x1, v1, rfl, hp, hv1, hx1⟩
  refine ⟨_, _, rfl, hq.callSet (by (repeat (first | apply HSet.here | apply HSet.there))) hp, ?_⟩
  clear hp hq wq wr
  apply Wl.convBS
  · exact rfl
  · exact rfl
  · exact fun u hu => hx1 u (hbw u _ hu)
  apply Wl.neqSB (q := elfIdent)
  · exact rfl
  · exact rfl
  · exact rfl
  repeat' (first | (apply Wl.move; exact rfl; exact rfl) | (apply Wl.assign; exact rfl; exact rfl) | (apply Wl.nil) | (apply St.seq) | (apply St.region) | (apply St.ret) | (apply St.skip) | (apply Gt.next) | (apply Gt.thenRet) | (apply Gt.out3; exact rfl; exact rfl; exact rfl; exact rfl; intro w' hp) | (apply Wl.splitP; exact rfl; exact rfl; all_goals (intros; try (exfalso; omega))) | (apply Wl.splitB; exact rfl; exact rfl; all_goals intros) | (apply St.condP; exact rfl; all_goals (intros; try (exfalso; omega))) | (apply St.condB; exact rfl; all_goals intros))
  · refine ⟨(hp.drop (by simp; omega)).upd.mono fun _ _ y => (y trivial).elim, .inl ⟨fun hok => ‹part f 0 16 ≠ elfIdent› hok.1.1, rfl⟩⟩
  have hid : part f 0 16 = elfIdent := by
    have := ‹¬ part f 0 16 ≠ elfIdent›
    exact Classical.not_not.1 this
  apply Wl.callC
  exact rfl
  (repeat (first | exact Evs.nil | apply Evs.cons rfl))
  intro wq hq
  refine (u16_pos c (.slice a f.length cap) _ f 16 wq (hq.own.at (.head _)) (hbw _ _ hq) hv1).mono ?_
  rintro e wr ⟨v2, rfl, hp, hv2⟩
  refine ⟨_, _, rfl, hq.callSet (by (repeat (first | apply HSet.here | apply HSet.there))) hp, ?_⟩
  clear hp hq wq wr
  repeat' (first | (apply Wl.move; exact rfl; exact rfl) | (apply Wl.splitP; exact rfl; exact rfl; all_goals (intros; try (exfalso; omega))) | (apply Wl.splitB; exact rfl; exact rfl; all_goals intros) | (apply St.condP; exact rfl; all_goals (intros; try (exfalso; omega))) | (apply St.condB; exact rfl; all_goals intros))
  apply Wl.callC
  exact rfl
  (repeat (first | exact Evs.nil | apply Evs.cons rfl))
  intro wq hq
  refine (u16_pos c (.slice a f.length cap) _ f 18 wq (hq.own.at (.head _)) (hbw _ _ hq) hv2).mono ?_
  rintro e wr ⟨v3, rfl, hp, hv3⟩
  refine ⟨_, _, rfl, hq.callSet (by (repeat (first | apply HSet.here | apply HSet.there))) hp, ?_⟩
  clear hp hq wq wr
  repeat' (first | (apply Wl.move; exact rfl; exact rfl) | (apply Wl.splitP; exact rfl; exact rfl; all_goals (intros; try (exfalso; omega))) | (apply Wl.splitB; exact rfl; exact rfl; all_goals intros) | (apply St.condP; exact rfl; all_goals (intros; try (exfalso; omega))) | (apply St.condB; exact rfl; all_goals intros))
  apply Wl.callC
  exact rfl
  (repeat (first | exact Evs.nil | apply Evs.cons rfl))
  intro wq hq
  refine (u32_pos c (.slice a f.length cap) _ f 20 wq (hq.own.at (.head _)) (hbw _ _ hq) hv3).mono ?_
  rintro e wr ⟨v4, rfl, hp, hv4⟩
  refine ⟨_, _, rfl, hq.callSet (by (repeat (first | apply HSet.here | apply HSet.there))) hp, ?_⟩
  clear hp hq wq wr
  repeat' (first | (apply Wl.move; exact rfl; exact rfl) | (apply Wl.assign; exact rfl; exact rfl) | (apply Wl.nil) | (apply St.seq) | (apply St.region) | (apply Gt.next) | (apply Wl.splitP; exact rfl; exact rfl; all_goals (intros; try (exfalso; omega))) | (apply Wl.splitB; exact rfl; exact rfl; all_goals intros) | (apply St.condP; exact rfl; all_goals (intros; try (exfalso; omega))) | (apply St.condB; exact rfl; all_goals intros))
  apply Wl.callC
  exact rfl
  (repeat (first | exact Evs.nil | apply Evs.cons rfl))
  intro wq hq
  refine (u32_pos c (.slice a f.length cap) _ f 24 wq (hq.own.at (.head _)) (hbw _ _ hq) hv4).mono ?_
  rintro e wr ⟨v5, rfl, hp, hv5⟩
  refine ⟨_, _, rfl, hq.callSet (by (repeat (first | apply HSet.here | apply HSet.there))) hp, ?_⟩
  clear hp hq wq wr
  repeat' (first | (apply Wl.move; exact rfl; exact rfl) | (apply Wl.splitP; exact rfl; exact rfl; all_goals (intros; try (exfalso; omega))) | (apply Wl.splitB; exact rfl; exact rfl; all_goals intros) | (apply St.condP; exact rfl; all_goals (intros; try (exfalso; omega))) | (apply St.condB; exact rfl; all_goals intros))
  apply Wl.callC
  exact rfl
  (repeat (first | exact Evs.nil | apply Evs.cons rfl))
  intro wq hq
  refine (u32_pos c (.slice a f.length cap) _ f 28 wq (hq.own.at (.head _)) (hbw _ _ hq) hv5).mono ?_
  rintro e wr ⟨v6, rfl, hp, hv6⟩
  refine ⟨_, _, rfl, hq.callSet (by (repeat (first | apply HSet.here | apply HSet.there))) hp, ?_⟩
  clear hp hq wq wr
  repeat' (first | (apply Wl.move; exact rfl; exact rfl) | (apply Wl.assign; exact rfl; exact rfl) | (apply Wl.nil) | (apply St.seq) | (apply St.region) | (apply Gt.next) | (apply Wl.splitP; exact rfl; exact rfl; all_goals (intros; try (exfalso; omega))) | (apply Wl.splitB; exact rfl; exact rfl; all_goals intros) | (apply St.condP; exact rfl; all_goals (intros; try (exfalso; omega))) | (apply St.condB; exact rfl; all_goals intros))
  apply Wl.callC
  exact rfl
  (repeat (first | exact Evs.nil | apply Evs.cons rfl))
  intro wq hq
  refine (u32_pos c (.slice a f.length cap) _ f 32 wq (hq.own.at (.head _)) (hbw _ _ hq) hv6).mono ?_
  rintro e wr ⟨v7, rfl, hp, hv7⟩
  refine ⟨_, _, rfl, hq.callSet (by (repeat (first | apply HSet.here | apply HSet.there))) hp, ?_⟩
  clear hp hq wq wr
  repeat' (first | (apply Wl.move; exact rfl; exact rfl) | (apply Wl.nil) | (apply St.seq) | (apply St.region) | (apply Gt.next) | (apply Wl.splitP; exact rfl; exact rfl; all_goals (intros; try (exfalso; omega))) | (apply Wl.splitB; exact rfl; exact rfl; all_goals intros) | (apply St.condP; exact rfl; all_goals (intros; try (exfalso; omega))) | (apply St.condB; exact rfl; all_goals intros))
  apply Wl.callC
  exact rfl
  (repeat (first | exact Evs.nil | apply Evs.cons rfl))
  intro wq hq
  refine (u32_pos c (.slice a f.length cap) _ f 36 wq (hq.own.at (.head _)) (hbw _ _ hq) hv7).mono ?_
  rintro e wr ⟨v8, rfl, hp, hv8⟩
  refine ⟨_, _, rfl, hq.callSet (by (repeat (first | apply HSet.here | apply HSet.there))) hp, ?_⟩
  clear hp hq wq wr
  repeat' (first | (apply Wl.move; exact rfl; exact rfl) | (apply Wl.splitP; exact rfl; exact rfl; all_goals (intros; try (exfalso; omega))) | (apply Wl.splitB; exact rfl; exact rfl; all_goals intros) | (apply St.condP; exact rfl; all_goals (intros; try (exfalso; omega))) | (apply St.condB; exact rfl; all_goals intros))
  apply Wl.callC
  exact rfl
  (repeat (first | exact Evs.nil | apply Evs.cons rfl))
  intro wq hq
  refine (u16_pos c (.slice a f.length cap) _ f 40 wq (hq.own.at (.head _)) (hbw _ _ hq) hv8).mono ?_
  rintro e wr ⟨v9, rfl, hp, hv9⟩
  refine ⟨_, _, rfl, hq.callSet (by (repeat (first | apply HSet.here | apply HSet.there))) hp, ?_⟩
  clear hp hq wq wr
  repeat' (first | (apply Wl.move; exact rfl; exact rfl) | (apply Wl.splitP; exact rfl; exact rfl; all_goals (intros; try (exfalso; omega))) | (apply Wl.splitB; exact rfl; exact rfl; all_goals intros) | (apply St.condP; exact rfl; all_goals (intros; try (exfalso; omega))) | (apply St.condB; exact rfl; all_goals intros))
  apply Wl.callC
  exact rfl
  (repeat (first | exact Evs.nil | apply Evs.cons rfl))
  intro wq hq
  refine (u16_pos c (.slice a f.length cap) _ f 42 wq (hq.own.at (.head _)) (hbw _ _ hq) hv9).mono ?_
  rintro e wr ⟨v10, rfl, hp, hv10⟩
  refine ⟨_, _, rfl, hq.callSet (by (repeat (first | apply HSet.here | apply HSet.there))) hp, ?_⟩
  clear hp hq wq wr
  repeat' (first | (apply Wl.move; exact rfl; exact rfl) | (apply Wl.splitP; exact rfl; exact rfl; all_goals (intros; try (exfalso; omega))) | (apply Wl.splitB; exact rfl; exact rfl; all_goals intros) | (apply St.condP; exact rfl; all_goals (intros; try (exfalso; omega))) | (apply St.condB; exact rfl; all_goals intros))
  apply Wl.callC
  exact rfl
  (repeat (first | exact Evs.nil | apply Evs.cons rfl))
  intro wq hq
  refine (u16_pos c (.slice a f.length cap) _ f 44 wq (hq.own.at (.head _)) (hbw _ _ hq) hv10).mono ?_
  rintro e wr ⟨v11, rfl, hp, hv11⟩
  refine ⟨_, _, rfl, hq.callSet (by (repeat (first | apply HSet.here | apply HSet.there))) hp, ?_⟩
  clear hp hq wq wr
  repeat' (first | (apply Wl.move; exact rfl; exact rfl) | (apply Wl.assign; exact rfl; exact rfl) | (apply Wl.nil) | (apply St.seq) | (apply St.region) | (apply Gt.next) | (apply Wl.splitP; exact rfl; exact rfl; all_goals (intros; try (exfalso; omega))) | (apply Wl.splitB; exact rfl; exact rfl; all_goals intros) | (apply St.condP; exact rfl; all_goals (intros; try (exfalso; omega))) | (apply St.condB; exact rfl; all_goals intros))
  apply Wl.callC
  exact rfl
  (repeat (first | exact Evs.nil | apply Evs.cons rfl))
  intro wq hq
  refine (take_pos c (.slice a f.length cap) _ f 46 6 wq (hq.own.at (.head _)) (hbw _ _ hq) hv11).mono ?_
  rintro e wr ⟨x2, v12, rfl, hp, hv12, hx2⟩
  refine ⟨_, _, rfl, hq.callSet (by (repeat (first | apply HSet.here | apply HSet.there))) hp, ?_⟩
  clear hp hq wq wr
  repeat' (first | (apply Wl.move; exact rfl; exact rfl) | (apply Wl.nil) | (apply St.seq) | (apply St.region) | (apply Gt.next) | (apply Wl.splitP; exact rfl; exact rfl; all_goals (intros; try (exfalso; omega))) | (apply Wl.splitB; exact rfl; exact rfl; all_goals intros) | (apply St.condP; exact rfl; all_goals (intros; try (exfalso; omega))) | (apply St.condB; exact rfl; all_goals intros))
  apply Wl.callQ
  exact rfl
  (repeat (first | exact Evs.nil | apply Evs.cons rfl))
  · intro wq hq
    refine (bad_any c v12 _ wq (hq.own.at (.head _))).mono ?_
    rintro e wr ⟨rfl, hr⟩
    exact ⟨rfl, hq.keep hr⟩
  have n28 := num4 f 28
  have n44 := num2 f 44
  have hbad (cs : List Value) (w' : World) (hp : Hp w [⟨c, cs, 105⟩] w') (hn : ¬ okTop f) : HeadsPost f w (.returned (.tuple #[.int .u32 0, .slice none 0 0, .int .i64 8])) w' :=
    ⟨(hp.drop (by simp; omega)).upd.mono fun _ _ y => (y trivial).elim, .inl ⟨fun hok => hn hok.1, rfl⟩⟩
  repeat' (first | (apply Wl.move; exact rfl; exact rfl) | (apply Wl.assign; exact rfl; exact rfl) | (apply Wl.on; exact rfl; exact rfl; (first | rfl | assumption)) | (apply Wl.off; exact rfl; exact rfl; exact rfl; (first | rfl | assumption)) | (apply Wl.pickT; exact rfl; exact rfl; (first | rfl | assumption); exact rfl) | (apply Wl.pickF; exact rfl; exact rfl; (first | rfl | assumption); exact rfl) | (apply Wl.neq; exact rfl; exact rfl; exact rfl) | (apply Wl.lss; exact rfl; exact rfl; exact rfl) | (apply Wl.gtr; exact rfl; exact rfl; exact rfl) | (apply Wl.mulI; exact rfl; exact rfl; exact rfl; (constructor <;> omega)) | (apply Wl.convU32; exact rfl; exact rfl; (constructor <;> omega)) | (apply Wl.len; exact rfl; exact rfl) | (apply Wl.nil) | (apply St.seq) | (apply St.region) | (apply St.condT; exact rfl; (first | rfl | assumption)) | (apply St.ret) | (apply Gt.next) | (apply Gt.thenRet) | (apply Gt.out3; exact rfl; exact rfl; exact rfl; exact rfl; intro w' hp) | (apply Wl.splitP; exact rfl; exact rfl; all_goals (intros; try (exfalso; omega))) | (apply Wl.splitB; exact rfl; exact rfl; all_goals intros) | (apply St.condP; exact rfl; all_goals (intros; try (exfalso; omega))) | (apply St.condB; exact rfl; all_goals intros))
  · exact hbad _ _ hp fun ⟨_, t1, t2, t3, t4, t5, t6, t7, t8, t9, t10⟩ => by omega
  · exact hbad _ _ hp fun ⟨_, t1, t2, t3, t4, t5, t6, t7, t8, t9, t10⟩ => by omega
  · exact hbad _ _ hp fun ⟨_, t1, t2, t3, t4, t5, t6, t7, t8, t9, t10⟩ => by omega
  · exact hbad _ _ hp fun ⟨_, t1, t2, t3, t4, t5, t6, t7, t8, t9, t10⟩ => by omega
  · exact hbad _ _ hp fun ⟨_, t1, t2, t3, t4, t5, t6, t7, t8, t9, t10⟩ => by omega
  · exact hbad _ _ hp fun ⟨_, t1, t2, t3, t4, t5, t6, t7, t8, t9, t10⟩ => by omega
  · exact hbad _ _ hp fun ⟨_, t1, t2, t3, t4, t5, t6, t7, t8, t9, t10⟩ => by omega
  · exact hbad _ _ hp fun ⟨_, t1, t2, t3, t4, t5, t6, t7, t8, t9, t10⟩ => by omega
  · exact hbad _ _ hp fun ⟨_, t1, t2, t3, t4, t5, t6, t7, t8, t9, t10⟩ => by omega
  apply Wl.callQ
  exact rfl
  (repeat (first | exact Evs.nil | apply Evs.cons rfl))
  · intro wq hq
    refine (within_any (num f 28 4) (32 * num f 44 2) 0 f.length wq (by unfold U32; omega) (by unfold U32; omega) (by unfold U32; omega) (by unfold U32; omega)).mono ?_
    rintro e wr ⟨rfl, hr⟩
    exact ⟨rfl, hq.keep hr⟩
  repeat' (first | (apply Wl.move; exact rfl; exact rfl) | (apply Wl.assign; exact rfl; exact rfl) | (apply Wl.on; exact rfl; exact rfl; (first | rfl | assumption)) | (apply Wl.pickF; exact rfl; exact rfl; (first | rfl | assumption); exact rfl) | (apply Wl.not; exact rfl; exact rfl) | (apply Wl.nil) | (apply St.seq) | (apply St.region) | (apply St.ret) | (apply St.skip) | (apply Gt.next) | (apply Gt.thenRet) | (apply Gt.out3; exact rfl; exact rfl; exact rfl; exact rfl; intro w' hp) | (apply Wl.splitP; exact rfl; exact rfl; all_goals (intros; try (exfalso; omega))) | (apply Wl.splitB; exact rfl; exact rfl; all_goals intros) | (apply St.condP; exact rfl; all_goals (intros; try (exfalso; omega))) | (apply St.condB; exact rfl; all_goals intros))
  · have hw : inB (num f 28 4) (32 * num f 44 2) 0 f.length = false := by simpa using ‹(!inB (num f 28 4) (32 * num f 44 2) 0 f.length) = true›
    unfold inB at hw
    simp only [decide_eq_false_iff_not] at hw
    exact hbad _ _ hp fun ⟨_, t1, t2, t3, t4, t5, t6, t7, t8, t9, t10⟩ => by omega
  have hw : inB (num f 28 4) (32 * num f 44 2) 0 f.length = true := by simpa using ‹(!inB (num f 28 4) (32 * num f 44 2) 0 f.length) = false›
  unfold inB at hw
  simp only [decide_eq_true_eq] at hw
  repeat' (first | (apply Wl.sliceFull; exact rfl; exact rfl; (first | exact BoundIs.no | exact BoundIs.yes rfl (by omega)); (first | exact BoundIs.no | exact BoundIs.yes rfl (by omega)); (first | exact BoundIs.no | exact BoundIs.yes rfl (by omega)); (first | exact fun _ => rfl | exact fun h => nomatch h); (omega); (omega); (omega)) | (apply Wl.splitP; exact rfl; exact rfl; all_goals (intros; try (exfalso; omega))) | (apply Wl.splitB; exact rfl; exact rfl; all_goals intros) | (apply St.condP; exact rfl; all_goals (intros; try (exfalso; omega))) | (apply St.condB; exact rfl; all_goals intros))
  have hok : okTop f := ⟨hid, by omega, by omega, by omega, by omega, by omega, by omega, by omega, by omega, by omega, by omega⟩
  clear hv1 hv2 hv3 hv4 hv5 hv6 hv7 hv8 hv9 hv10 hv11 hv12 hx1 hx2 hbad hbw hv0
  have hsub (u : World) (hu : Bs u (.slice a f.length cap) f) := hu.sub (lo := num f 28 4) (hi := f.length) (mx := cap) (by omega) (Nat.le_refl _) hlc (Nat.le_refl _)
  rw [List.take_length] at hsub
  rw [Int.toNat_natCast]
  generalize hv0' : (Value.slice (if cap = num f 28 4 then a else Option.map (fun x => x.add (num f 28 4 * 1)) a) (f.length - num f 28 4) (cap - num f 28 4)) = v0 at *
  generalize hA : num f 28 4 = A at *
  generalize hn : num f 44 2 = n at *
  apply Wl.cls (C' := Hp w [])
  · exact fun _ hp => hp.drop (by simp; omega)
  apply Wl.callC
  exact rfl
  (repeat (first | exact Evs.nil | apply Evs.cons rfl))
  intro w1 h1
  refine (at_pos v0 (f.drop A) w1 (hsub _ (hv.upd h1.upd fun _ _ _ _ y => y trivial))).mono ?_
  rintro e w2 ⟨d, rfl, hd, h2⟩
  refine ⟨_, _, rfl, h1.callNew h2 hd, ?_⟩
  have hdw : w.heap.size ≤ d := by have := h1.upd.size; omega
  clear h1 h2 hd
  apply Wl.base
  intro wa hwa
  have hdl := hwa.own.lt (.head _)
  have hua : Upd (fun k => w.heap.size ≤ k) w wa := (hwa.drop (by simp; omega)).upd.mono fun _ _ y => (y trivial).elim
  clear hwa
  repeat' (first | (apply Wl.move; exact rfl; exact rfl) | (apply Wl.assign; exact rfl; exact rfl) | (apply Wl.nil) | (apply St.seq) | (apply St.block) | (apply St.region) | (apply Gt.next) | (apply Wl.splitP; exact rfl; exact rfl; all_goals (intros; try (exfalso; omega))) | (apply Wl.splitB; exact rfl; exact rfl; all_goals intros) | (apply St.condP; exact rfl; all_goals (intros; try (exfalso; omega))) | (apply St.condB; exact rfl; all_goals intros))
  refine St.loop (σ := Nat × World × Value × Value) (fun τ => τ.1 ≤ n ∧ (∀ j, j < τ.1 → okH f (A + 32 * j)) ∧ τ.2.1.ownsRow w.heap.size 72 6 τ.2.2.1 τ.1 (hAll f A τ.1) ∧ Upd (fun k => w.heap.size ≤ k) w τ.2.1 ∧ Left v0 (f.drop A) τ.2.2.2 (32 * τ.1) ∧ (∀ k, τ.2.2.1.ownBlock = some k → k ≠ d) ∧ d < τ.2.1.heap.size)
    (fun τ => [(0, .slice a f.length cap), (5, .pointer (some ⟨d, 0, none⟩)), (9, .int .u32 (num f 24 4)), (15, τ.2.2.1), (95, .int .i64 n), (96, .int .i64 τ.1)])
    (fun τ => Hp τ.2.1 [⟨d, [τ.2.2.2, .bool (decide ((f.drop A).length < 32 * τ.1))], 105⟩])
    (fun τ => n - τ.1) (0, wa, .slice none 0 0, v0) ⟨Nat.zero_le _, fun j hj => by simp at hj, World.ownsRow_nil _ _ _ _, hua, left0 _ _, fun k hk => (by cases hk), hdl⟩ (by (repeat (first | exact Sub.nil | apply Sub.cons rfl))) (fun _ h => h) ?_
  clear hua hdl
  rintro ⟨i, w0, vl, vc⟩ ⟨hin, hall, hown, hu, hvc, hne, hdl⟩
  simp only at hin hall hown hu hvc hne hdl ⊢
  have hbw (wq : World) (H : List Blk) (hq : Hp w0 H wq) (hH : ∀ x ∈ H, w.heap.size ≤ x.b) : Bs wq v0 (f.drop A) := hsub _ (hv.upd (hu.comp hq.upd fun j _ hs => hs.elim id fun y => Classical.byContradiction fun hlt => y (Off.of fun x hx e => by have := hH x hx; omega)) fun j _ hj _ hno => by omega)
  have hbad (H : List Blk) (w' : World) (hp : Hp w0 H w') (hH : ∀ x ∈ H, w.heap.size ≤ x.b) (hlt : i < n) (hn' : ¬ okH f (A + 32 * i)) : HeadsPost f w (.returned (.tuple #[.int .u32 0, .slice none 0 0, .int .i64 8])) w' :=
    ⟨hu.comp hp.upd fun j _ hs => hs.elim id fun y => Classical.byContradiction fun hlt => y (Off.of fun x hx e => by have := hH x hx; omega), .inl ⟨fun hok => hn' (by have := hok.2 i (by rw [hn]; exact hlt); rwa [hA] at this), rfl⟩⟩
  have hAl : A ≤ f.length := by omega
  have hus := hu.size
  have m0 := num4 f (A + 32 * i)
  have m4 := num4 f (A + 32 * i + 4)
  have m16 := num4 f (A + 32 * i + 16)
  have m24 := num4 f (A + 32 * i + 24)
  repeat' (first | (apply Wl.move; exact rfl; exact rfl) | (apply Wl.assign; exact rfl; exact rfl) | (apply Wl.lss; exact rfl; exact rfl; exact rfl) | (apply Wl.nil) | (apply St.seq) | (apply St.block) | (apply St.region) | (apply St.ret) | (apply St.skip) | (apply St.exit) | (apply Gt.next) | (apply Gt.thenExit) | (apply Gt.inExit) | (apply Gt.out3; exact rfl; exact rfl; exact rfl; exact rfl; intro w' hp) | (apply Wl.splitP; exact rfl; exact rfl; all_goals (intros; try (exfalso; omega))) | (apply Wl.splitB; exact rfl; exact rfl; all_goals intros) | (apply St.condP; exact rfl; all_goals (intros; try (exfalso; omega))) | (apply St.condB; exact rfl; all_goals intros))
  · have hlt : i < n := by omega
    apply Wl.callC
    exact rfl
    (repeat (first | exact Evs.nil | apply Evs.cons rfl))
    intro wq hq
    refine (u32_in d v0 vc f A (32 * i) (A + 32 * i) hAl (by omega) wq (hq.own.at (.head _)) (hbw _ _ hq (by simp; omega)) hvc).mono ?_
    rintro e wr ⟨u4, rfl, hp, hu4⟩
    refine ⟨_, _, rfl, hq.callSet (by (repeat (first | apply HSet.here | apply HSet.there))) hp, ?_⟩
    clear hp hq wq wr
    repeat' (first | (apply Wl.move; exact rfl; exact rfl) | (apply Wl.convI64; exact rfl; exact rfl; (constructor <;> omega)) | (apply Wl.splitP; exact rfl; exact rfl; all_goals (intros; try (exfalso; omega))) | (apply Wl.splitB; exact rfl; exact rfl; all_goals intros) | (apply St.condP; exact rfl; all_goals (intros; try (exfalso; omega))) | (apply St.condB; exact rfl; all_goals intros))
    apply Wl.callC
    exact rfl
    (repeat (first | exact Evs.nil | apply Evs.cons rfl))
    intro wq hq
    refine (u32_in d v0 u4 f A (32 * i + 4) (A + 32 * i + 4) hAl (by omega) wq (hq.own.at (.head _)) (hbw _ _ hq (by simp; omega)) hu4).mono ?_
    rintro e wr ⟨u8, rfl, hp, hu8⟩
    refine ⟨_, _, rfl, hq.callSet (by (repeat (first | apply HSet.here | apply HSet.there))) hp, ?_⟩
    clear hp hq wq wr
    repeat' (first | (apply Wl.move; exact rfl; exact rfl) | (apply Wl.splitP; exact rfl; exact rfl; all_goals (intros; try (exfalso; omega))) | (apply Wl.splitB; exact rfl; exact rfl; all_goals intros) | (apply St.condP; exact rfl; all_goals (intros; try (exfalso; omega))) | (apply St.condB; exact rfl; all_goals intros))
    apply Wl.callC
    exact rfl
    (repeat (first | exact Evs.nil | apply Evs.cons rfl))
    intro wq hq
    refine (u32_in d v0 u8 f A (32 * i + 8) (A + 32 * i + 8) hAl (by omega) wq (hq.own.at (.head _)) (hbw _ _ hq (by simp; omega)) hu8).mono ?_
    rintro e wr ⟨u12, rfl, hp, hu12⟩
    refine ⟨_, _, rfl, hq.callSet (by (repeat (first | apply HSet.here | apply HSet.there))) hp, ?_⟩
    clear hp hq wq wr
    repeat' (first | (apply Wl.move; exact rfl; exact rfl) | (apply Wl.storeA; exact rfl; exact rfl; exact rfl; exact rfl; (repeat (first | apply HSet.here | apply HSet.there)); (repeat (first | apply LPut.s | apply LPut.z | apply LOver.nil | apply LOver.cons))) | (apply Wl.buildS; exact rfl; (repeat (first | exact Parts.nil | apply Parts.cons rfl)); (repeat (first | apply Fills.nil | (apply Fills.one; exact rfl; exact rfl; (repeat (first | apply LSet.z | apply LSet.s))) | (apply Fills.agg; exact rfl; exact rfl; (repeat (first | apply LPut.s | apply LPut.z | apply LOver.nil | apply LOver.cons)))))) | (apply Wl.alloc; exact rfl; intro c hc ho) | (apply Wl.nil) | (apply St.seq) | (apply St.region) | (apply Gt.next) | (apply Wl.splitP; exact rfl; exact rfl; all_goals (intros; try (exfalso; omega))) | (apply Wl.splitB; exact rfl; exact rfl; all_goals intros) | (apply St.condP; exact rfl; all_goals (intros; try (exfalso; omega))) | (apply St.condB; exact rfl; all_goals intros))
    apply Wl.callC
    exact rfl
    (repeat (first | exact Evs.nil | apply Evs.cons rfl))
    intro wq hq
    refine (u32_in d v0 u12 f A (32 * i + 12) (A + 32 * i + 12) hAl (by omega) wq (hq.own.at (.tail _ (.head _))) (hbw _ _ hq (by simp; omega)) hu12).mono ?_
    rintro e wr ⟨u16, rfl, hp, hu16⟩
    refine ⟨_, _, rfl, hq.callSet (by (repeat (first | apply HSet.here | apply HSet.there))) hp, ?_⟩
    clear hp hq wq wr
    repeat' (first | (apply Wl.move; exact rfl; exact rfl) | (apply Wl.nil) | (apply St.seq) | (apply St.region) | (apply Gt.next) | (apply Wl.splitP; exact rfl; exact rfl; all_goals (intros; try (exfalso; omega))) | (apply Wl.splitB; exact rfl; exact rfl; all_goals intros) | (apply St.condP; exact rfl; all_goals (intros; try (exfalso; omega))) | (apply St.condB; exact rfl; all_goals intros))
    apply Wl.callC
    exact rfl
    (repeat (first | exact Evs.nil | apply Evs.cons rfl))
    intro wq hq
    refine (u32_in d v0 u16 f A (32 * i + 16) (A + 32 * i + 16) hAl (by omega) wq (hq.own.at (.tail _ (.head _))) (hbw _ _ hq (by simp; omega)) hu16).mono ?_
    rintro e wr ⟨u20, rfl, hp, hu20⟩
    refine ⟨_, _, rfl, hq.callSet (by (repeat (first | apply HSet.here | apply HSet.there))) hp, ?_⟩
    clear hp hq wq wr
    repeat' (first | (apply Wl.move; exact rfl; exact rfl) | (apply Wl.splitP; exact rfl; exact rfl; all_goals (intros; try (exfalso; omega))) | (apply Wl.splitB; exact rfl; exact rfl; all_goals intros) | (apply St.condP; exact rfl; all_goals (intros; try (exfalso; omega))) | (apply St.condB; exact rfl; all_goals intros))
    apply Wl.callC
    exact rfl
    (repeat (first | exact Evs.nil | apply Evs.cons rfl))
    intro wq hq
    refine (u32_in d v0 u20 f A (32 * i + 20) (A + 32 * i + 20) hAl (by omega) wq (hq.own.at (.tail _ (.head _))) (hbw _ _ hq (by simp; omega)) hu20).mono ?_
    rintro e wr ⟨u24, rfl, hp, hu24⟩
    refine ⟨_, _, rfl, hq.callSet (by (repeat (first | apply HSet.here | apply HSet.there))) hp, ?_⟩
    clear hp hq wq wr
    repeat' (first | (apply Wl.move; exact rfl; exact rfl) | (apply Wl.fieldAddrZ; exact rfl; exact rfl) | (apply Wl.store; exact rfl; exact rfl; exact rfl; (repeat (first | apply HSet.here | apply HSet.there)); (repeat (first | apply LSet.z | apply LSet.s))) | (apply Wl.nil) | (apply St.seq) | (apply St.region) | (apply Gt.next) | (apply Wl.splitP; exact rfl; exact rfl; all_goals (intros; try (exfalso; omega))) | (apply Wl.splitB; exact rfl; exact rfl; all_goals intros) | (apply St.condP; exact rfl; all_goals (intros; try (exfalso; omega))) | (apply St.condB; exact rfl; all_goals intros))
    apply Wl.callC
    exact rfl
    (repeat (first | exact Evs.nil | apply Evs.cons rfl))
    intro wq hq
    refine (u32_in d v0 u24 f A (32 * i + 24) (A + 32 * i + 24) hAl (by omega) wq (hq.own.at (.tail _ (.head _))) (hbw _ _ hq (by simp; omega)) hu24).mono ?_
    rintro e wr ⟨u28, rfl, hp, hu28⟩
    refine ⟨_, _, rfl, hq.callSet (by (repeat (first | apply HSet.here | apply HSet.there))) hp, ?_⟩
    clear hp hq wq wr
    repeat' (first | (apply Wl.move; exact rfl; exact rfl) | (apply Wl.assign; exact rfl; exact rfl) | (apply Wl.nil) | (apply St.seq) | (apply St.region) | (apply Gt.next) | (apply Wl.splitP; exact rfl; exact rfl; all_goals (intros; try (exfalso; omega))) | (apply Wl.splitB; exact rfl; exact rfl; all_goals intros) | (apply St.condP; exact rfl; all_goals (intros; try (exfalso; omega))) | (apply St.condB; exact rfl; all_goals intros))
    apply Wl.callC
    exact rfl
    (repeat (first | exact Evs.nil | apply Evs.cons rfl))
    intro wq hq
    refine (u32_in d v0 u28 f A (32 * i + 28) (A + 32 * i + 28) hAl (by omega) wq (hq.own.at (.tail _ (.head _))) (hbw _ _ hq (by simp; omega)) hu28).mono ?_
    rintro e wr ⟨u32, rfl, hp, hu32⟩
    refine ⟨_, _, rfl, hq.callSet (by (repeat (first | apply HSet.here | apply HSet.there))) hp, ?_⟩
    clear hp hq wq wr
    repeat' (first | (apply Wl.move; exact rfl; exact rfl) | (apply Wl.assign; exact rfl; exact rfl) | (apply Wl.on; exact rfl; exact rfl; (first | rfl | assumption)) | (apply Wl.off; exact rfl; exact rfl; exact rfl; (first | rfl | assumption)) | (apply Wl.offU; exact rfl; exact rfl; exact rfl) | (apply Wl.pickT; exact rfl; exact rfl; (first | rfl | assumption); exact rfl) | (apply Wl.pickF; exact rfl; exact rfl; (first | rfl | assumption); exact rfl) | (apply Wl.fieldAddr0; exact rfl; exact rfl) | (apply Wl.fieldAddrZ; exact rfl; exact rfl) | (apply Wl.loadH; exact rfl; exact rfl; (repeat (first | exact List.Mem.head _ | apply List.Mem.tail)); exact rfl) | (apply Wl.neq; exact rfl; exact rfl; exact rfl) | (apply Wl.gtr; exact rfl; exact rfl; exact rfl) | (apply Wl.and; exact rfl; exact rfl; exact rfl) | (apply Wl.or; exact rfl; exact rfl; exact rfl) | (apply Wl.shl; exact rfl; exact rfl; exact rfl; (omega)) | (apply Wl.shr; exact rfl; exact rfl; exact rfl; (omega)) | (apply Wl.convU32; exact rfl; exact rfl; (constructor <;> omega)) | (apply Wl.convI; exact rfl; exact rfl) | (apply Wl.len; exact rfl; exact rfl) | (apply Wl.store; exact rfl; exact rfl; exact rfl; (repeat (first | apply HSet.here | apply HSet.there)); (repeat (first | apply LSet.z | apply LSet.s))) | (apply Wl.nil) | (apply St.seq) | (apply St.region) | (apply St.condT; exact rfl; (first | rfl | assumption)) | (apply St.ret) | (apply Gt.next) | (apply Gt.thenRet) | (apply Gt.inRet) | (apply Gt.out3; exact rfl; exact rfl; exact rfl; exact rfl; intro w' hp) | (apply Wl.splitP; exact rfl; exact rfl; all_goals (intros; try (exfalso; omega))) | (apply Wl.splitB; exact rfl; exact rfl; all_goals intros) | (apply St.condP; exact rfl; all_goals (intros; try (exfalso; omega))) | (apply St.condB; exact rfl; all_goals intros))
    · exact hbad _ _ hp (by simp; omega) hlt fun ⟨t1, t2, t3, t4⟩ => by omega
    · exact hbad _ _ hp (by simp; omega) hlt fun ⟨t1, t2, t3, t4⟩ => by omega
    · skip
      apply Wl.callQ
      exact rfl
      (repeat (first | exact Evs.nil | apply Evs.cons rfl))
      · intro wq hq
        refine (within_any (num f (A + 32 * i + 4) 4) (num f (A + 32 * i + 16) 4) 0 f.length wq (by unfold U32; omega) (by unfold U32; omega) (by unfold U32; omega) (by unfold U32; omega)).mono ?_
        rintro e wr ⟨rfl, hr⟩
        exact ⟨rfl, hq.keep hr⟩
      have hcx := hc
      repeat' (first | (apply Wl.move; exact rfl; exact rfl) | (apply Wl.assign; exact rfl; exact rfl) | (apply Wl.on; exact rfl; exact rfl; (first | rfl | assumption)) | (apply Wl.off; exact rfl; exact rfl; exact rfl; (first | rfl | assumption)) | (apply Wl.pickT; exact rfl; exact rfl; (first | rfl | assumption); exact rfl) | (apply Wl.pickF; exact rfl; exact rfl; (first | rfl | assumption); exact rfl) | (apply Wl.not; exact rfl; exact rfl) | (apply Wl.fieldAddrZ; exact rfl; exact rfl) | (apply Wl.loadH; exact rfl; exact rfl; (repeat (first | exact List.Mem.head _ | apply List.Mem.tail)); exact rfl) | (apply Wl.gtr; exact rfl; exact rfl; exact rfl) | (apply Wl.loadAH; exact rfl; exact rfl; (repeat (first | exact List.Mem.head _ | apply List.Mem.tail)); (repeat (first | apply LSub.z | apply LSub.t | apply LSub.s))) | (apply Wl.lit; exact rfl; (repeat (first | exact Parts.nil | apply Parts.cons rfl)); exact rfl; exact rfl; (repeat (first | apply CatP.nil | (apply CatP.one; exact rfl; exact rfl) | (apply CatP.agg; exact rfl) | apply LApp.nil | apply LApp.cons)); intro c hc ho) | (apply Wl.nil) | (apply St.seq) | (apply St.region) | (apply St.condT; exact rfl; (first | rfl | assumption)) | (apply St.ret) | (apply St.skip) | (apply Gt.next) | (apply Gt.thenRet) | (apply Gt.inRet) | (apply Gt.out3; exact rfl; exact rfl; exact rfl; exact rfl; intro w' hp) | (apply Wl.splitP; exact rfl; exact rfl; all_goals (intros; try (exfalso; omega))) | (apply Wl.splitB; exact rfl; exact rfl; all_goals intros) | (apply St.condP; exact rfl; all_goals (intros; try (exfalso; omega))) | (apply St.condB; exact rfl; all_goals intros))
      · have hwi : inB (num f (A + 32 * i + 4) 4) (num f (A + 32 * i + 16) 4) 0 f.length = false := by simpa using ‹(!inB (num f (A + 32 * i + 4) 4) (num f (A + 32 * i + 16) 4) 0 f.length) = true›
        unfold inB at hwi
        simp only [decide_eq_false_iff_not] at hwi
        exact hbad _ _ hp (by simp; omega) hlt fun ⟨t1, t2, t3, t4⟩ => by omega
      · exact hbad _ _ hp (by simp; omega) hlt fun ⟨t1, t2, t3, t4⟩ => by omega
      · have hw2 := ‹¬ (num f (A + 32 * i + 20) 4 : Int) < num f (A + 32 * i + 16) 4›
        have hwi : inB (num f (A + 32 * i + 4) 4) (num f (A + 32 * i + 16) 4) 0 f.length = true := by simpa using ‹(!inB (num f (A + 32 * i + 4) 4) (num f (A + 32 * i + 16) 4) 0 f.length) = false›
        unfold inB at hwi
        simp only [decide_eq_true_eq] at hwi
        have hokh : okH f (A + 32 * i) := ⟨by omega, by omega, by omega, by omega⟩
        rw [rx_bits _ hokh.1]
        apply Wl.appendT
        · exact rfl
        · exact rfl
        · exact rfl
        · exact hc
        · exact rfl
        · exact hown
        · exact fun k hk => ⟨fun e => by have := (hown.lt k hk).2; simp only at e; omega, ⟨fun e => hne k hk e.symm, trivial⟩⟩
        · exact rfl
        · exact rfl
        · decide
        · unfold maxLen; omega
        · omega
        · exact hus
        intro v' w4 ho2 u2 _ hoff2
        apply Wl.reb (H' := [⟨d, [u32, .bool (decide ((f.drop A).length < 32 * i + 28 + 4))], 105⟩])
        intro w3 h3
        refine ⟨h3.own.2, h3.apart.2, ?_⟩
        repeat' (first | (apply Wl.move; exact rfl; exact rfl) | (apply Wl.assign; exact rfl; exact rfl) | (apply Wl.addI; exact rfl; exact rfl; exact rfl; (constructor <;> omega)) | (apply Wl.nil) | (apply St.region) | (apply Gt.next) | (apply Gt.inNormal) | (apply Wl.splitP; exact rfl; exact rfl; all_goals (intros; try (exfalso; omega))) | (apply Wl.splitB; exact rfl; exact rfl; all_goals intros) | (apply St.condP; exact rfl; all_goals (intros; try (exfalso; omega))) | (apply St.condB; exact rfl; all_goals intros))
        apply Gt.round (i + 1, w3, v', u32)
        rotate_left
        · simp only; omega
        · (repeat (first | exact Sub.nil | apply Sub.cons rfl))
        · exact fun _ h => h
        have hdw3 := h3.own.lt (.tail _ (.head _))
        have hcg : w.heap.size ≤ _ := Nat.le_trans hus hcx
        refine ⟨hlt, fun j hj => ?_, ?_, ?_, hu32, fun k hk e => ?_, hdw3⟩
        · rcases Nat.lt_succ_iff_lt_or_eq.1 hj with hj | rfl
          · exact hall j hj
          · exact hokh
        · rw [hAll_snoc]
          exact ownsRow_upd ho2 h3.upd fun k hk y => y (hoff2 k hk).1
        · refine (hu.comp u2 (T := fun k => w.heap.size ≤ k) fun j _ hs => hs.elim id fun hs => hs.elim (fun hs => (hown.lt j hs).1) fun y => Classical.byContradiction fun hlt => y ⟨fun e => by simp only at e; omega, off1 (by omega)⟩).comp h3.upd fun j _ hs => hs.elim id fun y => Classical.byContradiction fun hlt => y ⟨fun e => by simp only at e; omega, off1 (by omega)⟩
        · exact (hoff2 k hk).1.2.1 e.symm
    · skip
      apply Wl.callQ
      exact rfl
      (repeat (first | exact Evs.nil | apply Evs.cons rfl))
      · intro wq hq
        refine (within_any (num f (A + 32 * i + 4) 4) (num f (A + 32 * i + 16) 4) 0 f.length wq (by unfold U32; omega) (by unfold U32; omega) (by unfold U32; omega) (by unfold U32; omega)).mono ?_
        rintro e wr ⟨rfl, hr⟩
        exact ⟨rfl, hq.keep hr⟩
      have hcx := hc
      repeat' (first | (apply Wl.move; exact rfl; exact rfl) | (apply Wl.assign; exact rfl; exact rfl) | (apply Wl.on; exact rfl; exact rfl; (first | rfl | assumption)) | (apply Wl.off; exact rfl; exact rfl; exact rfl; (first | rfl | assumption)) | (apply Wl.pickT; exact rfl; exact rfl; (first | rfl | assumption); exact rfl) | (apply Wl.pickF; exact rfl; exact rfl; (first | rfl | assumption); exact rfl) | (apply Wl.not; exact rfl; exact rfl) | (apply Wl.fieldAddrZ; exact rfl; exact rfl) | (apply Wl.loadH; exact rfl; exact rfl; (repeat (first | exact List.Mem.head _ | apply List.Mem.tail)); exact rfl) | (apply Wl.gtr; exact rfl; exact rfl; exact rfl) | (apply Wl.loadAH; exact rfl; exact rfl; (repeat (first | exact List.Mem.head _ | apply List.Mem.tail)); (repeat (first | apply LSub.z | apply LSub.t | apply LSub.s))) | (apply Wl.lit; exact rfl; (repeat (first | exact Parts.nil | apply Parts.cons rfl)); exact rfl; exact rfl; (repeat (first | apply CatP.nil | (apply CatP.one; exact rfl; exact rfl) | (apply CatP.agg; exact rfl) | apply LApp.nil | apply LApp.cons)); intro c hc ho) | (apply Wl.nil) | (apply St.seq) | (apply St.region) | (apply St.condT; exact rfl; (first | rfl | assumption)) | (apply St.ret) | (apply St.skip) | (apply Gt.next) | (apply Gt.thenRet) | (apply Gt.inRet) | (apply Gt.out3; exact rfl; exact rfl; exact rfl; exact rfl; intro w' hp) | (apply Wl.splitP; exact rfl; exact rfl; all_goals (intros; try (exfalso; omega))) | (apply Wl.splitB; exact rfl; exact rfl; all_goals intros) | (apply St.condP; exact rfl; all_goals (intros; try (exfalso; omega))) | (apply St.condB; exact rfl; all_goals intros))
      · have hwi : inB (num f (A + 32 * i + 4) 4) (num f (A + 32 * i + 16) 4) 0 f.length = false := by simpa using ‹(!inB (num f (A + 32 * i + 4) 4) (num f (A + 32 * i + 16) 4) 0 f.length) = true›
        unfold inB at hwi
        simp only [decide_eq_false_iff_not] at hwi
        exact hbad _ _ hp (by simp; omega) hlt fun ⟨t1, t2, t3, t4⟩ => by omega
      · exact hbad _ _ hp (by simp; omega) hlt fun ⟨t1, t2, t3, t4⟩ => by omega
      · have hw2 := ‹¬ (num f (A + 32 * i + 20) 4 : Int) < num f (A + 32 * i + 16) 4›
        have hwi : inB (num f (A + 32 * i + 4) 4) (num f (A + 32 * i + 16) 4) 0 f.length = true := by simpa using ‹(!inB (num f (A + 32 * i + 4) 4) (num f (A + 32 * i + 16) 4) 0 f.length) = false›
        unfold inB at hwi
        simp only [decide_eq_true_eq] at hwi
        have hokh : okH f (A + 32 * i) := ⟨by omega, by omega, by omega, by omega⟩
        rw [rx_bits _ hokh.1]
        apply Wl.appendT
        · exact rfl
        · exact rfl
        · exact rfl
        · exact hc
        · exact rfl
        · exact hown
        · exact fun k hk => ⟨fun e => by have := (hown.lt k hk).2; simp only at e; omega, ⟨fun e => hne k hk e.symm, trivial⟩⟩
        · exact rfl
        · exact rfl
        · decide
        · unfold maxLen; omega
        · omega
        · exact hus
        intro v' w4 ho2 u2 _ hoff2
        apply Wl.reb (H' := [⟨d, [u32, .bool (decide ((f.drop A).length < 32 * i + 28 + 4))], 105⟩])
        intro w3 h3
        refine ⟨h3.own.2, h3.apart.2, ?_⟩
        repeat' (first | (apply Wl.move; exact rfl; exact rfl) | (apply Wl.assign; exact rfl; exact rfl) | (apply Wl.addI; exact rfl; exact rfl; exact rfl; (constructor <;> omega)) | (apply Wl.nil) | (apply St.region) | (apply Gt.next) | (apply Gt.inNormal) | (apply Wl.splitP; exact rfl; exact rfl; all_goals (intros; try (exfalso; omega))) | (apply Wl.splitB; exact rfl; exact rfl; all_goals intros) | (apply St.condP; exact rfl; all_goals (intros; try (exfalso; omega))) | (apply St.condB; exact rfl; all_goals intros))
        apply Gt.round (i + 1, w3, v', u32)
        rotate_left
        · simp only; omega
        · (repeat (first | exact Sub.nil | apply Sub.cons rfl))
        · exact fun _ h => h
        have hdw3 := h3.own.lt (.tail _ (.head _))
        have hcg : w.heap.size ≤ _ := Nat.le_trans hus hcx
        refine ⟨hlt, fun j hj => ?_, ?_, ?_, hu32, fun k hk e => ?_, hdw3⟩
        · rcases Nat.lt_succ_iff_lt_or_eq.1 hj with hj | rfl
          · exact hall j hj
          · exact hokh
        · rw [hAll_snoc]
          exact ownsRow_upd ho2 h3.upd fun k hk y => y (hoff2 k hk).1
        · refine (hu.comp u2 (T := fun k => w.heap.size ≤ k) fun j _ hs => hs.elim id fun hs => hs.elim (fun hs => (hown.lt j hs).1) fun y => Classical.byContradiction fun hlt => y ⟨fun e => by simp only at e; omega, off1 (by omega)⟩).comp h3.upd fun j _ hs => hs.elim id fun y => Classical.byContradiction fun hlt => y ⟨fun e => by simp only at e; omega, off1 (by omega)⟩
        · exact (hoff2 k hk).1.2.1 e.symm
  · have : i = n := by omega
    subst this
    refine ⟨hu.comp hp.upd fun j _ hs => hs.elim id fun y => Classical.byContradiction fun hlt => y (off1 (by omega)), .inr ⟨⟨hok, fun j hj => ?_⟩, vl, rfl, ?_⟩⟩
    · rw [hA]; exact hall j (by rwa [hn] at hj)
    · rw [hn, hA]
      exact ownsRow_upd hown hp.upd fun k hk y => y (⟨fun e => hne k hk e.symm, trivial⟩)
end Go.Proofs.Ytcjikjadajmefaa
