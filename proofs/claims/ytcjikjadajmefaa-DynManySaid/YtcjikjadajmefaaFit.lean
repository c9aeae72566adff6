/-
  What the readers find in a file that Plain made; fit answers true.
-/
import Derived.Test.YtcjikjadajmefaaPlain
import Derived.Test.YtcjikjadajmefaaSame
namespace Go.Proofs.Ytcjikjadajmefaa
open Go.RowKit Go.Pt

theorem part_piece {ls : List (List UInt8)} {i k : Nat} {x : List UInt8} (hx : ls[i]? = some x) (hk : (ls.take i).flatten.length = k) : part ls.flatten k x.length = x := by
  have h1 : ls.flatten = (ls.take i).flatten ++ (x ++ (ls.drop (i + 1)).flatten) := by
    rw [← List.append_assoc, ← flatten_take_succ ls i x hx, ← List.flatten_append, List.take_append_drop]
  unfold part
  rw [h1, List.length_append, List.length_append, hk, if_pos (by omega), ← hk, List.drop_left, List.take_left]
theorem num_piece {ls : List (List UInt8)} {i k n y : Nat} (hx : ls[i]? = some (leB n y)) (hk : (ls.take i).flatten.length = k) : num ls.flatten k n = y % 256 ^ n := by
  have := part_piece hx hk
  rw [leB_length] at this
  unfold num
  rw [this, leN_leB]
/-- the pieces of a file of one segment, with a tail -/
def pl (b t : List UInt8) : List (List UInt8) := fileL 0 [⟨1, 0, (b.length + 7) / 4 * 4, 5⟩] [b] ++ [t]
theorem pl_flat (b t : List UInt8) : (pl b t).flatten = plainB b ++ t := by
  unfold pl plainB fileB
  rw [List.flatten_append]; simp
theorem pl_len (b t : List UInt8) : (plainB b ++ t).length = 84 + b.length + t.length := by
  rw [← pl_flat]
  simp [pl, fileL, topL, rows, rowN, leB_length, elfIdent, List.range, List.range.loop]
  omega
theorem pl_at (b t : List UInt8) : part (plainB b ++ t) 0 16 = elfIdent ∧ num (plainB b ++ t) 16 2 = 3 ∧ num (plainB b ++ t) 18 2 = 243 ∧ num (plainB b ++ t) 20 4 = 1 ∧ num (plainB b ++ t) 24 4 = 0 ∧ num (plainB b ++ t) 28 4 = 52 ∧
    num (plainB b ++ t) 36 4 = 0 ∧ num (plainB b ++ t) 40 2 = 52 ∧ num (plainB b ++ t) 42 2 = 32 ∧ num (plainB b ++ t) 44 2 = 1 := by
  rw [← pl_flat]
  exact ⟨part_piece (ls := pl b t) (i := 0) (k := 0) (x := elfIdent) rfl rfl, (num_piece (i := 1) (n := 2) (y := 3) rfl rfl).trans (by decide), (num_piece (i := 2) (n := 2) (y := 243) rfl rfl).trans (by decide), (num_piece (i := 3) (n := 4) (y := 1) rfl rfl).trans (by decide), (num_piece (i := 4) (n := 4) (y := 0) rfl rfl).trans (by decide), (num_piece (i := 5) (n := 4) (y := 52) rfl rfl).trans (by decide), (num_piece (i := 7) (n := 4) (y := 0) rfl rfl).trans (by decide), (num_piece (i := 8) (n := 2) (y := 52) rfl rfl).trans (by decide), (num_piece (i := 9) (n := 2) (y := 32) rfl rfl).trans (by decide), (num_piece (i := 10) (n := 2) (y := 1) rfl rfl).trans (by decide)⟩
theorem pl_row (b t : List UInt8) (hb : b.length ≤ 100000) : num (plainB b ++ t) 52 4 = 1 ∧ num (plainB b ++ t) 56 4 = 84 ∧ num (plainB b ++ t) 60 4 = 0 ∧ num (plainB b ++ t) 68 4 = b.length ∧ num (plainB b ++ t) 72 4 = (b.length + 7) / 4 * 4 ∧ num (plainB b ++ t) 76 4 = 5 := by
  rw [← pl_flat]
  refine ⟨(num_piece (i := 12) (n := 4) (y := 1) rfl rfl).trans (by decide), (num_piece (i := 13) (n := 4) (y := offs 1 [b] 0) rfl rfl).trans ?_, (num_piece (i := 14) (n := 4) (y := 0) rfl rfl).trans (by decide), (num_piece (i := 16) (n := 4) (y := b.length) rfl rfl).trans ?_, (num_piece (i := 17) (n := 4) (y := (b.length + 7) / 4 * 4) rfl rfl).trans ?_, (num_piece (i := 18) (n := 4) (y := flg 5) rfl rfl).trans (by decide)⟩
  · simp [offs]
  · exact Nat.mod_eq_of_lt (by omega)
  · exact Nat.mod_eq_of_lt (by omega)
theorem pl_bytes (b t : List UInt8) : ((plainB b ++ t).drop 84).take b.length = b := by
  have h1 : part (pl b t).flatten 84 b.length = b := part_piece (i := 20) rfl rfl
  rw [pl_flat] at h1
  unfold part at h1
  rw [if_pos (by rw [pl_len]; omega)] at h1
  exact h1
theorem pl_ok (b t : List UInt8) (hb : b.length ≤ 100000) : okHeads (plainB b ++ t) := by
  obtain ⟨h1, h2, h3, h4, h5, h6, h7, h8, h9, h10⟩ := pl_at b t
  obtain ⟨r1, r2, r3, r4, r5, r6⟩ := pl_row b t hb
  have hl := pl_len b t
  refine ⟨⟨h1, by omega, h2, h3, h4, h7, h8, h9, by omega, by omega, by omega⟩, fun i hi => ?_⟩
  rw [h10] at hi
  have : i = 0 := by omega
  subst this
  rw [h6]
  refine ⟨?_, .inl r1, ?_, ?_⟩
  · show num (plainB b ++ t) 76 4 ≤ 7
    omega
  · show num (plainB b ++ t) 56 4 + num (plainB b ++ t) 68 4 ≤ _
    omega
  · show num (plainB b ++ t) 68 4 ≤ num (plainB b ++ t) 72 4
    omega
theorem pl_segs (b t : List UInt8) (hb : b.length ≤ 100000) : SegsOf (plainB b ++ t) [⟨0, (b.length + 7) / 4 * 4, 5, b⟩] 0 := by
  obtain ⟨h1, h2, h3, h4, h5, h6, h7, h8, h9, h10⟩ := pl_at b t
  obtain ⟨r1, r2, r3, r4, r5, r6⟩ := pl_row b t hb
  have hby := pl_bytes b t
  refine ⟨?_, by decide⟩
  rw [h5, h6, h10]
  have h0 : segAt (plainB b ++ t) 52 0 0 = some ([], 0, false) := rfl
  have s := segAt_put h0 (by rw [Nat.mul_zero, Nat.add_zero, r1]; decide) (by
    unfold segBad
    simp only [Nat.mul_zero, Nat.add_zero, Nat.reduceAdd, r3, r5, r6]
    rintro (h | h | h | h | h | h | h | ⟨s, h, _⟩)
    · omega
    · omega
    · omega
    · omega
    · simp [rx] at h
    · simp [rx] at h
    · simp at h
    · simp at h)
  rw [s]
  simp only [Nat.mul_zero, Nat.add_zero, List.nil_append, sgOf, entIn, Nat.reduceAdd, r2, r3, r4, r5, r6, hby]
  simp [rx]
  omega
/-- a file that ends too soon -/
theorem pl_cut (b : List UInt8) (hb : b.length ≤ 100000) (m : Nat) (hm : m < 84 + b.length) : ¬ okHeads ((plainB b).take m) := by
  have ha := pl_at b []
  have hr := pl_row b [] hb
  have hl := pl_len b []
  rw [List.append_nil] at ha hr hl
  simp only [List.length_nil, Nat.add_zero] at hl
  have key : ∀ k n, k + n ≤ m → num ((plainB b).take m) k n = num (plainB b) k n := fun k n h => by
    unfold num part
    rw [List.length_take, if_pos (by omega), if_pos (by omega), List.drop_take, List.take_take, Nat.min_eq_left (by omega)]
  rintro ⟨⟨_, q1, _, _, _, _, _, _, _, _, q2⟩, q3⟩
  rw [List.length_take] at q1
  rw [key 28 4 (by omega), key 44 2 (by omega), List.length_take, ha.2.2.2.2.2.1, ha.2.2.2.2.2.2.2.2.2] at q2
  have q4 := q3 0 (by rw [key 44 2 (by omega), ha.2.2.2.2.2.2.2.2.2]; decide)
  rw [key 28 4 (by omega), ha.2.2.2.2.2.1] at q4
  have q5 : num ((plainB b).take m) 56 4 + num ((plainB b).take m) 68 4 ≤ ((plainB b).take m).length := q4.2.2.1
  rw [key 56 4 (by omega), key 68 4 (by omega), hr.2.1, hr.2.2.2.1, List.length_take] at q5
  omega
/-- elf.Segments of a file that Plain made -/
theorem segs_plain (v : Value) (b t : List UInt8) (w : World) (hv : Bs w v (plainB b ++ t)) (hl : (plainB b ++ t).length ≤ 100000) (hb : b.length ≤ 100000) :
    Calls Try.prog 16 #[v] w fun e w' => Upd (fun k => w.heap.size ≤ k) w w' ∧ ∃ vs a c g og x, e = .returned (.tuple #[.int .u32 0, vs, .slice a 0 c, .int .i64 0]) ∧ (∃ cs, vs = .slice (some ⟨g, og, none⟩) 1 cs) ∧
      w'.cell? ⟨g, og + 1, none⟩ = some x ∧ w'.cell? ⟨g, og + 2, none⟩ = some (.int .u32 ((b.length + 7) / 4 * 4 : Nat)) ∧ Bs w' x b := by
  refine (segs_any v _ w hv hl).mono ?_
  intro e w' hp
  obtain ⟨hu, vs, a, c, rfl, xs, hxs, hsv, hbs⟩ := hp.uni
  refine ⟨hu, ?_⟩
  have hans := segAns_some (pl_ok b t hb) (pl_segs b t hb)
  rw [(pl_at b t).2.2.2.2.1] at hans
  rw [hans] at hxs ⊢
  obtain ⟨x, rfl⟩ : ∃ x, xs = [x] := by
    have := congrArg List.length hxs
    rw [List.length_map] at this
    exact List.length_eq_one_iff.1 this
  simp only [List.map_cons, List.map_nil, List.cons.injEq, and_true] at hxs
  obtain ⟨s, y⟩ := x
  simp only at hxs
  subst hxs
  obtain ⟨_, a', cap, rfl, _, _, _, hc⟩ := hsv
  obtain ⟨g, og, rfl, hd⟩ := hc (by simp [sgP])
  exact ⟨_, a, c, g, og, y, rfl, ⟨_, rfl⟩, hd 1 (by simp [sgP]), hd 2 (by simp [sgP]), hbs _ (List.mem_singleton.2 rfl)⟩
end Go.Proofs.Ytcjikjadajmefaa
