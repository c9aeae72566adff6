/-
  porticoref06.Join: the lists one behind the other. Conditions: all of them together have at most 2^40 bytes.
-/
import Derived.Test.YtcjikjadajmefaaPos
namespace Go.Proofs.Ytcjikjadajmefaa
open Go.RowKit Go.Pt

/-- v is a slice of byte slices that read as ls -/
def Bss (w : World) (v : Value) (ls : List (List UInt8)) : Prop := ∃ vs : List Value, vs.length = ls.length ∧ Sv w 1 vs.length v vs ∧ ∀ (i : Nat) (x : Value) (l : List UInt8), vs[i]? = some x → ls[i]? = some l → Bs w x l
theorem flatten_take_succ {α : Type} (ls : List (List α)) (i : Nat) (l : List α) (h : ls[i]? = some l) : (ls.take (i + 1)).flatten = (ls.take i).flatten ++ l := by
  rw [List.take_add_one, h]; simp
theorem flatten_take_le {α : Type} (ls : List (List α)) (i : Nat) : (ls.take i).flatten.length ≤ ls.flatten.length := by
  have := congrArg List.length (congrArg List.flatten (List.take_append_drop i ls))
  rw [List.flatten_append, List.length_append] at this
  omega

theorem join_any (v : Value) (ls : List (List UInt8)) (w : World) (h : Bss w v ls) (hl : ls.flatten.length ≤ 1099511627776) :
    Calls Try.prog 24 #[v] w fun e w' => ∃ v', e = .returned v' ∧ Bo w' w.heap.size v' ls.flatten ∧ Upd (fun k => w.heap.size ≤ k) w w' := by
  obtain ⟨vs, hlen, ⟨_, a, cap, rfl, hc1, hc2, _, hcell⟩, hbs⟩ := h
  unfold maxLen at hc2
  refine enter (args := [_]) (Γ := [(0, _)]) Try.func24 Try.ntmps24 rfl (of_decide_eq_true rfl) (.cons rfl .nil) ?_
  repeat' (first | (apply Wl.assign; exact rfl; exact rfl) | (apply Wl.nil) | (apply St.seq) | (apply St.block) | (apply St.region) | (apply Gt.next) | (apply Wl.splitP; exact rfl; exact rfl; all_goals (intros; try (exfalso; omega))) | (apply Wl.splitB; exact rfl; exact rfl; all_goals intros) | (apply St.condP; exact rfl; all_goals (intros; try (exfalso; omega))) | (apply St.condB; exact rfl; all_goals intros))
  refine St.loop (σ := Nat × World × Value)
    (fun τ => τ.1 ≤ vs.length ∧ Upd (fun k => w.heap.size ≤ k) w τ.2.1 ∧ Bo τ.2.1 w.heap.size τ.2.2 (ls.take τ.1).flatten)
    (fun τ => [(0, .slice a vs.length cap), (3, τ.2.2), (4, .int .i64 τ.1)])
    (fun τ => Hp τ.2.1 [])
    (fun τ => vs.length - τ.1) (0, w, .slice none 0 0) ⟨Nat.zero_le _, Upd.refl _ _, Bo.nil _ _⟩ (by (repeat (first | exact Sub.nil | apply Sub.cons rfl))) (fun _ h => h) ?_
  rintro ⟨i, w0, b⟩ ⟨hin, hu, hb⟩
  simp only at hin hu hb ⊢
  by_cases hlt : i < vs.length
  · obtain ⟨g, og, rfl, hgc⟩ := hcell (fun e => by rw [e] at hlt; simp at hlt)
    obtain ⟨x, hx⟩ : ∃ x, vs[i]? = some x := ⟨_, List.getElem?_eq_getElem hlt⟩
    obtain ⟨l, hli⟩ : ∃ l, ls[i]? = some l := ⟨_, List.getElem?_eq_getElem (hlen ▸ hlt)⟩
    have hxl := hbs i x l hx hli
    have hg : w.cell? ⟨g, og + (i : Int).toNat, none⟩ = some x := by
      have h1 := hgc i hlt
      rw [List.getElem?_eq_getElem hlt] at hx
      rw [Int.toNat_natCast, h1]; exact hx
    have hgs := World.block_lt_of_cell? w _ hg
    simp only at hgs
    have hg0 : w0.cell? ⟨g, og + (i : Int).toNat, none⟩ = some x := hu.cell hg (by simp only; omega)
    have hxl0 : Bs w0 x l := hxl.upd hu fun k _ hk _ y => by omega
    have hsum := flatten_take_succ ls i l hli
    have hle := flatten_take_le ls (i + 1)
    rw [hsum, List.length_append] at hle
    repeat' (first | (apply Wl.move; exact rfl; exact rfl) | (apply Wl.loadO; exact rfl; exact rfl; (assumption); (repeat (first | exact trivial | refine ⟨by first | assumption | omega, ?_⟩))) | (apply Wl.lss; exact rfl; exact rfl; exact rfl) | (apply Wl.len; exact rfl; exact rfl) | (apply Wl.indexAddr1; exact rfl; exact rfl; exact rfl; (constructor <;> omega)) | (apply Wl.nil) | (apply St.seq) | (apply St.block) | (apply St.region) | (apply St.skip) | (apply Gt.next) | (apply Wl.splitP; exact rfl; exact rfl; all_goals (intros; try (exfalso; omega))) | (apply Wl.splitB; exact rfl; exact rfl; all_goals intros) | (apply St.condP; exact rfl; all_goals (intros; try (exfalso; omega))) | (apply St.condB; exact rfl; all_goals intros))
    apply Wl.appendV
    · exact rfl
    · exact rfl
    · exact rfl
    · exact hxl0
    · exact fun k _ _ _ => trivial
    · exact hb
    · exact fun k _ => trivial
    · exact byteCells_all l
    · exact rfl
    · decide
    · unfold maxLen; omega
    · omega
    · exact hu.size
    intro v' w1 ho2 u _ _
    repeat' (first | (apply Wl.move; exact rfl; exact rfl) | (apply Wl.assign; exact rfl; exact rfl) | (apply Wl.addI; exact rfl; exact rfl; exact rfl; (constructor <;> omega)) | (apply Wl.nil) | (apply St.region) | (apply Gt.next) | (apply Gt.inNormal) | (apply Wl.splitP; exact rfl; exact rfl; all_goals (intros; try (exfalso; omega))) | (apply Wl.splitB; exact rfl; exact rfl; all_goals intros) | (apply St.condP; exact rfl; all_goals (intros; try (exfalso; omega))) | (apply St.condB; exact rfl; all_goals intros))
    apply Gt.round (i + 1, w1, v')
    rotate_left
    · simp only; omega
    · (repeat (first | exact Sub.nil | apply Sub.cons rfl))
    · exact fun _ h => h
    refine ⟨hlt, hu.comp u fun j _ hs => hs.elim id fun hs => hs.elim (fun hs => hb.base hs) fun y => (y trivial).elim, ?_⟩
    simp only
    rw [hsum]
    exact Bo.of ho2 rfl rfl
  · have hin' : i = vs.length := by omega
    subst hin'
    repeat' (first | (apply Wl.move; exact rfl; exact rfl) | (apply Wl.assign; exact rfl; exact rfl) | (apply Wl.lss; exact rfl; exact rfl; exact rfl) | (apply Wl.len; exact rfl; exact rfl) | (apply Wl.nil) | (apply St.seq) | (apply St.region) | (apply St.ret) | (apply St.exit) | (apply Gt.next) | (apply Gt.thenExit) | (apply Gt.inExit) | (apply Gt.out1; exact rfl; exact rfl; intro w' hp) | (apply Wl.splitP; exact rfl; exact rfl; all_goals (intros; try (exfalso; omega))) | (apply Wl.splitB; exact rfl; exact rfl; all_goals intros) | (apply St.condP; exact rfl; all_goals (intros; try (exfalso; omega))) | (apply St.condB; exact rfl; all_goals intros))
    rw [hlen, List.take_length] at hb
    exact ⟨_, rfl, hb.upd hp.upd fun _ _ y => y trivial, hu.comp hp.upd fun _ _ hs => hs.elim id fun y => (y trivial).elim⟩
end Go.Proofs.Ytcjikjadajmefaa
