/-
  porticolaw07.light: has a manifest few parts? Conditions: the argument reads as a manifest.
-/
import Derived.Test.YthdojhldiinkcaaRight
namespace Go.Proofs.Ythdojhldiinkcaa
open Go.RowKit Go.Pt

def lightB : Nat → List Py → Bool
  | _, [] => true
  | n, p :: r => if 100 < n + (1 + p.grants.length) then false else lightB (n + (1 + p.grants.length)) r
set_option maxHeartbeats 1000000 in
theorem light_any (v : Value) (m : Mf) (w : World) (hv : MfV w v m) :
    Calls Try.prog 38 #[v] w fun e w' => e = .returned (.bool (lightB 0 m.pays)) ∧ Upd (fun k => w.heap.size ≤ k) w w' := by
  obtain ⟨pv, xs, rfl, hxs, hsv, hpy, hcnt, hkey⟩ := hv
  have hlen : xs.length = m.pays.length := by rw [← hxs, List.length_map]
  have hsv0 := hsv
  obtain ⟨_, ap, cp, rfl, hp1, hp2, _, _⟩ := hsv
  unfold maxLen at hp2
  refine enter (args := [_]) (Γ := [(0, _)]) Try.func38 Try.ntmps38 rfl (of_decide_eq_true rfl) (.cons rfl .nil) ?_
  repeat' (first | (apply Wl.move; exact rfl; exact rfl) | (apply Wl.assign; exact rfl; exact rfl) | (apply Wl.fieldAddrZ; exact rfl; exact rfl) | (apply Wl.loadH; exact rfl; exact rfl; (repeat (first | exact List.Mem.head _ | apply List.Mem.tail)); exact rfl) | (apply Wl.len; exact rfl; exact rfl) | (apply Wl.boxA; exact rfl; exact rfl; intro c hc ho) | (apply Wl.nil) | (apply St.seq) | (apply St.block) | (apply St.region) | (apply Gt.next) | (apply Wl.splitP; exact rfl; exact rfl; all_goals (intros; try (exfalso; omega))) | (apply Wl.splitB; exact rfl; exact rfl; all_goals intros) | (apply St.condP; exact rfl; all_goals (intros; try (exfalso; omega))) | (apply St.condB; exact rfl; all_goals intros))
  refine St.loop (σ := Nat × Nat) (fun τ => τ.1 ≤ xs.length ∧ τ.2 ≤ 100 ∧ lightB 0 m.pays = lightB τ.2 (m.pays.drop τ.1))
    (fun τ => [(3, .int .i64 τ.2), (7, .slice ap xs.length cp), (8, .int .i64 xs.length), (9, .int .i64 τ.1)])
    (fun _ => Hp w []) (fun τ => xs.length - τ.1) (0, 0) ⟨Nat.zero_le _, Nat.zero_le _, rfl⟩ (by (repeat (first | exact Sub.nil | apply Sub.cons rfl))) (fun _ h => h.drop (by simp; omega)) ?_
  rintro ⟨i, n⟩ ⟨hin, hn, hl⟩
  simp only at hin hn hl ⊢
  by_cases hlt : i < xs.length
  · obtain ⟨x, hx⟩ : ∃ x, xs[i]? = some x := ⟨_, List.getElem?_eq_getElem hlt⟩
    obtain ⟨hsg, hdl, hsz, hbi, hca, hgrs, hgl⟩ := hpy x (List.mem_of_getElem? hx)
    have hdrop : m.pays.drop i = x.1 :: m.pays.drop (i + 1) := by
      have h1 : m.pays[i]? = some x.1 := by rw [← hxs, List.getElem?_map, hx]; rfl
      obtain ⟨h2, h3⟩ := List.getElem?_eq_some_iff.1 h1
      rw [List.drop_eq_getElem_cons h2, h3]
    have hpyl : ∀ x ∈ xs, (pyCells x).length = 36 := fun x hx => pyCells_len x (hpy x hx).2.1
    obtain ⟨⟨dig, psz, pbi, gs, pca⟩, gv⟩ := x
    simp only at hsg hdl hsz hbi hca hgrs hdrop hgl
    obtain ⟨d0, d1, d2, d3, d4, d5, d6, d7, d8, d9, d10, d11, d12, d13, d14, d15, d16, d17, d18, d19, d20, d21, d22, d23, d24, d25, d26, d27, d28, d29, d30, d31, rfl⟩ := list32 dig hdl
    obtain ⟨bp, op, cp', hap, _, _⟩ := Sv.some_of hsv0 (fun e => by have := flat36 hpyl hx (j := 0) (by decide); rw [e] at this; simp [pyCells, byteCells] at this)
    simp only [Value.slice.injEq, true_and] at hap
    obtain ⟨rfl, rfl⟩ := hap
    obtain ⟨_, ga, gc, rfl, hg1, hg2, _, _⟩ := hsg
    have hce : ∀ j v, [Value.int .u8 (d0.toNat : Int), .int .u8 (d1.toNat : Int), .int .u8 (d2.toNat : Int), .int .u8 (d3.toNat : Int), .int .u8 (d4.toNat : Int), .int .u8 (d5.toNat : Int), .int .u8 (d6.toNat : Int), .int .u8 (d7.toNat : Int), .int .u8 (d8.toNat : Int), .int .u8 (d9.toNat : Int), .int .u8 (d10.toNat : Int), .int .u8 (d11.toNat : Int), .int .u8 (d12.toNat : Int), .int .u8 (d13.toNat : Int), .int .u8 (d14.toNat : Int), .int .u8 (d15.toNat : Int), .int .u8 (d16.toNat : Int), .int .u8 (d17.toNat : Int), .int .u8 (d18.toNat : Int), .int .u8 (d19.toNat : Int), .int .u8 (d20.toNat : Int), .int .u8 (d21.toNat : Int), .int .u8 (d22.toNat : Int), .int .u8 (d23.toNat : Int), .int .u8 (d24.toNat : Int), .int .u8 (d25.toNat : Int), .int .u8 (d26.toNat : Int), .int .u8 (d27.toNat : Int), .int .u8 (d28.toNat : Int), .int .u8 (d29.toNat : Int), .int .u8 (d30.toNat : Int), .int .u8 (d31.toNat : Int), .int .u32 psz, .int .u32 pbi, .slice ga gs.length gc, .int .i64 pca][j]? = some v → w.cell? ⟨bp, op + (i : Int).toNat * 36 + j, none⟩ = some v := by
      intro j v hj
      have hj36 : j < 36 := (List.getElem?_eq_some_iff.1 hj).1
      have := flat36 hpyl hx hj36
      rw [show op + (i : Int).toNat * 36 + j = op + (i * 36 + j) by omega]
      exact Sv.cellN hsv0 (this.trans hj)
    repeat' (first | (apply Wl.loadAP; exact rfl; exact rfl; exact hce; exact trivial; exact rfl) | (apply Wl.move; exact rfl; exact rfl) | (apply Wl.assign; exact rfl; exact rfl) | (apply Wl.fieldAddrZ; exact rfl; exact rfl) | (apply Wl.loadH; exact rfl; exact rfl; (repeat (first | exact List.Mem.head _ | apply List.Mem.tail)); exact rfl) | (apply Wl.lss; exact rfl; exact rfl; exact rfl) | (apply Wl.gtr; exact rfl; exact rfl; exact rfl) | (apply Wl.addI; exact rfl; exact rfl; exact rfl; (constructor <;> omega)) | (apply Wl.len; exact rfl; exact rfl) | (apply Wl.storeA; exact rfl; exact rfl; exact rfl; exact rfl; (repeat (first | apply HSet.here | apply HSet.there)); (repeat (first | apply LPut.s | apply LPut.z | apply LOver.nil | apply LOver.cons))) | (apply Wl.alloc; exact rfl; intro c hc ho) | (apply Wl.indexAddr; exact rfl; exact rfl; exact rfl; (constructor <;> omega)) | (apply Wl.nil) | (apply St.seq) | (apply St.block) | (apply St.region) | (apply St.ret) | (apply St.skip) | (apply Gt.next) | (apply Gt.thenRet) | (apply Gt.inNormal) | (apply Gt.inRet) | (apply Gt.out1; exact rfl; exact rfl; intro w' hp) | (apply Wl.splitP; exact rfl; exact rfl; all_goals (intros; try (exfalso; omega))) | (apply Wl.splitB; exact rfl; exact rfl; all_goals intros) | (apply St.condP; exact rfl; all_goals (intros; try (exfalso; omega))) | (apply St.condB; exact rfl; all_goals intros))
    · exact ⟨by rw [hl, hdrop]; simp only [lightB]; rw [if_pos (by omega)], (hp.drop (by simp; omega)).upd.mono fun _ _ y => (y trivial).elim⟩
    · apply Gt.round (i + 1, n + (1 + gs.length))
      rotate_left
      · simp only; omega
      · refine .cons' rfl (congrArg (Value.int .i64) (by omega)) (.cons rfl (.cons rfl (.cons rfl .nil)))
      · exact fun u hu => hu.drop (by simp; omega)
      · refine ⟨hlt, by simp only; omega, ?_⟩
        simp only
        rw [hl, hdrop]; simp only [lightB]; rw [if_neg (by omega)]
  · have hin' : i = xs.length := by omega
    subst hin'
    rw [hlen, List.drop_length] at hl
    repeat' (first | (apply Wl.assign; exact rfl; exact rfl) | (apply Wl.lss; exact rfl; exact rfl; exact rfl) | (apply Wl.nil) | (apply St.seq) | (apply St.region) | (apply St.ret) | (apply St.exit) | (apply Gt.next) | (apply Gt.thenExit) | (apply Gt.inExit) | (apply Gt.out1; exact rfl; exact rfl; intro w' hp) | (apply Wl.splitP; exact rfl; exact rfl; all_goals (intros; try (exfalso; omega))) | (apply Wl.splitB; exact rfl; exact rfl; all_goals intros) | (apply St.condP; exact rfl; all_goals (intros; try (exfalso; omega))) | (apply St.condB; exact rfl; all_goals intros))
    exact ⟨by rw [hl]; rfl, hp.upd.mono fun _ _ y => (y trivial).elim⟩
end Go.Proofs.Ythdojhldiinkcaa
