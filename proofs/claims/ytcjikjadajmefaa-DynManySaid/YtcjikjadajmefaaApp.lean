/-
  append onto a slice that is full: a new block; a slice compared with nil. Conditions: what comes of it is no more than a machine holds.
-/
import Derived.Test.YtcjikjadajmefaaRul
import Derived.ArgAppend
import Derived.Lib.SliceRun
namespace Go.Pt
theorem Wl.appendG {P : Program} {N : Nat} {ops : Array Oper} {rest : List Oper} {Γ : Env} {Q : Exit → Act → World → Prop} {d : Nat} {ty : TypeId} {pos : String} {af : Array Edge} {w0 : World} {H : List Blk} {t e sz by_ n m cap c : Nat} {z : Value} {olds news : List Value} {b ad : Addr} {s x : Operand} [ht : TyD P t (.slice e)] [hs : TyS P e sz by_] [hz : TyZ P e z]
    (hd : Nat.blt d N = true) (hs' : ev Γ s = some (.slice (some b) n cap)) (hx : ev Γ x = some (.slice (some ad) m c)) (hlo : olds.length = n * sz) (holds : ∀ w, Hp w0 H w → ∀ j u, olds[j]? = some u → w.cell? (b.add j) = some u)
    (hl : news.length = m * sz) (hnews : ∀ w, Hp w0 H w → ∀ j u, news[j]? = some u → w.cell? (ad.add j) = some u) (hg : cap < n + m) (hzs : z.cells.size = sz) (hsz : 0 < sz) (h63 : n + m ≤ maxLen) (hb : (n + m) * by_ ≤ 140737488355328)
    (h : ∀ v' w1, w1.ownsRow w0.heap.size e sz v' (n + m) (olds ++ news) → Hp w0 H w1 → (∀ k, v'.ownBlock = some k → Off H k) → Wl rest P .seq ops N ((d, v') :: Γ) (Hp w1 H) Q) :
    Wl (⟨some d, .call { callee := .builtin .append, args := #[s, x], argTypes := #[t, t] }, ty, pos, af, none⟩ :: rest) P .seq ops N Γ (Hp w0 H) Q :=
  Wl.eff fun a w ha hw => by
    obtain ⟨i, hi, hsz'⟩ := Option.map_eq_some_iff.1 hs.out
    have hzi : i.zero = some z := by have := hz.out; rw [hi] at this; exact this
    simp only [Prod.mk.injEq] at hsz'
    obtain ⟨v', w', hrun, ho, hgr⟩ := run_append_arg_grows (P := P) w t ty e i z sz by_ ht.out hi hzi hsz'.1 hsz'.2 hzs hsz b n cap olds hlo (holds w hw) ad m c news hl (hnews w hw) hg h63 hb
    have u : Upd (fun _ => False) w w' := Upd.grown hgr fun k hk => by cases hk
    have hw' : Hp w0 H w' := hw.step u (fun _ _ x => x) fun _ _ x => x.elim
    have ho' : w'.ownsRow w0.heap.size e sz v' (n + m) (olds ++ news) := by
      obtain ⟨h1, h2⟩ := ho
      refine ⟨h1, ?_⟩
      rcases h2 with h2 | ⟨g, cap', cur, e1, hb', hx'⟩
      · exact .inl h2
      · exact .inr ⟨g, cap', cur, e1, Nat.le_trans hw.upd.size hb', hx'⟩
    refine ⟨v', w', .inl ?_, (h v' w' ho' hw' fun k hk => ?_).elim _ _ (ha.put hd _) hw'.rebase⟩
    · simp [execOp, resolve, invoke, builtin, ha.ev hs', ha.ev hx, hrun]
    · have := (ho.lt k hk).1
      exact Off.of fun y hy e => by have := hw.own.lt hy; omega
theorem run_eql_nils {P : Program} {w : World} {t e : TypeId} (h : P.underlying t = some (.slice e)) (a : Option Addr) (n c : Nat) : (binOp .eql t (.slice a n c) (.slice none 0 0)).run P w = .ok (.bool a.isNone) w := by
  simp only [binOp]
  simp [Op.equal, Op.maxDepth, Go.Lib.run_equalIn_slice_nil w 9999 t e a n c 0 0 h]
section
variable {P : Program} {md : Md} {N : Nat} {ops : Array Oper} {rest : List Oper} {Γ : Env} {C : World → Prop} {Q : Exit → Act → World → Prop} {d : Nat} {ty : TypeId} {pos : String} {af : Array Edge} {t e : TypeId} {x y : Operand} {u : TypeId}
theorem Wl.eqlSN [ht : TyD P t (.slice e)] {a : Addr} {n c : Nat} (hd : Nat.blt d N = true) (hx : ev Γ x = some (.slice (some a) n c)) (hy : ev Γ y = some (.slice none 0 0)) (h : Wl rest P md ops N ((d, .bool false) :: Γ) C Q) : Wl (⟨some d, .binOp .eql t x y u, ty, pos, af, none⟩ :: rest) P md ops N Γ C Q :=
  Wl.val hd (fun a w ha _ => by simp only [execOp, ha.ev hx, ha.ev hy, eqGuard_at_slice, pure_bind, Sem.run_bind, run_eql_nils ht.out]; rfl) h
theorem Wl.eqlSZ [ht : TyD P t (.slice e)] (hd : Nat.blt d N = true) (hx : ev Γ x = some (.slice none 0 0)) (hy : ev Γ y = some (.slice none 0 0)) (h : Wl rest P md ops N ((d, .bool true) :: Γ) C Q) : Wl (⟨some d, .binOp .eql t x y u, ty, pos, af, none⟩ :: rest) P md ops N Γ C Q :=
  Wl.val hd (fun a w ha _ => by simp only [execOp, ha.ev hx, ha.ev hy, eqGuard_at_slice, pure_bind, Sem.run_bind, run_eql_nils ht.out]; rfl) h
end
end Go.Pt
