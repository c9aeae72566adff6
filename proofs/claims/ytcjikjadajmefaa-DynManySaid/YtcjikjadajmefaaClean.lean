/-
  Blocks told apart by what they hold: blocks without bytes and without segments are not those of a slice that reads as bytes or as segments. A call through a function's value.
-/
import Derived.Test.YtcjikjadajmefaaDynL
import Derived.Test.YtcjikjadajmefaaMap
import Derived.Test.YtcjikjadajmefaaNum
import Derived.Test.YtcjikjadajmefaaTree
namespace Go.Pt
open Go.RowKit
def noU8 : List Value → Bool
  | [] => true
  | .int .u8 _ :: _ => false
  | _ :: r => noU8 r
def noSg : List Value → Bool
  | .slice _ _ _ :: .int .u32 _ :: _ => false
  | _ :: r => noSg r
  | [] => true
/-- no two integers ahead of a slice -/
def noSr : List Value → Bool
  | .int .i64 _ :: .int .i64 _ :: .slice _ _ _ :: _ => false
  | _ :: r => noSr r
  | [] => true
def cleanR (H : List Blk) : Bool := H.all fun y => noU8 y.cs && noSr y.cs
def clean (H : List Blk) : Bool := H.all fun y => noU8 y.cs && noSg y.cs
theorem noU8_get {l : List Value} (h : noU8 l = true) {i : Nat} {x : Int} (hi : l[i]? = some (.int .u8 x)) : False := by
  induction l generalizing i with
  | nil => simp at hi
  | cons a r ih =>
    cases i with
    | zero =>
      simp only [List.getElem?_cons_zero, Option.some.injEq] at hi
      subst hi
      simp [noU8] at h
    | succ i =>
      rw [List.getElem?_cons_succ] at hi
      refine ih ?_ hi
      unfold noU8 at h
      split at h
      · simp at *
      · cases h
      · rename_i e; cases e; exact h
theorem noSg_get {l : List Value} (h : noSg l = true) {i : Nat} {a : Option Addr} {n c : Nat} {x : Int} (hi : l[i]? = some (.slice a n c)) (hj : l[i + 1]? = some (.int .u32 x)) : False := by
  induction l generalizing i with
  | nil => simp at hi
  | cons b r ih =>
    cases i with
    | zero =>
      simp only [List.getElem?_cons_zero, Option.some.injEq] at hi
      subst hi
      rw [List.getElem?_cons_succ] at hj
      cases r with
      | nil => simp at hj
      | cons d r =>
        simp only [List.getElem?_cons_zero, Option.some.injEq] at hj
        subst hj
        simp [noSg] at h
    | succ i =>
      rw [List.getElem?_cons_succ] at hi hj
      refine ih ?_ hi hj
      unfold noSg at h
      split at h
      · cases h
      · rename_i e; cases e; exact h
      · simp at *
theorem noSr_get {l : List Value} (h : noSr l = true) {i : Nat} {a : Option Addr} {n c : Nat} {x y : Int} (hx : l[i]? = some (.int .i64 x)) (hy : l[i + 1]? = some (.int .i64 y)) (hz : l[i + 2]? = some (.slice a n c)) : False := by
  induction l generalizing i with
  | nil => simp at hx
  | cons b r ih =>
    cases i with
    | zero =>
      simp only [List.getElem?_cons_zero, Option.some.injEq] at hx
      subst hx
      rw [List.getElem?_cons_succ] at hy hz
      cases r with
      | nil => simp at hy
      | cons d r =>
        simp only [List.getElem?_cons_zero, Option.some.injEq] at hy
        subst hy
        rw [List.getElem?_cons_succ] at hz
        cases r with
        | nil => simp at hz
        | cons f r =>
          simp only [List.getElem?_cons_zero, Option.some.injEq] at hz
          subst hz
          simp [noSr] at h
    | succ i =>
      rw [List.getElem?_cons_succ] at hx hy hz
      refine ih ?_ hx hy hz
      unfold noSr at h
      split at h
      · cases h
      · rename_i e; cases e; exact h
      · simp at *
theorem cleanR_mem {H : List Blk} (h : cleanR H = true) {y : Blk} (hy : y ∈ H) : noU8 y.cs = true ∧ noSr y.cs = true := by
  have := List.all_eq_true.1 h y hy
  simpa using this
theorem clean_mem {H : List Blk} (h : clean H = true) {y : Blk} (hy : y ∈ H) : noU8 y.cs = true ∧ noSg y.cs = true := by
  have := List.all_eq_true.1 h y hy
  simpa using this
theorem Bs.off {w : World} {v : Value} {l : List UInt8} {H : List Blk} (h : Bs w v l) (hne : l ≠ []) (ho : Own w H) (hc : clean H = true) {k : Nat} (hk : v.ownBlock = some k) : Off H k := by
  obtain ⟨a, cap, rfl, _, _⟩ := h.shape
  obtain ⟨b, off, rfl, hcell⟩ := h.cells hne
  have h0 := hcell 0 (List.length_pos_iff.2 hne)
  have : b = k := by simpa [Value.ownBlock] using hk
  subst this
  refine Off.of fun y hy e => ?_
  have hm := ho.at hy
  rw [e] at hm
  rw [cellAt hm] at h0
  exact noU8_get (clean_mem hc hy).1 (by simpa using h0)
theorem Bs.offR {w : World} {v : Value} {l : List UInt8} {H : List Blk} (h : Bs w v l) (hne : l ≠ []) (ho : Own w H) (hc : cleanR H = true) {k : Nat} (hk : v.ownBlock = some k) : Off H k := by
  obtain ⟨a, cap, rfl, _, _⟩ := h.shape
  obtain ⟨b, off, rfl, hcell⟩ := h.cells hne
  have h0 := hcell 0 (List.length_pos_iff.2 hne)
  have : b = k := by simpa [Value.ownBlock] using hk
  subst this
  refine Off.of fun y hy e => ?_
  have hm := ho.at hy
  rw [e] at hm
  rw [cellAt hm] at h0
  exact noU8_get (cleanR_mem hc hy).1 (by simpa using h0)
theorem Bs.stayR {wz wq : World} {v : Value} {l : List UInt8} {H : List Blk} {S : Nat → Prop} (h : Bs wz v l) (ho : Own wz H) (hc : cleanR H = true) (u : Upd S wz wq) (hs : ∀ k, k < wz.heap.size → Off H k → ¬ S k) : Bs wq v l :=
  h.upd u fun k hk hlt hne => hs k hlt (h.offR hne ho hc hk)
theorem Hp.trans {a b c : World} {H : List Blk} (h : Hp a H b) (k : Hp b H c) : Hp a H c := ⟨h.upd.trans k.upd, k.own, k.apart⟩
theorem Bs.stayU {wz wq : World} {v : Value} {l : List UInt8} {H : List Blk} {S : Nat → Prop} (h : Bs wz v l) (ho : Own wz H) (hc : clean H = true) (u : Upd S wz wq) (hs : ∀ k, k < wz.heap.size → Off H k → ¬ S k) : Bs wq v l :=
  h.upd u fun k hk hlt hne => hs k hlt (h.off hne ho hc hk)
theorem Bs.stay {wz wq : World} {v : Value} {l : List UInt8} {H H' : List Blk} (h : Bs wz v l) (ho : Own wz H) (hc : clean H = true) (hq : Hp wz H' wq) (hs : ∀ k, k < wz.heap.size → Off H k → Off H' k) : Bs wq v l :=
  h.upd hq.upd fun k hk hlt hne hn => hn (hs k hlt (h.off hne ho hc hk))
section
variable {P : Program} {ops : Array Oper} {N : Nat} {rest : List Oper} {Γ : Env} {C : World → Prop} {Q : Exit → Act → World → Prop} {d : Nat} {ty : TypeId} {pos : String} {af : Array Edge}
theorem exec_callV {f : FuncId} [hE : Ent P f] {a : Act} {w : World} {N : Nat} {Γ : Env} (ha : Fr N a Γ) {x : Operand} (hf : ev Γ x = some (.func (.func f) #[] #[])) {d : Option Nat} {xs : Array Operand} {vs : List Value} {ts : Array TypeId} {ty : TypeId} {pos : String} {af : Array Edge} {g : Option (Nat × Bool)} (hx : Evs Γ xs.toList vs) :
    (execOp a.eval ⟨d, .call { callee := .value x, args := xs, argTypes := ts }, ty, pos, af, g⟩).run P w = .ok (.enter f vs.toArray) w := by
  have e : xs.map a.eval = vs.toArray := by
    obtain ⟨l⟩ := xs
    simp only [List.map_toArray]
    exact congrArg _ (hx.map ha)
  simp [execOp, resolve, e, ha.ev hf, Deferred.ofValue, invoke, hE.out]
/-- a call through a function's value -/
theorem Wl.callVC {f : FuncId} {x : Operand} {xs : Array Operand} {vs : List Value} {ts : Array TypeId} (hd : Nat.blt d N = true) (hf : ev Γ x = some (.func (.func f) #[] #[])) (_hE : Ent P f) (hx : Evs Γ xs.toList vs)
    (h : ∀ w, C w → Calls P f vs.toArray w fun e w' => ∃ v C', e = .returned v ∧ C' w' ∧ Wl rest P .seq ops N ((d, v) :: Γ) C' Q) :
    Wl (⟨some d, .call { callee := .value x, args := xs, argTypes := ts }, ty, pos, af, none⟩ :: rest) P .seq ops N Γ C Q := Wl.intro fun a w ha hw => by
  refine wpList_plain rfl fun K hK => ?_
  simp only [Oper.wp, exec_callV ha hf hx, Oper.upon]
  refine (h w hw).mono ?_
  rintro e w' ⟨v, C', rfl, hC, h⟩
  exact hK _ _ (h.elim _ _ (ha.put hd _) hC)
theorem Wl.max2 {md : Md} {x y : Operand} {t u : TypeId} {k : IntKind} {m n : Int}
    (hd : Nat.blt d N = true) (hx : ev Γ x = some (.int k m)) (hy : ev Γ y = some (.int k n)) (h : Wl rest P md ops N ((d, .int k (if m < n then n else m)) :: Γ) C Q) :
    Wl (⟨some d, .call { callee := .builtin .max, args := #[x, y], argTypes := #[t, u] }, ty, pos, af, none⟩ :: rest) P md ops N Γ C Q :=
  Wl.val hd (fun a w ha _ => by simp [execOp, resolve, invoke, builtin, Builtin.max_, Builtin.max2, ha.ev hx, ha.ev hy]; try (split <;> simp_all)) h
end
end Go.Pt
namespace Go.Proofs.Ytcjikjadajmefaa
open Go.RowKit Go.Pt
theorem SegsP.stayU {wz wq : World} {v : Value} {l : List Sg} {H : List Blk} {S : Nat → Prop} (h : SegsP wz v l) (ho : Own wz H) (hc : clean H = true) (u : Upd S wz wq) (hs : ∀ k, k < wz.heap.size → Off H k → ¬ S k) : SegsP wq v l := by
  obtain ⟨xs, hxs, hsv, hb⟩ := h
  refine ⟨xs, hxs, hsv.upd u fun k hk hlt hne => hs k hlt ?_, fun x hx => (hb x hx).stayU ho hc u hs⟩
  obtain ⟨_, a, cap, rfl, _, _, _, hcell⟩ := hsv
  obtain ⟨b, off, rfl, hcl⟩ := hcell hne
  have : b = k := by simpa [Value.ownBlock] using hk
  subst this
  cases xs with
  | nil => exact (hne rfl).elim
  | cons x xs =>
    obtain ⟨s, y⟩ := x
    obtain ⟨ya, yc, hy, _, _⟩ := (hb _ (List.Mem.head _)).shape
    simp only at hy
    subst hy
    have h1 := hcl 1 (by simp [sgP])
    have h2 := hcl 2 (by simp [sgP])
    refine Off.of fun z hz e => ?_
    have hm := ho.at hz
    rw [e] at hm
    rw [cellAt hm] at h1 h2
    refine noSg_get (clean_mem hc hz).2 (i := off + 1) (a := ya) (n := s.bytes.length) (c := yc) (x := s.size) ?_ ?_
    · simpa [sgP] using h1
    · simpa [sgP] using h2
theorem SegsP.stay {wz wq : World} {v : Value} {l : List Sg} {H H' : List Blk} (h : SegsP wz v l) (ho : Own wz H) (hc : clean H = true) (hq : Hp wz H' wq) (hs : ∀ k, k < wz.heap.size → Off H k → Off H' k) : SegsP wq v l :=
  h.stayU ho hc hq.upd fun k hk h y => y (hs k hk h)
theorem SegsR.stayU {wz wq : World} {v : Value} {l : List Sg} {H : List Blk} {S : Nat → Prop} (h : SegsR wz v l) (ho : Own wz H) (hc : cleanR H = true) (u : Upd S wz wq) (hs : ∀ k, k < wz.heap.size → Off H k → ¬ S k) : SegsR wq v l := by
  obtain ⟨xs, hxs, hsv, hb⟩ := h
  refine ⟨xs, hxs, hsv.upd u fun k hk hlt hne => hs k hlt ?_, fun x hx => (hb x hx).stayR ho hc u hs⟩
  obtain ⟨_, a, cap, rfl, _, _, _, hcell⟩ := hsv
  obtain ⟨b, off, rfl, hcl⟩ := hcell hne
  have : b = k := by simpa [Value.ownBlock] using hk
  subst this
  cases xs with
  | nil => exact (hne rfl).elim
  | cons x xs =>
    obtain ⟨s, y⟩ := x
    obtain ⟨ya, yc, hy, _, _⟩ := (hb _ (List.Mem.head _)).shape
    simp only at hy
    subst hy
    have h1 := hcl 1 (by simp [sgR])
    have h2 := hcl 2 (by simp [sgR])
    have h3 := hcl 3 (by simp [sgR])
    refine Off.of fun z hz e => ?_
    have hm := ho.at hz
    rw [e] at hm
    rw [cellAt hm] at h1 h2 h3
    refine noSr_get (cleanR_mem hc hz).2 (i := off + 1) (a := ya) (n := s.bytes.length) (c := yc) (x := s.size) (y := s.rights) ?_ ?_ ?_
    · simpa [sgR] using h1
    · simpa [sgR] using h2
    · simpa [sgR] using h3
theorem SegsR.stay {wz wq : World} {v : Value} {l : List Sg} {H H' : List Blk} (h : SegsR wz v l) (ho : Own wz H) (hc : cleanR H = true) (hq : Hp wz H' wq) (hs : ∀ k, k < wz.heap.size → Off H k → Off H' k) : SegsR wq v l :=
  h.stayU ho hc hq.upd fun k hk h y => y (hs k hk h)
end Go.Proofs.Ytcjikjadajmefaa
