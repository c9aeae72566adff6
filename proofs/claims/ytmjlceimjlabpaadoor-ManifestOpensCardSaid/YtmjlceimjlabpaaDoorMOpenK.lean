/-
 An argument of strings,read off the row's own reading. Conditions: the argument reads.
-/
import Derived.Test.YtmjlceimjlabpaaDoorMOpen2
namespace Go.Proofs.YtmjlceimjlabpaaDoor
open Go.RowKit Go.Pt Go.ChangeShapes Go.WideShapes Go.ChangeAt
/-- v is a slice of the strings ks -/
def Ks (w : World) (v : Value) (ks : List ByteArray) : Prop := Sv w 1 ks.length v (ks.map .string)
theorem open_strs {H : Type} {enc : TypeId × Value → H} {w : World} {v : Value} (h : Tr enc Tryd.prog w 23 [v]) : ∃ ks,Ks w v ks := by
 obtain ⟨es,v',e,hsv,hes,hwt⟩ := h.slice Tryd.underlying23 (sz := 1) (by kernel_rfl) (by decide)
 simp only [List.cons.injEq,and_true] at e
 subst e
 have : ∃ ks : List ByteArray,es.flatten = ks.map .string ∧ es.length = ks.length := by
  clear hsv hwt
  induction es with
  | nil => exact ⟨[],rfl,rfl⟩
  | cons c r ih =>
   obtain ⟨ks,h1,h2⟩ := ih fun c hc => hes c (by simp [hc])
   obtain ⟨fuel,x,hf,_⟩ := (hes c (by simp)).2
   obtain ⟨s,h3,_⟩ := DataW.trod_string Tryd.underlying9 hf
   exact ⟨s :: ks,by rw [List.flatten_cons,h3,h1];rfl,by simp [h2]⟩
 obtain ⟨ks,h1,h2⟩ := this
 rw [h1,h2] at hsv
 exact ⟨ks,hsv⟩
end Go.Proofs.YtmjlceimjlabpaaDoor
