/- Helpers: a text put together; the bytes of a text from numbers; loops over a list. -/
import Derived.Test.YtohafoihegjlnaaMr
set_option linter.unusedVariables false
set_option linter.unusedSimpArgs false
namespace Go.Proofs.Ytohafoihegjlnaa.Pure
open Go.RowKit Go.Proofs.Ytohafoihegjlnaa.P Go.Proofs.YtohafoihegjlnaaW.PrintWords Go.Proofs.YtohafoihegjlnaaW.PrintLast

theorem ev_pos {α : Type} {c : Prop} [Decidable c] (h : c) {f g : Nat → Option α} {r : α} (x : Ev f r) : Ev (fun k => if c then f k else g k) r := by
  simpa only [if_pos h] using x
theorem ev_neg {α : Type} {c : Prop} [Decidable c] (h : ¬ c) {f g : Nat → Option α} {r : α} (x : Ev g r) : Ev (fun k => if c then f k else g k) r := by
  simpa only [if_neg h] using x
theorem ev_some {α β : Type} {a : α} {f : Nat → α → Option β} {r : β} (x : Ev (fun k => f k a) r) : Ev (fun k => (some a).bind (f k)) r := Ev.bind (Ev.now a) x
theorem bytesOf_app (s t : ByteArray) : bytesOf (s ++ t) = bytesOf s ++ bytesOf t := by
  unfold bytesOf
  rw [ByteArray.data_append, Array.toList_append, List.map_append]
theorem size_app (s t : ByteArray) : (s ++ t).size = s.size + t.size := ByteArray.size_append
theorem dec_app (s t : List Int) (h : (dec s).2 = 0) : (dec (s ++ t)).1 = (dec s).1 ++ (dec t).1 ∧ (dec (s ++ t)).2 = (dec t).2 := by
  have hs := run_dec _ s (Nat.le_refl _) 0 0 0 0
  have hst := run_dec _ (s ++ t) (Nat.le_refl _) 0 0 0 0
  rw [prun_append] at hst
  rw [h] at hs
  obtain ⟨m, r, lo, hi, e⟩ : ∃ m r lo hi, (prun (0, 0, 0, 0, 0) s).2 = ((0 : Int), m, r, lo, hi) := by
    have h2 := hs.2
    generalize (prun (0, 0, 0, 0, 0) s).2 = q at h2
    obtain ⟨a, m, r, lo, hi⟩ := q
    exact ⟨m, r, lo, hi, by rw [show a = 0 from h2]⟩
  rw [e] at hst
  have ht := run_dec _ t (Nat.le_refl _) m r lo hi
  refine ⟨?_, ?_⟩
  · rw [← hst.1]
    show _ ++ _ = _
    rw [hs.1, ht.1]
  · have := hst.2
    dsimp only at this
    rw [ht.2] at this
    omega
theorem alls_app (s t : List Int) (h : (dec s).2 = 0) : alls (s ++ t) = alls s ++ alls t := by
  obtain ⟨h1, h2⟩ := dec_app s t h
  unfold alls
  rw [h1, h2, if_pos h]
  simp
end Go.Proofs.Ytohafoihegjlnaa.Pure
