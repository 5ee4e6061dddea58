/- Helpers for UtfParts alone. -/
import Derived.Test.YtohafoihegjlnaaMCa
set_option linter.unusedVariables false
set_option linter.unusedSimpArgs false
namespace Go.Proofs.Ytohafoihegjlnaa.Pure
open Go.RowKit Go.Proofs.Ytohafoihegjlnaa.C Go.Proofs.YtohafoihegjlnaaW.PrintWords Go.Proofs.YtohafoihegjlnaaW.PrintLast
theorem ev_pos {α : Type} {c : Prop} [Decidable c] (h : c) {f g : Nat → Option α} {r : α} (x : Ev f r) : Ev (fun k => if c then f k else g k) r := by
  simpa only [if_pos h] using x
theorem ev_neg {α : Type} {c : Prop} [Decidable c] (h : ¬ c) {f g : Nat → Option α} {r : α} (x : Ev g r) : Ev (fun k => if c then f k else g k) r := by
  simpa only [if_neg h] using x
theorem ev_some {α β : Type} {a : α} {f : Nat → α → Option β} {r : β} (x : Ev (fun k => f k a) r) : Ev (fun k => (some a).bind (f k)) r := Ev.bind (Ev.now a) x
theorem bytesOf_extract (s : ByteArray) (i j : Nat) : bytesOf (s.extract i j) = ((bytesOf s).take j).drop i := by
  unfold bytesOf
  rw [ByteArray.data_extract, Array.toList_extract, List.extract_eq_take_drop, List.drop_take, List.map_take, List.map_drop]
end Go.Proofs.Ytohafoihegjlnaa.Pure
