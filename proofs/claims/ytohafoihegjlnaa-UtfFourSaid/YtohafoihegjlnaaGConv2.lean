/- A row that bears the mark of a conversion ('Kd.Y'): written, and made a string again. -/
import Derived.Test.YtohafoihegjlnaaGConv
set_option linter.unusedVariables false
set_option linter.unusedSimpArgs false
namespace Go.Proofs.YtohafoihegjlnaaW.PrintWords
open Go.RowKit
namespace Kd
section
variable {d : Kd Int} {e : Nat} {w W w1 : World} {base base' : Nat} {ok ok' : Nat → Prop} {v u : Value} {xs : List Int} {g : Nat} {n cap : Nat}
theorem Y_form (h : Y d e w base ok v xs) (hp : 0 < xs.length) : ∃ g cap, v = .slice (some ⟨g, 0, none⟩) xs.length cap ∧ base ≤ g ∧ g < w.heap.size ∧ ∃ cells, w.heap[g]? = some (.cells cells e (cells.size, cells.size + 1)) := by
  obtain ⟨_, _, g, cap, cur, h2, h3, h4, _⟩ := h
  exact ⟨g, cap, h2, h3, blk_lt h4, cur, h4⟩
theorem Y_celln (z : Int) (h : Y d e W base ok (.slice (some ⟨g, 0, none⟩) n cap) xs) (i : Int) (h0 : 0 ≤ i) (hi : i < n) : W.cell? ⟨g, i.toNat, none⟩ = some (.int .u8 (rdOf z xs i)) ∧ W.frozen? ⟨g, i.toNat, none⟩ = false := by
  obtain ⟨_, _, g', cap', cur, h2, h3, h4, h5, h6, h7, h8⟩ := h
  injection h2 with e1 e2 e3
  injection e1 with e1
  injection e1 with e1
  subst e1
  have hj : i.toNat < xs.length := by omega
  have hc : cur[i.toNat]? = some (.int .u8 (xs.getD i.toNat z)) := by
    have := congrArg (·[i.toNat]?) h8
    simp only [List.getElem?_take, if_pos hj, nums, List.getElem?_map, Array.getElem?_toList] at this
    rw [this]
    simp [List.getD_eq_getElem?_getD, List.getElem?_eq_getElem hj]
  refine ⟨?_, ?_⟩
  · simp [World.cell?, h4, hc, rdOf]
  · simp [World.frozen?, h4]
    omega
theorem Y_putg (h : Y d e W base ok (.slice (some ⟨g, 0, none⟩) n cap) xs) (i : Int) (x : Int) : Y d e (W.setCell ⟨g, i.toNat, none⟩ (.int .u8 x)) base ok (.slice (some ⟨g, 0, none⟩) n cap) (xs.set i.toNat x) ∧ W.grownBy (W.setCell ⟨g, i.toNat, none⟩ (.int .u8 x)) (some g) := by
  obtain ⟨h0, h1, g', cap', cur, h2, h3, h4, h5, h6, h7, h8⟩ := h
  injection h2 with e1 e2 e3
  injection e1 with e1
  injection e1 with e1
  subst e1 e2 e3
  refine ⟨⟨h0, h1, g, cap, cur.setIfInBounds i.toNat (.int .u8 x), by rw [List.length_set], h3, ?_, by rw [List.length_set]; exact h5, by rw [List.length_set, Array.size_setIfInBounds]; exact h6, by rw [List.length_set]; exact h7, ?_⟩, ⟨rfl, rfl, rfl, ?_, fun k hk hne => ?_⟩⟩
  · simp [World.setCell, Array.getElem?_modify, h4]
  · rw [List.length_set, Array.toList_setIfInBounds, List.take_set, h8]
    simp [nums, List.map_set]
  · simp [World.setCell]
  · exact Below.heap_setCell W ⟨g, i.toNat, none⟩ _ k (fun e => hne (by rw [e]))
theorem Y_string {P : Program} {src dst e' : TypeId} (hs : P.underlying src = some (.slice e')) (he : P.underlying e' = some (.int .u8)) (hd : P.underlying dst = some .string)
    (h : Y d e w base ok v xs) : (convert src dst v).run P w = .ok (.string (strOfNums xs)) w := by
  obtain ⟨A, c, rfl⟩ := Y_slice h
  exact string_of_reads hs he hd (Y_readsInt h).2.2
end
end Kd
end Go.Proofs.YtohafoihegjlnaaW.PrintWords
