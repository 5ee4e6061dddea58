/- Helpers: an argument that is a slice of cells, opened. -/
import Derived.Test.YtohafoihegjlnaaPx1
import Derived.Deep.Strs
import Derived.ChangeSlices
import Derived.DataElems
set_option linter.unusedVariables false
set_option linter.unusedSimpArgs false
namespace Go.Proofs.Ytohafoihegjlnaa.Pure
open Go.ChangeShapes Go.WideShapes Go.RowKit Go.Proofs.Ytohafoihegjlnaa.P Go.Proofs.YtohafoihegjlnaaW.PrintWords Go.Proofs.YtohafoihegjlnaaW.PrintLast

theorem list_of {α : Type} {Q : Nat → α → Prop} : ∀ n : Nat, (∀ i, i < n → ∃ z, Q i z) → ∃ l : List α, l.length = n ∧ ∀ i z, l[i]? = some z → Q i z
  | 0, _ => ⟨[], rfl, fun i z h => by simp at h⟩
  | n + 1, h => by
    obtain ⟨l, hl, hq⟩ := list_of n (fun i hi => h i (by omega))
    obtain ⟨z, hz⟩ := h n (by omega)
    refine ⟨l ++ [z], by simp [hl], fun i x hx => ?_⟩
    by_cases c : i < n
    · exact hq i x (by rwa [List.getElem?_append_left (by omega)] at hx)
    · rw [List.getElem?_append_right (by omega)] at hx
      by_cases e : i = n
      · subst e
        rw [hl, Nat.sub_self] at hx
        simp at hx
        subst hx
        exact hz
      · obtain ⟨j, hj⟩ : ∃ j, i - l.length = j + 1 := ⟨i - l.length - 1, by omega⟩
        rw [hj] at hx
        simp at hx

section
variable {H : Type} {enc : TypeId × Value → H} {w : World} {base : Nat} {spare : Nat → Bool} {held : Bool}
theorem open_cells {fuel : Nat} {cs : List Value} {x : DataW H × List MemPlace} (h : DataW.trod enc Try.prog w base spare held fuel 46 cs = some x) :
    cs = [.slice none 0 0] ∨ ∃ (a : Addr) (len cap : Nat) (zs : List S49), cs = [.slice (some a) len cap] ∧ len ≤ cap ∧ cap ≤ maxLen ∧ zs.length = len ∧
      (∀ i z, zs[i]? = some z → w.cells? base (a.add (i * 3)) 3 = some [.int .i32 z.f0, .int .i64 z.f1, .int .i64 z.f2] ∧ (Lit.int .i32 z.f0).wf = true ∧ (Lit.int .i64 z.f1).wf = true ∧ (Lit.int .i64 z.f2).wf = true) := by
  have hc : Try.prog.cellsOf 49 = 3 := by kernel_rfl
  have hc21 : Try.prog.cellsOf 21 = 1 := by kernel_rfl
  have hc3 : Try.prog.cellsOf 3 = 1 := by kernel_rfl
  rcases DataW.trod_slice (e := 49) Try.underlying46 h with ⟨h0, _⟩ | ⟨a, len, cap, elems, rest, n, _, rfl, _, hb, hl, hm, hlen, hel, _, _⟩
  · exact .inl h0
  right
  have each : ∀ i, i < len → ∃ z : S49, w.cells? base (a.add (i * 3)) 3 = some [.int .i32 z.f0, .int .i64 z.f1, .int .i64 z.f2] ∧ (Lit.int .i32 z.f0).wf = true ∧ (Lit.int .i64 z.f1).wf = true ∧ (Lit.int .i64 z.f2).wf = true := by
    intro i hi
    have he := hel i hi
    rw [List.getElem?_eq_getElem (by omega), hc, Option.bind_eq_some_iff] at he
    obtain ⟨cs', hcs, hy⟩ := he
    obtain ⟨y0, y1, y2, m, _, hn, h0, h1, h2⟩ := Go.Deep.trod_struct3 Try.underlying49 hy
    rw [hc] at hn
    match cs', hn with
    | [c0, c1, c2], _ =>
      simp only [hc21, hc3, List.drop_zero, List.take_succ_cons, List.take_zero, List.drop_succ_cons] at h0 h1 h2
      obtain ⟨n0, e0, _, w0⟩ := DataW.trod_int Try.underlying21 h0
      obtain ⟨n1, e1, _, w1⟩ := DataW.trod_int Try.underlying3 h1
      obtain ⟨n2, e2, _, w2⟩ := DataW.trod_int Try.underlying3 h2
      simp only [List.cons.injEq, and_true] at e0 e1 e2
      subst e0 e1 e2
      exact ⟨⟨n0, n1, n2⟩, hcs, w0, w1, w2⟩
  obtain ⟨zs, hz, hq⟩ := list_of len each
  exact ⟨a, len, cap, zs, rfl, hl, hm, hz, hq⟩

/-- the row that the argument is, as the walks read it -/
theorem row_cells {a : Option Addr} {len cap : Nat} {d : DataW H} {ps : List MemPlace} (h : DataW.Trod enc Try.prog w base spare held 46 (.slice a len cap) d ps) :
    ∃ zs : List S49, zs.length = len ∧ len ≤ cap ∧ len ≤ maxLen ∧ Kd.C k49 w a len zs ∧ ∀ z ∈ zs, (Lit.int .i32 z.f0).wf = true ∧ (Lit.int .i64 z.f1).wf = true ∧ (Lit.int .i64 z.f2).wf = true := by
  obtain ⟨fuel, hf⟩ := h
  rcases open_cells hf with hcs | ⟨x, l, c, zs, hcs, hl, hm, hz, hq⟩
  · simp [Value.cells] at hcs
    obtain ⟨rfl, rfl, rfl⟩ := hcs
    exact ⟨[], rfl, Nat.le_refl _, Nat.zero_le _, Kd.C_nil k49 w, by simp⟩
  · simp [Value.cells] at hcs
    obtain ⟨rfl, rfl, rfl⟩ := hcs
    have hmm : len ≤ maxLen := Nat.le_trans hl hm
    refine ⟨zs, hz, hl, hmm, ⟨hz, by unfold maxLen at hmm; omega, fun _ => ⟨x, rfl, fun j p hp => ?_⟩⟩, fun z hz' => ?_⟩
    · obtain ⟨hc, _⟩ := hq j p hp
      refine ⟨_, rfl, k49_mk w p, fun i u hu => ?_⟩
      have hi : i < 3 := by
        have := (List.getElem?_eq_some_iff.1 hu).1
        simpa using this
      have := (World.cells?_some hc).2.2 i hi
      rw [Addr.add_add] at this
      exact this.trans hu
    · obtain ⟨i, hi⟩ := List.getElem?_of_mem hz'
      exact (hq i z hi).2
end
end Go.Proofs.Ytohafoihegjlnaa.Pure
