/- Cells trimmed are a row of their own: what is written there is not seen elsewhere. -/
import Derived.Test.YtohafoihegjlnaaPx39
import Derived.Test.YtohafoihegjlnaaMb
import Derived.Test.YtohafoihegjlnaaMt
set_option linter.unusedVariables false
set_option linter.unusedSimpArgs false
namespace Go.Proofs.Ytohafoihegjlnaa.Pure
open Go.RowKit Go.Proofs.Ytohafoihegjlnaa.P Go.Proofs.YtohafoihegjlnaaW.PrintWords Go.Proofs.YtohafoihegjlnaaW.PrintLast

theorem evo_pos {α : Type} {c : Prop} [Decidable c] (h : c) {f g : Nat → Option α} {r : α} (x : Ev f r) : Ev (fun k => if c then f k else g k) r := by
  simpa only [if_pos h] using x
theorem evo_neg {α : Type} {c : Prop} [Decidable c] (h : ¬ c) {f g : Nat → Option α} {r : α} (x : Ev g r) : Ev (fun k => if c then f k else g k) r := by
  simpa only [if_neg h] using x
theorem evo_some {α β : Type} {a : α} {f : Nat → α → Option β} {r : β} (x : Ev (fun k => f k a) r) : Ev (fun k => (some a).bind (f k)) r := Ev.bind (Ev.now a) x
theorem eqcells1_l0 (l : List S49) (hl : l.length ≤ 1000000) : ∀ (d i : Nat), i + d = l.length → Ev (fun k => rotulusref1_EqCells.l0 k l l (i : Int)) true := by
  intro d
  induction d with
  | zero =>
    intro i hi
    refine Ev.step (f := _) (fun k => by
      simp only [rotulusref1_EqCells.l0]
      rfl) ?_
    exact evo_neg (by omega) (Ev.now true)
  | succ d ih =>
    intro i hi
    refine Ev.step (f := _) (fun k => by
      rw [rotulusref1_EqCells.l0]) ?_
    refine evo_pos (by omega) (evo_pos (by omega) (evo_pos (by omega) (evo_neg (by simp) ?_)))
    rw [w64 (by omega) (by omega)]
    exact ih (i + 1) (by omega)
theorem eqcells1_ev (l : List S49) (hl : l.length ≤ 1000000) : Ev (fun k => rotulusref1_EqCells.f k l l) true := by
  unfold rotulusref1_EqCells.f
  exact evo_pos rfl (eqcells1_l0 l hl l.length 0 (by omega))

theorem cellOwn_l0 (l : List S49) (hl : l.length ≤ 1000000) : ∀ (d i : Nat) (t : List S49), i + d = t.length → t.length ≤ l.length → Ev (fun k => rotuluslaw1_CellOwn.l0 k l l t (t.length : Int) (i : Int)) true := by
  intro d
  induction d with
  | zero =>
    intro i t hi ht
    refine Ev.step (f := _) (fun k => by
      simp only [rotuluslaw1_CellOwn.l0]
      rfl) ?_
    refine evo_neg (by omega) ?_
    refine Ev.bind (eqcells1_ev l hl) ?_
    rw [decide_eq_true (by omega)]
    exact evo_pos rfl (Ev.now true)
  | succ d ih =>
    intro i t hi ht
    refine Ev.step (f := _) (fun k => by
      rw [rotuluslaw1_CellOwn.l0]) ?_
    refine evo_pos (by omega) (evo_pos (by omega) (evo_pos (by omega) ?_))
    rw [w64 (by omega) (by omega)]
    have := ih (i + 1) (t.set (i : Int).toNat ⟨(rd_T49 t (i : Int)).f0, (rd_T49 t (i : Int)).f1, 99⟩) (by rw [List.length_set]; omega) (by rw [List.length_set]; omega)
    rw [List.length_set] at this
    exact this

theorem CellOwn : ∀ l0 : List S49, l0.length ≤ maxLen → ∃ k, rotuluslaw1_CellOwn.f k l0 = some true := by
  intro l0 _
  refine Ev.rounds (g := fun k => rotuluslaw1_CellOwn.f k l0) ?_
  unfold rotuluslaw1_CellOwn.f
  refine Ev.bind begun_ev ?_
  have hm : 0 ≤ mn (l0.length : Int) 20 ∧ mn (l0.length : Int) 20 ≤ l0.length ∧ (mn (l0.length : Int) 20).toNat ≤ 20 := by unfold mn; split <;> omega
  refine evo_pos rfl (evo_pos (by omega) (evo_pos (by omega) (evo_some ?_)))
  obtain ⟨l, e⟩ : ∃ l, l = l0.take (mn (l0.length : Int) 20).toNat := ⟨_, rfl⟩
  rw [← e]
  have hl : l.length ≤ 20 := by rw [e, List.length_take]; omega
  simp only [List.nil_append, List.length_nil]
  refine evo_pos (by omega) (evo_some (evo_pos (by omega) ?_))
  obtain ⟨n, hT⟩ := trim_ev l (by omega)
  refine Ev.bind hT ?_
  exact cellOwn_l0 l (by omega) (l.take n).length 0 (l.take n) (by omega) (by rw [List.length_take]; omega)

end Go.Proofs.Ytohafoihegjlnaa.Pure
