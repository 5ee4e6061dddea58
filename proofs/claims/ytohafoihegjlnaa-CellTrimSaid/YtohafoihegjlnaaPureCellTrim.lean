/- Cells trimmed: no blank at the end, the front is untouched, what was cut is blank; once is enough. -/
import Derived.Test.YtohafoihegjlnaaPx45
import Derived.Test.YtohafoihegjlnaaMb
import Derived.Test.YtohafoihegjlnaaMt
set_option linter.unusedVariables false
set_option linter.unusedSimpArgs false
namespace Go.Proofs.Ytohafoihegjlnaa.Pure
open Go.RowKit Go.Proofs.Ytohafoihegjlnaa.P Go.Proofs.YtohafoihegjlnaaW.PrintWords Go.Proofs.YtohafoihegjlnaaW.PrintLast

theorem evt_pos {α : Type} {c : Prop} [Decidable c] (h : c) {f g : Nat → Option α} {r : α} (x : Ev f r) : Ev (fun k => if c then f k else g k) r := by
  simpa only [if_pos h] using x
theorem evt_neg {α : Type} {c : Prop} [Decidable c] (h : ¬ c) {f g : Nat → Option α} {r : α} (x : Ev g r) : Ev (fun k => if c then f k else g k) r := by
  simpa only [if_neg h] using x
theorem evt_some {α β : Type} {a : α} {f : Nat → α → Option β} {r : β} (x : Ev (fun k => f k a) r) : Ev (fun k => (some a).bind (f k)) r := Ev.bind (Ev.now a) x

def blankB (c : S49) : Bool := c.f0 == 32 && (c.f1 == 1 && c.f2 == 0)
theorem isBlank_at (c : S49) : cell_IsBlank.f c.f0 c.f1 c.f2 = some (blankB c) := rfl
theorem clone_at (l : List S49) (h : l.length ≤ 1000000) : api_Cell_50.f l = some l := by
  unfold api_Cell_50.f
  simp only [Option.bind_some, List.nil_append, List.length_nil]
  rw [if_pos (by omega)]
theorem trim2_at (l : List S49) (hl : l.length ≤ 1000000) : ∀ (i k : Nat), i ≤ l.length → i < k → ∃ n, n ≤ i ∧ cell_Trim.l0 k l (i : Int) = some (l.take n) ∧
    (∀ j (h : j < l.length), n ≤ j → j < i → blankB l[j] = true) ∧ (n = 0 ∨ ∃ h : n - 1 < l.length, blankB (l[n - 1]'h) = false) := by
  intro i
  induction i with
  | zero =>
    intro k hi hk
    obtain ⟨k, rfl⟩ : ∃ m, k = m + 1 := ⟨k - 1, by omega⟩
    refine ⟨0, by omega, ?_, fun j h h1 h2 => by omega, .inl rfl⟩
    simp only [cell_Trim.l0]
    rw [if_neg (by omega), if_pos (by omega), if_pos (by omega)]
    unfold api_Cell_50.f
    simp
  | succ i ih =>
    intro k hi hk
    obtain ⟨k, rfl⟩ : ∃ m, k = m + 1 := ⟨k - 1, by omega⟩
    have e : wrap64 (((i + 1 : Nat) : Int) - 1) = (i : Int) := by rw [w64 (by omega) (by omega)]; omega
    obtain ⟨n, hn, h, hb, hc⟩ := ih k (by omega) (by omega)
    simp only [cell_Trim.l0]
    rw [if_pos (by omega), e, if_pos (by omega), if_pos (by omega), rdT_at l i (by omega), isBlank_at]
    simp only [Option.bind_some]
    by_cases c : blankB l[i] = true
    · rw [if_pos c]
      refine ⟨n, by omega, h, fun j hj h1 h2 => ?_, hc⟩
      by_cases e : j = i
      · subst e; exact c
      · exact hb j hj h1 (by omega)
    · rw [if_neg c]
      refine ⟨i + 1, by omega, ?_, fun j hj h1 h2 => by omega, .inr ⟨by omega, by simpa using c⟩⟩
      rw [if_pos (by omega), if_pos (by omega), Int.toNat_natCast, clone_at _ (by rw [List.length_take]; omega)]
      rfl
theorem trim2_ev (l : List S49) (hl : l.length ≤ 1000000) : ∃ n, n ≤ l.length ∧ Ev (fun k => cell_Trim.f k l) (l.take n) ∧
    (∀ j (h : j < l.length), n ≤ j → blankB l[j] = true) ∧ (n = 0 ∨ ∃ h : n - 1 < l.length, blankB (l[n - 1]'h) = false) := by
  obtain ⟨n, hn, h, hb, hc⟩ := trim2_at l hl l.length (l.length + 1) (by omega) (by omega)
  exact ⟨n, hn, Ev.of (k := l.length + 1) (fun k => cell_Trim.mono _ k) h, fun j hj h1 => hb j hj h1 hj, hc⟩
theorem eqcells_l0 (l : List S49) (hl : l.length ≤ 1000000) : ∀ (d i : Nat), i + d = l.length → Ev (fun k => rotulusref1_EqCells.l0 k l l (i : Int)) true := by
  intro d
  induction d with
  | zero =>
    intro i hi
    refine Ev.step (f := _) (fun k => by
      simp only [rotulusref1_EqCells.l0]
      rfl) ?_
    exact evt_neg (by omega) (Ev.now true)
  | succ d ih =>
    intro i hi
    refine Ev.step (f := _) (fun k => by
      rw [rotulusref1_EqCells.l0]) ?_
    refine evt_pos (by omega) (evt_pos (by omega) (evt_pos (by omega) (evt_neg (by simp) ?_)))
    rw [w64 (by omega) (by omega)]
    exact ih (i + 1) (by omega)
theorem eqcells_ev (l : List S49) (hl : l.length ≤ 1000000) : Ev (fun k => rotulusref1_EqCells.f k l l) true := by
  unfold rotulusref1_EqCells.f
  exact evt_pos rfl (eqcells_l0 l hl l.length 0 (by omega))

theorem cellTrim_l0 (l t : List S49) (hl : l.length ≤ 1000000) (ht : t.length ≤ l.length) (hb : ∀ j (h : j < l.length), t.length ≤ j → blankB l[j] = true)
    (hx : Ev (fun k => cell_Trim.f k t) t) : ∀ (d i : Nat), i + d = l.length → t.length ≤ i → Ev (fun k => rotuluslaw1_CellTrim.l0 k l t (i : Int)) true := by
  intro d
  induction d with
  | zero =>
    intro i hi hti
    refine Ev.step (f := _) (fun k => by
      simp only [rotuluslaw1_CellTrim.l0]
      rfl) ?_
    refine evt_neg (by omega) ?_
    refine Ev.bind hx ?_
    refine Ev.bind (eqcells_ev t (by omega)) ?_
    exact Ev.now true
  | succ d ih =>
    intro i hi hti
    have hlt : i < l.length := by omega
    refine Ev.step (f := _) (fun k => by
      simp only [rotuluslaw1_CellTrim.l0]
      rfl) ?_
    refine evt_pos (by omega) (evt_pos (by omega) ?_)
    rw [rdT_at l i hlt, isBlank_at]
    refine evt_some (evt_pos (hb i hlt hti) ?_)
    rw [w64 (by omega) (by omega)]
    exact ih (i + 1) (by omega) (by omega)

theorem CellTrim : ∀ l0 : List S49, l0.length ≤ maxLen → ∃ k, rotuluslaw1_CellTrim.f k l0 = some true := by
  intro l0 _
  refine Ev.rounds (g := fun k => rotuluslaw1_CellTrim.f k l0) ?_
  unfold rotuluslaw1_CellTrim.f
  refine Ev.bind begun_ev ?_
  have hm : 0 ≤ mn (l0.length : Int) 40 ∧ mn (l0.length : Int) 40 ≤ l0.length ∧ (mn (l0.length : Int) 40).toNat ≤ 40 := by unfold mn; split <;> omega
  refine evt_pos rfl (evt_pos (by omega) (evt_pos (by omega) (evt_some ?_)))
  obtain ⟨l, e⟩ : ∃ l, l = l0.take (mn (l0.length : Int) 40).toNat := ⟨_, rfl⟩
  rw [← e]
  have hl : l.length ≤ 40 := by rw [e, List.length_take]; omega
  obtain ⟨n, hn, hT, hb, hc⟩ := trim2_ev l (by omega)
  have hz : (l.take n).length = n := by rw [List.length_take]; omega
  refine Ev.bind hT ?_
  have hx : Ev (fun k => cell_Trim.f k (l.take n)) (l.take n) := by
    obtain ⟨m, hm', hT', hb', hc'⟩ := trim2_ev (l.take n) (by omega)
    have : m = n := by
      by_cases e : m = n
      · exact e
      exfalso
      have hmn : m ≤ n := by omega
      rcases hc with hc | ⟨hc1, hc2⟩
      · omega
      · have := hb' (n - 1) (by omega) (by omega)
        rw [List.getElem_take] at this
        rw [this] at hc2
        exact absurd hc2 (by decide)
    have e2 : (l.take n).take m = l.take n := List.take_of_length_le (by omega)
    rw [e2] at hT'
    exact hT'
  have fin : Ev (fun k => rotuluslaw1_CellTrim.j0 k l (l.take n) false) true := by
    refine Ev.step (f := _) (fun k => by
      simp only [rotuluslaw1_CellTrim.j0]
      rfl) ?_
    refine evt_neg (by decide) ?_
    have := cellTrim_l0 l (l.take n) (by omega) (by omega) (fun j h1 h2 => hb j h1 (by omega)) hx (l.length - n) n (by omega) (by omega)
    rw [hz]
    exact this
  have eqt : Ev (fun k => rotulusref1_EqCells.f k (l.take n) (l.take (n : Int).toNat)) true := by
    rw [Int.toNat_natCast]
    exact eqcells_ev _ (by omega)
  rw [hz]
  refine evt_neg (by omega) ?_
  by_cases z : n = 0
  · refine evt_neg (by omega) (evt_pos (by omega) (evt_pos (by omega) ?_))
    exact Ev.bind eqt fin
  · rcases hc with hc | ⟨hc1, hc2⟩
    · exact absurd hc z
    have e : wrap64 ((n : Int) - 1) = ((n - 1 : Nat) : Int) := by rw [w64 (by omega) (by omega)]; omega
    rw [e, rdT_at (l.take n) (n - 1) (by omega), isBlank_at, List.getElem_take, hc2]
    refine evt_pos (by omega) (evt_pos (by omega) (evt_pos (by omega) (evt_some (evt_neg (by decide) (evt_pos (by omega) (evt_pos (by omega) ?_))))))
    exact Ev.bind eqt fin

end Go.Proofs.Ytohafoihegjlnaa.Pure
