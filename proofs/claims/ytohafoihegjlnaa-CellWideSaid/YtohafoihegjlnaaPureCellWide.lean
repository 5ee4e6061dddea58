/- A sign's cells are as many as it is wide; they may be; each has the attribute; the first one has the sign: for every sign and every attribute. -/
import Derived.Test.YtohafoihegjlnaaPx44
import Derived.Test.YtohafoihegjlnaaMb
import Derived.Test.YtohafoihegjlnaaMc
set_option linter.unusedSimpArgs false
namespace Go.Proofs.Ytohafoihegjlnaa.Pure
open Go.RowKit Go.Proofs.Ytohafoihegjlnaa.P Go.Proofs.YtohafoihegjlnaaW.PrintWords Go.Proofs.YtohafoihegjlnaaW.PrintLast

theorem CellWide : rotuluslaw1_CellWide.Pure := by
  intro r a hr _
  obtain ⟨h0, h1⟩ := i32_range hr
  refine Ev.rounds (g := fun k => rotuluslaw1_CellWide.f k r a) ?_
  unfold rotuluslaw1_CellWide.f
  refine Ev.bind begun_ev ?_
  simp only [if_true]
  refine Ev.bind (of_ev r a h0 h1) ?_
  by_cases ha : a < 0 ∨ a > 255
  · have e : ofL r a = [] := by unfold ofL; rw [if_pos (Or.inr ha)]
    refine ⟨1, fun k hk => ?_⟩
    obtain ⟨k, rfl⟩ : ∃ m, k = m + 1 := ⟨k - 1, by omega⟩
    dsimp only
    rw [e]
    rcases ha with ha | ha
    · rw [if_pos ha]
      simp [rotuluslaw1_CellWide.j0]
    · rw [if_neg (by omega), decide_eq_true ha]
      simp [rotuluslaw1_CellWide.j0]
  · have hwr := w_range r
    refine ⟨5, fun k hk => ?_⟩
    obtain ⟨k, rfl⟩ : ∃ m, k = m + 5 := ⟨k - 5, by omega⟩
    dsimp only
    rw [if_neg (by omega), decide_eq_false (by omega)]
    have m1 : ∀ j r w a, -2147483648 ≤ r → r ≤ 2147483647 → cell_May.f (j + 1) r w a = some (mayB r w a) := fun j r w a h0 h1 => may_at j r w a h0 h1
    have hs : rotulusref1_Width.w r ≠ 0 → mayB r (rotulusref1_Width.w r) a = true := fun h => may_sign r a h (by omega) (by omega)
    have w1 : wrap64 1 = 1 := by decide +kernel
    have w2 : wrap64 2 = 2 := by decide +kernel
    have wf : rotulusref1_Width.f r = some (rotulusref1_Width.w r) := rfl
    unfold ofL
    by_cases z : rotulusref1_Width.w r = 0
    · rw [if_pos (Or.inl z)]
      simp only [rotuluslaw1_CellWide.j0, Bool.false_eq_true, if_false, wf, z, Option.bind_some]
      simp [rotuluslaw1_CellWide.l0]
    · rw [if_neg (by omega)]
      by_cases t : rotulusref1_Width.w r = 2
      · rw [if_pos t]
        have hs2 : mayB r 2 a = true := by rw [← t]; exact hs z
        have hs3 : mayB 0 0 a = true := by unfold mayB; rw [if_neg (by omega)]; simp
        simp only [rotuluslaw1_CellWide.j0, Bool.false_eq_true, if_false, wf, t, Option.bind_some]
        simp only [rotuluslaw1_CellWide.l0, rd_T49, List.length_cons, List.length_nil]
        simp [m1, h0, h1, hs2, hs3, pad_eq, w1, w2, Int.toNat]
      · have t1 : rotulusref1_Width.w r = 1 := by omega
        rw [if_neg t]
        have hs2 : mayB r 1 a = true := by rw [← t1]; exact hs z
        have hr0 : r ≠ 0 := by
          rintro rfl
          exact absurd t1 (by decide +kernel)
        simp only [rotuluslaw1_CellWide.j0, Bool.false_eq_true, if_false, wf, t1, Option.bind_some]
        simp only [rotuluslaw1_CellWide.l0, rd_T49, List.length_cons, List.length_nil]
        simp [m1, h0, h1, hs2, pad_eq, w1, hr0]

end Go.Proofs.Ytohafoihegjlnaa.Pure
