/- The widths of signs and of a list of signs are the reference's. -/
import Derived.Test.YtohafoihegjlnaaPx47
import Derived.Test.YtohafoihegjlnaaMg
set_option linter.unusedVariables false
set_option linter.unusedSimpArgs false
namespace Go.Proofs.Ytohafoihegjlnaa.Pure
open Go.RowKit Go.Proofs.Ytohafoihegjlnaa.P Go.Proofs.YtohafoihegjlnaaW.PrintWords Go.Proofs.YtohafoihegjlnaaW.PrintLast

theorem widthAll_l0 (a : Int) (ha : -2147483648 ≤ a ∧ a ≤ 2147483647) (l : List Int) (hw : ∀ x ∈ l, -2147483648 ≤ x ∧ x ≤ 2147483647) (hl : l.length ≤ 1000000) : ∀ (d i : Nat) (s : Int), i + d = l.length → 0 ≤ s → s ≤ 2 * i → s + wsum (l.drop i) = wsum l →
    Ev (fun k => rotuluslaw1_WidthAll.l0 k a l s (i : Int)) true := by
  intro d
  induction d with
  | zero =>
    intro i s hi h0 h1 h2
    rw [List.drop_of_length_le (by omega)] at h2
    refine Ev.step (f := _) (fun k => by
      simp only [rotuluslaw1_WidthAll.l0]
      rfl) ?_
    refine evif_neg (by omega) ?_
    rw [of_eq a ha.1 ha.2]
    unfold rotulusref1_Width.f
    refine evif_some (evif_some (evif_pos rfl ?_))
    refine Ev.bind (text_ev l hw hl) ?_
    have : wsum l = s := by rw [← h2]; simp [wsum]
    rw [this]
    simpa using Ev.now true
  | succ d ih =>
    intro i s hi h0 h1 h2
    have hlt : i < l.length := by omega
    have hm := hw _ (List.getElem_mem hlt)
    have hr := w_range l[i]
    rw [List.drop_eq_getElem_cons hlt, wsum_cons] at h2
    refine Ev.step (f := _) (fun k => by
      simp only [rotuluslaw1_WidthAll.l0]
      rfl) ?_
    refine evif_pos (by omega) (evif_pos (by omega) ?_)
    rw [rd_get l i hlt, of_eq _ hm.1 hm.2]
    unfold rotulusref1_Width.f
    refine evif_some (evif_some (evif_pos rfl (evif_some ?_)))
    rw [w64' (by omega) (by omega), w64' (by omega) (by omega)]
    exact ih (i + 1) _ (by omega) (by omega) (by omega) (by omega)

theorem WidthAll : rotuluslaw1_WidthAll.Pure := by
  intro a0 l1 ha _ _ hx
  refine Ev.rounds (g := fun k => rotuluslaw1_WidthAll.f k a0 l1) ?_
  unfold rotuluslaw1_WidthAll.f
  refine Ev.bind begun_ev ?_
  have hm := mn_le l1.length 30 (by decide)
  refine evif_pos rfl (evif_pos (by omega) (evif_pos (by omega) ?_))
  obtain ⟨l, e⟩ : ∃ l, l = l1.take (mn (l1.length : Int) 30).toNat := ⟨_, rfl⟩
  rw [← e]
  have hl : l.length ≤ 30 := by rw [e, List.length_take]; omega
  exact widthAll_l0 a0 (i32_range ha) l (fun x h => i32_range (hx x (List.mem_of_mem_take (e ▸ h)))) (by omega) l.length 0 0 (by omega) (by omega) (by omega) (by simp)

end Go.Proofs.Ytohafoihegjlnaa.Pure
