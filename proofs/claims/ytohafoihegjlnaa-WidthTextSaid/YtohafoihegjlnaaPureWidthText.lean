/- The width of two texts together is the sum, and at most two for each sign. -/
import Derived.Test.YtohafoihegjlnaaPx49
import Derived.Test.YtohafoihegjlnaaMg
set_option linter.unusedVariables false
set_option linter.unusedSimpArgs false
namespace Go.Proofs.Ytohafoihegjlnaa.Pure
open Go.RowKit Go.Proofs.Ytohafoihegjlnaa.P Go.Proofs.YtohafoihegjlnaaW.PrintWords Go.Proofs.YtohafoihegjlnaaW.PrintLast

theorem WidthText : rotuluslaw1_WidthText.Pure := by
  intro l0 l1 _ _ hx _ _ hy
  refine Ev.rounds (g := fun k => rotuluslaw1_WidthText.f k l0 l1) ?_
  unfold rotuluslaw1_WidthText.f
  refine Ev.bind begun_ev ?_
  have hm := mn_le l0.length 20 (by decide)
  have hn := mn_le l1.length 20 (by decide)
  refine evif_pos rfl (evif_pos (by omega) (evif_pos (by omega) (evif_some (evif_pos (by omega) (evif_pos (by omega) (evif_some ?_))))))
  obtain ⟨s, e⟩ : ∃ l, l = l0.take (mn (l0.length : Int) 20).toNat := ⟨_, rfl⟩
  obtain ⟨t, e'⟩ : ∃ l, l = l1.take (mn (l1.length : Int) 20).toNat := ⟨_, rfl⟩
  rw [← e, ← e']
  have hs : s.length ≤ 20 := by rw [e, List.length_take]; omega
  have ht : t.length ≤ 20 := by rw [e', List.length_take]; omega
  have ws := fun x (h : x ∈ s) => i32_range (hx x (List.mem_of_mem_take (e ▸ h)))
  have wt := fun x (h : x ∈ t) => i32_range (hy x (List.mem_of_mem_take (e' ▸ h)))
  simp only [List.nil_append]
  refine evif_pos (by simp only [List.length_nil]; omega) (evif_some (evif_pos (by omega) (evif_some ?_)))
  refine Ev.bind (text_ev (s ++ t) (fun x h => (List.mem_append.1 h).elim (ws x) (wt x)) (by rw [List.length_append]; omega)) ?_
  refine Ev.bind (text_ev s ws (by omega)) ?_
  refine Ev.bind (text_ev t wt (by omega)) ?_
  have h1 := wsum_range s
  have h2 := wsum_range t
  rw [wsum_app, w64' (by omega) (by omega)]
  refine evif_pos rfl (evif_pos (by omega) ?_)
  rw [List.length_append, w64' (by omega) (by omega), decide_eq_true (by omega)]
  exact Ev.now true

end Go.Proofs.Ytohafoihegjlnaa.Pure
