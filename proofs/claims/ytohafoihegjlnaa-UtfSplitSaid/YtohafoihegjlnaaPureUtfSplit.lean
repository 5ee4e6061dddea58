/- A text cut after a whole sign: the signs of both parts, one after the other. -/
import Derived.Test.YtohafoihegjlnaaPx43
import Derived.Test.YtohafoihegjlnaaMb
import Derived.Test.YtohafoihegjlnaaMs
set_option linter.unusedVariables false
set_option linter.unusedSimpArgs false
namespace Go.Proofs.Ytohafoihegjlnaa.Pure
open Go.RowKit Go.Proofs.Ytohafoihegjlnaa.P Go.Proofs.YtohafoihegjlnaaW.PrintWords Go.Proofs.YtohafoihegjlnaaW.PrintLast

theorem UtfSplit : rotuluslaw1_UtfSplit.Pure := by
  intro a0 a1 _ _
  refine Ev.rounds (g := fun k => rotuluslaw1_UtfSplit.f k a0 a1) ?_
  unfold rotuluslaw1_UtfSplit.f
  refine Ev.bind begun_ev ?_
  simp only [if_true]
  rw [short_at a0 40 (by decide), short_at a1 40 (by decide)]
  simp only [Option.bind_some]
  have hs := short_size a0 40 (by decide)
  have ht := short_size a1 40 (by decide)
  obtain ⟨s, e⟩ : ∃ s, s = a0.extract 0 (mn (a0.size : Int) 40).toNat := ⟨_, rfl⟩
  obtain ⟨t, e'⟩ : ∃ t, t = a1.extract 0 (mn (a1.size : Int) 40).toNat := ⟨_, rfl⟩
  rw [← e] at hs ⊢
  rw [← e'] at ht ⊢
  refine Ev.bind (ref_ev s (by omega)) ?_
  have hl := alls_len (bytesOf s)
  have hm := alls_len (bytesOf t)
  have hd := dec_len _ (bytesOf s) (Nat.le_refl _)
  have hb := bytesOf_length s
  have hb' := bytesOf_length t
  by_cases c : (dec (bytesOf s)).2 = 0
  · have ha : alls (bytesOf (s ++ t)) = alls (bytesOf s) ++ alls (bytesOf t) := by rw [bytesOf_app, alls_app _ _ c]
    refine ev_neg (by dsimp only; omega) (ev_pos (by omega) ?_)
    refine Ev.bind (all_ev (s ++ t) (by rw [size_app]; omega)) ?_
    refine Ev.bind (all_ev s (by omega)) ?_
    refine ev_pos (by simp only [List.length_nil]; omega) (ev_some ?_)
    refine Ev.bind (all_ev t (by omega)) ?_
    refine ev_pos (by simp only [List.nil_append]; omega) ?_
    rw [ha, List.nil_append]
    refine Ev.bind (eq_ev _ (by rw [List.length_append]; omega)) ?_
    exact Ev.now true
  · refine ev_pos (by dsimp only; omega) ?_
    refine Ev.bind (all_ev s (by omega)) ?_
    have : alls (bytesOf s) = (dec (bytesOf s)).1 ++ [65533] := by unfold alls; rw [if_neg c]
    dsimp only
    rw [w64 (by omega) (by omega), this, List.length_append]
    refine Ev.congr (f := fun _ => some true) (fun k => ?_) (Ev.now true)
    simp

end Go.Proofs.Ytohafoihegjlnaa.Pure
