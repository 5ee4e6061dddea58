/- A sign of four bytes of which one is turned: read as the reference reads it. -/
import Derived.Test.YtohafoihegjlnaaCx34
import Derived.Test.YtohafoihegjlnaaMD1
import Derived.Test.YtohafoihegjlnaaMD2
set_option linter.unusedVariables false
set_option linter.unusedSimpArgs false
namespace Go.Proofs.Ytohafoihegjlnaa.Pure
open Go.RowKit Go.Proofs.Ytohafoihegjlnaa.C Go.Proofs.YtohafoihegjlnaaW.PrintWords Go.Proofs.YtohafoihegjlnaaW.PrintLast

theorem four_idx (a : Int) : 0 ≤ Int.tmod (wrap64 (Int.tmod a 4 + 4)) 4 ∧ Int.tmod (wrap64 (Int.tmod a 4 + 4)) 4 < 4 := by
  have h1 : -4 < Int.tmod a 4 := by have := Int.lt_tmod_of_pos a (show (0 : Int) < 4 by decide); omega
  have h2 : Int.tmod a 4 < 4 := Int.tmod_lt_of_pos a (by decide)
  rw [w64 (by omega) (by omega), Int.tmod_eq_emod_of_nonneg (by omega)]
  omega
theorem four_sign (a : Int) : 65536 ≤ wrap32 (65536 + Int.tmod (wrap32 (Int.tmod a 1048576 + 1048576)) 1048576) ∧ wrap32 (65536 + Int.tmod (wrap32 (Int.tmod a 1048576 + 1048576)) 1048576) ≤ 1114111 := by
  have h1 : -1048576 < Int.tmod a 1048576 := by have := Int.lt_tmod_of_pos a (show (0 : Int) < 1048576 by decide); omega
  have h2 : Int.tmod a 1048576 < 1048576 := Int.tmod_lt_of_pos a (by decide)
  rw [w32 (x := Int.tmod a 1048576 + 1048576) (by omega) (by omega), Int.tmod_eq_emod_of_nonneg (by omega), w32 (by omega) (by omega)]
  omega

theorem UtfFour : rotuluslaw1_UtfFour.Pure := by
  intro a0 a1 a2 _ _ _
  refine Ev.rounds (g := fun k => rotuluslaw1_UtfFour.f k a0 a1 a2) ?_
  unfold rotuluslaw1_UtfFour.f
  refine Ev.bind begun_ev ?_
  refine ev_pos rfl ?_
  obtain ⟨g1, g2⟩ := four_sign a0
  obtain ⟨r, e⟩ : ∃ r, r = wrap32 (65536 + Int.tmod (wrap32 (Int.tmod a0 1048576 + 1048576)) 1048576) := ⟨_, rfl⟩
  rw [← e] at g1 g2 ⊢
  refine Ev.bind (put_sign_ev r) ?_
  have hr : fix r = r := by unfold fix; rw [if_pos (by unfold sgn; omega)]
  have hb := bytes_nums _ (enc_range r)
  have hl4 : (enc r).length = 4 := by
    unfold enc enc0
    rw [hr, if_neg (by omega), if_neg (by omega), if_neg (by omega)]
    rfl
  have hd : dec (enc r) = ([r], 0) := by
    have := dec_enc r []
    rw [List.append_nil, hr, dec.eq_def []] at this
    exact this
  have ha : alls (enc r) = [r] := by unfold alls; rw [hd]; rfl
  have hz := nums_size (enc r)
  refine ev_pos (by omega) (ev_some ?_)
  rw [hb]
  refine ev_pos (by omega) ?_
  refine Ev.bind (all_ev _ (by omega)) ?_
  rw [hb, ha]
  refine ev_pos rfl (ev_pos (by simp) ?_)
  have hrd : (rd [r] 0 != r) = false := by simp [rd]
  rw [hrd]
  obtain ⟨i1, i2⟩ := four_idx a1
  refine Ev.step (f := _) (fun k => by
    simp only [rotuluslaw1_UtfFour.j0]
    rfl) ?_
  refine ev_neg (by decide) (ev_pos i1 (ev_pos (by omega) (ev_some ?_)))
  obtain ⟨y, ey⟩ : ∃ y, y = (enc r).set (Int.tmod (wrap64 (Int.tmod a1 4 + 4)) 4).toNat a2 := ⟨_, rfl⟩
  rw [← ey]
  have hy : y.length = 4 := by rw [ey, List.length_set]; exact hl4
  have hs : (strOfNums y).size = 4 := by rw [nums_size]; exact hy
  obtain ⟨s, es⟩ : ∃ s, s = strOfNums y := ⟨_, rfl⟩
  rw [← es] at hs ⊢
  have hbl := bytesOf_length s
  have hal := alls_len (bytesOf s)
  have hdl := dec_len _ (bytesOf s) (Nat.le_refl _)
  refine Ev.bind (ref_ev s (by omega)) ?_
  by_cases c : (dec (bytesOf s)).2 = 0
  · refine ev_neg (by dsimp only; omega) ?_
    dsimp only
    rw [whole_yes _ c]
    refine Ev.bind (all_ev s (by omega)) ?_
    refine Ev.bind (eq_ev _ (by omega)) ?_
    exact Ev.now true
  · refine ev_pos (by dsimp only; omega) (ev_pos (by dsimp only; omega) ?_)
    dsimp only
    rw [whole_no _ c]
    refine Ev.bind (all_ev s (by omega)) ?_
    refine Ev.bind (eq_ev _ (by omega)) ?_
    exact Ev.now true

end Go.Proofs.Ytohafoihegjlnaa.Pure
