/- Two signs of which a byte is turned: read as the reference reads it; never more signs than bytes. -/
import Derived.Test.YtohafoihegjlnaaCx33
import Derived.Test.YtohafoihegjlnaaMD1
import Derived.Test.YtohafoihegjlnaaMD2
set_option linter.unusedVariables false
set_option linter.unusedSimpArgs false
namespace Go.Proofs.Ytohafoihegjlnaa.Pure
open Go.RowKit Go.Proofs.Ytohafoihegjlnaa.C Go.Proofs.YtohafoihegjlnaaW.PrintWords Go.Proofs.YtohafoihegjlnaaW.PrintLast

theorem UtfOne : rotuluslaw1_UtfOne.Pure := by
  intro a0 a1 a2 a3 _ _ _ _
  refine Ev.rounds (g := fun k => rotuluslaw1_UtfOne.f k a0 a1 a2 a3) ?_
  unfold rotuluslaw1_UtfOne.f
  refine Ev.bind begun_ev ?_
  refine ev_pos rfl ?_
  refine Ev.bind (put_sign_ev a0) ?_
  refine Ev.bind (put_sign_ev a1) ?_
  have n0 := enc_len a0
  have n1 := enc_len a1
  have p0 := enc_pos a0
  have z0 := nums_size (enc a0)
  have z1 := nums_size (enc a1)
  refine ev_pos (by omega) ?_
  by_cases c0 : a2 < 0
  · exact ev_pos c0 (Ev.now true)
  refine ev_neg c0 ?_
  have hsz : (strOfNums (enc a0) ++ strOfNums (enc a1)).size = (enc a0).length + (enc a1).length := by rw [ByteArray.size_append]; omega
  refine ev_pos (by omega) (ev_some ?_)
  obtain ⟨p, ep⟩ : ∃ p, p = bytesOf (strOfNums (enc a0) ++ strOfNums (enc a1)) := ⟨_, rfl⟩
  have hp : p.length = (enc a0).length + (enc a1).length := by rw [ep, bytesOf_length, hsz]
  rw [← ep]
  have hz : Int.tmod a2 (p.length : Int) = a2 % (p.length : Int) := Int.tmod_eq_emod_of_nonneg (by omega)
  have h1 := Int.emod_nonneg a2 (show (p.length : Int) ≠ 0 by omega)
  have h2 := Int.emod_lt_of_pos a2 (show (0 : Int) < (p.length : Int) by omega)
  refine ev_neg (by omega) (ev_pos (by omega) (ev_pos (by omega) (ev_some ?_)))
  obtain ⟨y, ey⟩ : ∃ y, y = p.set (Int.tmod a2 (p.length : Int)).toNat (Go.bits .xor .u8 (rd p (Int.tmod a2 (p.length : Int))) a3) := ⟨_, rfl⟩
  rw [← ey]
  have hy : y.length = p.length := by rw [ey, List.length_set]
  have hs : (strOfNums y).size = p.length := by rw [nums_size]; exact hy
  obtain ⟨s, es⟩ : ∃ s, s = strOfNums y := ⟨_, rfl⟩
  rw [← es] at hs ⊢
  have hbl := bytesOf_length s
  have hal := alls_len (bytesOf s)
  have hap := alls_pos (bytesOf s) (by intro h; rw [h] at hbl; simp at hbl; omega)
  have hdl := dec_len _ (bytesOf s) (Nat.le_refl _)
  refine Ev.bind (all_ev s (by omega)) ?_
  refine Ev.bind (ref_ev s (by omega)) ?_
  by_cases c : (dec (bytesOf s)).2 = 0
  · refine ev_neg (by dsimp only; omega) ?_
    dsimp only
    rw [whole_yes _ c]
    refine Ev.bind (eq_ev _ (by omega)) ?_
    refine ev_pos rfl (ev_pos (by omega) ?_)
    rw [decide_eq_true (by omega)]
    exact Ev.now true
  · refine ev_pos (by dsimp only; omega) (ev_pos (by dsimp only; omega) ?_)
    dsimp only
    rw [whole_no _ c]
    refine Ev.bind (eq_ev _ (by omega)) ?_
    refine ev_pos rfl (ev_pos (by omega) ?_)
    rw [decide_eq_true (by omega)]
    exact Ev.now true

end Go.Proofs.Ytohafoihegjlnaa.Pure
