/- Raw bytes, alone and between others: the signs are the reference's. -/
import Derived.Test.YtohafoihegjlnaaPx41
import Derived.Test.YtohafoihegjlnaaMb
import Derived.Test.YtohafoihegjlnaaMs
set_option linter.unusedVariables false
set_option linter.unusedSimpArgs false
namespace Go.Proofs.Ytohafoihegjlnaa.Pure
open Go.RowKit Go.Proofs.Ytohafoihegjlnaa.P Go.Proofs.YtohafoihegjlnaaW.PrintWords Go.Proofs.YtohafoihegjlnaaW.PrintLast

theorem utfRaw_l0 (L : List ByteArray) (hL : L.length ≤ 100) (hs : ∀ s ∈ L, s.size ≤ 100) : ∀ (d i : Nat), i + d = L.length → Ev (fun k => rotuluslaw1_UtfRaw.l0 k L (L.length : Int) (i : Int)) true := by
  intro d
  induction d with
  | zero =>
    intro i hi
    refine Ev.step (f := _) (fun k => by
      simp only [rotuluslaw1_UtfRaw.l0]
      rfl) ?_
    exact ev_neg (by omega) (Ev.now true)
  | succ d ih =>
    intro i hi
    have hlt : i < L.length := by omega
    have e : rdOf ByteArray.empty L (i : Int) = L[i] := by
      unfold rdOf
      rw [Int.toNat_natCast]
      simp [List.getD_eq_getElem?_getD, List.getElem?_eq_getElem hlt]
    have hz := hs _ (List.getElem_mem hlt)
    have hd := dec_len _ (bytesOf L[i]) (Nat.le_refl _)
    have hb := bytesOf_length L[i]
    have hl := alls_len (bytesOf L[i])
    refine Ev.step (f := _) (fun k => by
      simp only [rotuluslaw1_UtfRaw.l0]
      rfl) ?_
    refine ev_pos (by omega) (ev_pos (by omega) (ev_pos (by omega) ?_))
    rw [e]
    refine Ev.bind (ref_ev _ (by omega)) ?_
    have go : Ev (fun k => rotuluslaw1_UtfRaw.j1 k L[i] (alls (bytesOf L[i])) L (L.length : Int) (i : Int)) true := by
      refine Ev.step (f := _) (fun k => by
        simp only [rotuluslaw1_UtfRaw.j1]
        rfl) ?_
      refine Ev.bind (all_ev _ (by omega)) ?_
      refine Ev.bind (eq_ev _ (by omega)) ?_
      rw [w64 (by omega) (by omega)]
      exact ev_pos rfl (ih (i + 1) (by omega))
    by_cases c : (dec (bytesOf L[i])).2 = 0
    · refine ev_neg (by dsimp only; omega) ?_
      dsimp only
      have ha : alls (bytesOf L[i]) = (dec (bytesOf L[i])).1 := by unfold alls; rw [if_pos c, List.append_nil]
      rw [← ha]
      exact go
    · refine ev_pos (by dsimp only; omega) (ev_pos (by dsimp only; omega) ?_)
      dsimp only
      have ha : alls (bytesOf L[i]) = (dec (bytesOf L[i])).1 ++ [65533] := by unfold alls; rw [if_neg c]
      rw [← ha]
      exact go

theorem UtfRaw : rotuluslaw1_UtfRaw.Pure := by
  intro a0 a1 a2 _ _ _
  refine Ev.rounds (g := fun k => rotuluslaw1_UtfRaw.f k a0 a1 a2) ?_
  unfold rotuluslaw1_UtfRaw.f
  refine Ev.bind begun_ev ?_
  refine ev_pos rfl (ev_some ?_)
  exact utfRaw_l0 _ (by simp) (by
    intro s hs
    simp only [List.mem_cons, List.not_mem_nil, or_false] at hs
    rcases hs with rfl | rfl | rfl <;> simp [strOfNums, ByteArray.size]) 3 0 rfl

end Go.Proofs.Ytohafoihegjlnaa.Pure
