/- A text read in two parts: the signs of the whole; never more than three bytes wait. -/
import Derived.Test.YtohafoihegjlnaaCx26
import Derived.Test.YtohafoihegjlnaaMCb
import Derived.Test.YtohafoihegjlnaaMCv
set_option linter.unusedVariables false
set_option linter.unusedSimpArgs false
namespace Go.Proofs.Ytohafoihegjlnaa.Pure
open Go.RowKit Go.Proofs.Ytohafoihegjlnaa.C Go.Proofs.YtohafoihegjlnaaW.PrintWords Go.Proofs.YtohafoihegjlnaaW.PrintLast

theorem rd_atp (l : List Int) (i : Nat) (h : i < l.length) : rd l (i : Int) = l[i] := by
  unfold rd
  rw [Int.toNat_natCast]
  simp [List.getD_eq_getElem?_getD, List.getElem?_eq_getElem h]

theorem parts_l1 (s : ByteArray) (hs : s.size ≤ 60) (x6 n : Int) (hn0 : 0 ≤ n) (hn3 : n ≤ 3) (hn6 : n ≤ x6) (L : List Int) (hL : L.length ≤ 100) (hb : ∀ b ∈ L, 0 ≤ b ∧ b ≤ 255) :
    ∀ (d i : Nat) (out : List Int) (st : St), i + d = L.length → Good st → out.length ≤ 1000 + 2 * i → out ++ ((prun st (L.drop i)).1 ++ fin (prun st (L.drop i)).2) = alls (bytesOf s) →
    Ev (fun k => rotuluslaw1_UtfParts.l1 k s x6 out n L (L.length : Int) (i : Int) st.1 st.2.1 st.2.2.1 st.2.2.2.1 st.2.2.2.2) true := by
  intro d
  have hal := alls_len (bytesOf s)
  have hbl := bytesOf_length s
  induction d with
  | zero =>
    intro i out st hi g ho h
    rw [List.drop_of_length_le (by omega)] at h
    simp only [prun, List.nil_append] at h
    have hz : out.length + (fin st).length = (alls (bytesOf s)).length := by rw [← h, List.length_append]
    refine Ev.step (f := _) (fun k => by
      simp only [rotuluslaw1_UtfParts.l1]
      rfl) ?_
    refine ev_neg (by omega) ?_
    have e : utf_Reader_End.f st.1 st.2.1 st.2.2.1 st.2.2.2.1 st.2.2.2.2 = some (fin st, 0, st.2.1, st.2.2.1, st.2.2.2.1, st.2.2.2.2) := by
      unfold utf_Reader_End.f fin
      by_cases c : st.1 = 0
      · rw [if_pos c, if_pos c, c]
      · rw [if_neg c, if_neg c]
    rw [e]
    refine ev_some (ev_pos (by dsimp only; omega) ?_)
    dsimp only
    rw [h]
    refine Ev.bind (all_ev s (by omega)) ?_
    refine Ev.bind (eq_ev _ (by omega)) ?_
    refine ev_pos rfl (ev_pos hn0 (ev_pos hn3 ?_))
    rw [decide_eq_true hn6]
    exact Ev.now true
  | succ d ih =>
    intro i out st hi g ho h
    have hlt : i < L.length := by omega
    have hm := hb _ (List.getElem_mem hlt)
    rw [List.drop_eq_getElem_cons hlt] at h
    simp only [prun] at h
    have hl := pput_len st L[i]
    obtain ⟨K, hK⟩ := ih (i + 1) (out ++ (pput st L[i]).1) (pput st L[i]).2 (by omega) (pput_good st _ g hm.1 hm.2) (by rw [List.length_append]; omega) (by rw [List.append_assoc]; simpa [List.append_assoc] using h)
    refine Ev.step (f := _) (fun k => by
      simp only [rotuluslaw1_UtfParts.l1]
      rfl) ?_
    refine ev_pos (by omega) (ev_pos (by omega) (ev_pos (by omega) ?_))
    rw [rd_atp L i hlt]
    refine ⟨K + 4, fun k hk => ?_⟩
    dsimp only
    rw [put_ge k st _ (by omega) g hm.1 hm.2]
    simp only [Option.bind_some]
    rw [if_pos (by omega), w64 (by omega) (by omega)]
    exact hK k (by omega)

theorem parts_l0 (s : ByteArray) (hs : s.size ≤ 60) (m : Nat) (hm : m ≤ s.size) (L : List Int) (hL : L.length ≤ 100) (hb : ∀ b ∈ L, 0 ≤ b ∧ b ≤ 255) (L2 : List Int) (h2 : bytesOf (s.extract m s.size) = L2) :
    ∀ (d i : Nat) (out : List Int) (st : St), i + d = L.length → Good st → out.length ≤ 2 * i →
    Ev (fun k => rotuluslaw1_UtfParts.l1 k s (m : Int) (out ++ (prun st (L.drop i)).1) (prun st (L.drop i)).2.1 L2 (L2.length : Int) 0 (prun st (L.drop i)).2.1 (prun st (L.drop i)).2.2.1 (prun st (L.drop i)).2.2.2.1 (prun st (L.drop i)).2.2.2.2.1 (prun st (L.drop i)).2.2.2.2.2) true →
    Ev (fun k => rotuluslaw1_UtfParts.l0 k s (m : Int) out L (L.length : Int) (i : Int) st.1 st.2.1 st.2.2.1 st.2.2.2.1 st.2.2.2.2) true := by
  intro d
  induction d with
  | zero =>
    intro i out st hi g ho h
    rw [List.drop_of_length_le (by omega)] at h
    simp only [prun, List.append_nil] at h
    refine Ev.step (f := _) (fun k => by
      simp only [rotuluslaw1_UtfParts.l0]
      rfl) ?_
    refine ev_neg (by omega) ?_
    unfold utf_Reader_Waits.f
    rw [Int.toNat_natCast, h2]
    refine ev_some (ev_pos (by omega) (ev_pos (by omega) (ev_pos (by rw [ByteArray.size_extract]; omega) (ev_some ?_))))
    exact h
  | succ d ih =>
    intro i out st hi g ho h
    have hlt : i < L.length := by omega
    have hbm := hb _ (List.getElem_mem hlt)
    rw [List.drop_eq_getElem_cons hlt] at h
    simp only [prun] at h
    have hl := pput_len st L[i]
    obtain ⟨K, hK⟩ := ih (i + 1) (out ++ (pput st L[i]).1) (pput st L[i]).2 (by omega) (pput_good st _ g hbm.1 hbm.2) (by rw [List.length_append]; omega) (by rw [List.append_assoc]; exact h)
    refine Ev.step (f := _) (fun k => by
      simp only [rotuluslaw1_UtfParts.l0]
      rfl) ?_
    refine ev_pos (by omega) (ev_pos (by omega) (ev_pos (by omega) ?_))
    rw [rd_atp L i hlt]
    refine ⟨K + 4, fun k hk => ?_⟩
    dsimp only
    rw [put_ge k st _ (by omega) g hbm.1 hbm.2]
    simp only [Option.bind_some]
    rw [if_pos (by omega), w64 (by omega) (by omega)]
    exact hK k (by omega)

theorem prun_len (st : St) : ∀ l : List Int, (prun st l).1.length ≤ 2 * l.length := by
  intro l
  induction l generalizing st with
  | nil => simp [prun]
  | cons b l ih =>
    have := pput_len st b
    have := ih (pput st b).2
    simp only [prun, List.length_append, List.length_cons]
    omega

theorem parts_j0 (s : ByteArray) (hs : s.size ≤ 60) (m : Nat) (hm : m ≤ s.size) : Ev (fun k => rotuluslaw1_UtfParts.j0 k s (m : Int)) true := by
  have hbl := bytesOf_length s
  refine Ev.step (f := _) (fun k => by
    simp only [rotuluslaw1_UtfParts.j0]
    rfl) ?_
  rw [Int.toNat_natCast]
  refine ev_pos (by omega) (ev_pos (by omega) (ev_pos (by rw [ByteArray.size_extract]; omega) (ev_some ?_)))
  have e1 : bytesOf (s.extract 0 m) = (bytesOf s).take m := by rw [bytesOf_extract, List.drop_zero]
  have e2 : bytesOf (s.extract m s.size) = (bytesOf s).drop m := by rw [bytesOf_extract, List.take_of_length_le (by omega)]
  rw [e1]
  have hr := bytes_range s
  have b1 : ∀ b ∈ (bytesOf s).take m, 0 ≤ b ∧ b ≤ 255 := fun b h => hr b (List.mem_of_mem_take h)
  have b2 : ∀ b ∈ (bytesOf s).drop m, 0 ≤ b ∧ b ≤ 255 := fun b h => hr b (List.mem_of_mem_drop h)
  have l1 : ((bytesOf s).take m).length = m := by rw [List.length_take]; omega
  have l2 : ((bytesOf s).drop m).length = s.size - m := by rw [List.length_drop]; omega
  have h0 := parts_l0 s hs m hm ((bytesOf s).take m) (by omega) b1 ((bytesOf s).drop m) e2 m 0 [] (0, 0, 0, 0, 0) (by omega) rest_good (by simp)
  refine h0 ?_
  rw [List.drop_zero, List.nil_append]
  have hw := (run_dec _ ((bytesOf s).take m) (Nat.le_refl _) 0 0 0 0).2
  have hd := dec_len _ ((bytesOf s).take m) (Nat.le_refl _)
  have hg := prun_good (0, 0, 0, 0, 0) ((bytesOf s).take m) rest_good b1
  have hpl := prun_len (0, 0, 0, 0, 0) ((bytesOf s).take m)
  have hap := prun_append (0, 0, 0, 0, 0) ((bytesOf s).take m) ((bytesOf s).drop m)
  rw [List.take_append_drop] at hap
  have hfe := fin_eq (bytesOf s) 0 0 0 0
  have hrd := (run_dec _ (bytesOf s) (Nat.le_refl _) 0 0 0 0).1
  have n3 : (prun (0, 0, 0, 0, 0) ((bytesOf s).take m)).2.1 ≤ 3 := by
    have := hg
    unfold Good at this
    omega
  refine parts_l1 s hs (m : Int) _ (by omega) n3 (by omega) ((bytesOf s).drop m) (by omega) b2 (s.size - m) 0 _ _ (by omega) hg (by omega) ?_
  rw [List.drop_zero]
  rw [hap] at hfe hrd
  dsimp only at hfe hrd
  rw [← List.append_assoc, hfe]
  unfold alls
  rw [← hrd]

theorem UtfParts : rotuluslaw1_UtfParts.Pure := by
  intro a0 a1 _ hw
  refine Ev.rounds (g := fun k => rotuluslaw1_UtfParts.f k a0 a1) ?_
  unfold rotuluslaw1_UtfParts.f
  refine Ev.bind begun_ev ?_
  refine ev_pos rfl ?_
  rw [short_at a0 60 (by decide)]
  have hs := short_size a0 60 (by decide)
  obtain ⟨s, e⟩ : ∃ s, s = a0.extract 0 (mn (a0.size : Int) 60).toNat := ⟨_, rfl⟩
  rw [← e] at hs ⊢
  refine ev_some ?_
  by_cases c : a1 ≥ 0
  · refine ev_pos c ?_
    rw [w64 (by omega) (by omega)]
    refine ev_neg (by omega) ?_
    have hz : Int.tmod a1 ((s.size : Int) + 1) = ((a1 % ((s.size : Int) + 1)).toNat : Nat) := by
      rw [Int.tmod_eq_emod_of_nonneg c, Int.toNat_of_nonneg (Int.emod_nonneg _ (by omega))]
    rw [hz]
    have := Int.emod_lt_of_pos a1 (show 0 < (s.size : Int) + 1 by omega)
    exact parts_j0 s (by omega) _ (by omega)
  · refine ev_neg c ?_
    exact parts_j0 s (by omega) 0 (by omega)

end Go.Proofs.Ytohafoihegjlnaa.Pure
