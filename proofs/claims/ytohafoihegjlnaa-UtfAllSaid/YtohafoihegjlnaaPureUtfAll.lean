/- All of a text at once, byte by byte and by the reference: the same signs. -/
import Derived.Test.YtohafoihegjlnaaPx30
import Derived.Test.YtohafoihegjlnaaMb
import Derived.Test.YtohafoihegjlnaaMr
set_option linter.unusedVariables false
set_option linter.unusedSimpArgs false
namespace Go.Proofs.Ytohafoihegjlnaa.Pure
open Go.RowKit Go.Proofs.Ytohafoihegjlnaa.P Go.Proofs.YtohafoihegjlnaaW.PrintWords Go.Proofs.YtohafoihegjlnaaW.PrintLast

theorem utfAll_j2 (s : ByteArray) (hs : s.size ≤ 80) (a c m r lo hi : Int) (out f : List Int) (ha : out ++ f = alls (bytesOf s)) :
    Ev (fun k => rotuluslaw1_UtfAll.j2 k s out f (alls (bytesOf s)) 0 m r lo hi) true := by
  have hl := alls_len (bytesOf s)
  have hb := bytesOf_length s
  have h0 : out.length + f.length = (alls (bytesOf s)).length := by rw [← ha, List.length_append]
  refine Ev.step (f := _) (fun k => by
    simp only [rotuluslaw1_UtfAll.j2]
    rewrite [if_pos (by simp; omega)]
    simp only [Option.bind_some, List.nil_append]
    rewrite [if_pos (by omega), ha]
    rfl) ?_
  refine Ev.bind (eq_ev _ (by omega)) ?_
  simp only [if_true, utf_Reader_Waits.f, Option.bind_some]
  refine Ev.bind (all_ev s (by omega)) ?_
  refine Ev.bind (eq_ev _ (by omega)) ?_
  simp only [if_true, utf_Reader_End.f, Option.bind_some]
  exact Ev.now true

theorem utfAll_l0 (s : ByteArray) (hs : s.size ≤ 80) : ∀ (d i : Nat) (out : List Int) (st : St), i + d = s.size → Good st → out.length ≤ 2 * i →
    out ++ (prun st ((bytesOf s).drop i)).1 = (dec (bytesOf s)).1 → (prun st ((bytesOf s).drop i)).2.1 = ((dec (bytesOf s)).2 : Nat) →
    Ev (fun k => rotuluslaw1_UtfAll.l0 k s (dec (bytesOf s)).1 ((dec (bytesOf s)).2 : Int) out (i : Int) st.1 st.2.1 st.2.2.1 st.2.2.2.1 st.2.2.2.2) true := by
  intro d
  have hdl := dec_len _ (bytesOf s) (Nat.le_refl _)
  have hbl := bytesOf_length s
  induction d with
  | zero =>
    intro i out st hi g ho h1 h2
    have e : (bytesOf s).drop i = [] := List.drop_of_length_le (by rw [bytesOf_length]; omega)
    rw [e] at h1 h2
    simp only [prun, List.append_nil] at h1 h2
    subst h1
    rw [h2]
    refine Ev.step (f := _) (fun k => by
      simp only [rotuluslaw1_UtfAll.l0]
      rw [if_neg (by omega)]) ?_
    refine Ev.bind (eq_ev _ (by omega)) ?_
    simp only [if_true, utf_Reader_Waits.f, Option.bind_some, bne_self_eq_false]
    refine Ev.step (f := _) (fun k => by
      simp only [rotuluslaw1_UtfAll.j1]
      rw [if_neg (by decide)]) ?_
    unfold utf_Reader_End.f
    by_cases c : (dec (bytesOf s)).2 = 0
    · have ha : (dec (bytesOf s)).1 ++ [] = alls (bytesOf s) := by unfold alls; rw [if_pos c]
      have ha' : (dec (bytesOf s)).1 = alls (bytesOf s) := by rw [← ha, List.append_nil]
      have := utfAll_j2 s hs 0 0 st.2.1 st.2.2.1 st.2.2.2.1 st.2.2.2.2 _ _ ha
      rw [← ha'] at this
      simp only [c, Int.natCast_zero, if_true, Option.bind_some]
      exact this
    · have ha : (dec (bytesOf s)).1 ++ [65533] = alls (bytesOf s) := by unfold alls; rw [if_neg c]
      have := utfAll_j2 s hs 0 0 st.2.1 st.2.2.1 st.2.2.2.1 st.2.2.2.2 _ _ ha
      rw [← ha] at this
      simp only [show ¬ (((dec (bytesOf s)).2 : Int) = 0) by omega, show (((dec (bytesOf s)).2 : Int) > 0) by omega, if_true, if_false, Option.bind_some, List.nil_append, List.length_nil]
      refine Ev.congr (fun k => ?_) this
      rw [if_pos (by omega), if_pos (by omega)]
  | succ d ih =>
    intro i out st hi g ho h1 h2
    have hb := bt_range s (i : Int)
    have hlt : i < s.size := by omega
    rw [drop_bt s i hlt] at h1 h2
    simp only [prun] at h1 h2
    have hl := pput_len st (bt s (i : Int))
    obtain ⟨K, hK⟩ := ih (i + 1) (out ++ (pput st (bt s (i : Int))).1) (pput st (bt s (i : Int))).2 (by omega) (pput_good st _ g hb.1 hb.2) (by rw [List.length_append]; omega) (by rw [List.append_assoc]; exact h1) h2
    refine Ev.step (f := _) (fun k => by
      simp only [rotuluslaw1_UtfAll.l0]
      rw [if_pos (by omega), if_pos (by omega)]) ?_
    refine ⟨K + 4, fun k hk => ?_⟩
    dsimp only
    rw [put_ge k st _ (by omega) g hb.1 hb.2]
    simp only [Option.bind_some]
    rw [if_pos (by omega), w64 (by omega) (by omega)]
    exact hK k (by omega)

theorem UtfAll : rotuluslaw1_UtfAll.Pure := by
  intro a0 _
  refine Ev.rounds (g := fun k => rotuluslaw1_UtfAll.f k a0) ?_
  unfold rotuluslaw1_UtfAll.f
  refine Ev.bind begun_ev ?_
  simp only [if_true]
  rw [short_at a0 80 (by decide)]
  simp only [Option.bind_some]
  have hs := short_size a0 80 (by decide)
  obtain ⟨s, e⟩ : ∃ s, s = a0.extract 0 (mn (a0.size : Int) 80).toNat := ⟨_, rfl⟩
  rw [← e] at hs ⊢
  refine Ev.bind (ref_ev s (by omega)) ?_
  have h := run_dec _ (bytesOf s) (Nat.le_refl _) 0 0 0 0
  exact utfAll_l0 s (by omega) s.size 0 [] (0, 0, 0, 0, 0) (by omega) rest_good (by simp) (by simpa using h.1) (by simpa using h.2)

end Go.Proofs.Ytohafoihegjlnaa.Pure
