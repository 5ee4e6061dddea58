/- Helpers: all signs of a text, by the reader, are the plain function's. -/
import Derived.Test.YtohafoihegjlnaaMCu
import Derived.Test.YtohafoihegjlnaaCx24
import Derived.Test.YtohafoihegjlnaaCx25
set_option linter.unusedVariables false
set_option linter.unusedSimpArgs false
namespace Go.Proofs.Ytohafoihegjlnaa.Pure
open Go.RowKit Go.Proofs.Ytohafoihegjlnaa.C Go.Proofs.YtohafoihegjlnaaW.PrintWords Go.Proofs.YtohafoihegjlnaaW.PrintLast

theorem bytes_range (s : ByteArray) : ∀ b ∈ bytesOf s, 0 ≤ b ∧ b ≤ 255 := by
  intro b hb
  unfold bytesOf at hb
  obtain ⟨c, _, rfl⟩ := List.mem_map.1 hb
  have := c.toNat_lt
  omega
theorem bt_get (s : ByteArray) (i : Nat) (h : i < s.size) : bt s (i : Int) = (bytesOf s)[i]'(by rw [bytesOf_length]; exact h) := by
  rw [← rd_bytesOf]
  unfold rd
  have h2 : i < (bytesOf s).length := by rw [bytesOf_length]; exact h
  simp [List.getD_eq_getElem?_getD, List.getElem?_eq_getElem h2]
theorem drop_bt (s : ByteArray) (i : Nat) (h : i < s.size) : (bytesOf s).drop i = bt s (i : Int) :: (bytesOf s).drop (i + 1) := by
  rw [bt_get s i h, List.drop_eq_getElem_cons (by rw [bytesOf_length]; exact h)]
theorem pput_len (s : St) (b : Int) : (pput s b).1.length ≤ 2 := by
  have := pbeg_len s.2.1 s.2.2.1 b
  unfold pput
  (repeat' split) <;> simp <;> omega
theorem put_ge (k : Nat) (s : St) (b : Int) (hk : 4 ≤ k) (g : Good s) (h0 : 0 ≤ b) (h1 : b ≤ 255) : utf_Reader_Put.f k s.1 s.2.1 s.2.2.1 s.2.2.2.1 s.2.2.2.2 b = some (pput s b) := by
  obtain ⟨m, rfl⟩ : ∃ m, k = m + 4 := ⟨k - 4, by omega⟩
  exact put_at m s b g h0 h1
/-- what is told at the end -/
def fin (s : St) : List Int := if s.1 = 0 then [] else [65533]

theorem all_at (s : ByteArray) (hs : s.size ≤ 1000000) : ∀ (d i : Nat) (out : List Int) (st : St) (k : Nat), i + d = s.size → d + 6 ≤ k → Good st → out.length ≤ 2 * i →
    utf_All.l0 k s out (s.size : Int) (i : Int) st.1 st.2.1 st.2.2.1 st.2.2.2.1 st.2.2.2.2 = some (out ++ ((prun st ((bytesOf s).drop i)).1 ++ fin (prun st ((bytesOf s).drop i)).2)) := by
  intro d
  induction d with
  | zero =>
    intro i out st k hi hk g ho
    obtain ⟨k, rfl⟩ : ∃ m, k = m + 1 := ⟨k - 1, by omega⟩
    have e : (bytesOf s).drop i = [] := List.drop_of_length_le (by rw [bytesOf_length]; omega)
    rw [e]
    simp only [utf_All.l0, prun, List.nil_append]
    rw [if_neg (by omega)]
    unfold utf_Reader_End.f fin
    by_cases c : st.1 = 0
    · rw [if_pos c, if_pos c]
      simp only [Option.bind_some, List.append_nil, List.length_nil]
      rw [if_pos (by omega)]
    · rw [if_neg c, if_neg c]
      simp only [Option.bind_some, List.length_cons, List.length_nil]
      rw [if_pos (by omega)]
  | succ d ih =>
    intro i out st k hi hk g ho
    obtain ⟨k, rfl⟩ : ∃ m, k = m + 1 := ⟨k - 1, by omega⟩
    have hb := bt_range s (i : Int)
    have hlt : i < s.size := by omega
    rw [drop_bt s i hlt]
    simp only [utf_All.l0, prun]
    rw [if_pos (by omega), if_pos (by omega), if_pos (by omega), put_ge k st _ (by omega) g hb.1 hb.2]
    simp only [Option.bind_some]
    have hl := pput_len st (bt s (i : Int))
    rw [if_pos (by omega), w64 (by omega) (by omega)]
    have := ih (i + 1) (out ++ (pput st (bt s (i : Int))).1) (pput st (bt s (i : Int))).2 k (by omega) (by omega) (pput_good st _ g hb.1 hb.2) (by rw [List.length_append]; omega)
    rw [show ((i : Int) + 1) = ((i + 1 : Nat) : Int) from rfl, this]
    simp only [List.append_assoc]
theorem rest_good : Good ((0, 0, 0, 0, 0) : St) := by unfold Good; decide
/-- all signs -/
def alls (l : List Int) : List Int := (dec l).1 ++ if (dec l).2 = 0 then [] else [65533]
theorem fin_eq (l : List Int) (m r lo hi : Int) : fin (prun (0, m, r, lo, hi) l).2 = if (dec l).2 = 0 then [] else [65533] := by
  have h := run_dec l.length l (Nat.le_refl _) m r lo hi
  unfold fin
  rw [h.2]
  by_cases c : (dec l).2 = 0
  · rw [if_pos c, if_pos (by omega)]
  · rw [if_neg c, if_neg (by omega)]
theorem all_ev (s : ByteArray) (hs : s.size ≤ 1000000) : Ev (fun k => utf_All.f k s) (alls (bytesOf s)) := by
  refine ⟨s.size + 6, fun k hk => ?_⟩
  unfold utf_All.f
  have h := all_at s hs s.size 0 [] (0, 0, 0, 0, 0) k (by omega) hk rest_good (by simp)
  rw [show ((0 : Nat) : Int) = 0 from rfl] at h
  refine h.trans ?_
  simp only [List.drop_zero, List.nil_append]
  rw [fin_eq, (run_dec _ _ (Nat.le_refl _) 0 0 0 0).1]
  rfl

theorem eq_at (l : List Int) (hl : l.length ≤ 1000000000) : ∀ (d i k : Nat), i + d = l.length → d < k → rotuluslaw1_eq.l0 k l l (i : Int) = some true := by
  intro d
  induction d with
  | zero =>
    intro i k hi hk
    obtain ⟨k, rfl⟩ : ∃ m, k = m + 1 := ⟨k - 1, by omega⟩
    simp only [rotuluslaw1_eq.l0]
    rw [if_neg (by omega)]
  | succ d ih =>
    intro i k hi hk
    obtain ⟨k, rfl⟩ : ∃ m, k = m + 1 := ⟨k - 1, by omega⟩
    simp only [rotuluslaw1_eq.l0]
    rw [if_pos (by omega), if_pos (by omega), if_pos (by omega), if_pos trivial, w64 (by omega) (by omega)]
    exact ih (i + 1) k (by omega) (by omega)
theorem eq_ev (l : List Int) (hl : l.length ≤ 1000000000) : Ev (fun k => rotuluslaw1_eq.f k l l) true :=
  ⟨l.length + 1, fun k hk => by
    unfold rotuluslaw1_eq.f
    dsimp only
    rw [if_pos rfl]
    exact eq_at l hl l.length 0 k (by omega) (by omega)⟩

theorem dec_len : ∀ (n : Nat) (l : List Int), l.length ≤ n → (dec l).1.length + (dec l).2 ≤ l.length
  | _, [], _ => by rw [dec.eq_def]; simp
  | 0, _ :: _, h => absurd h (by simp)
  | n + 1, b0 :: t, h => by
    have ht : t.length ≤ n := by simpa using h
    rw [dec.eq_def]
    dsimp only
    have i0 := dec_len n t ht
    split
    · simp [cons1]; omega
    · split
      · simp [cons1]; omega
      · split
        · simp
        · rename_i b1 t1
          have i1 := dec_len n t1 (by simp at ht; omega)
          split
          · split
            · simp [cons1]; omega
            · split
              · simp
              · rename_i b2 t2
                have i2 := dec_len n t2 (by simp at ht; omega)
                have i2' := dec_len n (b2 :: t2) (by simp at ht ⊢; omega)
                split
                · split
                  · simp [cons1]; omega
                  · split
                    · simp
                    · rename_i b3 t3
                      have i3 := dec_len n t3 (by simp at ht; omega)
                      have i3' := dec_len n (b3 :: t3) (by simp at ht ⊢; omega)
                      split
                      · simp [cons1]; omega
                      · simp [cons1] at i3' ⊢; omega
                · simp [cons1] at i2' ⊢; omega
          · simp [cons1] at i0 ⊢; omega
theorem alls_len (l : List Int) : (alls l).length ≤ l.length := by
  have := dec_len l.length l (Nat.le_refl _)
  unfold alls
  split <;> simp <;> omega
theorem short_at (s : ByteArray) (n : Int) (hn : 0 ≤ n) : rotuluslaw1_Short.f s n = some (s.extract 0 (mn (s.size : Int) n).toNat) := by
  unfold rotuluslaw1_Short.f
  have : 0 ≤ mn (s.size : Int) n ∧ mn (s.size : Int) n ≤ s.size := by unfold mn; split <;> omega
  rw [if_pos this.1, if_pos this.2]
theorem short_size (s : ByteArray) (n : Int) (hn : 0 ≤ n) : ((s.extract 0 (mn (s.size : Int) n).toNat).size : Int) ≤ n := by
  rw [ByteArray.size_extract]
  unfold mn
  split <;> omega

end Go.Proofs.Ytohafoihegjlnaa.Pure
