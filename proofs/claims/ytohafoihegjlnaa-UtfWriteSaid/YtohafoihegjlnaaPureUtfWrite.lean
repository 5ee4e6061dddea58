/- What is written of signs is the reference's, and is read back. -/
import Derived.Test.YtohafoihegjlnaaPx34
import Derived.Test.YtohafoihegjlnaaMb
import Derived.Test.YtohafoihegjlnaaMo
import Derived.Test.YtohafoihegjlnaaMa
set_option linter.unusedVariables false
set_option linter.unusedSimpArgs false
namespace Go.Proofs.Ytohafoihegjlnaa.Pure
open Go.RowKit Go.Proofs.Ytohafoihegjlnaa.P Go.Proofs.YtohafoihegjlnaaW.PrintWords Go.Proofs.YtohafoihegjlnaaW.PrintLast

theorem refwrite_ev (l : List Int) (hl : l.length ≤ 1000000) : ∀ (d i : Nat) (out : ByteArray), i + d = l.length → out.size ≤ 4 * i →
    Ev (fun k => rotulusref1_Write.l0 k l out (i : Int)) (out ++ strOfNums (encs1 (l.drop i))) := by
  intro d
  induction d with
  | zero =>
    intro i out hi h0
    refine Ev.step (f := _) (fun k => by
      simp only [rotulusref1_Write.l0]
      rfl) ?_
    rw [List.drop_of_length_le (by omega)]
    have e : out ++ strOfNums (encs1 []) = out := by
      apply ByteArray.ext
      rw [ByteArray.data_append]
      simp [encs1, strOfNums]
    rw [e]
    exact evq_neg (by omega) (Ev.now out)
  | succ d ih =>
    intro i out hi h0
    have hlt : i < l.length := by omega
    have he := enc_len l[i]
    refine Ev.step (f := _) (fun k => by
      simp only [rotulusref1_Write.l0]
      rfl) ?_
    refine evq_pos (by omega) (evq_pos (by omega) ?_)
    rw [rd_at l i hlt]
    refine Ev.bind (put_sign_ev _) (evq_pos (by rw [nums_size]; omega) ?_)
    rw [w64 (by omega) (by omega), List.drop_eq_getElem_cons hlt, encs1, nums_app, ← ByteArray.append_assoc]
    exact ih (i + 1) _ (by omega) (by rw [ByteArray.size_append, nums_size]; omega)

theorem utfWrite_l0 (l : List Int) (hl : l.length ≤ 100) (s : ByteArray) (hs : s.size ≤ 400) (hd : alls (bytesOf s) = l.map fix) : ∀ (d i : Nat), i + d = l.length →
    Ev (fun k => rotuluslaw1_UtfWrite.l0 k l s ((l.take i).map fix) (i : Int)) true := by
  intro d
  induction d with
  | zero =>
    intro i hi
    refine Ev.step (f := _) (fun k => by
      simp only [rotuluslaw1_UtfWrite.l0]
      rfl) ?_
    refine evq_neg (by omega) ?_
    refine Ev.bind (all_ev s (by omega)) ?_
    rw [List.take_of_length_le (by omega), hd]
    refine Ev.bind (eq_ev _ (by rw [List.length_map]; omega)) ?_
    exact Ev.now true
  | succ d ih =>
    intro i hi
    have hlt : i < l.length := by omega
    have e : (l.take (i + 1)).map fix = (l.take i).map fix ++ [fix l[i]] := by
      rw [List.take_succ_eq_append_getElem hlt, List.map_append]
      rfl
    have hz : ((l.take i).map fix).length ≤ 100 := by rw [List.length_map, List.length_take]; omega
    have := ih (i + 1) (by omega)
    rw [e] at this
    refine Ev.step (f := _) (fun k => by
      simp only [rotuluslaw1_UtfWrite.l0]
      rfl) ?_
    refine evq_pos (by omega) (evq_pos (by omega) ?_)
    rw [rd_at l i hlt, sign_at]
    refine evq_some ?_
    rw [w64 (by omega) (by omega)]
    by_cases c : sgn l[i]
    · refine evq_pos (decide_eq_true c) (evq_pos (by omega) ?_)
      unfold fix at this ⊢
      rw [if_pos c] at this
      exact this
    · refine evq_neg (by rw [decide_eq_false c]; decide) (evq_pos (by omega) ?_)
      unfold fix at this ⊢
      rw [if_neg c] at this
      exact this

theorem UtfWrite : rotuluslaw1_UtfWrite.Pure := by
  intro l0 _ _ hx
  refine Ev.rounds (g := fun k => rotuluslaw1_UtfWrite.f k l0) ?_
  unfold rotuluslaw1_UtfWrite.f
  refine Ev.bind begun_ev ?_
  have hm : 0 ≤ mn (l0.length : Int) 30 ∧ mn (l0.length : Int) 30 ≤ l0.length ∧ (mn (l0.length : Int) 30).toNat ≤ 30 := by unfold mn; split <;> omega
  refine evq_pos rfl (evq_pos (by omega) (evq_pos (by omega) (evq_some ?_)))
  obtain ⟨l, e⟩ : ∃ l, l = l0.take (mn (l0.length : Int) 30).toNat := ⟨_, rfl⟩
  rw [← e]
  have hl : l.length ≤ 30 := by rw [e, List.length_take]; omega
  have hw : ∀ x ∈ l, -2147483648 ≤ x ∧ x ≤ 2147483647 := by
    intro x h
    have := hx x (List.mem_of_mem_take (e ▸ h))
    simp [Lit.wf] at this
    exact ⟨this.1, this.2⟩
  refine Ev.bind (write_ev l hw (by omega)) ?_
  have hr := refwrite_ev l (by omega) l.length 0 ⟨#[]⟩ (by omega) (by simp [ByteArray.size])
  have e2 : (⟨#[]⟩ : ByteArray) ++ strOfNums (encs1 (l.drop 0)) = strOfNums (encs1 l) := by
    apply ByteArray.ext
    rw [ByteArray.data_append]
    simp
  rw [e2] at hr
  refine Ev.bind (a := strOfNums (encs1 l)) (by unfold rotulusref1_Write.f; exact hr) (evq_pos rfl ?_)
  have hq := encs1_len l
  have hz : (strOfNums (encs1 l)).size ≤ 400 := by rw [nums_size]; omega
  have hb : alls (bytesOf (strOfNums (encs1 l))) = l.map fix := by
    rw [bytes_nums _ (encs1_range l)]
    unfold alls
    rw [dec_encs1]
    simp
  exact utfWrite_l0 l (by omega) _ hz hb l.length 0 (by omega)

end Go.Proofs.Ytohafoihegjlnaa.Pure
