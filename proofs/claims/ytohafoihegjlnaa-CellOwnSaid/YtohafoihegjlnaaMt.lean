/- Helpers: the text of cells; cells trimmed. -/
import Derived.Test.YtohafoihegjlnaaPx15
import Derived.Test.YtohafoihegjlnaaPx20
import Derived.Test.YtohafoihegjlnaaMn
import Derived.Test.YtohafoihegjlnaaMc
set_option linter.unusedVariables false
set_option linter.unusedSimpArgs false
namespace Go.Proofs.Ytohafoihegjlnaa.Pure
open Go.RowKit Go.Proofs.Ytohafoihegjlnaa.P Go.Proofs.YtohafoihegjlnaaW.PrintWords Go.Proofs.YtohafoihegjlnaaW.PrintLast

def padB (c : S49) : Bool := c.f0 == 0 && (c.f1 == 1 && c.f2 == 0)
/-- what a cell tells -/
def ct (c : S49) : List Int := if c.f1 = 1 ∨ c.f1 = 2 then (if padB c then [] else enc c.f0) else []
def texts (l : List S49) : List Int := l.flatMap ct
theorem ct_len (c : S49) : (ct c).length ≤ 4 := by
  have := enc_len c.f0
  unfold ct
  (repeat' split) <;> simp <;> omega
theorem texts_len : ∀ l : List S49, (texts l).length ≤ 4 * l.length
  | [] => by simp [texts]
  | c :: l => by
    have := ct_len c
    have h := texts_len l
    unfold texts at h ⊢
    rw [List.flatMap_cons, List.length_append, List.length_cons]
    omega
theorem rdT_at (l : List S49) (i : Nat) (h : i < l.length) : rd_T49 l (i : Int) = l[i] := by
  unfold rd_T49
  rw [Int.toNat_natCast]
  simp [List.getD_eq_getElem?_getD, List.getElem?_eq_getElem h]
theorem ctext_at (l : List S49) (hw : ∀ x ∈ l, -2147483648 ≤ x.f0 ∧ x.f0 ≤ 2147483647) (hl : l.length ≤ 1000000) : ∀ (d i : Nat) (out : List Int) (k : Nat), i + d = l.length → d + 1 < k → out.length ≤ 4 * i →
    cell_Text.l0 k out l (l.length : Int) (i : Int) = some (strOfNums (out ++ texts (l.drop i))) := by
  intro d
  induction d with
  | zero =>
    intro i out k hi hk h0
    obtain ⟨k, rfl⟩ : ∃ m, k = m + 1 := ⟨k - 1, by omega⟩
    simp only [cell_Text.l0]
    rw [if_neg (by omega), List.drop_of_length_le (by omega)]
    simp [texts]
  | succ d ih =>
    intro i out k hi hk h0
    obtain ⟨k, rfl⟩ : ∃ m, k = m + 1 := ⟨k - 1, by omega⟩
    have hlt : i < l.length := by omega
    have hm := hw _ (List.getElem_mem hlt)
    have he := ct_len l[i]
    have hap := app_at (k - 1) out l[i].f0 hm.1 hm.2 (by omega)
    rw [show k - 1 + 1 = k by omega] at hap
    have nx : ∀ o : List Int, o = out ++ ct l[i] → cell_Text.l0 k o l (l.length : Int) (wrap64 ((i : Int) + 1)) = some (strOfNums (out ++ texts (l.drop i))) := by
      intro o e
      have ht : texts (l.drop i) = ct l[i] ++ texts (l.drop (i + 1)) := by
        rw [List.drop_eq_getElem_cons hlt]
        unfold texts
        rw [List.flatMap_cons]
      rw [w64 (by omega) (by omega), show ((i : Int) + 1) = ((i + 1 : Nat) : Int) from rfl, ih (i + 1) o k (by omega) (by omega) (by rw [e, List.length_append]; omega), ht, e, List.append_assoc]
    simp only [cell_Text.l0]
    rw [if_pos (by omega), if_pos (by omega), if_pos (by omega), rdT_at l i hlt, pad_eq, hap, show (l[i].f0 == 0 && (l[i].f1 == 1 && l[i].f2 == 0)) = padB l[i] from rfl]
    simp only [Option.bind_some]
    by_cases c1 : l[i].f1 = 1
    · rw [if_pos c1]
      by_cases p : padB l[i] = true
      · rw [if_pos p]
        refine nx _ ?_
        unfold ct
        rw [if_pos (Or.inl c1), if_pos p, List.append_nil]
      · rw [if_neg p]
        refine nx _ ?_
        unfold ct
        rw [if_pos (Or.inl c1), if_neg p]
    · rw [if_neg c1]
      by_cases c2 : l[i].f1 = 2
      · rw [if_pos c2]
        by_cases p : padB l[i] = true
        · rw [if_pos p]
          refine nx _ ?_
          unfold ct
          rw [if_pos (Or.inr c2), if_pos p, List.append_nil]
        · rw [if_neg p]
          refine nx _ ?_
          unfold ct
          rw [if_pos (Or.inr c2), if_neg p]
      · rw [if_neg c2]
        refine nx _ ?_
        unfold ct
        rw [if_neg (by omega), List.append_nil]
theorem ctext_ev (l : List S49) (hw : ∀ x ∈ l, -2147483648 ≤ x.f0 ∧ x.f0 ≤ 2147483647) (hl : l.length ≤ 1000000) : Ev (fun k => cell_Text.f k l) (strOfNums (texts l)) :=
  ⟨l.length + 2, fun k hk => by
    unfold cell_Text.f
    have := ctext_at l hw hl l.length 0 [] k (by omega) hk (by simp)
    rw [show ((0 : Nat) : Int) = 0 from rfl] at this
    refine this.trans ?_
    simp⟩
theorem trim_at (l : List S49) (hl : l.length ≤ 1000000) : ∀ (i k : Nat), i ≤ l.length → i < k → ∃ n, n ≤ i ∧ cell_Trim.l0 k l (i : Int) = some (l.take n) := by
  intro i
  induction i with
  | zero =>
    intro k hi hk
    obtain ⟨k, rfl⟩ : ∃ m, k = m + 1 := ⟨k - 1, by omega⟩
    refine ⟨0, by omega, ?_⟩
    simp only [cell_Trim.l0]
    rw [if_neg (by omega), if_pos (by omega), if_pos (by omega)]
    unfold api_Cell_50.f
    simp
  | succ i ih =>
    intro k hi hk
    obtain ⟨k, rfl⟩ : ∃ m, k = m + 1 := ⟨k - 1, by omega⟩
    have e : wrap64 (((i + 1 : Nat) : Int) - 1) = (i : Int) := by rw [w64 (by omega) (by omega)]; omega
    obtain ⟨n, hn, h⟩ := ih k (by omega) (by omega)
    simp only [cell_Trim.l0]
    rw [if_pos (by omega), e, if_pos (by omega), if_pos (by omega), rdT_at l i (by omega)]
    unfold cell_IsBlank.f cell_Blank.f
    simp only [Option.bind_some]
    by_cases c : (l[i].f0 == 32 && (l[i].f1 == 1 && l[i].f2 == 0)) = true
    · rw [if_pos c]
      exact ⟨n, by omega, h⟩
    · rw [if_neg c]
      refine ⟨i + 1, by omega, ?_⟩
      rw [if_pos (by omega), if_pos (by omega)]
      unfold api_Cell_50.f
      simp only [Option.bind_some, List.nil_append, List.length_nil, Int.toNat_natCast]
      rw [if_pos (by rw [List.length_take]; omega)]
      rfl
theorem trim_ev (l : List S49) (hl : l.length ≤ 1000000) : ∃ n, Ev (fun k => cell_Trim.f k l) (l.take n) := by
  obtain ⟨n, _, h⟩ := trim_at l hl l.length (l.length + 1) (by omega) (by omega)
  refine ⟨n, Ev.of (k := l.length + 1) (fun k => cell_Trim.mono _ k) ?_⟩
  exact h
end Go.Proofs.Ytohafoihegjlnaa.Pure
