/- Helpers: how wide a sign is, by the program and by the reference. -/
import Derived.Test.YtohafoihegjlnaaPx11
import Derived.Test.YtohafoihegjlnaaPx36
namespace Go.Proofs.Ytohafoihegjlnaa.Pure
open Go.RowKit Go.Proofs.Ytohafoihegjlnaa.P Go.Proofs.YtohafoihegjlnaaW.PrintWords Go.Proofs.YtohafoihegjlnaaW.PrintLast

theorem isIn_nil (r : Int) : rotulusref1_Width.isIn [] r = false := rfl
theorem isIn_cons (p : Int × Int) (l : List (Int × Int)) (r : Int) : rotulusref1_Width.isIn (p :: l) r = true ↔ (p.1 ≤ r ∧ r ≤ p.2) ∨ rotulusref1_Width.isIn l r = true := by
  simp [rotulusref1_Width.isIn]
theorem zeros_iff (r : Int) (h0 : -2147483648 ≤ r) (h1 : r ≤ 2147483647) : rotulusref1_Width.isIn rotulusref1_Width.zeros r = true ↔ width_none.c r := by
  simp only [rotulusref1_Width.zeros, isIn_cons, isIn_nil, width_none.c, Bool.false_eq_true, or_false]
  omega
theorem wides_iff (r : Int) : rotulusref1_Width.isIn rotulusref1_Width.wides r = true ↔ width_wide.c r := by
  simp only [rotulusref1_Width.wides, isIn_cons, isIn_nil, width_wide.c, Bool.false_eq_true, or_false]
theorem of_eq (r : Int) (h0 : -2147483648 ≤ r) (h1 : r ≤ 2147483647) : width_Of.f r = some (rotulusref1_Width.w r) := by
  have z := zeros_iff r h0 h1
  have v := wides_iff r
  unfold width_Of.f width_none.f width_wide.f rotulusref1_Width.w
  simp only [Option.bind_some]
  by_cases c : width_none.c r
  · rw [if_pos (z.2 c), if_pos (show width_none.b r = true from decide_eq_true c)]
  · rw [if_neg (fun h => c (z.1 h)), if_neg (show ¬ width_none.b r = true from fun h => c (of_decide_eq_true h))]
    by_cases d : width_wide.c r
    · rw [if_pos (v.2 d), if_pos (show width_wide.b r = true from decide_eq_true d)]
    · rw [if_neg (fun h => d (v.1 h)), if_neg (show ¬ width_wide.b r = true from fun h => d (of_decide_eq_true h))]
theorem w_range (r : Int) : 0 ≤ rotulusref1_Width.w r ∧ rotulusref1_Width.w r ≤ 2 := by
  unfold rotulusref1_Width.w
  split
  · omega
  · split <;> omega
theorem i32_range {x : Int} (h : (Lit.int .i32 x).wf = true) : -2147483648 ≤ x ∧ x ≤ 2147483647 := by
  simp [Lit.wf] at h
  exact ⟨h.1, h.2⟩
theorem wrap32_range (x : Int) : -2147483648 ≤ wrap32 x ∧ wrap32 x ≤ 2147483647 := by
  unfold wrap32
  omega

end Go.Proofs.Ytohafoihegjlnaa.Pure
