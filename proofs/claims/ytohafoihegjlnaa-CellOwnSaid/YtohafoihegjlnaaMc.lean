/- Helpers: which cells may be, and whose cells a sign has. -/
import Derived.Test.YtohafoihegjlnaaPx19
import Derived.Test.YtohafoihegjlnaaMw
namespace Go.Proofs.Ytohafoihegjlnaa.Pure
open Go.RowKit Go.Proofs.Ytohafoihegjlnaa.P Go.Proofs.YtohafoihegjlnaaW.PrintWords Go.Proofs.YtohafoihegjlnaaW.PrintLast

/-- May a cell be? -/
def mayB (r w a : Int) : Bool := if a < 0 ∨ a > 255 then false else (r == 0 && (w == 1 && a == 0)) || (w == 0 && r == 0) || ((w == 1 || w == 2) && w == rotulusref1_Width.w r)
theorem pad_eq (r w a : Int) : cell_IsPad.f r w a = some (r == 0 && (w == 1 && a == 0)) := rfl
theorem may_j0 (k : Nat) (r w a : Int) (h0 : -2147483648 ≤ r) (h1 : r ≤ 2147483647) :
    cell_May.j0 (k + 1) false r w a = some ((r == 0 && (w == 1 && a == 0)) || (w == 0 && r == 0) || ((w == 1 || w == 2) && w == rotulusref1_Width.w r)) := by
  simp only [cell_May.j0, pad_eq, of_eq r h0 h1, Option.bind_some, Bool.false_eq_true, if_false]
  by_cases hw : w = 0
  · subst hw
    by_cases hr : r = 0 <;> simp [hr]
  · rw [if_neg hw]
    by_cases hp : (r == 0 && (w == 1 && a == 0)) = true
    · rw [if_pos hp, hp]
      simp
    · rw [if_neg hp]
      simp only [Bool.not_eq_true] at hp
      rw [hp]
      by_cases h1 : w = 1
      · simp [h1]
      · by_cases h2 : w = 2
        · simp [h2]
        · simp [h1, h2, hw]
theorem may_at (k : Nat) (r w a : Int) (h0 : -2147483648 ≤ r) (h1 : r ≤ 2147483647) : cell_May.f (k + 1) r w a = some (mayB r w a) := by
  unfold cell_May.f mayB
  by_cases ha : a < 0
  · rw [if_pos ha, if_pos (Or.inl ha)]
    simp [cell_May.j0]
  · rw [if_neg ha]
    by_cases hb : a > 255
    · rw [if_pos (Or.inr hb), decide_eq_true hb]
      simp [cell_May.j0]
    · rw [if_neg (by omega), decide_eq_false hb, may_j0 k r w a h0 h1]
theorem may_ev (r w a : Int) (h0 : -2147483648 ≤ r) (h1 : r ≤ 2147483647) : Ev (fun k => cell_May.f k r w a) (mayB r w a) :=
  ⟨1, fun k hk => by obtain ⟨k, rfl⟩ : ∃ m, k = m + 1 := ⟨k - 1, by omega⟩; exact may_at k r w a h0 h1⟩
theorem may_sign (r a : Int) (hw : rotulusref1_Width.w r ≠ 0) (ha : 0 ≤ a) (hb : a ≤ 255) : mayB r (rotulusref1_Width.w r) a = true := by
  have := w_range r
  unfold mayB
  rw [if_neg (by omega)]
  have : rotulusref1_Width.w r = 1 ∨ rotulusref1_Width.w r = 2 := by omega
  rcases this with e | e <;> simp [e]
/-- a sign's cells -/
def ofL (r a : Int) : List S49 := if rotulusref1_Width.w r = 0 ∨ a < 0 ∨ a > 255 then [] else if rotulusref1_Width.w r = 2 then [⟨r, 2, a⟩, ⟨0, 0, a⟩] else [⟨r, 1, a⟩]
theorem of_at (k : Nat) (r a : Int) (h0 : -2147483648 ≤ r) (h1 : r ≤ 2147483647) : cell_Of.f (k + 1) r a = some (ofL r a) := by
  unfold cell_Of.f ofL
  rw [of_eq r h0 h1]
  simp only [Option.bind_some]
  have hr := w_range r
  by_cases hw : rotulusref1_Width.w r = 0
  · rw [if_pos hw, if_pos (Or.inl hw)]
    simp [cell_Of.j0]
  · rw [if_neg hw, may_at k _ _ _ h0 h1]
    simp only [Option.bind_some]
    by_cases ha : a < 0 ∨ a > 255
    · rw [if_pos (Or.inr ha)]
      simp [mayB, ha, cell_Of.j0]
    · rw [if_neg (by omega), may_sign r a hw (by omega) (by omega)]
      simp only [Bool.not_true, cell_Of.j0, Bool.false_eq_true, if_false]
      by_cases h2 : rotulusref1_Width.w r = 2
      · rw [if_pos h2, if_pos h2, h2]
      · rw [if_neg h2, if_neg h2]
        have : rotulusref1_Width.w r = 1 := by omega
        rw [this]
theorem of_ev (r a : Int) (h0 : -2147483648 ≤ r) (h1 : r ≤ 2147483647) : Ev (fun k => cell_Of.f k r a) (ofL r a) :=
  ⟨1, fun k hk => by obtain ⟨k, rfl⟩ : ∃ m, k = m + 1 := ⟨k - 1, by omega⟩; exact of_at k r a h0 h1⟩

end Go.Proofs.Ytohafoihegjlnaa.Pure
