/- Helpers: the width of a list of signs. -/
import Derived.Test.YtohafoihegjlnaaPx46
import Derived.Test.YtohafoihegjlnaaMb
import Derived.Test.YtohafoihegjlnaaMw
set_option linter.unusedVariables false
set_option linter.unusedSimpArgs false
namespace Go.Proofs.Ytohafoihegjlnaa.Pure
open Go.RowKit Go.Proofs.Ytohafoihegjlnaa.P Go.Proofs.YtohafoihegjlnaaW.PrintWords Go.Proofs.YtohafoihegjlnaaW.PrintLast

theorem evif_pos {α : Type} {c : Prop} [Decidable c] (h : c) {f g : Nat → Option α} {r : α} (x : Ev f r) : Ev (fun k => if c then f k else g k) r := by
  simpa only [if_pos h] using x
theorem evif_neg {α : Type} {c : Prop} [Decidable c] (h : ¬ c) {f g : Nat → Option α} {r : α} (x : Ev g r) : Ev (fun k => if c then f k else g k) r := by
  simpa only [if_neg h] using x
theorem evif_some {α β : Type} {a : α} {f : Nat → α → Option β} {r : β} (x : Ev (fun k => f k a) r) : Ev (fun k => (some a).bind (f k)) r := Ev.bind (Ev.now a) x
/-- the sum of the widths -/
def wsum (l : List Int) : Int := (l.map rotulusref1_Width.w).sum
theorem wsum_cons (x : Int) (l : List Int) : wsum (x :: l) = rotulusref1_Width.w x + wsum l := by simp [wsum]
theorem wsum_app (l m : List Int) : wsum (l ++ m) = wsum l + wsum m := by simp [wsum]
theorem wsum_range : ∀ l : List Int, 0 ≤ wsum l ∧ wsum l ≤ 2 * l.length
  | [] => by simp [wsum]
  | x :: l => by
    have h := w_range x
    have := wsum_range l
    rw [wsum_cons]
    simp only [List.length_cons]
    omega
theorem rd_get (l : List Int) (i : Nat) (h : i < l.length) : rd l (i : Int) = l[i] := by
  unfold rd
  rw [Int.toNat_natCast]
  simp [List.getD_eq_getElem?_getD, List.getElem?_eq_getElem h]
theorem w64' {x : Int} (h0 : -9223372036854775808 ≤ x) (h1 : x ≤ 9223372036854775807) : wrap64 x = x := by unfold wrap64; omega
theorem text_at (l : List Int) (hw : ∀ x ∈ l, -2147483648 ≤ x ∧ x ≤ 2147483647) (hl : l.length ≤ 1000000) : ∀ (d i : Nat) (s : Int) (k : Nat), i + d = l.length → d < k → 0 ≤ s → s ≤ 2 * i →
    width_Text.l0 k s l (l.length : Int) (i : Int) = some (s + wsum (l.drop i)) := by
  intro d
  induction d with
  | zero =>
    intro i s k hi hk h0 h1
    obtain ⟨k, rfl⟩ : ∃ m, k = m + 1 := ⟨k - 1, by omega⟩
    simp only [width_Text.l0]
    rw [if_neg (by omega), List.drop_of_length_le (by omega)]
    simp [wsum]
  | succ d ih =>
    intro i s k hi hk h0 h1
    obtain ⟨k, rfl⟩ : ∃ m, k = m + 1 := ⟨k - 1, by omega⟩
    have hlt : i < l.length := by omega
    have hm := hw _ (List.getElem_mem hlt)
    have hr := w_range l[i]
    simp only [width_Text.l0]
    rw [if_pos (by omega), if_pos (by omega), if_pos (by omega), rd_get l i hlt, of_eq _ hm.1 hm.2]
    simp only [Option.bind_some]
    rw [w64' (by omega) (by omega), w64' (by omega) (by omega), show ((i : Int) + 1) = ((i + 1 : Nat) : Int) from rfl, ih (i + 1) _ k (by omega) (by omega) (by omega) (by omega), List.drop_eq_getElem_cons hlt, wsum_cons, Int.add_assoc]
theorem text_ev (l : List Int) (hw : ∀ x ∈ l, -2147483648 ≤ x ∧ x ≤ 2147483647) (hl : l.length ≤ 1000000) : Ev (fun k => width_Text.f k l) (wsum l) :=
  ⟨l.length + 1, fun k hk => by
    unfold width_Text.f
    have := text_at l hw hl l.length 0 0 k (by omega) hk (by omega) (by omega)
    rw [show ((0 : Nat) : Int) = 0 from rfl] at this
    refine this.trans ?_
    simp⟩
theorem mn_le (n : Nat) (b : Int) (hb : 0 ≤ b) : 0 ≤ mn (n : Int) b ∧ mn (n : Int) b ≤ n ∧ (mn (n : Int) b).toNat ≤ b := by
  unfold mn; split <;> omega
end Go.Proofs.Ytohafoihegjlnaa.Pure
