/- Helpers: how the reference writes a sign. -/
import Derived.Test.YtohafoihegjlnaaPx32
import Derived.Test.YtohafoihegjlnaaMn
set_option linter.unusedVariables false
set_option linter.unusedSimpArgs false
namespace Go.Proofs.Ytohafoihegjlnaa.Pure
open Go.RowKit Go.Proofs.Ytohafoihegjlnaa.P Go.Proofs.YtohafoihegjlnaaW.PrintWords Go.Proofs.YtohafoihegjlnaaW.PrintLast

theorem evq_pos {α : Type} {c : Prop} [Decidable c] (h : c) {f g : Nat → Option α} {r : α} (x : Ev f r) : Ev (fun k => if c then f k else g k) r := by
  simpa only [if_pos h] using x
theorem evq_neg {α : Type} {c : Prop} [Decidable c] (h : ¬ c) {f g : Nat → Option α} {r : α} (x : Ev g r) : Ev (fun k => if c then f k else g k) r := by
  simpa only [if_neg h] using x
theorem evq_some {α β : Type} {a : α} {f : Nat → α → Option β} {r : β} (x : Ev (fun k => f k a) r) : Ev (fun k => (some a).bind (f k)) r := Ev.bind (Ev.now a) x
theorem sign_at (r : Int) : rotulusref1_Sign.f r = some (decide (sgn r)) := by
  unfold rotulusref1_Sign.f
  by_cases c : sgn r
  · rw [decide_eq_true c]
    unfold sgn at c
    rw [if_pos (by omega), if_pos (by omega)]
    split
    · rfl
    · rw [decide_eq_true (by omega)]
  · rw [decide_eq_false c]
    unfold sgn at c
    by_cases c1 : r ≥ 0
    · rw [if_pos c1]
      by_cases c2 : r ≤ 1114111
      · rw [if_pos c2, if_neg (by omega), decide_eq_false (by omega)]
      · rw [if_neg c2]
    · rw [if_neg c1]
theorem put0 (k : Nat) (r : Int) (h : sgn r) : rotulusref1_Put.f (k + 1) r = some (strOfNums (enc0 r)) := by
  have h' := h
  unfold sgn at h'
  simp only [rotulusref1_Put.f]
  rw [sign_at, decide_eq_true h]
  simp only [Option.bind_some, if_true]
  simp only [Int.tdiv_eq_ediv_of_nonneg h'.1, Int.tmod_eq_emod_of_nonneg h'.1]
  unfold enc0
  by_cases c1 : r < 128
  · rw [if_pos c1, if_pos c1, show r % 256 = r by omega]
  rw [if_neg c1, if_neg c1]
  by_cases c2 : r < 2048
  · rw [if_pos c2, if_pos c2, w32 (x := r / 64) (by omega) (by omega), w32 (by omega) (by omega), w32 (by omega) (by omega), show (192 + r / 64) % 256 = 192 + r / 64 by omega, show (128 + r % 64) % 256 = 128 + r % 64 by omega]
  rw [if_neg c2, if_neg c2]
  by_cases c3 : r < 65536
  · rw [if_pos c3, if_pos c3, w32 (x := r / 64) (by omega) (by omega), w32 (x := r / 4096) (by omega) (by omega), Int.tmod_eq_emod_of_nonneg (by omega), w32 (by omega) (by omega), w32 (by omega) (by omega), w32 (by omega) (by omega), show (224 + r / 4096) % 256 = 224 + r / 4096 by omega, show (128 + r / 64 % 64) % 256 = 128 + r / 64 % 64 by omega, show (128 + r % 64) % 256 = 128 + r % 64 by omega]
  · rw [if_neg c3, if_neg c3, w32 (x := r / 64) (by omega) (by omega), w32 (x := r / 4096) (by omega) (by omega), w32 (x := r / 262144) (by omega) (by omega), Int.tmod_eq_emod_of_nonneg (show 0 ≤ r / 4096 by omega), Int.tmod_eq_emod_of_nonneg (show 0 ≤ r / 64 by omega), w32 (by omega) (by omega), w32 (by omega) (by omega), w32 (by omega) (by omega), w32 (by omega) (by omega), show (240 + r / 262144) % 256 = 240 + r / 262144 by omega, show (128 + r / 4096 % 64) % 256 = 128 + r / 4096 % 64 by omega, show (128 + r / 64 % 64) % 256 = 128 + r / 64 % 64 by omega, show (128 + r % 64) % 256 = 128 + r % 64 by omega]
theorem put_sign (k : Nat) (r : Int) : rotulusref1_Put.f (k + 2) r = some (strOfNums (enc r)) := by
  unfold enc fix
  by_cases c : sgn r
  · rw [if_pos c]; exact put0 (k + 1) r c
  · rw [if_neg c]
    have := put0 k 65533 (by unfold sgn; omega)
    rw [rotulusref1_Put.f]
    rw [sign_at, decide_eq_false c]
    simp only [Option.bind_some]
    rw [if_neg (by decide), this]
    rfl
theorem put_sign_ev (r : Int) : Ev (fun k => rotulusref1_Put.f k r) (strOfNums (enc r)) := ⟨2, fun k hk => by
  obtain ⟨m, rfl⟩ : ∃ m, k = m + 2 := ⟨k - 2, by omega⟩
  exact put_sign m r⟩
end Go.Proofs.Ytohafoihegjlnaa.Pure
