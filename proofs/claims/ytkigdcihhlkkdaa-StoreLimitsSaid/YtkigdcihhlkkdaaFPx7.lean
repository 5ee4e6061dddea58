-- written by a print that this session turned (wip/tools/turnprint.py)
import Derived.Test.YtkigdcihhlkkdaaFPx0
namespace Go.Proofs.Ytkigdcihhlkkdaa.P
open Go.RowKit Go.Proofs.YtkigdcihhlkkdaaW.PrintWords Go.Proofs.YtkigdcihhlkkdaaW.PrintLast Go.Proofs.YtkigdcihhlkkdaaW.PrintMore
attribute [local go_sem] max2_int min2_int max_two min_two max_three min_three max_four min_four   -- for this text's walks alone
set_option linter.unusedVariables false
set_option linter.unusedSimpArgs false
def width_none.c (r : Int) : Prop := r < 32 ∨ (127 ≤ r ∧ r ≤ 159) ∨ (768 ≤ r ∧ r ≤ 879) ∨ (8203 ≤ r ∧ r ≤ 8207) ∨ (65024 ≤ r ∧ r ≤ 65039) ∨ 1114111 < r ∨ (55296 ≤ r ∧ r ≤ 57343)
instance (r : Int) : Decidable (width_none.c r) := by unfold width_none.c; infer_instance
def width_none.b (r : Int) : Bool := decide (width_none.c r)
def width_none.f (a0 : Int) : Option Bool := some (width_none.b a0)
theorem width_none.yes (r : Int) (h : r < 32 ∨ (127 ≤ r ∧ r ≤ 159) ∨ (768 ≤ r ∧ r ≤ 879) ∨ (8203 ≤ r ∧ r ≤ 8207) ∨ (65024 ≤ r ∧ r ≤ 65039) ∨ 1114111 < r ∨ (55296 ≤ r ∧ r ≤ 57343)) : width_none.b r = true := decide_eq_true h
theorem width_none.no (r : Int) (h : ¬ (r < 32 ∨ (127 ≤ r ∧ r ≤ 159) ∨ (768 ≤ r ∧ r ≤ 879) ∨ (8203 ≤ r ∧ r ≤ 8207) ∨ (65024 ≤ r ∧ r ≤ 65039) ∨ 1114111 < r ∨ (55296 ≤ r ∧ r ≤ 57343))) : width_none.b r = false := decide_eq_false h
set_option maxHeartbeats 2000000 in
set_option maxRecDepth 100000 in
theorem width_none.calls (a0 : Int) (r : Bool) (w : World) (h : width_none.f a0 = some r) :
    Calls Try.prog 81 #[.int .i32 a0] w fun e w' => e = .returned (.bool r) ∧ Drawn0 w w' := by
  obtain rfl := Option.some.inj h
  clear h
  go_enter Try.func81, Try.ntmps81
  go_wp2
  all_goals go_ret
  all_goals first
    | exact ⟨by rw [width_none.yes a0 (by omega)] <;> rfl, Drawn0.refl _⟩
    | exact ⟨by rw [width_none.no a0 (by omega)] <;> rfl, Drawn0.refl _⟩
def width_wide.c (r : Int) : Prop := (4352 ≤ r ∧ r ≤ 4447) ∨ (11904 ≤ r ∧ r ≤ 12350) ∨ (12353 ≤ r ∧ r ≤ 13311) ∨ (13312 ≤ r ∧ r ≤ 19903) ∨ (19968 ≤ r ∧ r ≤ 40959) ∨ (40960 ≤ r ∧ r ≤ 42191) ∨ (44032 ≤ r ∧ r ≤ 55203) ∨ (63744 ≤ r ∧ r ≤ 64255) ∨ (65072 ≤ r ∧ r ≤ 65135) ∨ (65280 ≤ r ∧ r ≤ 65376) ∨ (65504 ≤ r ∧ r ≤ 65510) ∨ (127744 ≤ r ∧ r ≤ 128591) ∨ (129280 ≤ r ∧ r ≤ 129535) ∨ (131072 ≤ r ∧ r ≤ 262141)
instance (r : Int) : Decidable (width_wide.c r) := by unfold width_wide.c; infer_instance
def width_wide.b (r : Int) : Bool := decide (width_wide.c r)
def width_wide.f (a0 : Int) : Option Bool := some (width_wide.b a0)
theorem width_wide.yes (r : Int) (h : (4352 ≤ r ∧ r ≤ 4447) ∨ (11904 ≤ r ∧ r ≤ 12350) ∨ (12353 ≤ r ∧ r ≤ 13311) ∨ (13312 ≤ r ∧ r ≤ 19903) ∨ (19968 ≤ r ∧ r ≤ 40959) ∨ (40960 ≤ r ∧ r ≤ 42191) ∨ (44032 ≤ r ∧ r ≤ 55203) ∨ (63744 ≤ r ∧ r ≤ 64255) ∨ (65072 ≤ r ∧ r ≤ 65135) ∨ (65280 ≤ r ∧ r ≤ 65376) ∨ (65504 ≤ r ∧ r ≤ 65510) ∨ (127744 ≤ r ∧ r ≤ 128591) ∨ (129280 ≤ r ∧ r ≤ 129535) ∨ (131072 ≤ r ∧ r ≤ 262141)) : width_wide.b r = true := decide_eq_true h
theorem width_wide.no (r : Int) (h : ¬ ((4352 ≤ r ∧ r ≤ 4447) ∨ (11904 ≤ r ∧ r ≤ 12350) ∨ (12353 ≤ r ∧ r ≤ 13311) ∨ (13312 ≤ r ∧ r ≤ 19903) ∨ (19968 ≤ r ∧ r ≤ 40959) ∨ (40960 ≤ r ∧ r ≤ 42191) ∨ (44032 ≤ r ∧ r ≤ 55203) ∨ (63744 ≤ r ∧ r ≤ 64255) ∨ (65072 ≤ r ∧ r ≤ 65135) ∨ (65280 ≤ r ∧ r ≤ 65376) ∨ (65504 ≤ r ∧ r ≤ 65510) ∨ (127744 ≤ r ∧ r ≤ 128591) ∨ (129280 ≤ r ∧ r ≤ 129535) ∨ (131072 ≤ r ∧ r ≤ 262141))) : width_wide.b r = false := decide_eq_false h
set_option maxHeartbeats 2000000 in
set_option maxRecDepth 100000 in
theorem width_wide.calls (a0 : Int) (r : Bool) (w : World) (h : width_wide.f a0 = some r) :
    Calls Try.prog 82 #[.int .i32 a0] w fun e w' => e = .returned (.bool r) ∧ Drawn0 w w' := by
  obtain rfl := Option.some.inj h
  clear h
  go_enter Try.func82, Try.ntmps82
  go_wp2
  all_goals go_ret
  all_goals first
    | exact ⟨by rw [width_wide.yes a0 (by omega)] <;> rfl, Drawn0.refl _⟩
    | exact ⟨by rw [width_wide.no a0 (by omega)] <;> rfl, Drawn0.refl _⟩
end Go.Proofs.Ytkigdcihhlkkdaa.P
