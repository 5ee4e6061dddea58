-- written by a print that this session turned (wip/tools/turnprint.py)
import Derived.Test.YtohafoihegjlnaaCx0
namespace Go.Proofs.Ytohafoihegjlnaa.C
open Go.RowKit Go.Proofs.YtohafoihegjlnaaW.PrintWords Go.Proofs.YtohafoihegjlnaaW.PrintLast Go.Proofs.YtohafoihegjlnaaW.PrintMore
attribute [local go_sem] max2_int min2_int max_two min_two max_three min_three max_four min_four   -- for this text's walks alone
set_option linter.unusedVariables false
set_option linter.unusedSimpArgs false

/-! ### rotulusref1_value: function 45 -/
def rotulusref1_value.l0 : Nat → ByteArray → Int → Int → Option (Int)
  | 0, _, _, _ => none
  | k + 1, x0, x3, x4 => if x4 < (x0.size : Int) then (if 0 ≤ x4 then (rotulusref1_value.l0 k x0 (wrap32 ((wrap32 (x3 * 64)) + (Int.tmod (wrap32 (bt x0 x4)) 64))) (wrap64 (x4 + 1))) else (none)) else (some x3)
def rotulusref1_value.f (k : Nat) (a0 : ByteArray) : Option (Int) := if (a0.size : Int) = 1 then (if 0 < (a0.size : Int) then (some (wrap32 (bt a0 0))) else (none)) else (if 0 < (a0.size : Int) then (if 0 ≤ (IntKind.u64.wrap (wrap64 (7 - (a0.size : Int)))) then (if (shl .i32 1 (IntKind.u64.wrap (wrap64 (7 - (a0.size : Int))))) = 0 then (none) else (rotulusref1_value.l0 k a0 (Int.tmod (wrap32 (bt a0 0)) (shl .i32 1 (IntKind.u64.wrap (wrap64 (7 - (a0.size : Int)))))) 1)) else (none)) else (none))
theorem rotulusref1_value.mono_l : ∀ k, (∀ y0 y1 y2, LeO (rotulusref1_value.l0 k y0 y1 y2) (rotulusref1_value.l0 (k + 1) y0 y1 y2))
  | 0 => fun _ _ _ r h => by simp [rotulusref1_value.l0] at h
  | k + 1 => by
    have ih0 := rotulusref1_value.mono_l k
    · intro y0 y1 y2
      unfold rotulusref1_value.l0
      repeat' first
      | (with_reducible exact ih0 _ _ _)
      | (with_reducible exact LeO.refl _)
      | (with_reducible exact LeO.none _)
      | (with_reducible refine LeO.ite ?_ ?_)
      | (with_reducible refine LeO.bind ?_ (fun _ => ?_))
      | exact ih0 _ _ _
      | exact LeO.none _
      | refine LeO.ite ?_ ?_
      | refine LeO.bind ?_ (fun _ => ?_)
theorem rotulusref1_value.mono : ∀ a0 k, LeO (rotulusref1_value.f k a0) (rotulusref1_value.f (k + 1) a0) := by
  intro a0 k
  have ih0 := rotulusref1_value.mono_l k
  unfold rotulusref1_value.f
  repeat' first
      | (with_reducible exact ih0 _ _ _)
      | (with_reducible exact LeO.refl _)
      | (with_reducible exact LeO.none _)
      | (with_reducible refine LeO.ite ?_ ?_)
      | (with_reducible refine LeO.bind ?_ (fun _ => ?_))
      | exact ih0 _ _ _
      | exact LeO.none _
      | refine LeO.ite ?_ ?_
      | refine LeO.bind ?_ (fun _ => ?_)
set_option maxHeartbeats 8000000 in
set_option maxRecDepth 100000 in
theorem rotulusref1_value.calls (k : Nat) (a0 : ByteArray) (r : Int) (w : World) (h : rotulusref1_value.f k a0 = some r) :
    Calls Try.prog 45 #[.string a0] w fun e w' => e = .returned (.int .i32 r) ∧ Drawn0 w w' := by
  have H : (if (a0.size : Int) = 1 then (if 0 < (a0.size : Int) then (some (wrap32 (bt a0 0))) else (none)) else (if 0 < (a0.size : Int) then (if 0 ≤ (IntKind.u64.wrap (wrap64 (7 - (a0.size : Int)))) then (if (shl .i32 1 (IntKind.u64.wrap (wrap64 (7 - (a0.size : Int))))) = 0 then (none) else (rotulusref1_value.l0 k a0 (Int.tmod (wrap32 (bt a0 0)) (shl .i32 1 (IntKind.u64.wrap (wrap64 (7 - (a0.size : Int)))))) 1)) else (none)) else (none))) = some r := h
  clear h
  by_cases c2 : (a0.size : Int) = 1
  · rw [if_pos c2] at H
    have c2b0 : ((a0.size : Int) == 1) = true := beq_iff_eq.mpr c2
    have c2b1 : ((a0.size : Int) != 1) = false := bne_eq_false_iff_eq.mpr c2
    clear c2
    have c3 : 0 < (a0.size : Int) := Decidable.byContradiction fun hc_ => absurd ((if_neg hc_).symm.trans H) (by simp)
    rw [if_pos c3] at H
    have c3b0 : decide (0 < (a0.size : Int)) = true := decide_eq_true c3
    have c3b1 : decide (0 < a0.size) = true := decide_eq_true (by omega)
    clear c3
    obtain rfl := Option.some.inj H
    have p4 : 0 ≤ (0 : Int) := (by omega)
    have q4 : 0 < a0.size := (by have : (0 : Int) < (a0.size : Int) := of_decide_eq_true (by first | (with_reducible assumption) | assumption); omega)
    have hx4 : ∀ h : 0 < a0.size, ((a0[0]'h).toNat : Int) = bt a0 0 := bt_at a0 0
    clear p4
    have qi4 : (0 < (a0.size : Int)) = True := eq_true (of_decide_eq_true (by first | (with_reducible assumption) | assumption))
    replace q4 := eq_true q4
    go_enter Try.func45, Try.ntmps45
    go_wp2
    go_ret
    exact ⟨by first | rfl | (simp; done) | (simp [*]; done), by repeat (first | exact Drawn0.refl _ | apply Drawn0.step)⟩
  · rw [if_neg c2] at H
    have c2b0 : ((a0.size : Int) == 1) = false := beq_eq_false_iff_ne.mpr c2
    have c2b1 : ((a0.size : Int) != 1) = true := bne_iff_ne.mpr c2
    have c5 : 0 < (a0.size : Int) := Decidable.byContradiction fun hc_ => absurd ((if_neg hc_).symm.trans H) (by simp)
    rw [if_pos c5] at H
    have c5b0 : decide (0 < (a0.size : Int)) = true := decide_eq_true c5
    have c5b1 : decide (0 < a0.size) = true := decide_eq_true (by omega)
    clear c5
    obtain ⟨ji7, hji7⟩ : ∃ j_ : Int, (IntKind.u64.wrap (wrap64 (7 - (a0.size : Int)))) = j_ := ⟨_, rfl⟩
    replace H : (if 0 ≤ (ji7) then (if (shl .i32 1 (ji7)) = 0 then (none) else (rotulusref1_value.l0 k a0 (Int.tmod (wrap32 (bt a0 0)) (shl .i32 1 (ji7))) 1)) else (none)) = some r := by first | (rw [hji7] at H; exact H) | (simp only [hji7] at H ⊢; exact H)
    have c8 : 0 ≤ (ji7) := Decidable.byContradiction fun hc_ => absurd ((if_neg hc_).symm.trans H) (by simp)
    rw [if_pos c8] at H
    have c8b0 := eq_true c8
    have c8b1 : decide (0 ≤ (ji7)) = true := decide_eq_true c8
    clear c8
    obtain ⟨ji9, hji9⟩ : ∃ j_ : Int, (shl .i32 1 (ji7)) = j_ := ⟨_, rfl⟩
    replace H : (if (ji9) = 0 then (none) else (rotulusref1_value.l0 k a0 (Int.tmod (wrap32 (bt a0 0)) (ji9)) 1)) = some r := by first | (rw [hji9] at H; exact H) | (simp only [hji9] at H ⊢; exact H)
    have hji9_ : (IntKind.i32.wrap (1 * 2 ^ min (ji7).toNat 32)) = ji9 := hji9
    have hji9z : (ji7) ≤ 32 → (IntKind.i32.wrap (1 * 2 ^ (ji7).toNat)) = ji9 := shl_small hji9
    have hji9u : (IntKind.i32.wrap (2 ^ min (ji7).toNat 32)) = ji9 := by have h_ := hji9_; rw [Int.one_mul] at h_; exact h_
    have hji9v : (ji7) ≤ 32 → (IntKind.i32.wrap (2 ^ (ji7).toNat)) = ji9 := fun hle_ => by have h_ := hji9z hle_; rw [Int.one_mul] at h_; exact h_
    have hji9y : (wrap32 (1 * 2 ^ min (ji7).toNat 32)) = ji9 := (i32_w _).symm.trans hji9_
    have hji9x : (ji7) ≤ 32 → (wrap32 (1 * 2 ^ (ji7).toNat)) = ji9 := fun h_ => (i32_w _).symm.trans (hji9z h_)
    by_cases c10 : (ji9) = 0
    · rw [if_pos c10] at H
      exact absurd H (by simp)
    · rw [if_neg c10] at H
      have c10b0 : ((ji9) == 0) = false := beq_eq_false_iff_ne.mpr c10
      have c10b1 : ((ji9) != 0) = true := bne_iff_ne.mpr c10
      have H' := Aside0.mk H
      clear H
      have p6 : 0 ≤ (0 : Int) := (by omega)
      have q6 : 0 < a0.size := (by have : (0 : Int) < (a0.size : Int) := of_decide_eq_true (by first | (with_reducible assumption) | assumption); omega)
      have hx6 : ∀ h : 0 < a0.size, ((a0[0]'h).toNat : Int) = bt a0 0 := bt_at a0 0
      clear p6
      have qi6 : (0 < (a0.size : Int)) = True := eq_true (of_decide_eq_true (by first | (with_reducible assumption) | assumption))
      replace q6 := eq_true q6
      go_enter Try.func45, Try.ntmps45
      go_wp2
      go_loopg [3, 4] k (fun kq v3 v4 w' => ∃ (x3_1 : Int) (x4_1 : Int), v3 = .int .i32 x3_1 ∧ v4 = .int .i64 x4_1 ∧ Aside0 (rotulusref1_value.l0 kq a0 x3_1 x4_1 = some r) ∧ Aside0 (kq ≤ k) ∧ Drawn0 w w')
      case atStart => exact ⟨(Int.tmod (wrap32 (bt a0 0)) (ji9)), (1), (by first | rfl | (simp; done) | (simp only [← hji9] <;> (first | rfl | simp)) | (simp [*]; done)), (by first | rfl | (simp; done) | (simp [*]; done)), H', ⟨Nat.le_refl _⟩, by repeat (first | exact Drawn0.refl _ | apply Drawn0.step)⟩
      case round =>
        clear H'
        try clear c1
        try clear c2
        try clear c2b0
        try clear c2b1
        try clear p2
        try clear c3
        try clear c3b0
        try clear c3b1
        try clear p3
        try clear c4
        try clear p4
        try clear q4
        try clear hx4
        try clear qi4
        try clear c5
        try clear c5b0
        try clear c5b1
        try clear p6
        try clear q6
        try clear hx6
        try clear qi6
        try clear c8
        try clear c8b0
        try clear c8b1
        try clear c10
        try clear c10b0
        try clear c10b1
        try clear p4
        try clear p6
        try clear q4
        try clear q6
        obtain ⟨x3_1, x4_1, rfl, rfl, HA, HK1, ⟨m1, rfl⟩⟩ := hrel
        cases gk with
        | zero => exact absurd HA.out (by simp [rotulusref1_value.l0])
        | succ k1 =>
          have H := HA.out
          clear HA
          simp only [rotulusref1_value.l0] at H
          by_cases c11 : x4_1 < (a0.size : Int)
          · rw [if_pos c11] at H
            have c11b0 : decide (x4_1 < (a0.size : Int)) = true := decide_eq_true c11
            clear c11
            have c12 : 0 ≤ x4_1 := Decidable.byContradiction fun hc_ => absurd ((if_neg hc_).symm.trans H) (by simp)
            rw [if_pos c12] at H
            have c12b0 : decide (0 ≤ x4_1) = true := decide_eq_true c12
            clear c12
            have H' := Aside0.mk H
            clear H
            have p13 : 0 ≤ (x4_1 : Int) := of_decide_eq_true (by first | (with_reducible assumption) | assumption)
            have q13 : x4_1 < (a0.size : Int) := of_decide_eq_true (by first | (with_reducible assumption) | assumption)
            have hx13 := bt_at a0 x4_1
            replace p13 := eq_true p13
            replace q13 := eq_true q13
            go_wp2
            go_roundg k1
            case measure => have := HK1.out; omega
            case rel => exact ⟨(wrap32 ((wrap32 (x3_1 * 64)) + (Int.tmod (wrap32 (bt a0 x4_1)) 64))), (wrap64 (x4_1 + 1)), (by first | rfl | (simp; done) | (simp [*]; done)), (by first | rfl | (simp; done) | (simp [*]; done)), H', ⟨by have := HK1.out; omega⟩, by repeat (first | exact Drawn0.refl _ | apply Drawn0.step)⟩
          · rw [if_neg c11] at H
            have c11b0 : decide (x4_1 < (a0.size : Int)) = false := decide_eq_false c11
            clear c11
            obtain rfl := Option.some.inj H
            go_wp2
            go_ret
            exact ⟨by first | rfl | (simp; done) | (simp only [← hji7, ← hji9] <;> (first | rfl | simp)) | (simp [*]; done), by repeat (first | exact Drawn0.refl _ | apply Drawn0.step)⟩

end Go.Proofs.Ytohafoihegjlnaa.C
