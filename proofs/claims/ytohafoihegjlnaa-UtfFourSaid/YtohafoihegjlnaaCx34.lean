-- written by a print that this session turned (wip/tools/turnprint.py)
import Derived.Test.YtohafoihegjlnaaCx0
import Derived.Test.YtohafoihegjlnaaGConv2
import Derived.Test.YtohafoihegjlnaaCx6
import Derived.Test.YtohafoihegjlnaaCx23
import Derived.Test.YtohafoihegjlnaaCx25
import Derived.Test.YtohafoihegjlnaaCx30
import Derived.Test.YtohafoihegjlnaaCx32
namespace Go.Proofs.Ytohafoihegjlnaa.C
open Go.RowKit Go.Proofs.YtohafoihegjlnaaW.PrintWords Go.Proofs.YtohafoihegjlnaaW.PrintLast Go.Proofs.YtohafoihegjlnaaW.PrintMore
attribute [local go_sem] max2_int min2_int max_two min_two max_three min_three max_four min_four   -- for this text's walks alone
set_option linter.unusedVariables false
set_option linter.unusedSimpArgs false

/-! ### rotuluslaw1_UtfFour: function 12 -/
def rotuluslaw1_UtfFour.j0 : Nat → Int → Int → List Int → Bool → Option (Bool)
 | 0, _, _, _, _ => none
 | k + 1, x1, x2, x8, x38 => if x38 = true then (some false) else (if 0 ≤ (Int.tmod (wrap64 ((Int.tmod x1 4) + 4)) 4) then (if (Int.tmod (wrap64 ((Int.tmod x1 4) + 4)) 4) < (x8.length : Int) then ((some (x8.set ((Int.tmod (wrap64 ((Int.tmod x1 4) + 4)) 4) : Int).toNat x2 : List Int)).bind fun y503 => ((rotulusref1_All.f k (strOfNums y503)).bind fun bt504 => (if bt504.2 > 0 then (if bt504.1.length < 35184372088832 then ((utf_All.f k (strOfNums y503)).bind fun t511 => ((rotuluslaw1_eq.f k t511 (bt504.1 ++ [65533])).bind fun t514 => (some t514))) else (none)) else ((utf_All.f k (strOfNums y503)).bind fun t515 => ((rotuluslaw1_eq.f k t515 bt504.1).bind fun t518 => (some t518)))))) else (none)) else (none))
def rotuluslaw1_UtfFour.f (k : Nat) (a0 : Int) (a1 : Int) (a2 : Int) : Option (Bool) := (rotuluslaw1_begun.f k).bind fun t494 => (if t494 = true then ((rotulusref1_Put.f k (wrap32 (65536 + (Int.tmod (wrap32 ((Int.tmod a0 1048576) + 1048576)) 1048576)))).bind fun t495 => (if t495.size ≤ 9223372036854775807 then ((some (bytesOf t495 : List Int)).bind fun y496 => (if (y496.length : Int) = 4 then ((utf_All.f k (strOfNums y496)).bind fun t499 => (if (t499.length : Int) = 1 then (if 0 < (t499.length : Int) then (rotuluslaw1_UtfFour.j0 k a1 a2 y496 ((rd t499 0) != (wrap32 (65536 + (Int.tmod (wrap32 ((Int.tmod a0 1048576) + 1048576)) 1048576))))) else (none)) else (rotuluslaw1_UtfFour.j0 k a1 a2 y496 true))) else (some false))) else (none))) else (some false))
theorem rotuluslaw1_UtfFour.mono_l : ∀ k, (∀ y0 y1 y2 y3, LeO (rotuluslaw1_UtfFour.j0 k y0 y1 y2 y3) (rotuluslaw1_UtfFour.j0 (k + 1) y0 y1 y2 y3))
 | 0 => fun _ _ _ _ r h => by simp [rotuluslaw1_UtfFour.j0] at h
 | k + 1 => by
  have ih0 := rotuluslaw1_UtfFour.mono_l k
  ·intro y0 y1 y2 y3
   unfold rotuluslaw1_UtfFour.j0
   repeat' first
   | (with_reducible exact ih0 _ _ _ _)
   | (with_reducible exact rotuluslaw1_begun.mono _)
   | (with_reducible exact rotuluslaw1_eq.mono _ _ _)
   | (with_reducible exact rotulusref1_All.mono _ _)
   | (with_reducible exact rotulusref1_Put.mono _ _)
   | (with_reducible exact utf_All.mono _ _)
   | (with_reducible exact LeO.refl _)
   | (with_reducible exact LeO.none _)
   | (with_reducible refine LeO.ite ?_ ?_)
   | (with_reducible refine LeO.bind ?_ (fun _ => ?_))
   | exact ih0 _ _ _ _
   | exact rotuluslaw1_begun.mono _
   | exact rotuluslaw1_eq.mono _ _ _
   | exact rotulusref1_All.mono _ _
   | exact rotulusref1_Put.mono _ _
   | exact utf_All.mono _ _
   | exact LeO.none _
   | refine LeO.ite ?_ ?_
   | refine LeO.bind ?_ (fun _ => ?_)
theorem rotuluslaw1_UtfFour.mono : ∀ a0 a1 a2 k, LeO (rotuluslaw1_UtfFour.f k a0 a1 a2) (rotuluslaw1_UtfFour.f (k + 1) a0 a1 a2) := by
 intro a0 a1 a2 k
 have ih0 := rotuluslaw1_UtfFour.mono_l k
 unfold rotuluslaw1_UtfFour.f
 repeat' first
   | (with_reducible exact ih0 _ _ _ _)
   | (with_reducible exact rotuluslaw1_begun.mono _)
   | (with_reducible exact rotuluslaw1_eq.mono _ _ _)
   | (with_reducible exact rotulusref1_All.mono _ _)
   | (with_reducible exact rotulusref1_Put.mono _ _)
   | (with_reducible exact utf_All.mono _ _)
   | (with_reducible exact LeO.refl _)
   | (with_reducible exact LeO.none _)
   | (with_reducible refine LeO.ite ?_ ?_)
   | (with_reducible refine LeO.bind ?_ (fun _ => ?_))
   | exact ih0 _ _ _ _
   | exact rotuluslaw1_begun.mono _
   | exact rotuluslaw1_eq.mono _ _ _
   | exact rotulusref1_All.mono _ _
   | exact rotulusref1_Put.mono _ _
   | exact utf_All.mono _ _
   | exact LeO.none _
   | refine LeO.ite ?_ ?_
   | refine LeO.bind ?_ (fun _ => ?_)
set_option maxHeartbeats 8000000 in
set_option maxRecDepth 100000 in
theorem rotuluslaw1_UtfFour.calls (k : Nat) (a0 : Int) (a1 : Int) (a2 : Int) (r : Bool) (w : World) (h : rotuluslaw1_UtfFour.f k a0 a1 a2 = some r) :
  Calls Try.prog 12 #[.int .i32 a0, .int .i64 a1, .int .u8 a2] w fun e w' => e = .returned (.bool r) ∧ Below w.heap.size w w' := by
 have HB := Aside0.mk (Below.refl w.heap.size w)
 have H : ((rotuluslaw1_begun.f k).bind fun t494 => (if t494 = true then ((rotulusref1_Put.f k (wrap32 (65536 + (Int.tmod (wrap32 ((Int.tmod a0 1048576) + 1048576)) 1048576)))).bind fun t495 => (if t495.size ≤ 9223372036854775807 then ((some (bytesOf t495 : List Int)).bind fun y496 => (if (y496.length : Int) = 4 then ((utf_All.f k (strOfNums y496)).bind fun t499 => (if (t499.length : Int) = 1 then (if 0 < (t499.length : Int) then (rotuluslaw1_UtfFour.j0 k a1 a2 y496 ((rd t499 0) != (wrap32 (65536 + (Int.tmod (wrap32 ((Int.tmod a0 1048576) + 1048576)) 1048576))))) else (none)) else (rotuluslaw1_UtfFour.j0 k a1 a2 y496 true))) else (some false))) else (none))) else (some false))) = some r := h
 clear h
 replace H := Option.bind_eq_some_iff.mp H
 obtain ⟨t494, A40, H⟩ := H
 replace H : (if t494 = true then ((rotulusref1_Put.f k (wrap32 (65536 + (Int.tmod (wrap32 ((Int.tmod a0 1048576) + 1048576)) 1048576)))).bind fun t495 => (if t495.size ≤ 9223372036854775807 then ((some (bytesOf t495 : List Int)).bind fun y496 => (if (y496.length : Int) = 4 then ((utf_All.f k (strOfNums y496)).bind fun t499 => (if (t499.length : Int) = 1 then (if 0 < (t499.length : Int) then (rotuluslaw1_UtfFour.j0 k a1 a2 y496 ((rd t499 0) != (wrap32 (65536 + (Int.tmod (wrap32 ((Int.tmod a0 1048576) + 1048576)) 1048576))))) else (none)) else (rotuluslaw1_UtfFour.j0 k a1 a2 y496 true))) else (some false))) else (none))) else (some false)) = some r := H
 have A4 := Aside0.mk A40
 clear A40
 by_cases c5 : t494 = true
 ·subst c5
  have H1 : ((rotulusref1_Put.f k (wrap32 (65536 + (Int.tmod (wrap32 ((Int.tmod a0 1048576) + 1048576)) 1048576)))).bind fun t495 => (if t495.size ≤ 9223372036854775807 then ((some (bytesOf t495 : List Int)).bind fun y496 => (if (y496.length : Int) = 4 then ((utf_All.f k (strOfNums y496)).bind fun t499 => (if (t499.length : Int) = 1 then (if 0 < (t499.length : Int) then (rotuluslaw1_UtfFour.j0 k a1 a2 y496 ((rd t499 0) != (wrap32 (65536 + (Int.tmod (wrap32 ((Int.tmod a0 1048576) + 1048576)) 1048576))))) else (none)) else (rotuluslaw1_UtfFour.j0 k a1 a2 y496 true))) else (some false))) else (none))) = some r := by rw [if_pos rfl] at H; exact H
  clear H
  have H := H1
  clear H1
  replace H := Option.bind_eq_some_iff.mp H
  obtain ⟨t495, A60, H⟩ := H
  replace H : (if t495.size ≤ 9223372036854775807 then ((some (bytesOf t495 : List Int)).bind fun y496 => (if (y496.length : Int) = 4 then ((utf_All.f k (strOfNums y496)).bind fun t499 => (if (t499.length : Int) = 1 then (if 0 < (t499.length : Int) then (rotuluslaw1_UtfFour.j0 k a1 a2 y496 ((rd t499 0) != (wrap32 (65536 + (Int.tmod (wrap32 ((Int.tmod a0 1048576) + 1048576)) 1048576))))) else (none)) else (rotuluslaw1_UtfFour.j0 k a1 a2 y496 true))) else (some false))) else (none)) = some r := H
  have A6 := Aside0.mk A60
  clear A60
  have c7 : t495.size ≤ 9223372036854775807 := Decidable.byContradiction fun hc_ => absurd ((if_neg hc_).symm.trans H) (by simp)
  rw [if_pos c7] at H
  have c7b0 := eq_true c7
  have c7b1 : decide (t495.size ≤ 9223372036854775807) = true := decide_eq_true c7
  try have c7b2 : (9223372036854775807 < t495.size) = False := eq_false (Nat.not_lt.2 c7)
  clear c7
  obtain ⟨y496, hy496⟩ : ∃ y_ : List Int, y_ = (bytesOf t495) := ⟨_, rfl⟩
  replace H : (if (y496.length : Int) = 4 then ((utf_All.f k (strOfNums y496)).bind fun t499 => (if (t499.length : Int) = 1 then (if 0 < (t499.length : Int) then (rotuluslaw1_UtfFour.j0 k a1 a2 y496 ((rd t499 0) != (wrap32 (65536 + (Int.tmod (wrap32 ((Int.tmod a0 1048576) + 1048576)) 1048576))))) else (none)) else (rotuluslaw1_UtfFour.j0 k a1 a2 y496 true))) else (some false)) = some r := by first | (rw [hy496]; with_reducible exact H) | (have H2_ := (Option.bind_some _ _).symm.trans H; rw [hy496]; with_reducible exact H2_) | (have H2_ := (Option.bind_some _ _).symm.trans H; with_reducible exact H2_) | with_reducible exact H | (rw [hy496]; exact H) | exact H
  have Ny496 := Aside0.mk hy496
  clear hy496
  by_cases c8 : (y496.length : Int) = 4
  ·rw [if_pos c8] at H
   have c8b0 : ((y496.length : Int) == 4) = true := beq_iff_eq.mpr c8
   have c8b1 : ((y496.length : Int) != 4) = false := bne_eq_false_iff_eq.mpr c8
   clear c8
   replace H := Option.bind_eq_some_iff.mp H
   obtain ⟨t499, A90, H⟩ := H
   replace H : (if (t499.length : Int) = 1 then (if 0 < (t499.length : Int) then (rotuluslaw1_UtfFour.j0 k a1 a2 y496 ((rd t499 0) != (wrap32 (65536 + (Int.tmod (wrap32 ((Int.tmod a0 1048576) + 1048576)) 1048576))))) else (none)) else (rotuluslaw1_UtfFour.j0 k a1 a2 y496 true)) = some r := H
   have A9 := Aside0.mk A90
   clear A90
   have HC10 := Aside0.mk H
   clear H
   go_enter Try.func12, Try.ntmps12
   go_upto_region 9 with (first | ((with_reducible refine gate_callee (f := 19) rfl ?_); refine goesL_ (some 12) rfl rfl Try.func19 (by kernel_rfl) rfl #[] rfl (by (try simp only [List.map_toArray, List.map_cons, List.map_nil]); first | done | rfl | (simp only [List.length_drop, List.length_take]; rfl)) ?_; (with_reducible refine (rotuluslaw1_begun.calls k  true _ A4.out).mono ?_); rintro e w11 ⟨rfl, hb⟩; refine ⟨_, rfl, ?_⟩; have n0_ := Aside0.mk (below_step (by repeat (first | (with_reducible first | exact HB.out | apply below_alloc | apply pw_below_drewN | apply below_drew1) | exact HB.out)) hb); clear HB; have HB := n0_; clear n0_; (try clear hb); (try clear hb2); (try clear hk); (try clear hi)) | ((with_reducible refine gate_callee (f := 30) rfl ?_); refine goesL_ (some 21) rfl rfl Try.func30 (by kernel_rfl) rfl #[.int .i32 (wrap32 (65536 + (Int.tmod (wrap32 ((Int.tmod a0 1048576) + 1048576)) 1048576)))] rfl (by (try simp only [List.map_toArray, List.map_cons, List.map_nil]); first | done | rfl | (simp only [List.length_drop, List.length_take]; rfl)) ?_; (with_reducible refine (rotulusref1_Put.calls k (wrap32 (65536 + (Int.tmod (wrap32 ((Int.tmod a0 1048576) + 1048576)) 1048576))) t495 _ A6.out).mono ?_); rintro e w12 ⟨rfl, hb⟩; refine ⟨_, rfl, ?_⟩; have n0_ := Aside0.mk (below_step (by repeat (first | (with_reducible first | exact HB.out | apply below_alloc | apply pw_below_drewN | apply below_drew1) | exact HB.out)) hb); clear HB; have HB := n0_; clear n0_; (try clear hb); (try clear hb2); (try clear hk); (try clear hi)) | ((with_reducible refine gate_dst (N := 22) rfl ?_); refine Kd.Y_conv 5 9 40 rfl (N := 22) rfl _ rfl t495 rfl Try.underlying9 Try.underlying40 Try.underlying5 (of_decide_eq_true (by first | (with_reducible assumption) | assumption)) ?_; intro v497 w13 ho14 hb hg_ hnew_; clear hg_ hnew_; (first | rw [← Ny496.out] at ho14 | (simp only [Int.reduceToNat] at ho14; rw [← Ny496.out] at ho14)); have n0_ := Aside0.mk (Kd.Y_lower ho14 (below_size (by repeat (first | (with_reducible first | exact HB.out | apply below_alloc | apply pw_below_drewN | apply below_drew1) | exact HB.out)))); have n1_ := Aside0.mk (below_step (by repeat (first | (with_reducible first | exact HB.out | apply below_alloc | apply pw_below_drewN | apply below_drew1) | exact HB.out)) hb); clear HB; have HO498 := n0_; have HB := n1_; clear n0_ n1_; clear hb ho14; obtain ⟨Ao15, co15, eo15⟩ := Kd.Y_slice HO498.out; subst eo15; have hcv16 := Kd.Y_string (P := Try.prog) Try.underlying40 Try.underlying5 Try.underlying9 HO498.out) | ((with_reducible refine gate_callee (f := 26) rfl ?_); refine goesL_ (some 28) rfl rfl Try.func26 (by kernel_rfl) rfl #[.string (strOfNums y496)] rfl (by (try simp only [List.map_toArray, List.map_cons, List.map_nil]); first | done | rfl | (simp only [List.length_drop, List.length_take]; rfl)) ?_; (with_reducible refine (utf_All.calls k (strOfNums y496) t499 _ A9.out).mono ?_); rintro e w17 ⟨v500, rfl, ho0, hb⟩; refine ⟨_, rfl, ?_⟩; have n0_ := Aside0.mk (Kd.Y_below (by (with_reducible repeat (first | apply Kd.Y_alloc | apply Kd.Y_drewN | apply Kd.Y_drew)); exact HO498.out) hb); have n1_ := Aside0.mk (Kd.R_lower ho0 (below_size (by repeat (first | (with_reducible first | exact HB.out | apply below_alloc | apply pw_below_drewN | apply below_drew1) | exact HB.out)))); have n2_ := Aside0.mk (below_step (by repeat (first | (with_reducible first | exact HB.out | apply below_alloc | apply pw_below_drewN | apply below_drew1) | exact HB.out)) hb); clear HO498; clear HB; have HO498 := n0_; have HO501 := n1_; have HB := n2_; clear n0_ n1_ n2_; (try clear hb); (try clear hb2); (try clear hk); (try clear hi); (try clear ho0)))
   (try simp only [Act.put, List.setIfInBounds_toArray, List.set_cons_zero, List.set_cons_succ])
   go_cut [38] (fun v38 wc => ∃ (kq : Nat) (x38_9 : Bool), v38 = .bool x38_9 ∧ Aside0 (rotuluslaw1_UtfFour.j0 kq a1 a2 y496 x38_9 = some r) ∧ Aside0 (kq ≤ k) ∧ Aside0 (Kd.Y (Kd.int .u8) 5 wc w.heap.size (fun _ => True) (.slice Ao15 y496.length co15) y496) ∧ Aside0 (Below w.heap.size w wc))
   case first =>
    have H := HC10.out
    clear HC10
    by_cases c18 : (t499.length : Int) = 1
    ·rw [if_pos c18] at H
     have c18b0 : ((t499.length : Int) == 1) = true := beq_iff_eq.mpr c18
     have c18b1 : ((t499.length : Int) != 1) = false := bne_eq_false_iff_eq.mpr c18
     clear c18
     (first | rw [c18b0] | (simp only [i64_w, i32_w]; rw [c18b0]) | skip)
     have c19 : 0 < (t499.length : Int) := Decidable.byContradiction fun hc_ => absurd ((if_neg hc_).symm.trans H) (by simp)
     rw [if_pos c19] at H
     have c19b0 : decide (0 < (t499.length : Int)) = true := decide_eq_true c19
     have c19b1 : decide (0 < t499.length) = true := decide_eq_true (by omega)
     clear c19
     have H' := Aside0.mk H
     clear H
     obtain ⟨Ao20, co20, eo20⟩ := Kd.R_slice HO501.out
     subst eo20
     have p502 : 0 ≤ (0 : Int) := (by omega)
     have q502 : 0 < (t499.length : Int) := of_decide_eq_true (by first | (with_reducible assumption) | assumption)
     obtain ⟨ad502, e502, hx502_0⟩ := Kd.at_int (Kd.R_reads' HO501.out).2.2 0 p502 q502
     cases e502
     have qi502 : (0 < t499.length) = True := eq_true (by omega)
     (try rw [show ((0 : Int)).toNat = 0 from rfl] at hx502_0)
     (try rw [Addr.add_zero'] at hx502_0)
     replace p502 := eq_true p502
     replace q502 := eq_true q502
     go_wp2
     go_meet
     case rel => exact ⟨_, (((rd t499 0) != (wrap32 (65536 + (Int.tmod (wrap32 ((Int.tmod a0 1048576) + 1048576)) 1048576))))), (by first | rfl | (simp; done) | (simp [*]; done)), H', ⟨by first | omega | exact Nat.le_refl _⟩, ⟨by (with_reducible repeat (first | apply Kd.Y_alloc | apply Kd.Y_drewN | apply Kd.Y_drew)); exact HO498.out⟩, ⟨by repeat (first | (with_reducible first | exact HB.out | apply below_alloc | apply pw_below_drewN | apply below_drew1) | exact HB.out)⟩⟩
    ·rw [if_neg c18] at H
     have c18b0 : ((t499.length : Int) == 1) = false := beq_eq_false_iff_ne.mpr c18
     have c18b1 : ((t499.length : Int) != 1) = true := bne_iff_ne.mpr c18
     (first | rw [c18b0] | (simp only [i64_w, i32_w]; rw [c18b0]) | skip)
     have H' := Aside0.mk H
     clear H
     obtain ⟨Ao21, co21, eo21⟩ := Kd.R_slice HO501.out
     subst eo21
     go_wp2
     go_meet
     case rel => exact ⟨_, (true), (by first | rfl | (simp; done) | (simp [*]; done)), H', ⟨by first | omega | exact Nat.le_refl _⟩, ⟨by (with_reducible repeat (first | apply Kd.Y_alloc | apply Kd.Y_drewN | apply Kd.Y_drew)); exact HO498.out⟩, ⟨by repeat (first | (with_reducible first | exact HB.out | apply below_alloc | apply pw_below_drewN | apply below_drew1) | exact HB.out)⟩⟩
   case rest =>
    clear HC10
    try clear c1
    try clear hcv1
    try clear c2
    try clear p2
    try clear c3
    try clear p3
    try clear c5
    try clear p5
    try clear q5
    try clear hx5
    try clear qi5
    try clear c7
    try clear c7b0
    try clear c7b1
    try clear c7b2
    try clear c8
    try clear c8b0
    try clear c8b1
    try clear c12
    try clear hcv16
    try clear c18
    try clear c18b0
    try clear c18b1
    try clear c19
    try clear c19b0
    try clear c19b1
    try clear hx502_0
    try clear p502
    try clear q502
    obtain ⟨kq, x38_9, rfl, HA, HJ9, HO_8, HB⟩ := hcut
    cases kq with
    | zero => exact absurd HA.out (by simp [rotuluslaw1_UtfFour.j0])
    | succ kj9 =>
     have H := HA.out
     clear HA
     simp only [rotuluslaw1_UtfFour.j0] at H
     by_cases c22 : x38_9 = true
     ·subst c22
      have H1 : (some false) = some r := by rw [if_pos rfl] at H; exact H
      clear H
      have H := H1
      clear H1
      obtain rfl := Option.some.inj H
      go_wp2
      go_ret
      exact ⟨by first | rfl | (simp [errW_none, errW_some] <;> rfl) | (simp [*, errW_none, errW_some] <;> rfl), by repeat (first | (with_reducible first | exact HB.out | apply below_alloc | apply pw_below_drewN | apply below_drew1) | exact HB.out)⟩
     ·replace c22 := Bool.eq_false_iff.mpr c22
      subst c22
      have H1 : (if 0 ≤ (Int.tmod (wrap64 ((Int.tmod a1 4) + 4)) 4) then (if (Int.tmod (wrap64 ((Int.tmod a1 4) + 4)) 4) < (y496.length : Int) then ((some (y496.set ((Int.tmod (wrap64 ((Int.tmod a1 4) + 4)) 4) : Int).toNat a2 : List Int)).bind fun y503 => ((rotulusref1_All.f kj9 (strOfNums y503)).bind fun bt504 => (if bt504.2 > 0 then (if bt504.1.length < 35184372088832 then ((utf_All.f kj9 (strOfNums y503)).bind fun t511 => ((rotuluslaw1_eq.f kj9 t511 (bt504.1 ++ [65533])).bind fun t514 => (some t514))) else (none)) else ((utf_All.f kj9 (strOfNums y503)).bind fun t515 => ((rotuluslaw1_eq.f kj9 t515 bt504.1).bind fun t518 => (some t518)))))) else (none)) else (none)) = some r := by rw [if_neg (show ¬ (false = true) by decide)] at H; exact H
      clear H
      have H := H1
      clear H1
      obtain ⟨ji23, hji23⟩ : ∃ j_ : Int, (Int.tmod (wrap64 ((Int.tmod a1 4) + 4)) 4) = j_ := ⟨_, rfl⟩
      replace H : (if 0 ≤ (ji23) then (if (ji23) < (y496.length : Int) then ((some (y496.set ((ji23) : Int).toNat a2 : List Int)).bind fun y503 => ((rotulusref1_All.f kj9 (strOfNums y503)).bind fun bt504 => (if bt504.2 > 0 then (if bt504.1.length < 35184372088832 then ((utf_All.f kj9 (strOfNums y503)).bind fun t511 => ((rotuluslaw1_eq.f kj9 t511 (bt504.1 ++ [65533])).bind fun t514 => (some t514))) else (none)) else ((utf_All.f kj9 (strOfNums y503)).bind fun t515 => ((rotuluslaw1_eq.f kj9 t515 bt504.1).bind fun t518 => (some t518)))))) else (none)) else (none)) = some r := by first | (rw [hji23] at H; exact H) | (simp only [hji23] at H ⊢; exact H)
      have c24 : 0 ≤ (ji23) := Decidable.byContradiction fun hc_ => absurd ((if_neg hc_).symm.trans H) (by simp)
      rw [if_pos c24] at H
      have c24b0 : decide (0 ≤ (ji23)) = true := decide_eq_true c24
      clear c24
      have c25 : (ji23) < (y496.length : Int) := Decidable.byContradiction fun hc_ => absurd ((if_neg hc_).symm.trans H) (by simp)
      rw [if_pos c25] at H
      have c25b0 : decide ((ji23) < (y496.length : Int)) = true := decide_eq_true c25
      clear c25
      obtain ⟨y503, hy503⟩ : ∃ y_ : List Int, y_ = (y496.set ((ji23) : Int).toNat a2) := ⟨_, rfl⟩
      replace H : ((rotulusref1_All.f kj9 (strOfNums y503)).bind fun bt504 => (if bt504.2 > 0 then (if bt504.1.length < 35184372088832 then ((utf_All.f kj9 (strOfNums y503)).bind fun t511 => ((rotuluslaw1_eq.f kj9 t511 (bt504.1 ++ [65533])).bind fun t514 => (some t514))) else (none)) else ((utf_All.f kj9 (strOfNums y503)).bind fun t515 => ((rotuluslaw1_eq.f kj9 t515 bt504.1).bind fun t518 => (some t518))))) = some r := by first | (rw [hy503]; with_reducible exact H) | (have H2_ := (Option.bind_some _ _).symm.trans H; rw [hy503]; with_reducible exact H2_) | (have H2_ := (Option.bind_some _ _).symm.trans H; with_reducible exact H2_) | with_reducible exact H | (rw [hy503]; exact H) | exact H
      have Ny503 := Aside0.mk hy503
      clear hy503
      replace H := Option.bind_eq_some_iff.mp H
      obtain ⟨⟨t504, t505⟩, A270, H⟩ := H
      replace H : (if t505 > 0 then (if t504.length < 35184372088832 then ((utf_All.f kj9 (strOfNums y503)).bind fun t511 => ((rotuluslaw1_eq.f kj9 t511 (t504 ++ [65533])).bind fun t514 => (some t514))) else (none)) else ((utf_All.f kj9 (strOfNums y503)).bind fun t515 => ((rotuluslaw1_eq.f kj9 t515 t504).bind fun t518 => (some t518)))) = some r := H
      have A27 := Aside0.mk A270
      clear A270
      by_cases c28 : t505 > 0
      ·rw [if_pos c28] at H
       have c28b0 : decide (0 < t505) = true := decide_eq_true c28
       clear c28
       have c29 : t504.length < 35184372088832 := Decidable.byContradiction fun hc_ => absurd ((if_neg hc_).symm.trans H) (by simp)
       rw [if_pos c29] at H
       have LMc29 := Aside0.mk c29
       clear c29
       obtain ⟨y508, hy508⟩ : ∃ y_ : List Int, y_ = (t504 ++ [65533]) := ⟨_, rfl⟩
       replace H : ((utf_All.f kj9 (strOfNums y503)).bind fun t511 => ((rotuluslaw1_eq.f kj9 t511 y508).bind fun t514 => (some t514))) = some r := by first | (rw [hy508]; with_reducible exact H) | (have H2_ := (Option.bind_some _ _).symm.trans H; rw [hy508]; with_reducible exact H2_) | (have H2_ := (Option.bind_some _ _).symm.trans H; with_reducible exact H2_) | with_reducible exact H | (rw [hy508]; exact H) | exact H
       have Ny508 := Aside0.mk hy508
       clear hy508
       replace H := Option.bind_eq_some_iff.mp H
       obtain ⟨t511, A300, H⟩ := H
       replace H : ((rotuluslaw1_eq.f kj9 t511 y508).bind fun t514 => (some t514)) = some r := H
       have A30 := Aside0.mk A300
       clear A300
       replace H := Option.bind_eq_some_iff.mp H
       obtain ⟨t514, A310, H⟩ := H
       replace H : (some t514) = some r := H
       have A31 := Aside0.mk A310
       clear A310
       obtain rfl := Option.some.inj H
       have p26 : 0 ≤ ((ji23) : Int) := of_decide_eq_true (by first | (with_reducible assumption) | assumption)
       have q26 : ((ji23) : Int) < ((y496.length : Int) : Int) := of_decide_eq_true (by first | (with_reducible assumption) | assumption)
       obtain ⟨go26, co26, eo26, gb26, gl26, cl26, HG26⟩ := Kd.Y_form HO_8.out (by omega)
       (first | cases eo26 | (injection eo26 with ea_ en_ ec_; (first | subst ea_ | (injection ea_ with ea_; subst ea_)); subst ec_; clear en_))
       have GB26 := Aside0.mk gb26
       have GG26 := Aside0.mk HG26
       clear gb26 gl26 HG26
       obtain ⟨hx26_0, hf26_0⟩ := Kd.Y_celln 0 HO_8.out ((ji23) : Int) p26 q26
       replace p26 := eq_true p26
       replace q26 := eq_true q26
       have HP32 := Kd.Y_putg HO_8.out ((ji23) : Int) a2
       go_wp2_with (first | ((with_reducible refine gate_store (t := 5) (p := 45) rfl ?_); refine store_event (t := 5) (p := 45) (v := ?vo_w33) (w1 := (wc.setCell ⟨go26, ((ji23) : Int).toNat, none⟩ (.int .u8 a2))) ?hg ?ho ?hn ?hr ?_; (case ho => rfl); (case hg => rfl); (case hn => rfl); (case hr => first | (go_simp; done) | (go_simp; rfl)); intro w33 hw; have hg : wc.grownBy w33 (some go26) := (by rw [hw]; exact HP32.2); have hp_ : Kd.Y (Kd.int .u8) 5 w33 w.heap.size (fun _ => True) (.slice (some ⟨go26, 0, none⟩) y496.length co15) y503 := (by rw [hw, Ny503.out]; exact HP32.1); clear HP32; have n0_ := Aside0.mk (hp_); have n1_ := Aside0.mk ((by rw [hw]; exact below_set (HB.out) GB26.out : Below w.heap.size w w33)); clear HO_8; clear HB; have HO_8 := n0_; have HB := n1_; clear n0_ n1_; clear hg hw hp_; have hcv34 := Kd.Y_string (P := Try.prog) Try.underlying40 Try.underlying5 Try.underlying9 HO_8.out) | ((with_reducible refine gate_callee (f := 21) rfl ?_); refine goesL_ (some 49) rfl rfl Try.func21 (by kernel_rfl) rfl #[.string (strOfNums y503)] rfl (by (try simp only [List.map_toArray, List.map_cons, List.map_nil]); first | done | rfl | (simp only [List.length_drop, List.length_take]; rfl)) ?_; (with_reducible refine (rotulusref1_All.calls kj9 (strOfNums y503) t504 t505 _ A27.out).mono ?_); rintro e w35 ⟨v506, rfl, ho0, hb⟩; refine ⟨_, rfl, ?_⟩; have n0_ := Aside0.mk (Kd.Y_below (by (with_reducible repeat (first | apply Kd.Y_alloc | apply Kd.Y_drewN | apply Kd.Y_drew)); exact HO_8.out) hb); have n1_ := Aside0.mk (Kd.R_lower ho0 (below_size (by repeat (first | (with_reducible first | exact HB.out | apply below_alloc | apply pw_below_drewN | apply below_drew1) | exact HB.out)))); have n2_ := Aside0.mk (below_step (by repeat (first | (with_reducible first | exact HB.out | apply below_alloc | apply pw_below_drewN | apply below_drew1) | exact HB.out)) hb); clear HO_8; clear HB; have HO_8 := n0_; have HO507 := n1_; have HB := n2_; clear n0_ n1_ n2_; (try clear hb); (try clear hb2); (try clear hk); (try clear hi); (try clear ho0)) | ((with_reducible refine gate_builtin (b := .append) (xs := #[.tmp 54, .tmp 55]) rfl ?_); at_builtin; refine Kd.R_append (Kd.int .i32) (w0 := w) w.heap.size rfl (.tmp 54) (.tmp 55) 25 21 (.int .i32 0) 4 rfl Try.underlying25 info21 rfl (by decide) (by omega) v506 t504 65533 [.int .i32 65533] (fun _ => True) (fun _ => False) rfl rfl ?aP (fun _ hk => hk.elim) ?aF ?aO ?aB ?aS ?aL ?_; (case aP => exact rfl); (case aB => exact (by repeat (first | (with_reducible first | exact HB.out | apply below_alloc | apply pw_below_drewN | apply below_drew1) | exact HB.out))); (case aF => exact (fun _ _ => trivial)); (case aO => exact (by (with_reducible repeat (first | apply Kd.R_alloc | apply Kd.R_drewN | apply Kd.R_drew)); exact HO507.out)); (case aS => exact (below_size (by repeat (first | (with_reducible first | exact HB.out | apply below_alloc | apply pw_below_drewN | apply below_drew1) | exact HB.out)))); (case aL => have := LMc29.out; omega); intro v509 w36 ho hb hg hat; rw [← Ny508.out] at ho; have n0_ := Aside0.mk (Kd.Y_over' (by (with_reducible repeat (first | apply Kd.Y_alloc | apply Kd.Y_drewN | apply Kd.Y_drew)); exact HO_8.out) (Kd.R_typed (by (with_reducible repeat (first | apply Kd.R_alloc | apply Kd.R_drewN | apply Kd.R_drew)); exact HO507.out)) (by decide) hg); have n1_ := Aside0.mk (hb); have n2_ := Aside0.mk (ho); clear HO_8; clear HB; clear HO507; have HO_8 := n0_; have HB := n1_; have HO510 := n2_; clear n0_ n1_ n2_; clear ho hb hg hat; have hcv37 := Kd.Y_string (P := Try.prog) Try.underlying40 Try.underlying5 Try.underlying9 HO_8.out) | ((with_reducible refine gate_callee (f := 26) rfl ?_); refine goesL_ (some 59) rfl rfl Try.func26 (by kernel_rfl) rfl #[.string (strOfNums y503)] rfl (by (try simp only [List.map_toArray, List.map_cons, List.map_nil]); first | done | rfl | (simp only [List.length_drop, List.length_take]; rfl)) ?_; (with_reducible refine (utf_All.calls kj9 (strOfNums y503) t511 _ A30.out).mono ?_); rintro e w38 ⟨v512, rfl, ho0, hb⟩; refine ⟨_, rfl, ?_⟩; have n0_ := Aside0.mk (Kd.Y_below (by (with_reducible repeat (first | apply Kd.Y_alloc | apply Kd.Y_drewN | apply Kd.Y_drew)); exact HO_8.out) hb); have n1_ := Aside0.mk (Kd.R_elder' (by (with_reducible repeat (first | apply Kd.R_alloc | apply Kd.R_drewN | apply Kd.R_drew)); exact HO510.out) (Kd.R_base ho0) hb); have n2_ := Aside0.mk (Kd.R_lower (Kd.R_new' ho0 (Kd.R_lt (by (with_reducible repeat (first | apply Kd.R_alloc | apply Kd.R_drewN | apply Kd.R_drew)); exact HO510.out))) (below_size (by repeat (first | (with_reducible first | exact HB.out | apply below_alloc | apply pw_below_drewN | apply below_drew1) | exact HB.out)))); have n3_ := Aside0.mk (below_step (by repeat (first | (with_reducible first | exact HB.out | apply below_alloc | apply pw_below_drewN | apply below_drew1) | exact HB.out)) hb); clear HO_8; clear HO510; clear HB; have HO_8 := n0_; have HO510 := n1_; have HO513 := n2_; have HB := n3_; clear n0_ n1_ n2_ n3_; (try clear hb); (try clear hb2); (try clear hk); (try clear hi); (try clear ho0); obtain ⟨Ao39, co39, eo39⟩ := Kd.R_slice HO513.out; subst eo39; obtain ⟨Ao40, co40, eo40⟩ := Kd.R_slice HO510.out; subst eo40) | ((with_reducible refine gate_callee (f := 23) rfl ?_); refine goesL_ (some 61) rfl rfl Try.func23 (by kernel_rfl) rfl #[.slice Ao39 t511.length co39, .slice Ao40 y508.length co40] rfl (by (try simp only [List.map_toArray, List.map_cons, List.map_nil]); first | done | rfl | (simp only [List.length_drop, List.length_take]; rfl)) ?_; (with_reducible refine (rotuluslaw1_eq.calls kj9 _ _ t511 _ _ y508 t514 _ ?side1 ?side2 ?side3 ?side4 A31.out).mono ?_); (case side1 => repeat (first | exact (Kd.R_reads' HO513.out).2.2 | (with_reducible refine Kd.C_alloc ?_ _) | (with_reducible refine Kd.C_drewN ?_ _) | (with_reducible refine Kd.C_drew ?_) | exact Kd.C_drewN (Kd.R_reads' HO513.out).2.2 _ | exact Kd.C_drew (Kd.R_reads' HO513.out).2.2 | exact Kd.C_alloc (Kd.R_reads' HO513.out).2.2 _)); (case side2 => exact (Kd.R_reads' HO513.out).2.1); (case side3 => repeat (first | exact (Kd.R_reads' HO510.out).2.2 | (with_reducible refine Kd.C_alloc ?_ _) | (with_reducible refine Kd.C_drewN ?_ _) | (with_reducible refine Kd.C_drew ?_) | exact Kd.C_drewN (Kd.R_reads' HO510.out).2.2 _ | exact Kd.C_drew (Kd.R_reads' HO510.out).2.2 | exact Kd.C_alloc (Kd.R_reads' HO510.out).2.2 _)); (case side4 => exact (Kd.R_reads' HO510.out).2.1); rintro e w' ⟨rfl, ⟨nd, rfl⟩⟩; refine ⟨_, rfl, ?_⟩))
       go_ret
       exact ⟨by first | rfl | (simp [errW_none, errW_some] <;> rfl) | (simp only [← hji23]; first | rfl | (simp [errW_none, errW_some] <;> rfl)) | (simp [*, errW_none, errW_some] <;> rfl), by repeat (first | (with_reducible first | exact HB.out | apply below_alloc | apply pw_below_drewN | apply below_drew1) | exact HB.out)⟩
      ·rw [if_neg c28] at H
       have c28b0 : decide (0 < t505) = false := decide_eq_false c28
       clear c28
       replace H := Option.bind_eq_some_iff.mp H
       obtain ⟨t515, A410, H⟩ := H
       replace H : ((rotuluslaw1_eq.f kj9 t515 t504).bind fun t518 => (some t518)) = some r := H
       have A41 := Aside0.mk A410
       clear A410
       replace H := Option.bind_eq_some_iff.mp H
       obtain ⟨t518, A420, H⟩ := H
       replace H : (some t518) = some r := H
       have A42 := Aside0.mk A420
       clear A420
       obtain rfl := Option.some.inj H
       have p26 : 0 ≤ ((ji23) : Int) := of_decide_eq_true (by first | (with_reducible assumption) | assumption)
       have q26 : ((ji23) : Int) < ((y496.length : Int) : Int) := of_decide_eq_true (by first | (with_reducible assumption) | assumption)
       obtain ⟨go26, co26, eo26, gb26, gl26, cl26, HG26⟩ := Kd.Y_form HO_8.out (by omega)
       (first | cases eo26 | (injection eo26 with ea_ en_ ec_; (first | subst ea_ | (injection ea_ with ea_; subst ea_)); subst ec_; clear en_))
       have GB26 := Aside0.mk gb26
       have GG26 := Aside0.mk HG26
       clear gb26 gl26 HG26
       obtain ⟨hx26_0, hf26_0⟩ := Kd.Y_celln 0 HO_8.out ((ji23) : Int) p26 q26
       replace p26 := eq_true p26
       replace q26 := eq_true q26
       have HP43 := Kd.Y_putg HO_8.out ((ji23) : Int) a2
       go_wp2_with (first | ((with_reducible refine gate_store (t := 5) (p := 45) rfl ?_); refine store_event (t := 5) (p := 45) (v := ?vo_w44) (w1 := (wc.setCell ⟨go26, ((ji23) : Int).toNat, none⟩ (.int .u8 a2))) ?hg ?ho ?hn ?hr ?_; (case ho => rfl); (case hg => rfl); (case hn => rfl); (case hr => first | (go_simp; done) | (go_simp; rfl)); intro w44 hw; have hg : wc.grownBy w44 (some go26) := (by rw [hw]; exact HP43.2); have hp_ : Kd.Y (Kd.int .u8) 5 w44 w.heap.size (fun _ => True) (.slice (some ⟨go26, 0, none⟩) y496.length co15) y503 := (by rw [hw, Ny503.out]; exact HP43.1); clear HP43; have n0_ := Aside0.mk (hp_); have n1_ := Aside0.mk ((by rw [hw]; exact below_set (HB.out) GB26.out : Below w.heap.size w w44)); clear HO_8; clear HB; have HO_8 := n0_; have HB := n1_; clear n0_ n1_; clear hg hw hp_; have hcv45 := Kd.Y_string (P := Try.prog) Try.underlying40 Try.underlying5 Try.underlying9 HO_8.out) | ((with_reducible refine gate_callee (f := 21) rfl ?_); refine goesL_ (some 49) rfl rfl Try.func21 (by kernel_rfl) rfl #[.string (strOfNums y503)] rfl (by (try simp only [List.map_toArray, List.map_cons, List.map_nil]); first | done | rfl | (simp only [List.length_drop, List.length_take]; rfl)) ?_; (with_reducible refine (rotulusref1_All.calls kj9 (strOfNums y503) t504 t505 _ A27.out).mono ?_); rintro e w46 ⟨v506, rfl, ho0, hb⟩; refine ⟨_, rfl, ?_⟩; have n0_ := Aside0.mk (Kd.Y_below (by (with_reducible repeat (first | apply Kd.Y_alloc | apply Kd.Y_drewN | apply Kd.Y_drew)); exact HO_8.out) hb); have n1_ := Aside0.mk (Kd.R_lower ho0 (below_size (by repeat (first | (with_reducible first | exact HB.out | apply below_alloc | apply pw_below_drewN | apply below_drew1) | exact HB.out)))); have n2_ := Aside0.mk (below_step (by repeat (first | (with_reducible first | exact HB.out | apply below_alloc | apply pw_below_drewN | apply below_drew1) | exact HB.out)) hb); clear HO_8; clear HB; have HO_8 := n0_; have HO507 := n1_; have HB := n2_; clear n0_ n1_ n2_; (try clear hb); (try clear hb2); (try clear hk); (try clear hi); (try clear ho0); have hcv47 := Kd.Y_string (P := Try.prog) Try.underlying40 Try.underlying5 Try.underlying9 HO_8.out) | ((with_reducible refine gate_callee (f := 26) rfl ?_); refine goesL_ (some 59) rfl rfl Try.func26 (by kernel_rfl) rfl #[.string (strOfNums y503)] rfl (by (try simp only [List.map_toArray, List.map_cons, List.map_nil]); first | done | rfl | (simp only [List.length_drop, List.length_take]; rfl)) ?_; (with_reducible refine (utf_All.calls kj9 (strOfNums y503) t515 _ A41.out).mono ?_); rintro e w48 ⟨v516, rfl, ho0, hb⟩; refine ⟨_, rfl, ?_⟩; have n0_ := Aside0.mk (Kd.Y_below (by (with_reducible repeat (first | apply Kd.Y_alloc | apply Kd.Y_drewN | apply Kd.Y_drew)); exact HO_8.out) hb); have n1_ := Aside0.mk (Kd.R_elder' (by (with_reducible repeat (first | apply Kd.R_alloc | apply Kd.R_drewN | apply Kd.R_drew)); exact HO507.out) (Kd.R_base ho0) hb); have n2_ := Aside0.mk (Kd.R_lower (Kd.R_new' ho0 (Kd.R_lt (by (with_reducible repeat (first | apply Kd.R_alloc | apply Kd.R_drewN | apply Kd.R_drew)); exact HO507.out))) (below_size (by repeat (first | (with_reducible first | exact HB.out | apply below_alloc | apply pw_below_drewN | apply below_drew1) | exact HB.out)))); have n3_ := Aside0.mk (below_step (by repeat (first | (with_reducible first | exact HB.out | apply below_alloc | apply pw_below_drewN | apply below_drew1) | exact HB.out)) hb); clear HO_8; clear HO507; clear HB; have HO_8 := n0_; have HO507 := n1_; have HO517 := n2_; have HB := n3_; clear n0_ n1_ n2_ n3_; (try clear hb); (try clear hb2); (try clear hk); (try clear hi); (try clear ho0); obtain ⟨Ao49, co49, eo49⟩ := Kd.R_slice HO517.out; subst eo49; obtain ⟨Ao50, co50, eo50⟩ := Kd.R_slice HO507.out; subst eo50) | ((with_reducible refine gate_callee (f := 23) rfl ?_); refine goesL_ (some 61) rfl rfl Try.func23 (by kernel_rfl) rfl #[.slice Ao49 t515.length co49, .slice Ao50 t504.length co50] rfl (by (try simp only [List.map_toArray, List.map_cons, List.map_nil]); first | done | rfl | (simp only [List.length_drop, List.length_take]; rfl)) ?_; (with_reducible refine (rotuluslaw1_eq.calls kj9 _ _ t515 _ _ t504 t518 _ ?side1 ?side2 ?side3 ?side4 A42.out).mono ?_); (case side1 => repeat (first | exact (Kd.R_reads' HO517.out).2.2 | (with_reducible refine Kd.C_alloc ?_ _) | (with_reducible refine Kd.C_drewN ?_ _) | (with_reducible refine Kd.C_drew ?_) | exact Kd.C_drewN (Kd.R_reads' HO517.out).2.2 _ | exact Kd.C_drew (Kd.R_reads' HO517.out).2.2 | exact Kd.C_alloc (Kd.R_reads' HO517.out).2.2 _)); (case side2 => exact (Kd.R_reads' HO517.out).2.1); (case side3 => repeat (first | exact (Kd.R_reads' HO507.out).2.2 | (with_reducible refine Kd.C_alloc ?_ _) | (with_reducible refine Kd.C_drewN ?_ _) | (with_reducible refine Kd.C_drew ?_) | exact Kd.C_drewN (Kd.R_reads' HO507.out).2.2 _ | exact Kd.C_drew (Kd.R_reads' HO507.out).2.2 | exact Kd.C_alloc (Kd.R_reads' HO507.out).2.2 _)); (case side4 => exact (Kd.R_reads' HO507.out).2.1); rintro e w' ⟨rfl, ⟨nd, rfl⟩⟩; refine ⟨_, rfl, ?_⟩))
       go_ret
       exact ⟨by first | rfl | (simp [errW_none, errW_some] <;> rfl) | (simp only [← hji23]; first | rfl | (simp [errW_none, errW_some] <;> rfl)) | (simp [*, errW_none, errW_some] <;> rfl), by repeat (first | (with_reducible first | exact HB.out | apply below_alloc | apply pw_below_drewN | apply below_drew1) | exact HB.out)⟩
  ·rw [if_neg c8] at H
   have c8b0 : ((y496.length : Int) == 4) = false := beq_eq_false_iff_ne.mpr c8
   have c8b1 : ((y496.length : Int) != 4) = true := bne_iff_ne.mpr c8
   obtain rfl := Option.some.inj H
   go_enter Try.func12, Try.ntmps12
   go_wp2_with (first | ((with_reducible refine gate_callee (f := 19) rfl ?_); refine goesL_ (some 12) rfl rfl Try.func19 (by kernel_rfl) rfl #[] rfl (by (try simp only [List.map_toArray, List.map_cons, List.map_nil]); first | done | rfl | (simp only [List.length_drop, List.length_take]; rfl)) ?_; (with_reducible refine (rotuluslaw1_begun.calls k  true _ A4.out).mono ?_); rintro e w51 ⟨rfl, hb⟩; refine ⟨_, rfl, ?_⟩; have n0_ := Aside0.mk (below_step (by repeat (first | (with_reducible first | exact HB.out | apply below_alloc | apply pw_below_drewN | apply below_drew1) | exact HB.out)) hb); clear HB; have HB := n0_; clear n0_; (try clear hb); (try clear hb2); (try clear hk); (try clear hi)) | ((with_reducible refine gate_callee (f := 30) rfl ?_); refine goesL_ (some 21) rfl rfl Try.func30 (by kernel_rfl) rfl #[.int .i32 (wrap32 (65536 + (Int.tmod (wrap32 ((Int.tmod a0 1048576) + 1048576)) 1048576)))] rfl (by (try simp only [List.map_toArray, List.map_cons, List.map_nil]); first | done | rfl | (simp only [List.length_drop, List.length_take]; rfl)) ?_; (with_reducible refine (rotulusref1_Put.calls k (wrap32 (65536 + (Int.tmod (wrap32 ((Int.tmod a0 1048576) + 1048576)) 1048576))) t495 _ A6.out).mono ?_); rintro e w52 ⟨rfl, hb⟩; refine ⟨_, rfl, ?_⟩; have n0_ := Aside0.mk (below_step (by repeat (first | (with_reducible first | exact HB.out | apply below_alloc | apply pw_below_drewN | apply below_drew1) | exact HB.out)) hb); clear HB; have HB := n0_; clear n0_; (try clear hb); (try clear hb2); (try clear hk); (try clear hi)) | ((with_reducible refine gate_dst (N := 22) rfl ?_); refine Kd.Y_conv 5 9 40 rfl (N := 22) rfl _ rfl t495 rfl Try.underlying9 Try.underlying40 Try.underlying5 (of_decide_eq_true (by first | (with_reducible assumption) | assumption)) ?_; intro v497 w53 ho54 hb hg_ hnew_; clear hg_ hnew_; (first | rw [← Ny496.out] at ho54 | (simp only [Int.reduceToNat] at ho54; rw [← Ny496.out] at ho54)); have n0_ := Aside0.mk (Kd.Y_lower ho54 (below_size (by repeat (first | (with_reducible first | exact HB.out | apply below_alloc | apply pw_below_drewN | apply below_drew1) | exact HB.out)))); have n1_ := Aside0.mk (below_step (by repeat (first | (with_reducible first | exact HB.out | apply below_alloc | apply pw_below_drewN | apply below_drew1) | exact HB.out)) hb); clear HB; have HO498 := n0_; have HB := n1_; clear n0_ n1_; clear hb ho54; obtain ⟨Ao55, co55, eo55⟩ := Kd.Y_slice HO498.out; subst eo55))
   go_ret
   exact ⟨by first | rfl | (simp [errW_none, errW_some] <;> rfl) | (simp [*, errW_none, errW_some] <;> rfl), by repeat (first | (with_reducible first | exact HB.out | apply below_alloc | apply pw_below_drewN | apply below_drew1) | exact HB.out)⟩
 ·replace c5 := Bool.eq_false_iff.mpr c5
  subst c5
  have H1 : (some false) = some r := by rw [if_neg (show ¬ (false = true) by decide)] at H; exact H
  clear H
  have H := H1
  clear H1
  obtain rfl := Option.some.inj H
  go_enter Try.func12, Try.ntmps12
  go_wp2_with (first | ((with_reducible refine gate_callee (f := 19) rfl ?_); refine goesL_ (some 12) rfl rfl Try.func19 (by kernel_rfl) rfl #[] rfl (by (try simp only [List.map_toArray, List.map_cons, List.map_nil]); first | done | rfl | (simp only [List.length_drop, List.length_take]; rfl)) ?_; (with_reducible refine (rotuluslaw1_begun.calls k  false _ A4.out).mono ?_); rintro e w56 ⟨rfl, hb⟩; refine ⟨_, rfl, ?_⟩; have n0_ := Aside0.mk (below_step (by repeat (first | (with_reducible first | exact HB.out | apply below_alloc | apply pw_below_drewN | apply below_drew1) | exact HB.out)) hb); clear HB; have HB := n0_; clear n0_; (try clear hb); (try clear hb2); (try clear hk); (try clear hi)))
  go_ret
  exact ⟨by first | rfl | (simp [errW_none, errW_some] <;> rfl) | (simp [*, errW_none, errW_some] <;> rfl), by repeat (first | (with_reducible first | exact HB.out | apply below_alloc | apply pw_below_drewN | apply below_drew1) | exact HB.out)⟩

/-- THE ONE PURE STATEMENT of rotuluslaw1_UtfFour: yours. -/
def rotuluslaw1_UtfFour.Pure : Prop := ∀ (a0 : Int) (a1 : Int) (a2 : Int), (Lit.int .i32 a0).wf = true → (Lit.int .i64 a1).wf = true → (Lit.int .u8 a2).wf = true → ∃ k, rotuluslaw1_UtfFour.f k a0 a1 a2 = some true
theorem rotuluslaw1_UtfFour.walk (P : rotuluslaw1_UtfFour.Pure) (a0 : Int) (a1 : Int) (a2 : Int) (w : World) (w0 : (Lit.int .i32 a0).wf = true) (w1 : (Lit.int .i64 a1).wf = true) (w2 : (Lit.int .u8 a2).wf = true) :
  Calls Try.prog 12 #[.int .i32 a0, .int .i64 a1, .int .u8 a2] w fun e w' => e = .returned (.bool true) ∧ Below w.heap.size w w' := by
 obtain ⟨k, h⟩ := P a0 a1 a2 w0 w1 w2
 refine (rotuluslaw1_UtfFour.calls k a0 a1 a2 true w h).mono ?_
 rintro e w' ⟨rfl, hd⟩
 exact ⟨rfl, hd⟩

end Go.Proofs.Ytohafoihegjlnaa.C
