-- written by a print that this session turned (wip/tools/turnprint.py)
import Derived.Test.YtohafoihegjlnaaPx0
import Derived.Test.YtohafoihegjlnaaPx17
import Derived.Test.YtohafoihegjlnaaPx18
import Derived.Test.YtohafoihegjlnaaPx19
import Derived.Test.YtohafoihegjlnaaPx23
import Derived.Test.YtohafoihegjlnaaPx36
namespace Go.Proofs.Ytohafoihegjlnaa.P
open Go.RowKit Go.Proofs.YtohafoihegjlnaaW.PrintWords Go.Proofs.YtohafoihegjlnaaW.PrintLast Go.Proofs.YtohafoihegjlnaaW.PrintMore
attribute [local go_sem] max2_int min2_int max_two min_two max_three min_three max_four min_four   -- for this text's walks alone
set_option linter.unusedVariables false
set_option linter.unusedSimpArgs false

/-! ### rotuluslaw1_CellWide: function 14 -/
mutual
def rotuluslaw1_CellWide.j0 : Nat → Int → Int → List (S49) → Bool → Option (Bool)
  | 0, _, _, _, _ => none
  | k + 1, x0, x1, x6, x19 => if x19 = true then (some ((x6.length : Int) == 0)) else ((rotulusref1_Width.f x0).bind fun t611 => (if (x6.length : Int) = t611 then (rotuluslaw1_CellWide.l0 k x0 x1 x6 0) else (some false)))
def rotuluslaw1_CellWide.l0 : Nat → Int → Int → List (S49) → Int → Option (Bool)
  | 0, _, _, _, _ => none
  | k + 1, x0, x1, x6, x7 => if x7 < (x6.length : Int) then (if 0 ≤ x7 then ((cell_May.f k ((rd_T49 x6 x7).f0) ((rd_T49 x6 x7).f1) ((rd_T49 x6 x7).f2)).bind fun t615 => (if t615 = true then (if ((rd_T49 x6 x7).f2) = x1 then ((cell_IsPad.f ((rd_T49 x6 x7).f0) ((rd_T49 x6 x7).f1) ((rd_T49 x6 x7).f2)).bind fun t618 => (if t618 = true then (some false) else (rotuluslaw1_CellWide.l0 k x0 x1 x6 (wrap64 (x7 + 1))))) else (some false)) else (some false))) else (none)) else (if (x6.length : Int) = 0 then (some true) else (if 0 < (x6.length : Int) then (if ((rd_T49 x6 0).f0) = x0 then (some (((rd_T49 x6 0).f1) == (x6.length : Int))) else (some false)) else (none)))
end
def rotuluslaw1_CellWide.f (k : Nat) (a0 : Int) (a1 : Int) : Option (Bool) := (rotuluslaw1_begun.f k).bind fun t607 => (if t607 = true then ((cell_Of.f k a0 a1).bind fun t608 => (if a1 < 0 then (rotuluslaw1_CellWide.j0 k a0 a1 t608 true) else (rotuluslaw1_CellWide.j0 k a0 a1 t608 (decide (a1 > 255))))) else (some false))
theorem rotuluslaw1_CellWide.mono_l : ∀ k, (∀ y0 y1 y2 y3, LeO (rotuluslaw1_CellWide.j0 k y0 y1 y2 y3) (rotuluslaw1_CellWide.j0 (k + 1) y0 y1 y2 y3)) ∧ (∀ y0 y1 y2 y3, LeO (rotuluslaw1_CellWide.l0 k y0 y1 y2 y3) (rotuluslaw1_CellWide.l0 (k + 1) y0 y1 y2 y3))
  | 0 => ⟨fun _ _ _ _ r h => by simp [rotuluslaw1_CellWide.j0] at h, fun _ _ _ _ r h => by simp [rotuluslaw1_CellWide.l0] at h⟩
  | k + 1 => by
    obtain ⟨ih0, ih1⟩ := rotuluslaw1_CellWide.mono_l k
    refine ⟨?_, ?_⟩
    · intro y0 y1 y2 y3
      unfold rotuluslaw1_CellWide.j0
      repeat' first
      | (with_reducible exact ih0 _ _ _ _)
      | (with_reducible exact ih1 _ _ _ _)
      | (with_reducible exact cell_May.mono _ _ _ _)
      | (with_reducible exact cell_Of.mono _ _ _)
      | (with_reducible exact rotuluslaw1_begun.mono _)
      | (with_reducible exact LeO.refl _)
      | (with_reducible exact LeO.none _)
      | (with_reducible refine LeO.ite ?_ ?_)
      | (with_reducible refine LeO.bind ?_ (fun _ => ?_))
      | exact ih0 _ _ _ _
      | exact ih1 _ _ _ _
      | exact cell_May.mono _ _ _ _
      | exact cell_Of.mono _ _ _
      | exact rotuluslaw1_begun.mono _
      | exact LeO.none _
      | refine LeO.ite ?_ ?_
      | refine LeO.bind ?_ (fun _ => ?_)
    · intro y0 y1 y2 y3
      unfold rotuluslaw1_CellWide.l0
      repeat' first
      | (with_reducible exact ih0 _ _ _ _)
      | (with_reducible exact ih1 _ _ _ _)
      | (with_reducible exact cell_May.mono _ _ _ _)
      | (with_reducible exact cell_Of.mono _ _ _)
      | (with_reducible exact rotuluslaw1_begun.mono _)
      | (with_reducible exact LeO.refl _)
      | (with_reducible exact LeO.none _)
      | (with_reducible refine LeO.ite ?_ ?_)
      | (with_reducible refine LeO.bind ?_ (fun _ => ?_))
      | exact ih0 _ _ _ _
      | exact ih1 _ _ _ _
      | exact cell_May.mono _ _ _ _
      | exact cell_Of.mono _ _ _
      | exact rotuluslaw1_begun.mono _
      | exact LeO.none _
      | refine LeO.ite ?_ ?_
      | refine LeO.bind ?_ (fun _ => ?_)
theorem rotuluslaw1_CellWide.mono : ∀ a0 a1 k, LeO (rotuluslaw1_CellWide.f k a0 a1) (rotuluslaw1_CellWide.f (k + 1) a0 a1) := by
  intro a0 a1 k
  obtain ⟨ih0, ih1⟩ := rotuluslaw1_CellWide.mono_l k
  unfold rotuluslaw1_CellWide.f
  repeat' first
      | (with_reducible exact ih0 _ _ _ _)
      | (with_reducible exact ih1 _ _ _ _)
      | (with_reducible exact cell_May.mono _ _ _ _)
      | (with_reducible exact cell_Of.mono _ _ _)
      | (with_reducible exact rotuluslaw1_begun.mono _)
      | (with_reducible exact LeO.refl _)
      | (with_reducible exact LeO.none _)
      | (with_reducible refine LeO.ite ?_ ?_)
      | (with_reducible refine LeO.bind ?_ (fun _ => ?_))
      | exact ih0 _ _ _ _
      | exact ih1 _ _ _ _
      | exact cell_May.mono _ _ _ _
      | exact cell_Of.mono _ _ _
      | exact rotuluslaw1_begun.mono _
      | exact LeO.none _
      | refine LeO.ite ?_ ?_
      | refine LeO.bind ?_ (fun _ => ?_)
set_option maxHeartbeats 8000000 in
set_option maxRecDepth 100000 in
theorem rotuluslaw1_CellWide.calls (k : Nat) (a0 : Int) (a1 : Int) (r : Bool) (w : World) (h : rotuluslaw1_CellWide.f k a0 a1 = some r) :
    Calls Try.prog 14 #[.int .i32 a0, .int .i64 a1] w fun e w' => e = .returned (.bool r) ∧ Below w.heap.size w w' := by
  have hu49 := Try.underlying49
  have HB := Aside0.mk (Below.refl w.heap.size w)
  have H : ((rotuluslaw1_begun.f k).bind fun t607 => (if t607 = true then ((cell_Of.f k a0 a1).bind fun t608 => (if a1 < 0 then (rotuluslaw1_CellWide.j0 k a0 a1 t608 true) else (rotuluslaw1_CellWide.j0 k a0 a1 t608 (decide (a1 > 255))))) else (some false))) = some r := h
  clear h
  replace H := Option.bind_eq_some_iff.mp H
  obtain ⟨t607, A30, H⟩ := H
  replace H : (if t607 = true then ((cell_Of.f k a0 a1).bind fun t608 => (if a1 < 0 then (rotuluslaw1_CellWide.j0 k a0 a1 t608 true) else (rotuluslaw1_CellWide.j0 k a0 a1 t608 (decide (a1 > 255))))) else (some false)) = some r := H
  have A3 := Aside0.mk A30
  clear A30
  by_cases c4 : t607 = true
  · subst c4
    have H1 : ((cell_Of.f k a0 a1).bind fun t608 => (if a1 < 0 then (rotuluslaw1_CellWide.j0 k a0 a1 t608 true) else (rotuluslaw1_CellWide.j0 k a0 a1 t608 (decide (a1 > 255))))) = some r := by rw [if_pos rfl] at H; exact H
    clear H
    have H := H1
    clear H1
    replace H := Option.bind_eq_some_iff.mp H
    obtain ⟨t608, A50, H⟩ := H
    replace H : (if a1 < 0 then (rotuluslaw1_CellWide.j0 k a0 a1 t608 true) else (rotuluslaw1_CellWide.j0 k a0 a1 t608 (decide (a1 > 255)))) = some r := H
    have A5 := Aside0.mk A50
    clear A50
    have HC6 := Aside0.mk H
    clear H
    go_enter Try.func14, Try.ntmps14
    go_upto_region 5 with (first | ((with_reducible refine gate_callee (f := 19) rfl ?_); refine goesL_ (some 8) rfl rfl Try.func19 (by kernel_rfl) rfl #[] rfl (by (try simp only [List.map_toArray, List.map_cons, List.map_nil]); first | done | rfl | (simp only [List.length_drop, List.length_take]; rfl)) ?_; (with_reducible refine (rotuluslaw1_begun.calls k  true _ A3.out).mono ?_); rintro e w7 ⟨rfl, hb⟩; refine ⟨_, rfl, ?_⟩; have n0_ := Aside0.mk (below_step (by repeat (first | (with_reducible first | exact HB.out | apply below_alloc | apply pw_below_drewN | apply below_drew1) | exact HB.out)) hb); clear HB; have HB := n0_; clear n0_; (try clear hb); (try clear hb2); (try clear hk); (try clear hi)) | ((with_reducible refine gate_callee (f := 35) rfl ?_); refine goesL_ (some 13) rfl rfl Try.func35 (by kernel_rfl) rfl #[.int .i32 a0, .int .i64 a1] rfl (by (try simp only [List.map_toArray, List.map_cons, List.map_nil]); first | done | rfl | (simp only [List.length_drop, List.length_take]; rfl)) ?_; (with_reducible refine (cell_Of.calls k a0 a1 t608 _ A5.out).mono ?_); rintro e w8 ⟨v609, rfl, ho0, hb⟩; refine ⟨_, rfl, ?_⟩; have n0_ := Aside0.mk (Kd.R_lower ho0 (below_size (by repeat (first | (with_reducible first | exact HB.out | apply below_alloc | apply pw_below_drewN | apply below_drew1) | exact HB.out)))); have n1_ := Aside0.mk (below_step (by repeat (first | (with_reducible first | exact HB.out | apply below_alloc | apply pw_below_drewN | apply below_drew1) | exact HB.out)) hb); clear HB; have HO610 := n0_; have HB := n1_; clear n0_ n1_; (try clear hb); (try clear hb2); (try clear hk); (try clear hi); (try clear ho0)))
    (try simp only [Act.put, List.setIfInBounds_toArray, List.set_cons_zero, List.set_cons_succ])
    go_cut [19] (fun v19 wc => ∃ (kq : Nat) (x19_5 : Bool), v19 = .bool x19_5 ∧ Aside0 (rotuluslaw1_CellWide.j0 kq a0 a1 t608 x19_5 = some r) ∧ Aside0 (kq ≤ k) ∧ Aside0 (Kd.R k49 49 wc w.heap.size (fun _ => True) v609 t608) ∧ Aside0 (Below w.heap.size w wc))
    case first =>
      have H := HC6.out
      clear HC6
      by_cases c9 : a1 < 0
      · rw [if_pos c9] at H
        have c9b0 : decide (a1 < 0) = true := decide_eq_true c9
        clear c9
        (first | rw [c9b0] | (simp only [i64_w, i32_w]; rw [c9b0]) | skip)
        have H' := Aside0.mk H
        clear H
        go_wp2
        go_meet
        case rel => exact ⟨_, (true), (by first | rfl | (simp; done) | (simp [*]; done)), H', ⟨by first | omega | exact Nat.le_refl _⟩, ⟨by (with_reducible repeat (first | apply Kd.R_alloc | apply Kd.R_drewN | apply Kd.R_drew)); exact HO610.out⟩, ⟨by repeat (first | (with_reducible first | exact HB.out | apply below_alloc | apply pw_below_drewN | apply below_drew1) | exact HB.out)⟩⟩
      · rw [if_neg c9] at H
        have c9b0 : decide (a1 < 0) = false := decide_eq_false c9
        clear c9
        (first | rw [c9b0] | (simp only [i64_w, i32_w]; rw [c9b0]) | skip)
        have H' := Aside0.mk H
        clear H
        go_wp2
        go_meet
        case rel => exact ⟨_, (decide (a1 > 255)), (by first | rfl | (simp; done) | (simp [*]; done)), H', ⟨by first | omega | exact Nat.le_refl _⟩, ⟨by (with_reducible repeat (first | apply Kd.R_alloc | apply Kd.R_drewN | apply Kd.R_drew)); exact HO610.out⟩, ⟨by repeat (first | (with_reducible first | exact HB.out | apply below_alloc | apply pw_below_drewN | apply below_drew1) | exact HB.out)⟩⟩
    case rest =>
      clear HC6
      try clear c1
      try clear p2
      try clear c3
      try clear c4
      try clear c9
      try clear c9b0
      obtain ⟨kq, x19_5, rfl, HA, HJ5, HO_6, HB⟩ := hcut
      cases kq with
      | zero => exact absurd HA.out (by simp [rotuluslaw1_CellWide.j0])
      | succ kj5 =>
        have H := HA.out
        clear HA
        simp only [rotuluslaw1_CellWide.j0] at H
        by_cases c10 : x19_5 = true
        · subst c10
          have H1 : (some ((t608.length : Int) == 0)) = some r := by rw [if_pos rfl] at H; exact H
          clear H
          have H := H1
          clear H1
          obtain rfl := Option.some.inj H
          obtain ⟨Ao11, co11, eo11⟩ := Kd.R_slice HO_6.out
          subst eo11
          go_wp2
          go_ret
          exact ⟨by first | rfl | (simp [errW_none, errW_some] <;> rfl) | (simp [*, errW_none, errW_some] <;> rfl), by repeat (first | (with_reducible first | exact HB.out | apply below_alloc | apply pw_below_drewN | apply below_drew1) | exact HB.out)⟩
        · replace c10 := Bool.eq_false_iff.mpr c10
          subst c10
          have H1 : ((rotulusref1_Width.f a0).bind fun t611 => (if (t608.length : Int) = t611 then (rotuluslaw1_CellWide.l0 kj5 a0 a1 t608 0) else (some false))) = some r := by rw [if_neg (show ¬ (false = true) by decide)] at H; exact H
          clear H
          have H := H1
          clear H1
          replace H := Option.bind_eq_some_iff.mp H
          obtain ⟨t611, A120, H⟩ := H
          replace H : (if (t608.length : Int) = t611 then (rotuluslaw1_CellWide.l0 kj5 a0 a1 t608 0) else (some false)) = some r := H
          have A12 := Aside0.mk A120
          clear A120
          by_cases c13 : (t608.length : Int) = t611
          · rw [if_pos c13] at H
            have c13b0 : ((t608.length : Int) == t611) = true := beq_iff_eq.mpr c13
            have c13b1 : ((t608.length : Int) != t611) = false := bne_eq_false_iff_eq.mpr c13
            clear c13
            have H' := Aside0.mk H
            clear H
            obtain ⟨Ao14, co14, eo14⟩ := Kd.R_slice HO_6.out
            subst eo14
            go_wp2_with (first | ((with_reducible refine gate_callee (f := 32) rfl ?_); refine goesL_ (some 26) rfl rfl Try.func32 (by kernel_rfl) rfl #[.int .i32 a0] rfl (by (try simp only [List.map_toArray, List.map_cons, List.map_nil]); first | done | rfl | (simp only [List.length_drop, List.length_take]; rfl)) ?_; (with_reducible refine (rotulusref1_Width.calls a0 t611 _ A12.out).mono ?_); rintro e w15 ⟨rfl, hb⟩; refine ⟨_, rfl, ?_⟩; have n0_ := Aside0.mk (Kd.R_below (by (with_reducible repeat (first | apply Kd.R_alloc | apply Kd.R_drewN | apply Kd.R_drew)); exact HO_6.out) hb); have n1_ := Aside0.mk (below_step (by repeat (first | (with_reducible first | exact HB.out | apply below_alloc | apply pw_below_drewN | apply below_drew1) | exact HB.out)) hb); clear HO_6; clear HB; have HO_6 := n0_; have HB := n1_; clear n0_ n1_; (try clear hb); (try clear hb2); (try clear hk); (try clear hi)))
            go_loopg [7] kj5 (fun kq v7 w' => ∃ (x7_2 : Int), v7 = .int .i64 x7_2 ∧ Aside0 (rotuluslaw1_CellWide.l0 kq a0 a1 t608 x7_2 = some r) ∧ Aside0 (kq ≤ kj5) ∧ Aside0 (Kd.R k49 49 w' w.heap.size (fun _ => True) (.slice Ao14 t608.length co14) t608) ∧ Aside0 (Below w.heap.size w w'))
            case atStart => exact ⟨(0), (by first | rfl | (simp; done) | (simp [*]; done)), H', ⟨Nat.le_refl _⟩, ⟨by (with_reducible repeat (first | apply Kd.R_alloc | apply Kd.R_drewN | apply Kd.R_drew)); exact HO_6.out⟩, ⟨by repeat (first | (with_reducible first | exact HB.out | apply below_alloc | apply pw_below_drewN | apply below_drew1) | exact HB.out)⟩⟩
            case round =>
              clear H'
              try clear c1
              try clear p2
              try clear c3
              try clear c4
              try clear c9
              try clear c9b0
              try clear c10
              try clear c13
              try clear c13b0
              try clear c13b1
              try clear c14
              try clear p2
              obtain ⟨x7_2, rfl, HA, HK2, HO_6, HB⟩ := hrel
              cases gk with
              | zero => exact absurd HA.out (by simp [rotuluslaw1_CellWide.l0])
              | succ k2 =>
                have H := HA.out
                clear HA
                simp only [rotuluslaw1_CellWide.l0] at H
                by_cases c16 : x7_2 < (t608.length : Int)
                · rw [if_pos c16] at H
                  have c16b0 : decide (x7_2 < (t608.length : Int)) = true := decide_eq_true c16
                  clear c16
                  have c17 : 0 ≤ x7_2 := Decidable.byContradiction fun hc_ => absurd ((if_neg hc_).symm.trans H) (by simp)
                  rw [if_pos c17] at H
                  have c17b0 : decide (0 ≤ x7_2) = true := decide_eq_true c17
                  clear c17
                  replace H := Option.bind_eq_some_iff.mp H
                  obtain ⟨t615, A180, H⟩ := H
                  replace H : (if t615 = true then (if ((rd_T49 t608 x7_2).f2) = a1 then ((cell_IsPad.f ((rd_T49 t608 x7_2).f0) ((rd_T49 t608 x7_2).f1) ((rd_T49 t608 x7_2).f2)).bind fun t618 => (if t618 = true then (some false) else (rotuluslaw1_CellWide.l0 k2 a0 a1 t608 (wrap64 (x7_2 + 1))))) else (some false)) else (some false)) = some r := H
                  have A18 := Aside0.mk A180
                  clear A180
                  by_cases c19 : t615 = true
                  · subst c19
                    have H1 : (if ((rd_T49 t608 x7_2).f2) = a1 then ((cell_IsPad.f ((rd_T49 t608 x7_2).f0) ((rd_T49 t608 x7_2).f1) ((rd_T49 t608 x7_2).f2)).bind fun t618 => (if t618 = true then (some false) else (rotuluslaw1_CellWide.l0 k2 a0 a1 t608 (wrap64 (x7_2 + 1))))) else (some false)) = some r := by rw [if_pos rfl] at H; exact H
                    clear H
                    have H := H1
                    clear H1
                    by_cases c20 : ((rd_T49 t608 x7_2).f2) = a1
                    · rw [if_pos c20] at H
                      have c20b0 : (((rd_T49 t608 x7_2).f2) == a1) = true := beq_iff_eq.mpr c20
                      have c20b1 : (((rd_T49 t608 x7_2).f2) != a1) = false := bne_eq_false_iff_eq.mpr c20
                      clear c20
                      replace H := Option.bind_eq_some_iff.mp H
                      obtain ⟨t618, A210, H⟩ := H
                      replace H : (if t618 = true then (some false) else (rotuluslaw1_CellWide.l0 k2 a0 a1 t608 (wrap64 (x7_2 + 1)))) = some r := H
                      have A21 := Aside0.mk A210
                      clear A210
                      by_cases c22 : t618 = true
                      · subst c22
                        have H1 : (some false) = some r := by rw [if_pos rfl] at H; exact H
                        clear H
                        have H := H1
                        clear H1
                        obtain rfl := Option.some.inj H
                        have p614 : 0 ≤ (x7_2 : Int) := of_decide_eq_true (by first | (with_reducible assumption) | assumption)
                        have q614 : x7_2 < (t608.length : Int) := of_decide_eq_true (by first | (with_reducible assumption) | assumption)
                        obtain ⟨ad614, e614, hx614_0, hx614_1, hx614_2⟩ := at_T49 (Kd.R_reads' HO_6.out).2.2 x7_2 p614 q614
                        cases e614
                        replace p614 := eq_true p614
                        replace q614 := eq_true q614
                        go_wp2_with (first | ((with_reducible refine gate_callee (f := 37) rfl ?_); refine goesL_ (some 38) rfl rfl Try.func37 (by kernel_rfl) rfl #[.agg #[.int .i32 ((rd_T49 t608 x7_2).f0), .int .i64 ((rd_T49 t608 x7_2).f1), .int .i64 ((rd_T49 t608 x7_2).f2)]] rfl (by (try simp only [List.map_toArray, List.map_cons, List.map_nil]); first | done | rfl | (simp only [List.length_drop, List.length_take]; rfl)) ?_; (with_reducible refine (cell_May.calls k2 ((rd_T49 t608 x7_2).f0) ((rd_T49 t608 x7_2).f1) ((rd_T49 t608 x7_2).f2) true _ A18.out).mono ?_); rintro e w23 ⟨rfl, hb⟩; refine ⟨_, rfl, ?_⟩; have n0_ := Aside0.mk (Kd.R_below (by (with_reducible repeat (first | apply Kd.R_alloc | apply Kd.R_drewN | apply Kd.R_drew)); exact HO_6.out) hb); have n1_ := Aside0.mk (below_step (by repeat (first | (with_reducible first | exact HB.out | apply below_alloc | apply pw_below_drewN | apply below_drew1) | exact HB.out)) hb); clear HO_6; clear HB; have HO_6 := n0_; have HB := n1_; clear n0_ n1_; (try clear hb); (try clear hb2); (try clear hk); (try clear hi); have p616 : 0 ≤ (x7_2 : Int) := of_decide_eq_true (by first | (with_reducible assumption) | assumption); have q616 : x7_2 < (t608.length : Int) := of_decide_eq_true (by first | (with_reducible assumption) | assumption); obtain ⟨ad616, e616, hx616_0, hx616_1, hx616_2⟩ := at_T49 (Kd.R_reads' HO_6.out).2.2 x7_2 p616 q616; obtain rfl : ad614 = ad616 := (by injection e616); replace p616 := eq_true p616; replace q616 := eq_true q616; have p617 : 0 ≤ (x7_2 : Int) := of_decide_eq_true (by first | (with_reducible assumption) | assumption); have q617 : x7_2 < (t608.length : Int) := of_decide_eq_true (by first | (with_reducible assumption) | assumption); obtain ⟨ad617, e617, hx617_0, hx617_1, hx617_2⟩ := at_T49 (Kd.R_reads' HO_6.out).2.2 x7_2 p617 q617; obtain rfl : ad614 = ad617 := (by injection e617); replace p617 := eq_true p617; replace q617 := eq_true q617) | (go_at_call 38; (with_reducible refine (cell_IsPad.calls ((rd_T49 t608 x7_2).f0) ((rd_T49 t608 x7_2).f1) ((rd_T49 t608 x7_2).f2) true _ A21.out).mono ?_); rintro e w24 ⟨rfl, hb⟩; have n0_ := Aside0.mk (Kd.R_below (by (with_reducible repeat (first | apply Kd.R_alloc | apply Kd.R_drewN | apply Kd.R_drew)); exact HO_6.out) hb); have n1_ := Aside0.mk (below_step (by repeat (first | (with_reducible first | exact HB.out | apply below_alloc | apply pw_below_drewN | apply below_drew1) | exact HB.out)) hb); clear HO_6; clear HB; have HO_6 := n0_; have HB := n1_; clear n0_ n1_; (try clear hb); (try clear hb2); (try clear hk); (try clear hi)))
                        go_ret
                        exact ⟨by first | rfl | (simp [errW_none, errW_some] <;> rfl) | (simp [*, errW_none, errW_some] <;> rfl), by repeat (first | (with_reducible first | exact HB.out | apply below_alloc | apply pw_below_drewN | apply below_drew1) | exact HB.out)⟩
                      · replace c22 := Bool.eq_false_iff.mpr c22
                        subst c22
                        have H1 : (rotuluslaw1_CellWide.l0 k2 a0 a1 t608 (wrap64 (x7_2 + 1))) = some r := by rw [if_neg (show ¬ (false = true) by decide)] at H; exact H
                        clear H
                        have H := H1
                        clear H1
                        have H' := Aside0.mk H
                        clear H
                        have p614 : 0 ≤ (x7_2 : Int) := of_decide_eq_true (by first | (with_reducible assumption) | assumption)
                        have q614 : x7_2 < (t608.length : Int) := of_decide_eq_true (by first | (with_reducible assumption) | assumption)
                        obtain ⟨ad614, e614, hx614_0, hx614_1, hx614_2⟩ := at_T49 (Kd.R_reads' HO_6.out).2.2 x7_2 p614 q614
                        cases e614
                        replace p614 := eq_true p614
                        replace q614 := eq_true q614
                        go_wp2_with (first | ((with_reducible refine gate_callee (f := 37) rfl ?_); refine goesL_ (some 38) rfl rfl Try.func37 (by kernel_rfl) rfl #[.agg #[.int .i32 ((rd_T49 t608 x7_2).f0), .int .i64 ((rd_T49 t608 x7_2).f1), .int .i64 ((rd_T49 t608 x7_2).f2)]] rfl (by (try simp only [List.map_toArray, List.map_cons, List.map_nil]); first | done | rfl | (simp only [List.length_drop, List.length_take]; rfl)) ?_; (with_reducible refine (cell_May.calls k2 ((rd_T49 t608 x7_2).f0) ((rd_T49 t608 x7_2).f1) ((rd_T49 t608 x7_2).f2) true _ A18.out).mono ?_); rintro e w25 ⟨rfl, hb⟩; refine ⟨_, rfl, ?_⟩; have n0_ := Aside0.mk (Kd.R_below (by (with_reducible repeat (first | apply Kd.R_alloc | apply Kd.R_drewN | apply Kd.R_drew)); exact HO_6.out) hb); have n1_ := Aside0.mk (below_step (by repeat (first | (with_reducible first | exact HB.out | apply below_alloc | apply pw_below_drewN | apply below_drew1) | exact HB.out)) hb); clear HO_6; clear HB; have HO_6 := n0_; have HB := n1_; clear n0_ n1_; (try clear hb); (try clear hb2); (try clear hk); (try clear hi); have p616 : 0 ≤ (x7_2 : Int) := of_decide_eq_true (by first | (with_reducible assumption) | assumption); have q616 : x7_2 < (t608.length : Int) := of_decide_eq_true (by first | (with_reducible assumption) | assumption); obtain ⟨ad616, e616, hx616_0, hx616_1, hx616_2⟩ := at_T49 (Kd.R_reads' HO_6.out).2.2 x7_2 p616 q616; obtain rfl : ad614 = ad616 := (by injection e616); replace p616 := eq_true p616; replace q616 := eq_true q616; have p617 : 0 ≤ (x7_2 : Int) := of_decide_eq_true (by first | (with_reducible assumption) | assumption); have q617 : x7_2 < (t608.length : Int) := of_decide_eq_true (by first | (with_reducible assumption) | assumption); obtain ⟨ad617, e617, hx617_0, hx617_1, hx617_2⟩ := at_T49 (Kd.R_reads' HO_6.out).2.2 x7_2 p617 q617; obtain rfl : ad614 = ad617 := (by injection e617); replace p617 := eq_true p617; replace q617 := eq_true q617) | (go_at_call 38; (with_reducible refine (cell_IsPad.calls ((rd_T49 t608 x7_2).f0) ((rd_T49 t608 x7_2).f1) ((rd_T49 t608 x7_2).f2) false _ A21.out).mono ?_); rintro e w26 ⟨rfl, hb⟩; have n0_ := Aside0.mk (Kd.R_below (by (with_reducible repeat (first | apply Kd.R_alloc | apply Kd.R_drewN | apply Kd.R_drew)); exact HO_6.out) hb); have n1_ := Aside0.mk (below_step (by repeat (first | (with_reducible first | exact HB.out | apply below_alloc | apply pw_below_drewN | apply below_drew1) | exact HB.out)) hb); clear HO_6; clear HB; have HO_6 := n0_; have HB := n1_; clear n0_ n1_; (try clear hb); (try clear hb2); (try clear hk); (try clear hi)))
                        go_roundg k2
                        case measure => have := HJ5.out; have := HK2.out; omega
                        case rel => exact ⟨(wrap64 (x7_2 + 1)), (by first | rfl | (simp; done) | (simp [*]; done)), H', ⟨by have := HJ5.out; have := HK2.out; omega⟩, ⟨by (with_reducible repeat (first | apply Kd.R_alloc | apply Kd.R_drewN | apply Kd.R_drew)); exact HO_6.out⟩, ⟨by repeat (first | (with_reducible first | exact HB.out | apply below_alloc | apply pw_below_drewN | apply below_drew1) | exact HB.out)⟩⟩
                    · rw [if_neg c20] at H
                      have c20b0 : (((rd_T49 t608 x7_2).f2) == a1) = false := beq_eq_false_iff_ne.mpr c20
                      have c20b1 : (((rd_T49 t608 x7_2).f2) != a1) = true := bne_iff_ne.mpr c20
                      obtain rfl := Option.some.inj H
                      have p614 : 0 ≤ (x7_2 : Int) := of_decide_eq_true (by first | (with_reducible assumption) | assumption)
                      have q614 : x7_2 < (t608.length : Int) := of_decide_eq_true (by first | (with_reducible assumption) | assumption)
                      obtain ⟨ad614, e614, hx614_0, hx614_1, hx614_2⟩ := at_T49 (Kd.R_reads' HO_6.out).2.2 x7_2 p614 q614
                      cases e614
                      replace p614 := eq_true p614
                      replace q614 := eq_true q614
                      go_wp2_with (first | ((with_reducible refine gate_callee (f := 37) rfl ?_); refine goesL_ (some 38) rfl rfl Try.func37 (by kernel_rfl) rfl #[.agg #[.int .i32 ((rd_T49 t608 x7_2).f0), .int .i64 ((rd_T49 t608 x7_2).f1), .int .i64 ((rd_T49 t608 x7_2).f2)]] rfl (by (try simp only [List.map_toArray, List.map_cons, List.map_nil]); first | done | rfl | (simp only [List.length_drop, List.length_take]; rfl)) ?_; (with_reducible refine (cell_May.calls k2 ((rd_T49 t608 x7_2).f0) ((rd_T49 t608 x7_2).f1) ((rd_T49 t608 x7_2).f2) true _ A18.out).mono ?_); rintro e w27 ⟨rfl, hb⟩; refine ⟨_, rfl, ?_⟩; have n0_ := Aside0.mk (Kd.R_below (by (with_reducible repeat (first | apply Kd.R_alloc | apply Kd.R_drewN | apply Kd.R_drew)); exact HO_6.out) hb); have n1_ := Aside0.mk (below_step (by repeat (first | (with_reducible first | exact HB.out | apply below_alloc | apply pw_below_drewN | apply below_drew1) | exact HB.out)) hb); clear HO_6; clear HB; have HO_6 := n0_; have HB := n1_; clear n0_ n1_; (try clear hb); (try clear hb2); (try clear hk); (try clear hi); have p616 : 0 ≤ (x7_2 : Int) := of_decide_eq_true (by first | (with_reducible assumption) | assumption); have q616 : x7_2 < (t608.length : Int) := of_decide_eq_true (by first | (with_reducible assumption) | assumption); obtain ⟨ad616, e616, hx616_0, hx616_1, hx616_2⟩ := at_T49 (Kd.R_reads' HO_6.out).2.2 x7_2 p616 q616; obtain rfl : ad614 = ad616 := (by injection e616); replace p616 := eq_true p616; replace q616 := eq_true q616))
                      go_ret
                      exact ⟨by first | rfl | (simp [errW_none, errW_some] <;> rfl) | (simp [*, errW_none, errW_some] <;> rfl), by repeat (first | (with_reducible first | exact HB.out | apply below_alloc | apply pw_below_drewN | apply below_drew1) | exact HB.out)⟩
                  · replace c19 := Bool.eq_false_iff.mpr c19
                    subst c19
                    have H1 : (some false) = some r := by rw [if_neg (show ¬ (false = true) by decide)] at H; exact H
                    clear H
                    have H := H1
                    clear H1
                    obtain rfl := Option.some.inj H
                    have p614 : 0 ≤ (x7_2 : Int) := of_decide_eq_true (by first | (with_reducible assumption) | assumption)
                    have q614 : x7_2 < (t608.length : Int) := of_decide_eq_true (by first | (with_reducible assumption) | assumption)
                    obtain ⟨ad614, e614, hx614_0, hx614_1, hx614_2⟩ := at_T49 (Kd.R_reads' HO_6.out).2.2 x7_2 p614 q614
                    cases e614
                    replace p614 := eq_true p614
                    replace q614 := eq_true q614
                    go_wp2_with (first | ((with_reducible refine gate_callee (f := 37) rfl ?_); refine goesL_ (some 38) rfl rfl Try.func37 (by kernel_rfl) rfl #[.agg #[.int .i32 ((rd_T49 t608 x7_2).f0), .int .i64 ((rd_T49 t608 x7_2).f1), .int .i64 ((rd_T49 t608 x7_2).f2)]] rfl (by (try simp only [List.map_toArray, List.map_cons, List.map_nil]); first | done | rfl | (simp only [List.length_drop, List.length_take]; rfl)) ?_; (with_reducible refine (cell_May.calls k2 ((rd_T49 t608 x7_2).f0) ((rd_T49 t608 x7_2).f1) ((rd_T49 t608 x7_2).f2) false _ A18.out).mono ?_); rintro e w28 ⟨rfl, hb⟩; refine ⟨_, rfl, ?_⟩; have n0_ := Aside0.mk (Kd.R_below (by (with_reducible repeat (first | apply Kd.R_alloc | apply Kd.R_drewN | apply Kd.R_drew)); exact HO_6.out) hb); have n1_ := Aside0.mk (below_step (by repeat (first | (with_reducible first | exact HB.out | apply below_alloc | apply pw_below_drewN | apply below_drew1) | exact HB.out)) hb); clear HO_6; clear HB; have HO_6 := n0_; have HB := n1_; clear n0_ n1_; (try clear hb); (try clear hb2); (try clear hk); (try clear hi)))
                    go_ret
                    exact ⟨by first | rfl | (simp [errW_none, errW_some] <;> rfl) | (simp [*, errW_none, errW_some] <;> rfl), by repeat (first | (with_reducible first | exact HB.out | apply below_alloc | apply pw_below_drewN | apply below_drew1) | exact HB.out)⟩
                · rw [if_neg c16] at H
                  have c16b0 : decide (x7_2 < (t608.length : Int)) = false := decide_eq_false c16
                  clear c16
                  by_cases c29 : (t608.length : Int) = 0
                  · rw [if_pos c29] at H
                    have c29b0 : ((t608.length : Int) == 0) = true := beq_iff_eq.mpr c29
                    have c29b1 : ((t608.length : Int) != 0) = false := bne_eq_false_iff_eq.mpr c29
                    clear c29
                    obtain rfl := Option.some.inj H
                    go_wp2
                    go_ret
                    exact ⟨by first | rfl | (simp [errW_none, errW_some] <;> rfl) | (simp [*, errW_none, errW_some] <;> rfl), by repeat (first | (with_reducible first | exact HB.out | apply below_alloc | apply pw_below_drewN | apply below_drew1) | exact HB.out)⟩
                  · rw [if_neg c29] at H
                    have c29b0 : ((t608.length : Int) == 0) = false := beq_eq_false_iff_ne.mpr c29
                    have c29b1 : ((t608.length : Int) != 0) = true := bne_iff_ne.mpr c29
                    have c29b2 : ¬ (t608 = []) := fun h_ => c29 (by rw [h_]; rfl)
                    have c30 : 0 < (t608.length : Int) := Decidable.byContradiction fun hc_ => absurd ((if_neg hc_).symm.trans H) (by simp)
                    rw [if_pos c30] at H
                    have c30b0 : decide (0 < (t608.length : Int)) = true := decide_eq_true c30
                    have c30b1 : decide (0 < t608.length) = true := decide_eq_true (by omega)
                    clear c30
                    by_cases c31 : ((rd_T49 t608 0).f0) = a0
                    · rw [if_pos c31] at H
                      have c31b0 : (((rd_T49 t608 0).f0) == a0) = true := beq_iff_eq.mpr c31
                      have c31b1 : (((rd_T49 t608 0).f0) != a0) = false := bne_eq_false_iff_eq.mpr c31
                      clear c31
                      obtain rfl := Option.some.inj H
                      have p612 : 0 ≤ (0 : Int) := (by omega)
                      have q612 : 0 < (t608.length : Int) := of_decide_eq_true (by first | (with_reducible assumption) | assumption)
                      obtain ⟨ad612, e612, hx612_0, hx612_1, hx612_2⟩ := at_T49 (Kd.R_reads' HO_6.out).2.2 0 p612 q612
                      cases e612
                      have qi612 : (0 < t608.length) = True := eq_true (by omega)
                      (try rw [show ((0 : Int)).toNat = 0 from rfl] at hx612_0)
                      (try rw [show 0 * 3 = 0 from rfl] at hx612_0)
                      (try rw [Addr.add_zero'] at hx612_0)
                      (try rw [show ((0 : Int)).toNat = 0 from rfl] at hx612_1)
                      (try rw [show 0 * 3 = 0 from rfl] at hx612_1)
                      (try rw [Addr.add_zero'] at hx612_1)
                      (try rw [show ((0 : Int)).toNat = 0 from rfl] at hx612_2)
                      (try rw [show 0 * 3 = 0 from rfl] at hx612_2)
                      (try rw [Addr.add_zero'] at hx612_2)
                      replace p612 := eq_true p612
                      replace q612 := eq_true q612
                      have p613 : 0 ≤ (0 : Int) := (by omega)
                      have q613 : 0 < (t608.length : Int) := of_decide_eq_true (by first | (with_reducible assumption) | assumption)
                      obtain ⟨ad613, e613, hx613_0, hx613_1, hx613_2⟩ := at_T49 (Kd.R_reads' HO_6.out).2.2 0 p613 q613
                      obtain rfl : ad612 = ad613 := (by injection e613)
                      have qi613 : (0 < t608.length) = True := eq_true (by omega)
                      (try rw [show ((0 : Int)).toNat = 0 from rfl] at hx613_0)
                      (try rw [show 0 * 3 = 0 from rfl] at hx613_0)
                      (try rw [Addr.add_zero'] at hx613_0)
                      (try rw [show ((0 : Int)).toNat = 0 from rfl] at hx613_1)
                      (try rw [show 0 * 3 = 0 from rfl] at hx613_1)
                      (try rw [Addr.add_zero'] at hx613_1)
                      (try rw [show ((0 : Int)).toNat = 0 from rfl] at hx613_2)
                      (try rw [show 0 * 3 = 0 from rfl] at hx613_2)
                      (try rw [Addr.add_zero'] at hx613_2)
                      replace p613 := eq_true p613
                      replace q613 := eq_true q613
                      go_wp2
                      go_ret
                      exact ⟨by first | rfl | (simp [errW_none, errW_some] <;> rfl) | (simp [*, errW_none, errW_some] <;> rfl), by repeat (first | (with_reducible first | exact HB.out | apply below_alloc | apply pw_below_drewN | apply below_drew1) | exact HB.out)⟩
                    · rw [if_neg c31] at H
                      have c31b0 : (((rd_T49 t608 0).f0) == a0) = false := beq_eq_false_iff_ne.mpr c31
                      have c31b1 : (((rd_T49 t608 0).f0) != a0) = true := bne_iff_ne.mpr c31
                      obtain rfl := Option.some.inj H
                      have p612 : 0 ≤ (0 : Int) := (by omega)
                      have q612 : 0 < (t608.length : Int) := of_decide_eq_true (by first | (with_reducible assumption) | assumption)
                      obtain ⟨ad612, e612, hx612_0, hx612_1, hx612_2⟩ := at_T49 (Kd.R_reads' HO_6.out).2.2 0 p612 q612
                      cases e612
                      have qi612 : (0 < t608.length) = True := eq_true (by omega)
                      (try rw [show ((0 : Int)).toNat = 0 from rfl] at hx612_0)
                      (try rw [show 0 * 3 = 0 from rfl] at hx612_0)
                      (try rw [Addr.add_zero'] at hx612_0)
                      (try rw [show ((0 : Int)).toNat = 0 from rfl] at hx612_1)
                      (try rw [show 0 * 3 = 0 from rfl] at hx612_1)
                      (try rw [Addr.add_zero'] at hx612_1)
                      (try rw [show ((0 : Int)).toNat = 0 from rfl] at hx612_2)
                      (try rw [show 0 * 3 = 0 from rfl] at hx612_2)
                      (try rw [Addr.add_zero'] at hx612_2)
                      replace p612 := eq_true p612
                      replace q612 := eq_true q612
                      go_wp2
                      go_ret
                      exact ⟨by first | rfl | (simp [errW_none, errW_some] <;> rfl) | (simp [*, errW_none, errW_some] <;> rfl), by repeat (first | (with_reducible first | exact HB.out | apply below_alloc | apply pw_below_drewN | apply below_drew1) | exact HB.out)⟩
          · rw [if_neg c13] at H
            have c13b0 : ((t608.length : Int) == t611) = false := beq_eq_false_iff_ne.mpr c13
            have c13b1 : ((t608.length : Int) != t611) = true := bne_iff_ne.mpr c13
            obtain rfl := Option.some.inj H
            obtain ⟨Ao32, co32, eo32⟩ := Kd.R_slice HO_6.out
            subst eo32
            go_wp2_with (first | ((with_reducible refine gate_callee (f := 32) rfl ?_); refine goesL_ (some 26) rfl rfl Try.func32 (by kernel_rfl) rfl #[.int .i32 a0] rfl (by (try simp only [List.map_toArray, List.map_cons, List.map_nil]); first | done | rfl | (simp only [List.length_drop, List.length_take]; rfl)) ?_; (with_reducible refine (rotulusref1_Width.calls a0 t611 _ A12.out).mono ?_); rintro e w33 ⟨rfl, hb⟩; refine ⟨_, rfl, ?_⟩; have n0_ := Aside0.mk (Kd.R_below (by (with_reducible repeat (first | apply Kd.R_alloc | apply Kd.R_drewN | apply Kd.R_drew)); exact HO_6.out) hb); have n1_ := Aside0.mk (below_step (by repeat (first | (with_reducible first | exact HB.out | apply below_alloc | apply pw_below_drewN | apply below_drew1) | exact HB.out)) hb); clear HO_6; clear HB; have HO_6 := n0_; have HB := n1_; clear n0_ n1_; (try clear hb); (try clear hb2); (try clear hk); (try clear hi)))
            go_ret
            exact ⟨by first | rfl | (simp [errW_none, errW_some] <;> rfl) | (simp [*, errW_none, errW_some] <;> rfl), by repeat (first | (with_reducible first | exact HB.out | apply below_alloc | apply pw_below_drewN | apply below_drew1) | exact HB.out)⟩
  · replace c4 := Bool.eq_false_iff.mpr c4
    subst c4
    have H1 : (some false) = some r := by rw [if_neg (show ¬ (false = true) by decide)] at H; exact H
    clear H
    have H := H1
    clear H1
    obtain rfl := Option.some.inj H
    go_enter Try.func14, Try.ntmps14
    go_wp2_with (first | ((with_reducible refine gate_callee (f := 19) rfl ?_); refine goesL_ (some 8) rfl rfl Try.func19 (by kernel_rfl) rfl #[] rfl (by (try simp only [List.map_toArray, List.map_cons, List.map_nil]); first | done | rfl | (simp only [List.length_drop, List.length_take]; rfl)) ?_; (with_reducible refine (rotuluslaw1_begun.calls k  false _ A3.out).mono ?_); rintro e w34 ⟨rfl, hb⟩; refine ⟨_, rfl, ?_⟩; have n0_ := Aside0.mk (below_step (by repeat (first | (with_reducible first | exact HB.out | apply below_alloc | apply pw_below_drewN | apply below_drew1) | exact HB.out)) hb); clear HB; have HB := n0_; clear n0_; (try clear hb); (try clear hb2); (try clear hk); (try clear hi)))
    go_ret
    exact ⟨by first | rfl | (simp [errW_none, errW_some] <;> rfl) | (simp [*, errW_none, errW_some] <;> rfl), by repeat (first | (with_reducible first | exact HB.out | apply below_alloc | apply pw_below_drewN | apply below_drew1) | exact HB.out)⟩

/-- THE ONE PURE STATEMENT of rotuluslaw1_CellWide: yours. -/
def rotuluslaw1_CellWide.Pure : Prop := ∀ (a0 : Int) (a1 : Int), (Lit.int .i32 a0).wf = true → (Lit.int .i64 a1).wf = true → ∃ k, rotuluslaw1_CellWide.f k a0 a1 = some true
theorem rotuluslaw1_CellWide.walk (P : rotuluslaw1_CellWide.Pure) (a0 : Int) (a1 : Int) (w : World) (w0 : (Lit.int .i32 a0).wf = true) (w1 : (Lit.int .i64 a1).wf = true) :
    Calls Try.prog 14 #[.int .i32 a0, .int .i64 a1] w fun e w' => e = .returned (.bool true) ∧ Below w.heap.size w w' := by
  obtain ⟨k, h⟩ := P a0 a1 w0 w1
  refine (rotuluslaw1_CellWide.calls k a0 a1 true w h).mono ?_
  rintro e w' ⟨rfl, hd⟩
  exact ⟨rfl, hd⟩

end Go.Proofs.Ytohafoihegjlnaa.P
