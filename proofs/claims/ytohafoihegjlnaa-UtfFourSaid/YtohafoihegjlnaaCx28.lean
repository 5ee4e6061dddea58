-- written by a print that this session turned (wip/tools/turnprint.py)
import Derived.Test.YtohafoihegjlnaaCx0
import Derived.Test.YtohafoihegjlnaaCx27
namespace Go.Proofs.Ytohafoihegjlnaa.C
open Go.RowKit Go.Proofs.YtohafoihegjlnaaW.PrintWords Go.Proofs.YtohafoihegjlnaaW.PrintLast Go.Proofs.YtohafoihegjlnaaW.PrintMore
attribute [local go_sem] max2_int min2_int max_two min_two max_three min_three max_four min_four   -- for this text's walks alone
set_option linter.unusedVariables false
set_option linter.unusedSimpArgs false

/-! ### rotulusref1_One: function 44 -/
mutual
def rotulusref1_One.l0 : Nat → ByteArray → List (S75) → Int → Int → Option (Int × Bool)
 | 0, _, _, _, _ => none
 | k + 1, x0, x4, x5, x6 => if x6 < (x4.length : Int) then (rotulusref1_One.l1 k x0 x4 x5 x6 0) else (some (x5, false))
def rotulusref1_One.l1 : Nat → ByteArray → List (S75) → Int → Int → Int → Option (Int × Bool)
 | 0, _, _, _, _, _ => none
 | k + 1, x0, x4, x5, x6, x7 => if 0 ≤ x6 then (if x6 < (x4.length : Int) then (if x7 < (((rd_T75 x4 x6).f0).length : Int) then (if x7 < (x0.size : Int) then (if 0 ≤ x7 then (if (bt x0 x7) ≥ (rd ((rd_T75 x4 x6).f0) x7) then (if x7 < (((rd_T75 x4 x6).f1).length : Int) then (if (bt x0 x7) ≤ (rd ((rd_T75 x4 x6).f1) x7) then (rotulusref1_One.l1 k x0 x4 x5 x6 (wrap64 (x7 + 1))) else (if x7 = (((rd_T75 x4 x6).f0).length : Int) then (some (x7, true)) else (rotulusref1_One.l0 k x0 x4 (mx x5 x7) (wrap64 (x6 + 1))))) else (none)) else (if x7 = (((rd_T75 x4 x6).f0).length : Int) then (some (x7, true)) else (rotulusref1_One.l0 k x0 x4 (mx x5 x7) (wrap64 (x6 + 1))))) else (none)) else (if x7 = (((rd_T75 x4 x6).f0).length : Int) then (some (x7, true)) else (rotulusref1_One.l0 k x0 x4 (mx x5 x7) (wrap64 (x6 + 1))))) else (if x7 = (((rd_T75 x4 x6).f0).length : Int) then (some (x7, true)) else (rotulusref1_One.l0 k x0 x4 (mx x5 x7) (wrap64 (x6 + 1))))) else (none)) else (none)
end
def rotulusref1_One.f (k : Nat) (a0 : ByteArray) : Option (Int × Bool) := (rotulusref1_forms.f).bind fun t439 => (rotulusref1_One.l0 k a0 t439 0 0)
theorem rotulusref1_One.mono_l : ∀ k, (∀ y0 y1 y2 y3, LeO (rotulusref1_One.l0 k y0 y1 y2 y3) (rotulusref1_One.l0 (k + 1) y0 y1 y2 y3)) ∧ (∀ y0 y1 y2 y3 y4, LeO (rotulusref1_One.l1 k y0 y1 y2 y3 y4) (rotulusref1_One.l1 (k + 1) y0 y1 y2 y3 y4))
 | 0 => ⟨fun _ _ _ _ r h => by simp [rotulusref1_One.l0] at h, fun _ _ _ _ _ r h => by simp [rotulusref1_One.l1] at h⟩
 | k + 1 => by
  obtain ⟨ih0, ih1⟩ := rotulusref1_One.mono_l k
  refine ⟨?_, ?_⟩
  ·intro y0 y1 y2 y3
   unfold rotulusref1_One.l0
   repeat' first
   | (with_reducible exact ih0 _ _ _ _)
   | (with_reducible exact ih1 _ _ _ _ _)
   | (with_reducible exact LeO.refl _)
   | (with_reducible exact LeO.none _)
   | (with_reducible refine LeO.ite ?_ ?_)
   | (with_reducible refine LeO.bind ?_ (fun _ => ?_))
   | exact ih0 _ _ _ _
   | exact ih1 _ _ _ _ _
   | exact LeO.none _
   | refine LeO.ite ?_ ?_
   | refine LeO.bind ?_ (fun _ => ?_)
  ·intro y0 y1 y2 y3 y4
   unfold rotulusref1_One.l1
   repeat' first
   | (with_reducible exact ih0 _ _ _ _)
   | (with_reducible exact ih1 _ _ _ _ _)
   | (with_reducible exact LeO.refl _)
   | (with_reducible exact LeO.none _)
   | (with_reducible refine LeO.ite ?_ ?_)
   | (with_reducible refine LeO.bind ?_ (fun _ => ?_))
   | exact ih0 _ _ _ _
   | exact ih1 _ _ _ _ _
   | exact LeO.none _
   | refine LeO.ite ?_ ?_
   | refine LeO.bind ?_ (fun _ => ?_)
theorem rotulusref1_One.mono : ∀ a0 k, LeO (rotulusref1_One.f k a0) (rotulusref1_One.f (k + 1) a0) := by
 intro a0 k
 obtain ⟨ih0, ih1⟩ := rotulusref1_One.mono_l k
 unfold rotulusref1_One.f
 repeat' first
   | (with_reducible exact ih0 _ _ _ _)
   | (with_reducible exact ih1 _ _ _ _ _)
   | (with_reducible exact LeO.refl _)
   | (with_reducible exact LeO.none _)
   | (with_reducible refine LeO.ite ?_ ?_)
   | (with_reducible refine LeO.bind ?_ (fun _ => ?_))
   | exact ih0 _ _ _ _
   | exact ih1 _ _ _ _ _
   | exact LeO.none _
   | refine LeO.ite ?_ ?_
   | refine LeO.bind ?_ (fun _ => ?_)
set_option maxHeartbeats 8000000 in
set_option maxRecDepth 100000 in
theorem rotulusref1_One.calls (k : Nat) (a0 : ByteArray) (r1 : Int) (r2 : Bool) (w : World) (h : rotulusref1_One.f k a0 = some (r1, r2)) :
  Calls Try.prog 44 #[.string a0] w fun e w' => e = .returned (.tuple #[.int .i64 r1, .bool r2]) ∧ Below w.heap.size w w' := by
 have HB := Aside0.mk (Below.refl w.heap.size w)
 have H : ((rotulusref1_forms.f).bind fun t439 => (rotulusref1_One.l0 k a0 t439 0 0)) = some (r1, r2) := h
 clear h
 replace H := Option.bind_eq_some_iff.mp H
 obtain ⟨t439, A20, H⟩ := H
 replace H : (rotulusref1_One.l0 k a0 t439 0 0) = some (r1, r2) := H
 have A2 := Aside0.mk A20
 clear A20
 have H' := Aside0.mk H
 clear H
 go_enter Try.func44, Try.ntmps44
 go_wp2_with (first | (go_at_call 53; (with_reducible refine (rotulusref1_forms.calls  t439 _ A2.out).mono ?_); rintro e w3 ⟨v440, rfl, ho0, hb⟩; have n0_ := Aside0.mk (Kd.N_lower (Kd.N_mono (ok' := fun k_ => True) ho0 (fun k_ hk_ => trivial)) (below_size (by repeat (first | (with_reducible first | exact HB.out | apply below_alloc | apply pw_below_drewN | apply below_drew1) | exact HB.out)))); have n1_ := Aside0.mk (below_step (by repeat (first | (with_reducible first | exact HB.out | apply below_alloc | apply pw_below_drewN | apply below_drew1) | exact HB.out)) hb); clear HB; have HO441 := n0_; have HB := n1_; clear n0_ n1_; (try clear hb); (try clear hb2); (try clear hk); (try clear hi); (try clear ho0)))
 repeat (go_quiet (first | (go_at_call 53; (with_reducible refine (rotulusref1_forms.calls  t439 _ A2.out).mono ?_); rintro e w3 ⟨v440, rfl, ho0, hb⟩; have n0_ := Aside0.mk (Kd.N_lower (Kd.N_mono (ok' := fun k_ => True) ho0 (fun k_ hk_ => trivial)) (below_size (by repeat (first | (with_reducible first | exact HB.out | apply below_alloc | apply pw_below_drewN | apply below_drew1) | exact HB.out)))); have n1_ := Aside0.mk (below_step (by repeat (first | (with_reducible first | exact HB.out | apply below_alloc | apply pw_below_drewN | apply below_drew1) | exact HB.out)) hb); clear HB; have HO441 := n0_; have HB := n1_; clear n0_ n1_; (try clear hb); (try clear hb2); (try clear hk); (try clear hi); (try clear ho0))); try go_wp2_with (first | (go_at_call 53; (with_reducible refine (rotulusref1_forms.calls  t439 _ A2.out).mono ?_); rintro e w3 ⟨v440, rfl, ho0, hb⟩; have n0_ := Aside0.mk (Kd.N_lower (Kd.N_mono (ok' := fun k_ => True) ho0 (fun k_ hk_ => trivial)) (below_size (by repeat (first | (with_reducible first | exact HB.out | apply below_alloc | apply pw_below_drewN | apply below_drew1) | exact HB.out)))); have n1_ := Aside0.mk (below_step (by repeat (first | (with_reducible first | exact HB.out | apply below_alloc | apply pw_below_drewN | apply below_drew1) | exact HB.out)) hb); clear HB; have HO441 := n0_; have HB := n1_; clear n0_ n1_; (try clear hb); (try clear hb2); (try clear hk); (try clear hi); (try clear ho0))))
 go_loopg [5, 6] k (fun kq v5 v6 w' => ∃ (x5_1 : Int) (x6_1 : Int), v5 = .int .i64 x5_1 ∧ v6 = .int .i64 x6_1 ∧ Aside0 (rotulusref1_One.l0 kq a0 t439 x5_1 x6_1 = some (r1, r2)) ∧ Aside0 (kq ≤ k) ∧ Aside0 (Kd.N k75 75 w' w.heap.size (fun _ => True) v440 t439) ∧ Aside0 (Below w.heap.size w w'))
 case atStart => exact ⟨(0), (0), (by first | rfl | (simp; done) | (simp [*]; done)), (by first | rfl | (simp; done) | (simp [*]; done)), H', ⟨Nat.le_refl _⟩, ⟨by (with_reducible repeat (first | apply Kd.N_alloc | apply Kd.N_drewN | apply Kd.N_drew)); exact HO441.out⟩, ⟨by repeat (first | (with_reducible first | exact HB.out | apply below_alloc | apply pw_below_drewN | apply below_drew1) | exact HB.out)⟩⟩
 case round =>
  clear H'
  try clear p2
  obtain ⟨x5_1, x6_1, rfl, rfl, HA, HK1, HO_4, HB⟩ := hrel
  cases gk with
  | zero => exact absurd HA.out (by simp [rotulusref1_One.l0])
  | succ k1 =>
   have H := HA.out
   clear HA
   simp only [rotulusref1_One.l0] at H
   by_cases c4 : x6_1 < (t439.length : Int)
   ·rw [if_pos c4] at H
    have c4b0 : decide (x6_1 < (t439.length : Int)) = true := decide_eq_true c4
    clear c4
    have H' := Aside0.mk H
    clear H
    obtain ⟨Ao5, co5, eo5⟩ := Kd.N_slice HO_4.out
    subst eo5
    go_wp2
    repeat (go_quiet (fail); try go_wp2)
    go_loopg [7] k1 (fun kq v7 w' => ∃ (x7_2 : Int), v7 = .int .i64 x7_2 ∧ Aside0 (rotulusref1_One.l1 kq a0 t439 x5_1 x6_1 x7_2 = some (r1, r2)) ∧ Aside0 (kq ≤ k1) ∧ Aside0 (Kd.N k75 75 w' w.heap.size (fun _ => True) (.slice Ao5 t439.length co5) t439) ∧ Aside0 (Below w.heap.size w w'))
    case atStart => exact ⟨(0), (by first | rfl | (simp; done) | (simp [*]; done)), H', ⟨Nat.le_refl _⟩, ⟨by (with_reducible repeat (first | apply Kd.N_alloc | apply Kd.N_drewN | apply Kd.N_drew)); exact HO_4.out⟩, ⟨by repeat (first | (with_reducible first | exact HB.out | apply below_alloc | apply pw_below_drewN | apply below_drew1) | exact HB.out)⟩⟩
    case round =>
     clear H'
     try clear p2
     try clear c4
     try clear c4b0
     try clear p2
     obtain ⟨x7_2, rfl, HA, HK2, HO_4, HB⟩ := hrel
     cases gk with
     | zero => exact absurd HA.out (by simp [rotulusref1_One.l1])
     | succ k2 =>
      have H := HA.out
      clear HA
      simp only [rotulusref1_One.l1] at H
      have c6 : 0 ≤ x6_1 := Decidable.byContradiction fun hc_ => absurd ((if_neg hc_).symm.trans H) (by simp)
      rw [if_pos c6] at H
      have c6b0 : decide (0 ≤ x6_1) = true := decide_eq_true c6
      clear c6
      have c7 : x6_1 < (t439.length : Int) := Decidable.byContradiction fun hc_ => absurd ((if_neg hc_).symm.trans H) (by simp)
      rw [if_pos c7] at H
      have c7b0 : decide (x6_1 < (t439.length : Int)) = true := decide_eq_true c7
      clear c7
      by_cases c8 : x7_2 < (((rd_T75 t439 x6_1).f0).length : Int)
      ·rw [if_pos c8] at H
       have c8b0 : decide (x7_2 < (((rd_T75 t439 x6_1).f0).length : Int)) = true := decide_eq_true c8
       clear c8
       by_cases c9 : x7_2 < (a0.size : Int)
       ·rw [if_pos c9] at H
        have c9b0 : decide (x7_2 < (a0.size : Int)) = true := decide_eq_true c9
        clear c9
        have c10 : 0 ≤ x7_2 := Decidable.byContradiction fun hc_ => absurd ((if_neg hc_).symm.trans H) (by simp)
        rw [if_pos c10] at H
        have c10b0 : decide (0 ≤ x7_2) = true := decide_eq_true c10
        clear c10
        by_cases c12 : (bt a0 x7_2) ≥ (rd ((rd_T75 t439 x6_1).f0) x7_2)
        ·rw [if_pos c12] at H
         have c12b0 : decide ((rd ((rd_T75 t439 x6_1).f0) x7_2) ≤ (bt a0 x7_2)) = true := decide_eq_true c12
         clear c12
         have c14 : x7_2 < (((rd_T75 t439 x6_1).f1).length : Int) := Decidable.byContradiction fun hc_ => absurd ((if_neg hc_).symm.trans H) (by simp)
         rw [if_pos c14] at H
         have c14b0 : decide (x7_2 < (((rd_T75 t439 x6_1).f1).length : Int)) = true := decide_eq_true c14
         clear c14
         by_cases c15 : (bt a0 x7_2) ≤ (rd ((rd_T75 t439 x6_1).f1) x7_2)
         ·rw [if_pos c15] at H
          have c15b0 : decide ((bt a0 x7_2) ≤ (rd ((rd_T75 t439 x6_1).f1) x7_2)) = true := decide_eq_true c15
          clear c15
          have H' := Aside0.mk H
          clear H
          have p442 : 0 ≤ (x6_1 : Int) := of_decide_eq_true (by first | (with_reducible assumption) | assumption)
          have q442 : x6_1 < (t439.length : Int) := of_decide_eq_true (by first | (with_reducible assumption) | assumption)
          obtain ⟨ad442, A442_0, c442_0, A442_1, c442_1, e442, hx442_0, hx442_1, hl442_0, hi442_0, hl442_1, hi442_1⟩ := at_T75 (Kd.N_reads' HO_4.out).2.2 x6_1 p442 q442
          cases e442
          obtain ⟨ce442, hce442, hMe442, hcc442⟩ := Kd.N_get HO_4.out z75 x6_1 p442 (by first | exact q442 | exact of_decide_eq_true (by first | (with_reducible assumption) | assumption) | (have e_ := (Kd.N_reads' HO_4.out).1; omega))
          obtain ⟨ua442_0, uc442_0, ua442_1, uc442_1, rfl, ul442_0, ge442_0, ul442_1, ge442_1⟩ := k75_openF hMe442
          have hv442_0 := hcc442 0 _ rfl
          rw [Nat.add_zero] at hv442_0
          replace hv442_0 := Option.some.inj (hv442_0.symm.trans hx442_0)
          injection hv442_0 with hva_ hvn_ hvc_
          rw [hva_] at ge442_0
          rw [hvc_] at ul442_0
          have HL442_0 := Aside0.mk (show Kd.V (Kd.int .u8) 5 _ w.heap.size _ _ ((rd_T75 t439 x6_1).f0) from Kd.V_mk ul442_0 ge442_0)
          clear hva_ hvn_ hvc_ ge442_0 ul442_0
          have hv442_1 := hcc442 1 _ rfl
          rw [add_field _ _ 1 (by omega)] at hv442_1
          replace hv442_1 := Option.some.inj (hv442_1.symm.trans hx442_1)
          injection hv442_1 with hva_ hvn_ hvc_
          rw [hva_] at ge442_1
          rw [hvc_] at ul442_1
          have HL442_1 := Aside0.mk (show Kd.V (Kd.int .u8) 5 _ w.heap.size _ _ ((rd_T75 t439 x6_1).f1) from Kd.V_mk ul442_1 ge442_1)
          clear hva_ hvn_ hvc_ ge442_1 ul442_1
          clear hcc442 hce442
          have HR442_0 := Aside0.mk hi442_0
          have HC442_0 := Aside0.mk hl442_0
          clear hi442_0 hl442_0
          have HR442_1 := Aside0.mk hi442_1
          have HC442_1 := Aside0.mk hl442_1
          clear hi442_1 hl442_1
          replace p442 := eq_true p442
          replace q442 := eq_true q442
          have p11 : 0 ≤ (x7_2 : Int) := of_decide_eq_true (by first | (with_reducible assumption) | assumption)
          have q11 : x7_2 < (a0.size : Int) := of_decide_eq_true (by first | (with_reducible assumption) | assumption)
          have hx11 := bt_at a0 x7_2
          replace p11 := eq_true p11
          replace q11 := eq_true q11
          have p443 : 0 ≤ (x6_1 : Int) := of_decide_eq_true (by first | (with_reducible assumption) | assumption)
          have q443 : x6_1 < (t439.length : Int) := of_decide_eq_true (by first | (with_reducible assumption) | assumption)
          obtain ⟨ad443, A443_0, c443_0, A443_1, c443_1, e443, hx443_0, hx443_1, hl443_0, hi443_0, hl443_1, hi443_1⟩ := at_T75 (Kd.N_reads' HO_4.out).2.2 x6_1 p443 q443
          obtain rfl : ad442 = ad443 := (by injection e443)
          obtain ⟨ce443, hce443, hMe443, hcc443⟩ := Kd.N_get HO_4.out z75 x6_1 p443 (by first | exact q443 | exact of_decide_eq_true (by first | (with_reducible assumption) | assumption) | (have e_ := (Kd.N_reads' HO_4.out).1; omega))
          obtain ⟨ua443_0, uc443_0, ua443_1, uc443_1, rfl, ul443_0, ge443_0, ul443_1, ge443_1⟩ := k75_openF hMe443
          have hv443_0 := hcc443 0 _ rfl
          rw [Nat.add_zero] at hv443_0
          replace hv443_0 := Option.some.inj (hv443_0.symm.trans hx443_0)
          injection hv443_0 with hva_ hvn_ hvc_
          rw [hva_] at ge443_0
          rw [hvc_] at ul443_0
          have HL443_0 := Aside0.mk (show Kd.V (Kd.int .u8) 5 _ w.heap.size _ _ ((rd_T75 t439 x6_1).f0) from Kd.V_mk ul443_0 ge443_0)
          clear hva_ hvn_ hvc_ ge443_0 ul443_0
          have hv443_1 := hcc443 1 _ rfl
          rw [add_field _ _ 1 (by omega)] at hv443_1
          replace hv443_1 := Option.some.inj (hv443_1.symm.trans hx443_1)
          injection hv443_1 with hva_ hvn_ hvc_
          rw [hva_] at ge443_1
          rw [hvc_] at ul443_1
          have HL443_1 := Aside0.mk (show Kd.V (Kd.int .u8) 5 _ w.heap.size _ _ ((rd_T75 t439 x6_1).f1) from Kd.V_mk ul443_1 ge443_1)
          clear hva_ hvn_ hvc_ ge443_1 ul443_1
          clear hcc443 hce443
          have HR443_0 := Aside0.mk hi443_0
          have HC443_0 := Aside0.mk hl443_0
          clear hi443_0 hl443_0
          have HR443_1 := Aside0.mk hi443_1
          have HC443_1 := Aside0.mk hl443_1
          clear hi443_1 hl443_1
          replace p443 := eq_true p443
          replace q443 := eq_true q443
          have ea_ := Option.some.inj (hx442_0.symm.trans hx443_0)
          injection ea_ with ea_ en_ ec_
          subst ea_
          subst ec_
          clear en_
          have ea_ := Option.some.inj (hx442_1.symm.trans hx443_1)
          injection ea_ with ea_ en_ ec_
          subst ea_
          subst ec_
          clear en_
          have p444 : 0 ≤ (x7_2 : Int) := of_decide_eq_true (by first | (with_reducible assumption) | assumption)
          have q444 : x7_2 < (((rd_T75 t439 x6_1).f0).length : Int) := of_decide_eq_true (by first | (with_reducible assumption) | assumption)
          obtain ⟨ad444, e444, hx444_0⟩ := Kd.at_int (by repeat (first | (with_reducible exact HR443_0.out) | (with_reducible refine Kd.C_alloc ?_ _) | (with_reducible refine Kd.C_drewN ?_ _) | (with_reducible refine Kd.C_drew ?_) | exact HR443_0.out)) x7_2 p444 q444
          cases e444
          replace p444 := eq_true p444
          replace q444 := eq_true q444
          have p13 : 0 ≤ (x7_2 : Int) := of_decide_eq_true (by first | (with_reducible assumption) | assumption)
          have q13 : x7_2 < (a0.size : Int) := of_decide_eq_true (by first | (with_reducible assumption) | assumption)
          have hx13 := bt_at a0 x7_2
          replace p13 := eq_true p13
          replace q13 := eq_true q13
          have p445 : 0 ≤ (x6_1 : Int) := of_decide_eq_true (by first | (with_reducible assumption) | assumption)
          have q445 : x6_1 < (t439.length : Int) := of_decide_eq_true (by first | (with_reducible assumption) | assumption)
          obtain ⟨ad445, A445_0, c445_0, A445_1, c445_1, e445, hx445_0, hx445_1, hl445_0, hi445_0, hl445_1, hi445_1⟩ := at_T75 (Kd.N_reads' HO_4.out).2.2 x6_1 p445 q445
          obtain rfl : ad442 = ad445 := (by injection e445)
          obtain ⟨ce445, hce445, hMe445, hcc445⟩ := Kd.N_get HO_4.out z75 x6_1 p445 (by first | exact q445 | exact of_decide_eq_true (by first | (with_reducible assumption) | assumption) | (have e_ := (Kd.N_reads' HO_4.out).1; omega))
          obtain ⟨ua445_0, uc445_0, ua445_1, uc445_1, rfl, ul445_0, ge445_0, ul445_1, ge445_1⟩ := k75_openF hMe445
          have hv445_0 := hcc445 0 _ rfl
          rw [Nat.add_zero] at hv445_0
          replace hv445_0 := Option.some.inj (hv445_0.symm.trans hx445_0)
          injection hv445_0 with hva_ hvn_ hvc_
          rw [hva_] at ge445_0
          rw [hvc_] at ul445_0
          have HL445_0 := Aside0.mk (show Kd.V (Kd.int .u8) 5 _ w.heap.size _ _ ((rd_T75 t439 x6_1).f0) from Kd.V_mk ul445_0 ge445_0)
          clear hva_ hvn_ hvc_ ge445_0 ul445_0
          have hv445_1 := hcc445 1 _ rfl
          rw [add_field _ _ 1 (by omega)] at hv445_1
          replace hv445_1 := Option.some.inj (hv445_1.symm.trans hx445_1)
          injection hv445_1 with hva_ hvn_ hvc_
          rw [hva_] at ge445_1
          rw [hvc_] at ul445_1
          have HL445_1 := Aside0.mk (show Kd.V (Kd.int .u8) 5 _ w.heap.size _ _ ((rd_T75 t439 x6_1).f1) from Kd.V_mk ul445_1 ge445_1)
          clear hva_ hvn_ hvc_ ge445_1 ul445_1
          clear hcc445 hce445
          have HR445_0 := Aside0.mk hi445_0
          have HC445_0 := Aside0.mk hl445_0
          clear hi445_0 hl445_0
          have HR445_1 := Aside0.mk hi445_1
          have HC445_1 := Aside0.mk hl445_1
          clear hi445_1 hl445_1
          replace p445 := eq_true p445
          replace q445 := eq_true q445
          have ea_ := Option.some.inj (hx442_0.symm.trans hx445_0)
          injection ea_ with ea_ en_ ec_
          subst ea_
          subst ec_
          clear en_
          have ea_ := Option.some.inj (hx442_1.symm.trans hx445_1)
          injection ea_ with ea_ en_ ec_
          subst ea_
          subst ec_
          clear en_
          have p446 : 0 ≤ (x7_2 : Int) := of_decide_eq_true (by first | (with_reducible assumption) | assumption)
          have q446 : x7_2 < (((rd_T75 t439 x6_1).f1).length : Int) := of_decide_eq_true (by first | (with_reducible assumption) | assumption)
          obtain ⟨ad446, e446, hx446_0⟩ := Kd.at_int (by repeat (first | (with_reducible exact HR445_1.out) | (with_reducible refine Kd.C_alloc ?_ _) | (with_reducible refine Kd.C_drewN ?_ _) | (with_reducible refine Kd.C_drew ?_) | exact HR445_1.out)) x7_2 p446 q446
          cases e446
          replace p446 := eq_true p446
          replace q446 := eq_true q446
          go_wp2
          repeat (go_quiet (fail); try go_wp2)
          go_roundg k2
          case measure => have := HK1.out; have := HK2.out; omega
          case rel => exact ⟨(wrap64 (x7_2 + 1)), (by first | rfl | (simp; done) | (simp [*]; done)), H', ⟨by have := HK1.out; have := HK2.out; omega⟩, ⟨by (with_reducible repeat (first | apply Kd.N_alloc | apply Kd.N_drewN | apply Kd.N_drew)); exact HO_4.out⟩, ⟨by repeat (first | (with_reducible first | exact HB.out | apply below_alloc | apply pw_below_drewN | apply below_drew1) | exact HB.out)⟩⟩
         ·rw [if_neg c15] at H
          have c15b0 : decide ((bt a0 x7_2) ≤ (rd ((rd_T75 t439 x6_1).f1) x7_2)) = false := decide_eq_false c15
          clear c15
          by_cases c16 : x7_2 = (((rd_T75 t439 x6_1).f0).length : Int)
          ·rw [if_pos c16] at H
           have c16b0 : (x7_2 == (((rd_T75 t439 x6_1).f0).length : Int)) = true := beq_iff_eq.mpr c16
           have c16b1 : (x7_2 != (((rd_T75 t439 x6_1).f0).length : Int)) = false := bne_eq_false_iff_eq.mpr c16
           clear c16
           simp only [Option.some.injEq, Prod.mk.injEq] at H
           obtain ⟨rfl, rfl⟩ := H
           have p442 : 0 ≤ (x6_1 : Int) := of_decide_eq_true (by first | (with_reducible assumption) | assumption)
           have q442 : x6_1 < (t439.length : Int) := of_decide_eq_true (by first | (with_reducible assumption) | assumption)
           obtain ⟨ad442, A442_0, c442_0, A442_1, c442_1, e442, hx442_0, hx442_1, hl442_0, hi442_0, hl442_1, hi442_1⟩ := at_T75 (Kd.N_reads' HO_4.out).2.2 x6_1 p442 q442
           cases e442
           obtain ⟨ce442, hce442, hMe442, hcc442⟩ := Kd.N_get HO_4.out z75 x6_1 p442 (by first | exact q442 | exact of_decide_eq_true (by first | (with_reducible assumption) | assumption) | (have e_ := (Kd.N_reads' HO_4.out).1; omega))
           obtain ⟨ua442_0, uc442_0, ua442_1, uc442_1, rfl, ul442_0, ge442_0, ul442_1, ge442_1⟩ := k75_openF hMe442
           have hv442_0 := hcc442 0 _ rfl
           rw [Nat.add_zero] at hv442_0
           replace hv442_0 := Option.some.inj (hv442_0.symm.trans hx442_0)
           injection hv442_0 with hva_ hvn_ hvc_
           rw [hva_] at ge442_0
           rw [hvc_] at ul442_0
           have HL442_0 := Aside0.mk (show Kd.V (Kd.int .u8) 5 _ w.heap.size _ _ ((rd_T75 t439 x6_1).f0) from Kd.V_mk ul442_0 ge442_0)
           clear hva_ hvn_ hvc_ ge442_0 ul442_0
           have hv442_1 := hcc442 1 _ rfl
           rw [add_field _ _ 1 (by omega)] at hv442_1
           replace hv442_1 := Option.some.inj (hv442_1.symm.trans hx442_1)
           injection hv442_1 with hva_ hvn_ hvc_
           rw [hva_] at ge442_1
           rw [hvc_] at ul442_1
           have HL442_1 := Aside0.mk (show Kd.V (Kd.int .u8) 5 _ w.heap.size _ _ ((rd_T75 t439 x6_1).f1) from Kd.V_mk ul442_1 ge442_1)
           clear hva_ hvn_ hvc_ ge442_1 ul442_1
           clear hcc442 hce442
           have HR442_0 := Aside0.mk hi442_0
           have HC442_0 := Aside0.mk hl442_0
           clear hi442_0 hl442_0
           have HR442_1 := Aside0.mk hi442_1
           have HC442_1 := Aside0.mk hl442_1
           clear hi442_1 hl442_1
           replace p442 := eq_true p442
           replace q442 := eq_true q442
           have p11 : 0 ≤ (x7_2 : Int) := of_decide_eq_true (by first | (with_reducible assumption) | assumption)
           have q11 : x7_2 < (a0.size : Int) := of_decide_eq_true (by first | (with_reducible assumption) | assumption)
           have hx11 := bt_at a0 x7_2
           replace p11 := eq_true p11
           replace q11 := eq_true q11
           have p443 : 0 ≤ (x6_1 : Int) := of_decide_eq_true (by first | (with_reducible assumption) | assumption)
           have q443 : x6_1 < (t439.length : Int) := of_decide_eq_true (by first | (with_reducible assumption) | assumption)
           obtain ⟨ad443, A443_0, c443_0, A443_1, c443_1, e443, hx443_0, hx443_1, hl443_0, hi443_0, hl443_1, hi443_1⟩ := at_T75 (Kd.N_reads' HO_4.out).2.2 x6_1 p443 q443
           obtain rfl : ad442 = ad443 := (by injection e443)
           obtain ⟨ce443, hce443, hMe443, hcc443⟩ := Kd.N_get HO_4.out z75 x6_1 p443 (by first | exact q443 | exact of_decide_eq_true (by first | (with_reducible assumption) | assumption) | (have e_ := (Kd.N_reads' HO_4.out).1; omega))
           obtain ⟨ua443_0, uc443_0, ua443_1, uc443_1, rfl, ul443_0, ge443_0, ul443_1, ge443_1⟩ := k75_openF hMe443
           have hv443_0 := hcc443 0 _ rfl
           rw [Nat.add_zero] at hv443_0
           replace hv443_0 := Option.some.inj (hv443_0.symm.trans hx443_0)
           injection hv443_0 with hva_ hvn_ hvc_
           rw [hva_] at ge443_0
           rw [hvc_] at ul443_0
           have HL443_0 := Aside0.mk (show Kd.V (Kd.int .u8) 5 _ w.heap.size _ _ ((rd_T75 t439 x6_1).f0) from Kd.V_mk ul443_0 ge443_0)
           clear hva_ hvn_ hvc_ ge443_0 ul443_0
           have hv443_1 := hcc443 1 _ rfl
           rw [add_field _ _ 1 (by omega)] at hv443_1
           replace hv443_1 := Option.some.inj (hv443_1.symm.trans hx443_1)
           injection hv443_1 with hva_ hvn_ hvc_
           rw [hva_] at ge443_1
           rw [hvc_] at ul443_1
           have HL443_1 := Aside0.mk (show Kd.V (Kd.int .u8) 5 _ w.heap.size _ _ ((rd_T75 t439 x6_1).f1) from Kd.V_mk ul443_1 ge443_1)
           clear hva_ hvn_ hvc_ ge443_1 ul443_1
           clear hcc443 hce443
           have HR443_0 := Aside0.mk hi443_0
           have HC443_0 := Aside0.mk hl443_0
           clear hi443_0 hl443_0
           have HR443_1 := Aside0.mk hi443_1
           have HC443_1 := Aside0.mk hl443_1
           clear hi443_1 hl443_1
           replace p443 := eq_true p443
           replace q443 := eq_true q443
           have ea_ := Option.some.inj (hx442_0.symm.trans hx443_0)
           injection ea_ with ea_ en_ ec_
           subst ea_
           subst ec_
           clear en_
           have ea_ := Option.some.inj (hx442_1.symm.trans hx443_1)
           injection ea_ with ea_ en_ ec_
           subst ea_
           subst ec_
           clear en_
           have p444 : 0 ≤ (x7_2 : Int) := of_decide_eq_true (by first | (with_reducible assumption) | assumption)
           have q444 : x7_2 < (((rd_T75 t439 x6_1).f0).length : Int) := of_decide_eq_true (by first | (with_reducible assumption) | assumption)
           obtain ⟨ad444, e444, hx444_0⟩ := Kd.at_int (by repeat (first | (with_reducible exact HR443_0.out) | (with_reducible refine Kd.C_alloc ?_ _) | (with_reducible refine Kd.C_drewN ?_ _) | (with_reducible refine Kd.C_drew ?_) | exact HR443_0.out)) x7_2 p444 q444
           cases e444
           replace p444 := eq_true p444
           replace q444 := eq_true q444
           have p13 : 0 ≤ (x7_2 : Int) := of_decide_eq_true (by first | (with_reducible assumption) | assumption)
           have q13 : x7_2 < (a0.size : Int) := of_decide_eq_true (by first | (with_reducible assumption) | assumption)
           have hx13 := bt_at a0 x7_2
           replace p13 := eq_true p13
           replace q13 := eq_true q13
           have p445 : 0 ≤ (x6_1 : Int) := of_decide_eq_true (by first | (with_reducible assumption) | assumption)
           have q445 : x6_1 < (t439.length : Int) := of_decide_eq_true (by first | (with_reducible assumption) | assumption)
           obtain ⟨ad445, A445_0, c445_0, A445_1, c445_1, e445, hx445_0, hx445_1, hl445_0, hi445_0, hl445_1, hi445_1⟩ := at_T75 (Kd.N_reads' HO_4.out).2.2 x6_1 p445 q445
           obtain rfl : ad442 = ad445 := (by injection e445)
           obtain ⟨ce445, hce445, hMe445, hcc445⟩ := Kd.N_get HO_4.out z75 x6_1 p445 (by first | exact q445 | exact of_decide_eq_true (by first | (with_reducible assumption) | assumption) | (have e_ := (Kd.N_reads' HO_4.out).1; omega))
           obtain ⟨ua445_0, uc445_0, ua445_1, uc445_1, rfl, ul445_0, ge445_0, ul445_1, ge445_1⟩ := k75_openF hMe445
           have hv445_0 := hcc445 0 _ rfl
           rw [Nat.add_zero] at hv445_0
           replace hv445_0 := Option.some.inj (hv445_0.symm.trans hx445_0)
           injection hv445_0 with hva_ hvn_ hvc_
           rw [hva_] at ge445_0
           rw [hvc_] at ul445_0
           have HL445_0 := Aside0.mk (show Kd.V (Kd.int .u8) 5 _ w.heap.size _ _ ((rd_T75 t439 x6_1).f0) from Kd.V_mk ul445_0 ge445_0)
           clear hva_ hvn_ hvc_ ge445_0 ul445_0
           have hv445_1 := hcc445 1 _ rfl
           rw [add_field _ _ 1 (by omega)] at hv445_1
           replace hv445_1 := Option.some.inj (hv445_1.symm.trans hx445_1)
           injection hv445_1 with hva_ hvn_ hvc_
           rw [hva_] at ge445_1
           rw [hvc_] at ul445_1
           have HL445_1 := Aside0.mk (show Kd.V (Kd.int .u8) 5 _ w.heap.size _ _ ((rd_T75 t439 x6_1).f1) from Kd.V_mk ul445_1 ge445_1)
           clear hva_ hvn_ hvc_ ge445_1 ul445_1
           clear hcc445 hce445
           have HR445_0 := Aside0.mk hi445_0
           have HC445_0 := Aside0.mk hl445_0
           clear hi445_0 hl445_0
           have HR445_1 := Aside0.mk hi445_1
           have HC445_1 := Aside0.mk hl445_1
           clear hi445_1 hl445_1
           replace p445 := eq_true p445
           replace q445 := eq_true q445
           have ea_ := Option.some.inj (hx442_0.symm.trans hx445_0)
           injection ea_ with ea_ en_ ec_
           subst ea_
           subst ec_
           clear en_
           have ea_ := Option.some.inj (hx442_1.symm.trans hx445_1)
           injection ea_ with ea_ en_ ec_
           subst ea_
           subst ec_
           clear en_
           have p446 : 0 ≤ (x7_2 : Int) := of_decide_eq_true (by first | (with_reducible assumption) | assumption)
           have q446 : x7_2 < (((rd_T75 t439 x6_1).f1).length : Int) := of_decide_eq_true (by first | (with_reducible assumption) | assumption)
           obtain ⟨ad446, e446, hx446_0⟩ := Kd.at_int (by repeat (first | (with_reducible exact HR445_1.out) | (with_reducible refine Kd.C_alloc ?_ _) | (with_reducible refine Kd.C_drewN ?_ _) | (with_reducible refine Kd.C_drew ?_) | exact HR445_1.out)) x7_2 p446 q446
           cases e446
           replace p446 := eq_true p446
           replace q446 := eq_true q446
           have p447 : 0 ≤ (x6_1 : Int) := of_decide_eq_true (by first | (with_reducible assumption) | assumption)
           have q447 : x6_1 < (t439.length : Int) := of_decide_eq_true (by first | (with_reducible assumption) | assumption)
           obtain ⟨ad447, A447_0, c447_0, A447_1, c447_1, e447, hx447_0, hx447_1, hl447_0, hi447_0, hl447_1, hi447_1⟩ := at_T75 (Kd.N_reads' HO_4.out).2.2 x6_1 p447 q447
           obtain rfl : ad442 = ad447 := (by injection e447)
           obtain ⟨ce447, hce447, hMe447, hcc447⟩ := Kd.N_get HO_4.out z75 x6_1 p447 (by first | exact q447 | exact of_decide_eq_true (by first | (with_reducible assumption) | assumption) | (have e_ := (Kd.N_reads' HO_4.out).1; omega))
           obtain ⟨ua447_0, uc447_0, ua447_1, uc447_1, rfl, ul447_0, ge447_0, ul447_1, ge447_1⟩ := k75_openF hMe447
           have hv447_0 := hcc447 0 _ rfl
           rw [Nat.add_zero] at hv447_0
           replace hv447_0 := Option.some.inj (hv447_0.symm.trans hx447_0)
           injection hv447_0 with hva_ hvn_ hvc_
           rw [hva_] at ge447_0
           rw [hvc_] at ul447_0
           have HL447_0 := Aside0.mk (show Kd.V (Kd.int .u8) 5 _ w.heap.size _ _ ((rd_T75 t439 x6_1).f0) from Kd.V_mk ul447_0 ge447_0)
           clear hva_ hvn_ hvc_ ge447_0 ul447_0
           have hv447_1 := hcc447 1 _ rfl
           rw [add_field _ _ 1 (by omega)] at hv447_1
           replace hv447_1 := Option.some.inj (hv447_1.symm.trans hx447_1)
           injection hv447_1 with hva_ hvn_ hvc_
           rw [hva_] at ge447_1
           rw [hvc_] at ul447_1
           have HL447_1 := Aside0.mk (show Kd.V (Kd.int .u8) 5 _ w.heap.size _ _ ((rd_T75 t439 x6_1).f1) from Kd.V_mk ul447_1 ge447_1)
           clear hva_ hvn_ hvc_ ge447_1 ul447_1
           clear hcc447 hce447
           have HR447_0 := Aside0.mk hi447_0
           have HC447_0 := Aside0.mk hl447_0
           clear hi447_0 hl447_0
           have HR447_1 := Aside0.mk hi447_1
           have HC447_1 := Aside0.mk hl447_1
           clear hi447_1 hl447_1
           replace p447 := eq_true p447
           replace q447 := eq_true q447
           have ea_ := Option.some.inj (hx442_0.symm.trans hx447_0)
           injection ea_ with ea_ en_ ec_
           subst ea_
           subst ec_
           clear en_
           have ea_ := Option.some.inj (hx442_1.symm.trans hx447_1)
           injection ea_ with ea_ en_ ec_
           subst ea_
           subst ec_
           clear en_
           go_wp2
           repeat (go_quiet (fail); try go_wp2)
           go_ret2
           exact ⟨by first | rfl | (simp [errW_none, errW_some] <;> rfl) | (simp [*, errW_none, errW_some] <;> rfl), by repeat (first | (with_reducible first | exact HB.out | apply below_alloc | apply pw_below_drewN | apply below_drew1) | exact HB.out)⟩
          ·rw [if_neg c16] at H
           have c16b0 : (x7_2 == (((rd_T75 t439 x6_1).f0).length : Int)) = false := beq_eq_false_iff_ne.mpr c16
           have c16b1 : (x7_2 != (((rd_T75 t439 x6_1).f0).length : Int)) = true := bne_iff_ne.mpr c16
           obtain ⟨ji17, hji17⟩ : ∃ j_ : Int, (mx x5_1 x7_2) = j_ := ⟨_, rfl⟩
           replace H : (rotulusref1_One.l0 k2 a0 t439 ji17 (wrap64 (x6_1 + 1))) = some (r1, r2) := by first | (rw [hji17] at H; exact H) | (simp only [hji17] at H ⊢; exact H)
           have hji17_ : (if x5_1 < x7_2 then x7_2 else x5_1) = ji17 := hji17
           have H' := Aside0.mk H
           clear H
           have p442 : 0 ≤ (x6_1 : Int) := of_decide_eq_true (by first | (with_reducible assumption) | assumption)
           have q442 : x6_1 < (t439.length : Int) := of_decide_eq_true (by first | (with_reducible assumption) | assumption)
           obtain ⟨ad442, A442_0, c442_0, A442_1, c442_1, e442, hx442_0, hx442_1, hl442_0, hi442_0, hl442_1, hi442_1⟩ := at_T75 (Kd.N_reads' HO_4.out).2.2 x6_1 p442 q442
           cases e442
           obtain ⟨ce442, hce442, hMe442, hcc442⟩ := Kd.N_get HO_4.out z75 x6_1 p442 (by first | exact q442 | exact of_decide_eq_true (by first | (with_reducible assumption) | assumption) | (have e_ := (Kd.N_reads' HO_4.out).1; omega))
           obtain ⟨ua442_0, uc442_0, ua442_1, uc442_1, rfl, ul442_0, ge442_0, ul442_1, ge442_1⟩ := k75_openF hMe442
           have hv442_0 := hcc442 0 _ rfl
           rw [Nat.add_zero] at hv442_0
           replace hv442_0 := Option.some.inj (hv442_0.symm.trans hx442_0)
           injection hv442_0 with hva_ hvn_ hvc_
           rw [hva_] at ge442_0
           rw [hvc_] at ul442_0
           have HL442_0 := Aside0.mk (show Kd.V (Kd.int .u8) 5 _ w.heap.size _ _ ((rd_T75 t439 x6_1).f0) from Kd.V_mk ul442_0 ge442_0)
           clear hva_ hvn_ hvc_ ge442_0 ul442_0
           have hv442_1 := hcc442 1 _ rfl
           rw [add_field _ _ 1 (by omega)] at hv442_1
           replace hv442_1 := Option.some.inj (hv442_1.symm.trans hx442_1)
           injection hv442_1 with hva_ hvn_ hvc_
           rw [hva_] at ge442_1
           rw [hvc_] at ul442_1
           have HL442_1 := Aside0.mk (show Kd.V (Kd.int .u8) 5 _ w.heap.size _ _ ((rd_T75 t439 x6_1).f1) from Kd.V_mk ul442_1 ge442_1)
           clear hva_ hvn_ hvc_ ge442_1 ul442_1
           clear hcc442 hce442
           have HR442_0 := Aside0.mk hi442_0
           have HC442_0 := Aside0.mk hl442_0
           clear hi442_0 hl442_0
           have HR442_1 := Aside0.mk hi442_1
           have HC442_1 := Aside0.mk hl442_1
           clear hi442_1 hl442_1
           replace p442 := eq_true p442
           replace q442 := eq_true q442
           have p11 : 0 ≤ (x7_2 : Int) := of_decide_eq_true (by first | (with_reducible assumption) | assumption)
           have q11 : x7_2 < (a0.size : Int) := of_decide_eq_true (by first | (with_reducible assumption) | assumption)
           have hx11 := bt_at a0 x7_2
           replace p11 := eq_true p11
           replace q11 := eq_true q11
           have p443 : 0 ≤ (x6_1 : Int) := of_decide_eq_true (by first | (with_reducible assumption) | assumption)
           have q443 : x6_1 < (t439.length : Int) := of_decide_eq_true (by first | (with_reducible assumption) | assumption)
           obtain ⟨ad443, A443_0, c443_0, A443_1, c443_1, e443, hx443_0, hx443_1, hl443_0, hi443_0, hl443_1, hi443_1⟩ := at_T75 (Kd.N_reads' HO_4.out).2.2 x6_1 p443 q443
           obtain rfl : ad442 = ad443 := (by injection e443)
           obtain ⟨ce443, hce443, hMe443, hcc443⟩ := Kd.N_get HO_4.out z75 x6_1 p443 (by first | exact q443 | exact of_decide_eq_true (by first | (with_reducible assumption) | assumption) | (have e_ := (Kd.N_reads' HO_4.out).1; omega))
           obtain ⟨ua443_0, uc443_0, ua443_1, uc443_1, rfl, ul443_0, ge443_0, ul443_1, ge443_1⟩ := k75_openF hMe443
           have hv443_0 := hcc443 0 _ rfl
           rw [Nat.add_zero] at hv443_0
           replace hv443_0 := Option.some.inj (hv443_0.symm.trans hx443_0)
           injection hv443_0 with hva_ hvn_ hvc_
           rw [hva_] at ge443_0
           rw [hvc_] at ul443_0
           have HL443_0 := Aside0.mk (show Kd.V (Kd.int .u8) 5 _ w.heap.size _ _ ((rd_T75 t439 x6_1).f0) from Kd.V_mk ul443_0 ge443_0)
           clear hva_ hvn_ hvc_ ge443_0 ul443_0
           have hv443_1 := hcc443 1 _ rfl
           rw [add_field _ _ 1 (by omega)] at hv443_1
           replace hv443_1 := Option.some.inj (hv443_1.symm.trans hx443_1)
           injection hv443_1 with hva_ hvn_ hvc_
           rw [hva_] at ge443_1
           rw [hvc_] at ul443_1
           have HL443_1 := Aside0.mk (show Kd.V (Kd.int .u8) 5 _ w.heap.size _ _ ((rd_T75 t439 x6_1).f1) from Kd.V_mk ul443_1 ge443_1)
           clear hva_ hvn_ hvc_ ge443_1 ul443_1
           clear hcc443 hce443
           have HR443_0 := Aside0.mk hi443_0
           have HC443_0 := Aside0.mk hl443_0
           clear hi443_0 hl443_0
           have HR443_1 := Aside0.mk hi443_1
           have HC443_1 := Aside0.mk hl443_1
           clear hi443_1 hl443_1
           replace p443 := eq_true p443
           replace q443 := eq_true q443
           have ea_ := Option.some.inj (hx442_0.symm.trans hx443_0)
           injection ea_ with ea_ en_ ec_
           subst ea_
           subst ec_
           clear en_
           have ea_ := Option.some.inj (hx442_1.symm.trans hx443_1)
           injection ea_ with ea_ en_ ec_
           subst ea_
           subst ec_
           clear en_
           have p444 : 0 ≤ (x7_2 : Int) := of_decide_eq_true (by first | (with_reducible assumption) | assumption)
           have q444 : x7_2 < (((rd_T75 t439 x6_1).f0).length : Int) := of_decide_eq_true (by first | (with_reducible assumption) | assumption)
           obtain ⟨ad444, e444, hx444_0⟩ := Kd.at_int (by repeat (first | (with_reducible exact HR443_0.out) | (with_reducible refine Kd.C_alloc ?_ _) | (with_reducible refine Kd.C_drewN ?_ _) | (with_reducible refine Kd.C_drew ?_) | exact HR443_0.out)) x7_2 p444 q444
           cases e444
           replace p444 := eq_true p444
           replace q444 := eq_true q444
           have p13 : 0 ≤ (x7_2 : Int) := of_decide_eq_true (by first | (with_reducible assumption) | assumption)
           have q13 : x7_2 < (a0.size : Int) := of_decide_eq_true (by first | (with_reducible assumption) | assumption)
           have hx13 := bt_at a0 x7_2
           replace p13 := eq_true p13
           replace q13 := eq_true q13
           have p445 : 0 ≤ (x6_1 : Int) := of_decide_eq_true (by first | (with_reducible assumption) | assumption)
           have q445 : x6_1 < (t439.length : Int) := of_decide_eq_true (by first | (with_reducible assumption) | assumption)
           obtain ⟨ad445, A445_0, c445_0, A445_1, c445_1, e445, hx445_0, hx445_1, hl445_0, hi445_0, hl445_1, hi445_1⟩ := at_T75 (Kd.N_reads' HO_4.out).2.2 x6_1 p445 q445
           obtain rfl : ad442 = ad445 := (by injection e445)
           obtain ⟨ce445, hce445, hMe445, hcc445⟩ := Kd.N_get HO_4.out z75 x6_1 p445 (by first | exact q445 | exact of_decide_eq_true (by first | (with_reducible assumption) | assumption) | (have e_ := (Kd.N_reads' HO_4.out).1; omega))
           obtain ⟨ua445_0, uc445_0, ua445_1, uc445_1, rfl, ul445_0, ge445_0, ul445_1, ge445_1⟩ := k75_openF hMe445
           have hv445_0 := hcc445 0 _ rfl
           rw [Nat.add_zero] at hv445_0
           replace hv445_0 := Option.some.inj (hv445_0.symm.trans hx445_0)
           injection hv445_0 with hva_ hvn_ hvc_
           rw [hva_] at ge445_0
           rw [hvc_] at ul445_0
           have HL445_0 := Aside0.mk (show Kd.V (Kd.int .u8) 5 _ w.heap.size _ _ ((rd_T75 t439 x6_1).f0) from Kd.V_mk ul445_0 ge445_0)
           clear hva_ hvn_ hvc_ ge445_0 ul445_0
           have hv445_1 := hcc445 1 _ rfl
           rw [add_field _ _ 1 (by omega)] at hv445_1
           replace hv445_1 := Option.some.inj (hv445_1.symm.trans hx445_1)
           injection hv445_1 with hva_ hvn_ hvc_
           rw [hva_] at ge445_1
           rw [hvc_] at ul445_1
           have HL445_1 := Aside0.mk (show Kd.V (Kd.int .u8) 5 _ w.heap.size _ _ ((rd_T75 t439 x6_1).f1) from Kd.V_mk ul445_1 ge445_1)
           clear hva_ hvn_ hvc_ ge445_1 ul445_1
           clear hcc445 hce445
           have HR445_0 := Aside0.mk hi445_0
           have HC445_0 := Aside0.mk hl445_0
           clear hi445_0 hl445_0
           have HR445_1 := Aside0.mk hi445_1
           have HC445_1 := Aside0.mk hl445_1
           clear hi445_1 hl445_1
           replace p445 := eq_true p445
           replace q445 := eq_true q445
           have ea_ := Option.some.inj (hx442_0.symm.trans hx445_0)
           injection ea_ with ea_ en_ ec_
           subst ea_
           subst ec_
           clear en_
           have ea_ := Option.some.inj (hx442_1.symm.trans hx445_1)
           injection ea_ with ea_ en_ ec_
           subst ea_
           subst ec_
           clear en_
           have p446 : 0 ≤ (x7_2 : Int) := of_decide_eq_true (by first | (with_reducible assumption) | assumption)
           have q446 : x7_2 < (((rd_T75 t439 x6_1).f1).length : Int) := of_decide_eq_true (by first | (with_reducible assumption) | assumption)
           obtain ⟨ad446, e446, hx446_0⟩ := Kd.at_int (by repeat (first | (with_reducible exact HR445_1.out) | (with_reducible refine Kd.C_alloc ?_ _) | (with_reducible refine Kd.C_drewN ?_ _) | (with_reducible refine Kd.C_drew ?_) | exact HR445_1.out)) x7_2 p446 q446
           cases e446
           replace p446 := eq_true p446
           replace q446 := eq_true q446
           have p447 : 0 ≤ (x6_1 : Int) := of_decide_eq_true (by first | (with_reducible assumption) | assumption)
           have q447 : x6_1 < (t439.length : Int) := of_decide_eq_true (by first | (with_reducible assumption) | assumption)
           obtain ⟨ad447, A447_0, c447_0, A447_1, c447_1, e447, hx447_0, hx447_1, hl447_0, hi447_0, hl447_1, hi447_1⟩ := at_T75 (Kd.N_reads' HO_4.out).2.2 x6_1 p447 q447
           obtain rfl : ad442 = ad447 := (by injection e447)
           obtain ⟨ce447, hce447, hMe447, hcc447⟩ := Kd.N_get HO_4.out z75 x6_1 p447 (by first | exact q447 | exact of_decide_eq_true (by first | (with_reducible assumption) | assumption) | (have e_ := (Kd.N_reads' HO_4.out).1; omega))
           obtain ⟨ua447_0, uc447_0, ua447_1, uc447_1, rfl, ul447_0, ge447_0, ul447_1, ge447_1⟩ := k75_openF hMe447
           have hv447_0 := hcc447 0 _ rfl
           rw [Nat.add_zero] at hv447_0
           replace hv447_0 := Option.some.inj (hv447_0.symm.trans hx447_0)
           injection hv447_0 with hva_ hvn_ hvc_
           rw [hva_] at ge447_0
           rw [hvc_] at ul447_0
           have HL447_0 := Aside0.mk (show Kd.V (Kd.int .u8) 5 _ w.heap.size _ _ ((rd_T75 t439 x6_1).f0) from Kd.V_mk ul447_0 ge447_0)
           clear hva_ hvn_ hvc_ ge447_0 ul447_0
           have hv447_1 := hcc447 1 _ rfl
           rw [add_field _ _ 1 (by omega)] at hv447_1
           replace hv447_1 := Option.some.inj (hv447_1.symm.trans hx447_1)
           injection hv447_1 with hva_ hvn_ hvc_
           rw [hva_] at ge447_1
           rw [hvc_] at ul447_1
           have HL447_1 := Aside0.mk (show Kd.V (Kd.int .u8) 5 _ w.heap.size _ _ ((rd_T75 t439 x6_1).f1) from Kd.V_mk ul447_1 ge447_1)
           clear hva_ hvn_ hvc_ ge447_1 ul447_1
           clear hcc447 hce447
           have HR447_0 := Aside0.mk hi447_0
           have HC447_0 := Aside0.mk hl447_0
           clear hi447_0 hl447_0
           have HR447_1 := Aside0.mk hi447_1
           have HC447_1 := Aside0.mk hl447_1
           clear hi447_1 hl447_1
           replace p447 := eq_true p447
           replace q447 := eq_true q447
           have ea_ := Option.some.inj (hx442_0.symm.trans hx447_0)
           injection ea_ with ea_ en_ ec_
           subst ea_
           subst ec_
           clear en_
           have ea_ := Option.some.inj (hx442_1.symm.trans hx447_1)
           injection ea_ with ea_ en_ ec_
           subst ea_
           subst ec_
           clear en_
           go_wp2
           repeat (go_quiet (fail); try go_wp2)
           go_roundg k2
           case measure => have := HK1.out; have := HK2.out; omega
           case rel => exact ⟨(ji17), (wrap64 (x6_1 + 1)), (by first | rfl | (simp; done) | (simp only [← hji17] <;> (first | rfl | simp)) | (simp [*]; done)), (by first | rfl | (simp; done) | (simp [*]; done)), H', ⟨by have := HK1.out; have := HK2.out; omega⟩, ⟨by (with_reducible repeat (first | apply Kd.N_alloc | apply Kd.N_drewN | apply Kd.N_drew)); exact HO_4.out⟩, ⟨by repeat (first | (with_reducible first | exact HB.out | apply below_alloc | apply pw_below_drewN | apply below_drew1) | exact HB.out)⟩⟩
        ·rw [if_neg c12] at H
         have c12b0 : decide ((rd ((rd_T75 t439 x6_1).f0) x7_2) ≤ (bt a0 x7_2)) = false := decide_eq_false c12
         clear c12
         by_cases c18 : x7_2 = (((rd_T75 t439 x6_1).f0).length : Int)
         ·rw [if_pos c18] at H
          have c18b0 : (x7_2 == (((rd_T75 t439 x6_1).f0).length : Int)) = true := beq_iff_eq.mpr c18
          have c18b1 : (x7_2 != (((rd_T75 t439 x6_1).f0).length : Int)) = false := bne_eq_false_iff_eq.mpr c18
          clear c18
          simp only [Option.some.injEq, Prod.mk.injEq] at H
          obtain ⟨rfl, rfl⟩ := H
          have p442 : 0 ≤ (x6_1 : Int) := of_decide_eq_true (by first | (with_reducible assumption) | assumption)
          have q442 : x6_1 < (t439.length : Int) := of_decide_eq_true (by first | (with_reducible assumption) | assumption)
          obtain ⟨ad442, A442_0, c442_0, A442_1, c442_1, e442, hx442_0, hx442_1, hl442_0, hi442_0, hl442_1, hi442_1⟩ := at_T75 (Kd.N_reads' HO_4.out).2.2 x6_1 p442 q442
          cases e442
          obtain ⟨ce442, hce442, hMe442, hcc442⟩ := Kd.N_get HO_4.out z75 x6_1 p442 (by first | exact q442 | exact of_decide_eq_true (by first | (with_reducible assumption) | assumption) | (have e_ := (Kd.N_reads' HO_4.out).1; omega))
          obtain ⟨ua442_0, uc442_0, ua442_1, uc442_1, rfl, ul442_0, ge442_0, ul442_1, ge442_1⟩ := k75_openF hMe442
          have hv442_0 := hcc442 0 _ rfl
          rw [Nat.add_zero] at hv442_0
          replace hv442_0 := Option.some.inj (hv442_0.symm.trans hx442_0)
          injection hv442_0 with hva_ hvn_ hvc_
          rw [hva_] at ge442_0
          rw [hvc_] at ul442_0
          have HL442_0 := Aside0.mk (show Kd.V (Kd.int .u8) 5 _ w.heap.size _ _ ((rd_T75 t439 x6_1).f0) from Kd.V_mk ul442_0 ge442_0)
          clear hva_ hvn_ hvc_ ge442_0 ul442_0
          have hv442_1 := hcc442 1 _ rfl
          rw [add_field _ _ 1 (by omega)] at hv442_1
          replace hv442_1 := Option.some.inj (hv442_1.symm.trans hx442_1)
          injection hv442_1 with hva_ hvn_ hvc_
          rw [hva_] at ge442_1
          rw [hvc_] at ul442_1
          have HL442_1 := Aside0.mk (show Kd.V (Kd.int .u8) 5 _ w.heap.size _ _ ((rd_T75 t439 x6_1).f1) from Kd.V_mk ul442_1 ge442_1)
          clear hva_ hvn_ hvc_ ge442_1 ul442_1
          clear hcc442 hce442
          have HR442_0 := Aside0.mk hi442_0
          have HC442_0 := Aside0.mk hl442_0
          clear hi442_0 hl442_0
          have HR442_1 := Aside0.mk hi442_1
          have HC442_1 := Aside0.mk hl442_1
          clear hi442_1 hl442_1
          replace p442 := eq_true p442
          replace q442 := eq_true q442
          have p11 : 0 ≤ (x7_2 : Int) := of_decide_eq_true (by first | (with_reducible assumption) | assumption)
          have q11 : x7_2 < (a0.size : Int) := of_decide_eq_true (by first | (with_reducible assumption) | assumption)
          have hx11 := bt_at a0 x7_2
          replace p11 := eq_true p11
          replace q11 := eq_true q11
          have p443 : 0 ≤ (x6_1 : Int) := of_decide_eq_true (by first | (with_reducible assumption) | assumption)
          have q443 : x6_1 < (t439.length : Int) := of_decide_eq_true (by first | (with_reducible assumption) | assumption)
          obtain ⟨ad443, A443_0, c443_0, A443_1, c443_1, e443, hx443_0, hx443_1, hl443_0, hi443_0, hl443_1, hi443_1⟩ := at_T75 (Kd.N_reads' HO_4.out).2.2 x6_1 p443 q443
          obtain rfl : ad442 = ad443 := (by injection e443)
          obtain ⟨ce443, hce443, hMe443, hcc443⟩ := Kd.N_get HO_4.out z75 x6_1 p443 (by first | exact q443 | exact of_decide_eq_true (by first | (with_reducible assumption) | assumption) | (have e_ := (Kd.N_reads' HO_4.out).1; omega))
          obtain ⟨ua443_0, uc443_0, ua443_1, uc443_1, rfl, ul443_0, ge443_0, ul443_1, ge443_1⟩ := k75_openF hMe443
          have hv443_0 := hcc443 0 _ rfl
          rw [Nat.add_zero] at hv443_0
          replace hv443_0 := Option.some.inj (hv443_0.symm.trans hx443_0)
          injection hv443_0 with hva_ hvn_ hvc_
          rw [hva_] at ge443_0
          rw [hvc_] at ul443_0
          have HL443_0 := Aside0.mk (show Kd.V (Kd.int .u8) 5 _ w.heap.size _ _ ((rd_T75 t439 x6_1).f0) from Kd.V_mk ul443_0 ge443_0)
          clear hva_ hvn_ hvc_ ge443_0 ul443_0
          have hv443_1 := hcc443 1 _ rfl
          rw [add_field _ _ 1 (by omega)] at hv443_1
          replace hv443_1 := Option.some.inj (hv443_1.symm.trans hx443_1)
          injection hv443_1 with hva_ hvn_ hvc_
          rw [hva_] at ge443_1
          rw [hvc_] at ul443_1
          have HL443_1 := Aside0.mk (show Kd.V (Kd.int .u8) 5 _ w.heap.size _ _ ((rd_T75 t439 x6_1).f1) from Kd.V_mk ul443_1 ge443_1)
          clear hva_ hvn_ hvc_ ge443_1 ul443_1
          clear hcc443 hce443
          have HR443_0 := Aside0.mk hi443_0
          have HC443_0 := Aside0.mk hl443_0
          clear hi443_0 hl443_0
          have HR443_1 := Aside0.mk hi443_1
          have HC443_1 := Aside0.mk hl443_1
          clear hi443_1 hl443_1
          replace p443 := eq_true p443
          replace q443 := eq_true q443
          have ea_ := Option.some.inj (hx442_0.symm.trans hx443_0)
          injection ea_ with ea_ en_ ec_
          subst ea_
          subst ec_
          clear en_
          have ea_ := Option.some.inj (hx442_1.symm.trans hx443_1)
          injection ea_ with ea_ en_ ec_
          subst ea_
          subst ec_
          clear en_
          have p444 : 0 ≤ (x7_2 : Int) := of_decide_eq_true (by first | (with_reducible assumption) | assumption)
          have q444 : x7_2 < (((rd_T75 t439 x6_1).f0).length : Int) := of_decide_eq_true (by first | (with_reducible assumption) | assumption)
          obtain ⟨ad444, e444, hx444_0⟩ := Kd.at_int (by repeat (first | (with_reducible exact HR443_0.out) | (with_reducible refine Kd.C_alloc ?_ _) | (with_reducible refine Kd.C_drewN ?_ _) | (with_reducible refine Kd.C_drew ?_) | exact HR443_0.out)) x7_2 p444 q444
          cases e444
          replace p444 := eq_true p444
          replace q444 := eq_true q444
          have p448 : 0 ≤ (x6_1 : Int) := of_decide_eq_true (by first | (with_reducible assumption) | assumption)
          have q448 : x6_1 < (t439.length : Int) := of_decide_eq_true (by first | (with_reducible assumption) | assumption)
          obtain ⟨ad448, A448_0, c448_0, A448_1, c448_1, e448, hx448_0, hx448_1, hl448_0, hi448_0, hl448_1, hi448_1⟩ := at_T75 (Kd.N_reads' HO_4.out).2.2 x6_1 p448 q448
          obtain rfl : ad442 = ad448 := (by injection e448)
          obtain ⟨ce448, hce448, hMe448, hcc448⟩ := Kd.N_get HO_4.out z75 x6_1 p448 (by first | exact q448 | exact of_decide_eq_true (by first | (with_reducible assumption) | assumption) | (have e_ := (Kd.N_reads' HO_4.out).1; omega))
          obtain ⟨ua448_0, uc448_0, ua448_1, uc448_1, rfl, ul448_0, ge448_0, ul448_1, ge448_1⟩ := k75_openF hMe448
          have hv448_0 := hcc448 0 _ rfl
          rw [Nat.add_zero] at hv448_0
          replace hv448_0 := Option.some.inj (hv448_0.symm.trans hx448_0)
          injection hv448_0 with hva_ hvn_ hvc_
          rw [hva_] at ge448_0
          rw [hvc_] at ul448_0
          have HL448_0 := Aside0.mk (show Kd.V (Kd.int .u8) 5 _ w.heap.size _ _ ((rd_T75 t439 x6_1).f0) from Kd.V_mk ul448_0 ge448_0)
          clear hva_ hvn_ hvc_ ge448_0 ul448_0
          have hv448_1 := hcc448 1 _ rfl
          rw [add_field _ _ 1 (by omega)] at hv448_1
          replace hv448_1 := Option.some.inj (hv448_1.symm.trans hx448_1)
          injection hv448_1 with hva_ hvn_ hvc_
          rw [hva_] at ge448_1
          rw [hvc_] at ul448_1
          have HL448_1 := Aside0.mk (show Kd.V (Kd.int .u8) 5 _ w.heap.size _ _ ((rd_T75 t439 x6_1).f1) from Kd.V_mk ul448_1 ge448_1)
          clear hva_ hvn_ hvc_ ge448_1 ul448_1
          clear hcc448 hce448
          have HR448_0 := Aside0.mk hi448_0
          have HC448_0 := Aside0.mk hl448_0
          clear hi448_0 hl448_0
          have HR448_1 := Aside0.mk hi448_1
          have HC448_1 := Aside0.mk hl448_1
          clear hi448_1 hl448_1
          replace p448 := eq_true p448
          replace q448 := eq_true q448
          have ea_ := Option.some.inj (hx442_0.symm.trans hx448_0)
          injection ea_ with ea_ en_ ec_
          subst ea_
          subst ec_
          clear en_
          have ea_ := Option.some.inj (hx442_1.symm.trans hx448_1)
          injection ea_ with ea_ en_ ec_
          subst ea_
          subst ec_
          clear en_
          go_wp2
          repeat (go_quiet (fail); try go_wp2)
          go_ret2
          exact ⟨by first | rfl | (simp [errW_none, errW_some] <;> rfl) | (simp [*, errW_none, errW_some] <;> rfl), by repeat (first | (with_reducible first | exact HB.out | apply below_alloc | apply pw_below_drewN | apply below_drew1) | exact HB.out)⟩
         ·rw [if_neg c18] at H
          have c18b0 : (x7_2 == (((rd_T75 t439 x6_1).f0).length : Int)) = false := beq_eq_false_iff_ne.mpr c18
          have c18b1 : (x7_2 != (((rd_T75 t439 x6_1).f0).length : Int)) = true := bne_iff_ne.mpr c18
          obtain ⟨ji19, hji19⟩ : ∃ j_ : Int, (mx x5_1 x7_2) = j_ := ⟨_, rfl⟩
          replace H : (rotulusref1_One.l0 k2 a0 t439 ji19 (wrap64 (x6_1 + 1))) = some (r1, r2) := by first | (rw [hji19] at H; exact H) | (simp only [hji19] at H ⊢; exact H)
          have hji19_ : (if x5_1 < x7_2 then x7_2 else x5_1) = ji19 := hji19
          have H' := Aside0.mk H
          clear H
          have p442 : 0 ≤ (x6_1 : Int) := of_decide_eq_true (by first | (with_reducible assumption) | assumption)
          have q442 : x6_1 < (t439.length : Int) := of_decide_eq_true (by first | (with_reducible assumption) | assumption)
          obtain ⟨ad442, A442_0, c442_0, A442_1, c442_1, e442, hx442_0, hx442_1, hl442_0, hi442_0, hl442_1, hi442_1⟩ := at_T75 (Kd.N_reads' HO_4.out).2.2 x6_1 p442 q442
          cases e442
          obtain ⟨ce442, hce442, hMe442, hcc442⟩ := Kd.N_get HO_4.out z75 x6_1 p442 (by first | exact q442 | exact of_decide_eq_true (by first | (with_reducible assumption) | assumption) | (have e_ := (Kd.N_reads' HO_4.out).1; omega))
          obtain ⟨ua442_0, uc442_0, ua442_1, uc442_1, rfl, ul442_0, ge442_0, ul442_1, ge442_1⟩ := k75_openF hMe442
          have hv442_0 := hcc442 0 _ rfl
          rw [Nat.add_zero] at hv442_0
          replace hv442_0 := Option.some.inj (hv442_0.symm.trans hx442_0)
          injection hv442_0 with hva_ hvn_ hvc_
          rw [hva_] at ge442_0
          rw [hvc_] at ul442_0
          have HL442_0 := Aside0.mk (show Kd.V (Kd.int .u8) 5 _ w.heap.size _ _ ((rd_T75 t439 x6_1).f0) from Kd.V_mk ul442_0 ge442_0)
          clear hva_ hvn_ hvc_ ge442_0 ul442_0
          have hv442_1 := hcc442 1 _ rfl
          rw [add_field _ _ 1 (by omega)] at hv442_1
          replace hv442_1 := Option.some.inj (hv442_1.symm.trans hx442_1)
          injection hv442_1 with hva_ hvn_ hvc_
          rw [hva_] at ge442_1
          rw [hvc_] at ul442_1
          have HL442_1 := Aside0.mk (show Kd.V (Kd.int .u8) 5 _ w.heap.size _ _ ((rd_T75 t439 x6_1).f1) from Kd.V_mk ul442_1 ge442_1)
          clear hva_ hvn_ hvc_ ge442_1 ul442_1
          clear hcc442 hce442
          have HR442_0 := Aside0.mk hi442_0
          have HC442_0 := Aside0.mk hl442_0
          clear hi442_0 hl442_0
          have HR442_1 := Aside0.mk hi442_1
          have HC442_1 := Aside0.mk hl442_1
          clear hi442_1 hl442_1
          replace p442 := eq_true p442
          replace q442 := eq_true q442
          have p11 : 0 ≤ (x7_2 : Int) := of_decide_eq_true (by first | (with_reducible assumption) | assumption)
          have q11 : x7_2 < (a0.size : Int) := of_decide_eq_true (by first | (with_reducible assumption) | assumption)
          have hx11 := bt_at a0 x7_2
          replace p11 := eq_true p11
          replace q11 := eq_true q11
          have p443 : 0 ≤ (x6_1 : Int) := of_decide_eq_true (by first | (with_reducible assumption) | assumption)
          have q443 : x6_1 < (t439.length : Int) := of_decide_eq_true (by first | (with_reducible assumption) | assumption)
          obtain ⟨ad443, A443_0, c443_0, A443_1, c443_1, e443, hx443_0, hx443_1, hl443_0, hi443_0, hl443_1, hi443_1⟩ := at_T75 (Kd.N_reads' HO_4.out).2.2 x6_1 p443 q443
          obtain rfl : ad442 = ad443 := (by injection e443)
          obtain ⟨ce443, hce443, hMe443, hcc443⟩ := Kd.N_get HO_4.out z75 x6_1 p443 (by first | exact q443 | exact of_decide_eq_true (by first | (with_reducible assumption) | assumption) | (have e_ := (Kd.N_reads' HO_4.out).1; omega))
          obtain ⟨ua443_0, uc443_0, ua443_1, uc443_1, rfl, ul443_0, ge443_0, ul443_1, ge443_1⟩ := k75_openF hMe443
          have hv443_0 := hcc443 0 _ rfl
          rw [Nat.add_zero] at hv443_0
          replace hv443_0 := Option.some.inj (hv443_0.symm.trans hx443_0)
          injection hv443_0 with hva_ hvn_ hvc_
          rw [hva_] at ge443_0
          rw [hvc_] at ul443_0
          have HL443_0 := Aside0.mk (show Kd.V (Kd.int .u8) 5 _ w.heap.size _ _ ((rd_T75 t439 x6_1).f0) from Kd.V_mk ul443_0 ge443_0)
          clear hva_ hvn_ hvc_ ge443_0 ul443_0
          have hv443_1 := hcc443 1 _ rfl
          rw [add_field _ _ 1 (by omega)] at hv443_1
          replace hv443_1 := Option.some.inj (hv443_1.symm.trans hx443_1)
          injection hv443_1 with hva_ hvn_ hvc_
          rw [hva_] at ge443_1
          rw [hvc_] at ul443_1
          have HL443_1 := Aside0.mk (show Kd.V (Kd.int .u8) 5 _ w.heap.size _ _ ((rd_T75 t439 x6_1).f1) from Kd.V_mk ul443_1 ge443_1)
          clear hva_ hvn_ hvc_ ge443_1 ul443_1
          clear hcc443 hce443
          have HR443_0 := Aside0.mk hi443_0
          have HC443_0 := Aside0.mk hl443_0
          clear hi443_0 hl443_0
          have HR443_1 := Aside0.mk hi443_1
          have HC443_1 := Aside0.mk hl443_1
          clear hi443_1 hl443_1
          replace p443 := eq_true p443
          replace q443 := eq_true q443
          have ea_ := Option.some.inj (hx442_0.symm.trans hx443_0)
          injection ea_ with ea_ en_ ec_
          subst ea_
          subst ec_
          clear en_
          have ea_ := Option.some.inj (hx442_1.symm.trans hx443_1)
          injection ea_ with ea_ en_ ec_
          subst ea_
          subst ec_
          clear en_
          have p444 : 0 ≤ (x7_2 : Int) := of_decide_eq_true (by first | (with_reducible assumption) | assumption)
          have q444 : x7_2 < (((rd_T75 t439 x6_1).f0).length : Int) := of_decide_eq_true (by first | (with_reducible assumption) | assumption)
          obtain ⟨ad444, e444, hx444_0⟩ := Kd.at_int (by repeat (first | (with_reducible exact HR443_0.out) | (with_reducible refine Kd.C_alloc ?_ _) | (with_reducible refine Kd.C_drewN ?_ _) | (with_reducible refine Kd.C_drew ?_) | exact HR443_0.out)) x7_2 p444 q444
          cases e444
          replace p444 := eq_true p444
          replace q444 := eq_true q444
          have p448 : 0 ≤ (x6_1 : Int) := of_decide_eq_true (by first | (with_reducible assumption) | assumption)
          have q448 : x6_1 < (t439.length : Int) := of_decide_eq_true (by first | (with_reducible assumption) | assumption)
          obtain ⟨ad448, A448_0, c448_0, A448_1, c448_1, e448, hx448_0, hx448_1, hl448_0, hi448_0, hl448_1, hi448_1⟩ := at_T75 (Kd.N_reads' HO_4.out).2.2 x6_1 p448 q448
          obtain rfl : ad442 = ad448 := (by injection e448)
          obtain ⟨ce448, hce448, hMe448, hcc448⟩ := Kd.N_get HO_4.out z75 x6_1 p448 (by first | exact q448 | exact of_decide_eq_true (by first | (with_reducible assumption) | assumption) | (have e_ := (Kd.N_reads' HO_4.out).1; omega))
          obtain ⟨ua448_0, uc448_0, ua448_1, uc448_1, rfl, ul448_0, ge448_0, ul448_1, ge448_1⟩ := k75_openF hMe448
          have hv448_0 := hcc448 0 _ rfl
          rw [Nat.add_zero] at hv448_0
          replace hv448_0 := Option.some.inj (hv448_0.symm.trans hx448_0)
          injection hv448_0 with hva_ hvn_ hvc_
          rw [hva_] at ge448_0
          rw [hvc_] at ul448_0
          have HL448_0 := Aside0.mk (show Kd.V (Kd.int .u8) 5 _ w.heap.size _ _ ((rd_T75 t439 x6_1).f0) from Kd.V_mk ul448_0 ge448_0)
          clear hva_ hvn_ hvc_ ge448_0 ul448_0
          have hv448_1 := hcc448 1 _ rfl
          rw [add_field _ _ 1 (by omega)] at hv448_1
          replace hv448_1 := Option.some.inj (hv448_1.symm.trans hx448_1)
          injection hv448_1 with hva_ hvn_ hvc_
          rw [hva_] at ge448_1
          rw [hvc_] at ul448_1
          have HL448_1 := Aside0.mk (show Kd.V (Kd.int .u8) 5 _ w.heap.size _ _ ((rd_T75 t439 x6_1).f1) from Kd.V_mk ul448_1 ge448_1)
          clear hva_ hvn_ hvc_ ge448_1 ul448_1
          clear hcc448 hce448
          have HR448_0 := Aside0.mk hi448_0
          have HC448_0 := Aside0.mk hl448_0
          clear hi448_0 hl448_0
          have HR448_1 := Aside0.mk hi448_1
          have HC448_1 := Aside0.mk hl448_1
          clear hi448_1 hl448_1
          replace p448 := eq_true p448
          replace q448 := eq_true q448
          have ea_ := Option.some.inj (hx442_0.symm.trans hx448_0)
          injection ea_ with ea_ en_ ec_
          subst ea_
          subst ec_
          clear en_
          have ea_ := Option.some.inj (hx442_1.symm.trans hx448_1)
          injection ea_ with ea_ en_ ec_
          subst ea_
          subst ec_
          clear en_
          go_wp2
          repeat (go_quiet (fail); try go_wp2)
          go_roundg k2
          case measure => have := HK1.out; have := HK2.out; omega
          case rel => exact ⟨(ji19), (wrap64 (x6_1 + 1)), (by first | rfl | (simp; done) | (simp only [← hji19] <;> (first | rfl | simp)) | (simp [*]; done)), (by first | rfl | (simp; done) | (simp [*]; done)), H', ⟨by have := HK1.out; have := HK2.out; omega⟩, ⟨by (with_reducible repeat (first | apply Kd.N_alloc | apply Kd.N_drewN | apply Kd.N_drew)); exact HO_4.out⟩, ⟨by repeat (first | (with_reducible first | exact HB.out | apply below_alloc | apply pw_below_drewN | apply below_drew1) | exact HB.out)⟩⟩
       ·rw [if_neg c9] at H
        have c9b0 : decide (x7_2 < (a0.size : Int)) = false := decide_eq_false c9
        clear c9
        by_cases c20 : x7_2 = (((rd_T75 t439 x6_1).f0).length : Int)
        ·rw [if_pos c20] at H
         have c20b0 : (x7_2 == (((rd_T75 t439 x6_1).f0).length : Int)) = true := beq_iff_eq.mpr c20
         have c20b1 : (x7_2 != (((rd_T75 t439 x6_1).f0).length : Int)) = false := bne_eq_false_iff_eq.mpr c20
         clear c20
         simp only [Option.some.injEq, Prod.mk.injEq] at H
         obtain ⟨rfl, rfl⟩ := H
         have p442 : 0 ≤ (x6_1 : Int) := of_decide_eq_true (by first | (with_reducible assumption) | assumption)
         have q442 : x6_1 < (t439.length : Int) := of_decide_eq_true (by first | (with_reducible assumption) | assumption)
         obtain ⟨ad442, A442_0, c442_0, A442_1, c442_1, e442, hx442_0, hx442_1, hl442_0, hi442_0, hl442_1, hi442_1⟩ := at_T75 (Kd.N_reads' HO_4.out).2.2 x6_1 p442 q442
         cases e442
         obtain ⟨ce442, hce442, hMe442, hcc442⟩ := Kd.N_get HO_4.out z75 x6_1 p442 (by first | exact q442 | exact of_decide_eq_true (by first | (with_reducible assumption) | assumption) | (have e_ := (Kd.N_reads' HO_4.out).1; omega))
         obtain ⟨ua442_0, uc442_0, ua442_1, uc442_1, rfl, ul442_0, ge442_0, ul442_1, ge442_1⟩ := k75_openF hMe442
         have hv442_0 := hcc442 0 _ rfl
         rw [Nat.add_zero] at hv442_0
         replace hv442_0 := Option.some.inj (hv442_0.symm.trans hx442_0)
         injection hv442_0 with hva_ hvn_ hvc_
         rw [hva_] at ge442_0
         rw [hvc_] at ul442_0
         have HL442_0 := Aside0.mk (show Kd.V (Kd.int .u8) 5 _ w.heap.size _ _ ((rd_T75 t439 x6_1).f0) from Kd.V_mk ul442_0 ge442_0)
         clear hva_ hvn_ hvc_ ge442_0 ul442_0
         have hv442_1 := hcc442 1 _ rfl
         rw [add_field _ _ 1 (by omega)] at hv442_1
         replace hv442_1 := Option.some.inj (hv442_1.symm.trans hx442_1)
         injection hv442_1 with hva_ hvn_ hvc_
         rw [hva_] at ge442_1
         rw [hvc_] at ul442_1
         have HL442_1 := Aside0.mk (show Kd.V (Kd.int .u8) 5 _ w.heap.size _ _ ((rd_T75 t439 x6_1).f1) from Kd.V_mk ul442_1 ge442_1)
         clear hva_ hvn_ hvc_ ge442_1 ul442_1
         clear hcc442 hce442
         have HR442_0 := Aside0.mk hi442_0
         have HC442_0 := Aside0.mk hl442_0
         clear hi442_0 hl442_0
         have HR442_1 := Aside0.mk hi442_1
         have HC442_1 := Aside0.mk hl442_1
         clear hi442_1 hl442_1
         replace p442 := eq_true p442
         replace q442 := eq_true q442
         have p449 : 0 ≤ (x6_1 : Int) := of_decide_eq_true (by first | (with_reducible assumption) | assumption)
         have q449 : x6_1 < (t439.length : Int) := of_decide_eq_true (by first | (with_reducible assumption) | assumption)
         obtain ⟨ad449, A449_0, c449_0, A449_1, c449_1, e449, hx449_0, hx449_1, hl449_0, hi449_0, hl449_1, hi449_1⟩ := at_T75 (Kd.N_reads' HO_4.out).2.2 x6_1 p449 q449
         obtain rfl : ad442 = ad449 := (by injection e449)
         obtain ⟨ce449, hce449, hMe449, hcc449⟩ := Kd.N_get HO_4.out z75 x6_1 p449 (by first | exact q449 | exact of_decide_eq_true (by first | (with_reducible assumption) | assumption) | (have e_ := (Kd.N_reads' HO_4.out).1; omega))
         obtain ⟨ua449_0, uc449_0, ua449_1, uc449_1, rfl, ul449_0, ge449_0, ul449_1, ge449_1⟩ := k75_openF hMe449
         have hv449_0 := hcc449 0 _ rfl
         rw [Nat.add_zero] at hv449_0
         replace hv449_0 := Option.some.inj (hv449_0.symm.trans hx449_0)
         injection hv449_0 with hva_ hvn_ hvc_
         rw [hva_] at ge449_0
         rw [hvc_] at ul449_0
         have HL449_0 := Aside0.mk (show Kd.V (Kd.int .u8) 5 _ w.heap.size _ _ ((rd_T75 t439 x6_1).f0) from Kd.V_mk ul449_0 ge449_0)
         clear hva_ hvn_ hvc_ ge449_0 ul449_0
         have hv449_1 := hcc449 1 _ rfl
         rw [add_field _ _ 1 (by omega)] at hv449_1
         replace hv449_1 := Option.some.inj (hv449_1.symm.trans hx449_1)
         injection hv449_1 with hva_ hvn_ hvc_
         rw [hva_] at ge449_1
         rw [hvc_] at ul449_1
         have HL449_1 := Aside0.mk (show Kd.V (Kd.int .u8) 5 _ w.heap.size _ _ ((rd_T75 t439 x6_1).f1) from Kd.V_mk ul449_1 ge449_1)
         clear hva_ hvn_ hvc_ ge449_1 ul449_1
         clear hcc449 hce449
         have HR449_0 := Aside0.mk hi449_0
         have HC449_0 := Aside0.mk hl449_0
         clear hi449_0 hl449_0
         have HR449_1 := Aside0.mk hi449_1
         have HC449_1 := Aside0.mk hl449_1
         clear hi449_1 hl449_1
         replace p449 := eq_true p449
         replace q449 := eq_true q449
         have ea_ := Option.some.inj (hx442_0.symm.trans hx449_0)
         injection ea_ with ea_ en_ ec_
         subst ea_
         subst ec_
         clear en_
         have ea_ := Option.some.inj (hx442_1.symm.trans hx449_1)
         injection ea_ with ea_ en_ ec_
         subst ea_
         subst ec_
         clear en_
         go_wp2
         repeat (go_quiet (fail); try go_wp2)
         go_ret2
         exact ⟨by first | rfl | (simp [errW_none, errW_some] <;> rfl) | (simp [*, errW_none, errW_some] <;> rfl), by repeat (first | (with_reducible first | exact HB.out | apply below_alloc | apply pw_below_drewN | apply below_drew1) | exact HB.out)⟩
        ·rw [if_neg c20] at H
         have c20b0 : (x7_2 == (((rd_T75 t439 x6_1).f0).length : Int)) = false := beq_eq_false_iff_ne.mpr c20
         have c20b1 : (x7_2 != (((rd_T75 t439 x6_1).f0).length : Int)) = true := bne_iff_ne.mpr c20
         obtain ⟨ji21, hji21⟩ : ∃ j_ : Int, (mx x5_1 x7_2) = j_ := ⟨_, rfl⟩
         replace H : (rotulusref1_One.l0 k2 a0 t439 ji21 (wrap64 (x6_1 + 1))) = some (r1, r2) := by first | (rw [hji21] at H; exact H) | (simp only [hji21] at H ⊢; exact H)
         have hji21_ : (if x5_1 < x7_2 then x7_2 else x5_1) = ji21 := hji21
         have H' := Aside0.mk H
         clear H
         have p442 : 0 ≤ (x6_1 : Int) := of_decide_eq_true (by first | (with_reducible assumption) | assumption)
         have q442 : x6_1 < (t439.length : Int) := of_decide_eq_true (by first | (with_reducible assumption) | assumption)
         obtain ⟨ad442, A442_0, c442_0, A442_1, c442_1, e442, hx442_0, hx442_1, hl442_0, hi442_0, hl442_1, hi442_1⟩ := at_T75 (Kd.N_reads' HO_4.out).2.2 x6_1 p442 q442
         cases e442
         obtain ⟨ce442, hce442, hMe442, hcc442⟩ := Kd.N_get HO_4.out z75 x6_1 p442 (by first | exact q442 | exact of_decide_eq_true (by first | (with_reducible assumption) | assumption) | (have e_ := (Kd.N_reads' HO_4.out).1; omega))
         obtain ⟨ua442_0, uc442_0, ua442_1, uc442_1, rfl, ul442_0, ge442_0, ul442_1, ge442_1⟩ := k75_openF hMe442
         have hv442_0 := hcc442 0 _ rfl
         rw [Nat.add_zero] at hv442_0
         replace hv442_0 := Option.some.inj (hv442_0.symm.trans hx442_0)
         injection hv442_0 with hva_ hvn_ hvc_
         rw [hva_] at ge442_0
         rw [hvc_] at ul442_0
         have HL442_0 := Aside0.mk (show Kd.V (Kd.int .u8) 5 _ w.heap.size _ _ ((rd_T75 t439 x6_1).f0) from Kd.V_mk ul442_0 ge442_0)
         clear hva_ hvn_ hvc_ ge442_0 ul442_0
         have hv442_1 := hcc442 1 _ rfl
         rw [add_field _ _ 1 (by omega)] at hv442_1
         replace hv442_1 := Option.some.inj (hv442_1.symm.trans hx442_1)
         injection hv442_1 with hva_ hvn_ hvc_
         rw [hva_] at ge442_1
         rw [hvc_] at ul442_1
         have HL442_1 := Aside0.mk (show Kd.V (Kd.int .u8) 5 _ w.heap.size _ _ ((rd_T75 t439 x6_1).f1) from Kd.V_mk ul442_1 ge442_1)
         clear hva_ hvn_ hvc_ ge442_1 ul442_1
         clear hcc442 hce442
         have HR442_0 := Aside0.mk hi442_0
         have HC442_0 := Aside0.mk hl442_0
         clear hi442_0 hl442_0
         have HR442_1 := Aside0.mk hi442_1
         have HC442_1 := Aside0.mk hl442_1
         clear hi442_1 hl442_1
         replace p442 := eq_true p442
         replace q442 := eq_true q442
         have p449 : 0 ≤ (x6_1 : Int) := of_decide_eq_true (by first | (with_reducible assumption) | assumption)
         have q449 : x6_1 < (t439.length : Int) := of_decide_eq_true (by first | (with_reducible assumption) | assumption)
         obtain ⟨ad449, A449_0, c449_0, A449_1, c449_1, e449, hx449_0, hx449_1, hl449_0, hi449_0, hl449_1, hi449_1⟩ := at_T75 (Kd.N_reads' HO_4.out).2.2 x6_1 p449 q449
         obtain rfl : ad442 = ad449 := (by injection e449)
         obtain ⟨ce449, hce449, hMe449, hcc449⟩ := Kd.N_get HO_4.out z75 x6_1 p449 (by first | exact q449 | exact of_decide_eq_true (by first | (with_reducible assumption) | assumption) | (have e_ := (Kd.N_reads' HO_4.out).1; omega))
         obtain ⟨ua449_0, uc449_0, ua449_1, uc449_1, rfl, ul449_0, ge449_0, ul449_1, ge449_1⟩ := k75_openF hMe449
         have hv449_0 := hcc449 0 _ rfl
         rw [Nat.add_zero] at hv449_0
         replace hv449_0 := Option.some.inj (hv449_0.symm.trans hx449_0)
         injection hv449_0 with hva_ hvn_ hvc_
         rw [hva_] at ge449_0
         rw [hvc_] at ul449_0
         have HL449_0 := Aside0.mk (show Kd.V (Kd.int .u8) 5 _ w.heap.size _ _ ((rd_T75 t439 x6_1).f0) from Kd.V_mk ul449_0 ge449_0)
         clear hva_ hvn_ hvc_ ge449_0 ul449_0
         have hv449_1 := hcc449 1 _ rfl
         rw [add_field _ _ 1 (by omega)] at hv449_1
         replace hv449_1 := Option.some.inj (hv449_1.symm.trans hx449_1)
         injection hv449_1 with hva_ hvn_ hvc_
         rw [hva_] at ge449_1
         rw [hvc_] at ul449_1
         have HL449_1 := Aside0.mk (show Kd.V (Kd.int .u8) 5 _ w.heap.size _ _ ((rd_T75 t439 x6_1).f1) from Kd.V_mk ul449_1 ge449_1)
         clear hva_ hvn_ hvc_ ge449_1 ul449_1
         clear hcc449 hce449
         have HR449_0 := Aside0.mk hi449_0
         have HC449_0 := Aside0.mk hl449_0
         clear hi449_0 hl449_0
         have HR449_1 := Aside0.mk hi449_1
         have HC449_1 := Aside0.mk hl449_1
         clear hi449_1 hl449_1
         replace p449 := eq_true p449
         replace q449 := eq_true q449
         have ea_ := Option.some.inj (hx442_0.symm.trans hx449_0)
         injection ea_ with ea_ en_ ec_
         subst ea_
         subst ec_
         clear en_
         have ea_ := Option.some.inj (hx442_1.symm.trans hx449_1)
         injection ea_ with ea_ en_ ec_
         subst ea_
         subst ec_
         clear en_
         go_wp2
         repeat (go_quiet (fail); try go_wp2)
         go_roundg k2
         case measure => have := HK1.out; have := HK2.out; omega
         case rel => exact ⟨(ji21), (wrap64 (x6_1 + 1)), (by first | rfl | (simp; done) | (simp only [← hji21] <;> (first | rfl | simp)) | (simp [*]; done)), (by first | rfl | (simp; done) | (simp [*]; done)), H', ⟨by have := HK1.out; have := HK2.out; omega⟩, ⟨by (with_reducible repeat (first | apply Kd.N_alloc | apply Kd.N_drewN | apply Kd.N_drew)); exact HO_4.out⟩, ⟨by repeat (first | (with_reducible first | exact HB.out | apply below_alloc | apply pw_below_drewN | apply below_drew1) | exact HB.out)⟩⟩
      ·rw [if_neg c8] at H
       have c8b0 : decide (x7_2 < (((rd_T75 t439 x6_1).f0).length : Int)) = false := decide_eq_false c8
       clear c8
       by_cases c22 : x7_2 = (((rd_T75 t439 x6_1).f0).length : Int)
       ·rw [if_pos c22] at H
        have c22b0 : (x7_2 == (((rd_T75 t439 x6_1).f0).length : Int)) = true := beq_iff_eq.mpr c22
        have c22b1 : (x7_2 != (((rd_T75 t439 x6_1).f0).length : Int)) = false := bne_eq_false_iff_eq.mpr c22
        clear c22
        simp only [Option.some.injEq, Prod.mk.injEq] at H
        obtain ⟨rfl, rfl⟩ := H
        have p442 : 0 ≤ (x6_1 : Int) := of_decide_eq_true (by first | (with_reducible assumption) | assumption)
        have q442 : x6_1 < (t439.length : Int) := of_decide_eq_true (by first | (with_reducible assumption) | assumption)
        obtain ⟨ad442, A442_0, c442_0, A442_1, c442_1, e442, hx442_0, hx442_1, hl442_0, hi442_0, hl442_1, hi442_1⟩ := at_T75 (Kd.N_reads' HO_4.out).2.2 x6_1 p442 q442
        cases e442
        obtain ⟨ce442, hce442, hMe442, hcc442⟩ := Kd.N_get HO_4.out z75 x6_1 p442 (by first | exact q442 | exact of_decide_eq_true (by first | (with_reducible assumption) | assumption) | (have e_ := (Kd.N_reads' HO_4.out).1; omega))
        obtain ⟨ua442_0, uc442_0, ua442_1, uc442_1, rfl, ul442_0, ge442_0, ul442_1, ge442_1⟩ := k75_openF hMe442
        have hv442_0 := hcc442 0 _ rfl
        rw [Nat.add_zero] at hv442_0
        replace hv442_0 := Option.some.inj (hv442_0.symm.trans hx442_0)
        injection hv442_0 with hva_ hvn_ hvc_
        rw [hva_] at ge442_0
        rw [hvc_] at ul442_0
        have HL442_0 := Aside0.mk (show Kd.V (Kd.int .u8) 5 _ w.heap.size _ _ ((rd_T75 t439 x6_1).f0) from Kd.V_mk ul442_0 ge442_0)
        clear hva_ hvn_ hvc_ ge442_0 ul442_0
        have hv442_1 := hcc442 1 _ rfl
        rw [add_field _ _ 1 (by omega)] at hv442_1
        replace hv442_1 := Option.some.inj (hv442_1.symm.trans hx442_1)
        injection hv442_1 with hva_ hvn_ hvc_
        rw [hva_] at ge442_1
        rw [hvc_] at ul442_1
        have HL442_1 := Aside0.mk (show Kd.V (Kd.int .u8) 5 _ w.heap.size _ _ ((rd_T75 t439 x6_1).f1) from Kd.V_mk ul442_1 ge442_1)
        clear hva_ hvn_ hvc_ ge442_1 ul442_1
        clear hcc442 hce442
        have HR442_0 := Aside0.mk hi442_0
        have HC442_0 := Aside0.mk hl442_0
        clear hi442_0 hl442_0
        have HR442_1 := Aside0.mk hi442_1
        have HC442_1 := Aside0.mk hl442_1
        clear hi442_1 hl442_1
        replace p442 := eq_true p442
        replace q442 := eq_true q442
        have p450 : 0 ≤ (x6_1 : Int) := of_decide_eq_true (by first | (with_reducible assumption) | assumption)
        have q450 : x6_1 < (t439.length : Int) := of_decide_eq_true (by first | (with_reducible assumption) | assumption)
        obtain ⟨ad450, A450_0, c450_0, A450_1, c450_1, e450, hx450_0, hx450_1, hl450_0, hi450_0, hl450_1, hi450_1⟩ := at_T75 (Kd.N_reads' HO_4.out).2.2 x6_1 p450 q450
        obtain rfl : ad442 = ad450 := (by injection e450)
        obtain ⟨ce450, hce450, hMe450, hcc450⟩ := Kd.N_get HO_4.out z75 x6_1 p450 (by first | exact q450 | exact of_decide_eq_true (by first | (with_reducible assumption) | assumption) | (have e_ := (Kd.N_reads' HO_4.out).1; omega))
        obtain ⟨ua450_0, uc450_0, ua450_1, uc450_1, rfl, ul450_0, ge450_0, ul450_1, ge450_1⟩ := k75_openF hMe450
        have hv450_0 := hcc450 0 _ rfl
        rw [Nat.add_zero] at hv450_0
        replace hv450_0 := Option.some.inj (hv450_0.symm.trans hx450_0)
        injection hv450_0 with hva_ hvn_ hvc_
        rw [hva_] at ge450_0
        rw [hvc_] at ul450_0
        have HL450_0 := Aside0.mk (show Kd.V (Kd.int .u8) 5 _ w.heap.size _ _ ((rd_T75 t439 x6_1).f0) from Kd.V_mk ul450_0 ge450_0)
        clear hva_ hvn_ hvc_ ge450_0 ul450_0
        have hv450_1 := hcc450 1 _ rfl
        rw [add_field _ _ 1 (by omega)] at hv450_1
        replace hv450_1 := Option.some.inj (hv450_1.symm.trans hx450_1)
        injection hv450_1 with hva_ hvn_ hvc_
        rw [hva_] at ge450_1
        rw [hvc_] at ul450_1
        have HL450_1 := Aside0.mk (show Kd.V (Kd.int .u8) 5 _ w.heap.size _ _ ((rd_T75 t439 x6_1).f1) from Kd.V_mk ul450_1 ge450_1)
        clear hva_ hvn_ hvc_ ge450_1 ul450_1
        clear hcc450 hce450
        have HR450_0 := Aside0.mk hi450_0
        have HC450_0 := Aside0.mk hl450_0
        clear hi450_0 hl450_0
        have HR450_1 := Aside0.mk hi450_1
        have HC450_1 := Aside0.mk hl450_1
        clear hi450_1 hl450_1
        replace p450 := eq_true p450
        replace q450 := eq_true q450
        have ea_ := Option.some.inj (hx442_0.symm.trans hx450_0)
        injection ea_ with ea_ en_ ec_
        subst ea_
        subst ec_
        clear en_
        have ea_ := Option.some.inj (hx442_1.symm.trans hx450_1)
        injection ea_ with ea_ en_ ec_
        subst ea_
        subst ec_
        clear en_
        go_wp2
        repeat (go_quiet (fail); try go_wp2)
        go_ret2
        exact ⟨by first | rfl | (simp [errW_none, errW_some] <;> rfl) | (simp [*, errW_none, errW_some] <;> rfl), by repeat (first | (with_reducible first | exact HB.out | apply below_alloc | apply pw_below_drewN | apply below_drew1) | exact HB.out)⟩
       ·rw [if_neg c22] at H
        have c22b0 : (x7_2 == (((rd_T75 t439 x6_1).f0).length : Int)) = false := beq_eq_false_iff_ne.mpr c22
        have c22b1 : (x7_2 != (((rd_T75 t439 x6_1).f0).length : Int)) = true := bne_iff_ne.mpr c22
        obtain ⟨ji23, hji23⟩ : ∃ j_ : Int, (mx x5_1 x7_2) = j_ := ⟨_, rfl⟩
        replace H : (rotulusref1_One.l0 k2 a0 t439 ji23 (wrap64 (x6_1 + 1))) = some (r1, r2) := by first | (rw [hji23] at H; exact H) | (simp only [hji23] at H ⊢; exact H)
        have hji23_ : (if x5_1 < x7_2 then x7_2 else x5_1) = ji23 := hji23
        have H' := Aside0.mk H
        clear H
        have p442 : 0 ≤ (x6_1 : Int) := of_decide_eq_true (by first | (with_reducible assumption) | assumption)
        have q442 : x6_1 < (t439.length : Int) := of_decide_eq_true (by first | (with_reducible assumption) | assumption)
        obtain ⟨ad442, A442_0, c442_0, A442_1, c442_1, e442, hx442_0, hx442_1, hl442_0, hi442_0, hl442_1, hi442_1⟩ := at_T75 (Kd.N_reads' HO_4.out).2.2 x6_1 p442 q442
        cases e442
        obtain ⟨ce442, hce442, hMe442, hcc442⟩ := Kd.N_get HO_4.out z75 x6_1 p442 (by first | exact q442 | exact of_decide_eq_true (by first | (with_reducible assumption) | assumption) | (have e_ := (Kd.N_reads' HO_4.out).1; omega))
        obtain ⟨ua442_0, uc442_0, ua442_1, uc442_1, rfl, ul442_0, ge442_0, ul442_1, ge442_1⟩ := k75_openF hMe442
        have hv442_0 := hcc442 0 _ rfl
        rw [Nat.add_zero] at hv442_0
        replace hv442_0 := Option.some.inj (hv442_0.symm.trans hx442_0)
        injection hv442_0 with hva_ hvn_ hvc_
        rw [hva_] at ge442_0
        rw [hvc_] at ul442_0
        have HL442_0 := Aside0.mk (show Kd.V (Kd.int .u8) 5 _ w.heap.size _ _ ((rd_T75 t439 x6_1).f0) from Kd.V_mk ul442_0 ge442_0)
        clear hva_ hvn_ hvc_ ge442_0 ul442_0
        have hv442_1 := hcc442 1 _ rfl
        rw [add_field _ _ 1 (by omega)] at hv442_1
        replace hv442_1 := Option.some.inj (hv442_1.symm.trans hx442_1)
        injection hv442_1 with hva_ hvn_ hvc_
        rw [hva_] at ge442_1
        rw [hvc_] at ul442_1
        have HL442_1 := Aside0.mk (show Kd.V (Kd.int .u8) 5 _ w.heap.size _ _ ((rd_T75 t439 x6_1).f1) from Kd.V_mk ul442_1 ge442_1)
        clear hva_ hvn_ hvc_ ge442_1 ul442_1
        clear hcc442 hce442
        have HR442_0 := Aside0.mk hi442_0
        have HC442_0 := Aside0.mk hl442_0
        clear hi442_0 hl442_0
        have HR442_1 := Aside0.mk hi442_1
        have HC442_1 := Aside0.mk hl442_1
        clear hi442_1 hl442_1
        replace p442 := eq_true p442
        replace q442 := eq_true q442
        have p450 : 0 ≤ (x6_1 : Int) := of_decide_eq_true (by first | (with_reducible assumption) | assumption)
        have q450 : x6_1 < (t439.length : Int) := of_decide_eq_true (by first | (with_reducible assumption) | assumption)
        obtain ⟨ad450, A450_0, c450_0, A450_1, c450_1, e450, hx450_0, hx450_1, hl450_0, hi450_0, hl450_1, hi450_1⟩ := at_T75 (Kd.N_reads' HO_4.out).2.2 x6_1 p450 q450
        obtain rfl : ad442 = ad450 := (by injection e450)
        obtain ⟨ce450, hce450, hMe450, hcc450⟩ := Kd.N_get HO_4.out z75 x6_1 p450 (by first | exact q450 | exact of_decide_eq_true (by first | (with_reducible assumption) | assumption) | (have e_ := (Kd.N_reads' HO_4.out).1; omega))
        obtain ⟨ua450_0, uc450_0, ua450_1, uc450_1, rfl, ul450_0, ge450_0, ul450_1, ge450_1⟩ := k75_openF hMe450
        have hv450_0 := hcc450 0 _ rfl
        rw [Nat.add_zero] at hv450_0
        replace hv450_0 := Option.some.inj (hv450_0.symm.trans hx450_0)
        injection hv450_0 with hva_ hvn_ hvc_
        rw [hva_] at ge450_0
        rw [hvc_] at ul450_0
        have HL450_0 := Aside0.mk (show Kd.V (Kd.int .u8) 5 _ w.heap.size _ _ ((rd_T75 t439 x6_1).f0) from Kd.V_mk ul450_0 ge450_0)
        clear hva_ hvn_ hvc_ ge450_0 ul450_0
        have hv450_1 := hcc450 1 _ rfl
        rw [add_field _ _ 1 (by omega)] at hv450_1
        replace hv450_1 := Option.some.inj (hv450_1.symm.trans hx450_1)
        injection hv450_1 with hva_ hvn_ hvc_
        rw [hva_] at ge450_1
        rw [hvc_] at ul450_1
        have HL450_1 := Aside0.mk (show Kd.V (Kd.int .u8) 5 _ w.heap.size _ _ ((rd_T75 t439 x6_1).f1) from Kd.V_mk ul450_1 ge450_1)
        clear hva_ hvn_ hvc_ ge450_1 ul450_1
        clear hcc450 hce450
        have HR450_0 := Aside0.mk hi450_0
        have HC450_0 := Aside0.mk hl450_0
        clear hi450_0 hl450_0
        have HR450_1 := Aside0.mk hi450_1
        have HC450_1 := Aside0.mk hl450_1
        clear hi450_1 hl450_1
        replace p450 := eq_true p450
        replace q450 := eq_true q450
        have ea_ := Option.some.inj (hx442_0.symm.trans hx450_0)
        injection ea_ with ea_ en_ ec_
        subst ea_
        subst ec_
        clear en_
        have ea_ := Option.some.inj (hx442_1.symm.trans hx450_1)
        injection ea_ with ea_ en_ ec_
        subst ea_
        subst ec_
        clear en_
        go_wp2
        repeat (go_quiet (fail); try go_wp2)
        go_roundg k2
        case measure => have := HK1.out; have := HK2.out; omega
        case rel => exact ⟨(ji23), (wrap64 (x6_1 + 1)), (by first | rfl | (simp; done) | (simp only [← hji23] <;> (first | rfl | simp)) | (simp [*]; done)), (by first | rfl | (simp; done) | (simp [*]; done)), H', ⟨by have := HK1.out; have := HK2.out; omega⟩, ⟨by (with_reducible repeat (first | apply Kd.N_alloc | apply Kd.N_drewN | apply Kd.N_drew)); exact HO_4.out⟩, ⟨by repeat (first | (with_reducible first | exact HB.out | apply below_alloc | apply pw_below_drewN | apply below_drew1) | exact HB.out)⟩⟩
   ·rw [if_neg c4] at H
    have c4b0 : decide (x6_1 < (t439.length : Int)) = false := decide_eq_false c4
    clear c4
    simp only [Option.some.injEq, Prod.mk.injEq] at H
    obtain ⟨rfl, rfl⟩ := H
    obtain ⟨Ao24, co24, eo24⟩ := Kd.N_slice HO_4.out
    subst eo24
    go_wp2
    repeat (go_quiet (fail); try go_wp2)
    go_ret2
    exact ⟨by first | rfl | (simp [errW_none, errW_some] <;> rfl) | (simp [*, errW_none, errW_some] <;> rfl), by repeat (first | (with_reducible first | exact HB.out | apply below_alloc | apply pw_below_drewN | apply below_drew1) | exact HB.out)⟩

end Go.Proofs.Ytohafoihegjlnaa.C
